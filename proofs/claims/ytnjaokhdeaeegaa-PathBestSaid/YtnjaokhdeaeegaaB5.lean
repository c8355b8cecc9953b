/- Part 5 of the proof of PathBest. -/
import Derived.Test.YtnjaokhdeaeegaaB4
import Derived.Test.YtnjaokhdeaeegaaRows
set_option linter.all false
set_option maxRecDepth 100000
set_option maxHeartbeats 4000000
namespace Go.Proofs.Ytnjaokhdeaeegaa
open Go Go.Abs Go.RowKit
def polMut:Nat→List Nat:=fun f=>match f with|3=>[5,8]|4=>[3]|5=>[4]|11=>[1]|64=>[5]|85=>[2]|_=>[]
def polGrow:Nat→List Nat:=fun f=>match f with|6=>[14]|15=>[7]|26=>[5,24]|27=>[9,10,20]|28=>[12]|36=>[5]|37=>[9,11]|85=>[2]|_=>[]
def polInl (g:Nat):Bool:=g == 64 || g == 73 || g == 75 || g == 86 || g == 94 || g == 95 || g == 96 || g == 98 || g == 99 || g == 100 || g == 101 || g == 110 || g == 112 || g == 113 || g == 114 || g == 115
def polSite (f t:Nat):Bool:=(f == 40 && t == 7) || (f == 72 && t == 4)
def polFresh (g f t:Nat):Bool:=false && (g == f && f == t)
def polFrz:List (Nat × Nat):=[(37,68),(75,16),(75,18),(18,42),(35,97),(6,112)]
def polLive:Nat→Nat→Option (List Nat):=fun f b=>match f,b with
 | 6,0=>some [4,11,12,13,14,52,53,54]
 | 6,2=>some [11,12,13,14,73,74,75]
 | 6,4=>some [11,13,14,19,20,23,24,25,27,29,143,144,145]
 | 6,6=>some [14,34,232,233,234]
 | 12,0=>some [1,2,4,8,12,14,32,33,34]
 | 12,2=>some [1,2,4,12,14,17,51,52,53]
 | 14,0=>some [1,7,8,9]
 | 15,0=>some [2,3,7,8,9]
 | 16,0=>some [1,3,4,6,9,10]
 | 17,0=>some [0,1,12,13]
 | 18,0=>some [9,10,32,33,34]
 | 19,0=>some [1,2,6,7,8]
 | 21,0=>some [1,3,4]
 | 21,2=>some [1,3,4,5,6]
 | 21,4=>some [1,3,7,8]
 | 22,0=>some [1,2,5]
 | 22,2=>some [1,2,6,7]
 | 25,0=>some [1,2,3,6,8]
 | 25,2=>some [1,2,3,6,9]
 | 26,0=>some [1,2,3,4,5,6]
 | 26,2=>some [1,2,3,4,5,7]
 | 26,4=>some [1,2,3,4,5,8]
 | 26,6=>some [1,2,3,4,5,9]
 | 26,8=>some [1,2,3,5,10]
 | 27,0=>some [2,3,7,8,9]
 | 27,2=>some [2,3,8,9,10,11,12]
 | 28,0=>some [1,2,5,6]
 | 31,0=>some [1,2,3,7]
 | 31,2=>some [1,2,3,7,8]
 | 32,0=>some [0,1,9,10,11]
 | 35,0=>some [1,2,6,9,10,13,20,21]
 | 35,2=>some [1,2,6,9,10,13,14,15,20,21,25,26]
 | 36,0=>some [1,2,5,6]
 | 37,0=>some [1,2,3,7,8,9,10]
 | 38,0=>some [1,5,7,8]
 | 43,0=>some [3,4,5]
 | 46,0=>some [1,2,3,12,13,14]
 | 46,2=>some [1,2,3,7,8,12,13,14,19,20,21]
 | 47,0=>some [1,2,3,7,8]
 | 48,0=>some [1,2,5,16,17]
 | 49,0=>some [1,2,5,17,18,19]
 | 50,0=>some [2,5,10,11,12]
 | 53,0=>some [2,3,7,8]
 | 53,2=>some [2,3,7,8,9]
 | 55,0=>some [0,1,5]
 | 57,0=>some [1,2,5,6]
 | 58,0=>some [3,4,5]
 | 61,0=>some [1,2,3,4,5,11,18,19]
 | 61,2=>some [1,2,3,4,5,11,18,19,22,23]
 | 63,0=>some [1,2,3,4,5,11,12]
 | 63,2=>some [1,2,3,4,5,11,12,13]
 | 64,0=>some [2,3,5,8,9,10,11]
 | 67,0=>some [0,1,7,8]
 | 68,0=>some [0,1,5]
 | 71,0=>some [0,1,5]
 | 75,0=>some [0,1,5,6,7,37,38]
 | 76,0=>some [3,6,7,8]
 | 77,0=>some [0,5,6,7]
 | 78,0=>some [1,3,37,38,39]
 | 78,2=>some [1,3,59,60,61]
 | 83,0=>some [0,4,5]
 | 85,0=>some [2]
 | 86,0=>some [0,1,2,3,4,10,11]
 | 88,0=>some [3,14,15]
 | 88,2=>some [3,4,14,15,18,19]
 | 90,0=>some [3,5,7,17,18]
 | 90,2=>some [3,5,7,17,18,21,22,23]
 | 94,0=>some [0,1,2,3,8]
 | 94,2=>some [0,1,2,3,8,9]
 | 95,0=>some [0,3,8,9,10,11]
 | 95,2=>some [0,3,8,9,12]
 | 96,0=>some [0,1,8,9,10,11]
 | 98,0=>some [0,8,9]
 | 99,0=>some [0,1,2,3,9,10]
 | 99,2=>some [0,1,2,3,9,10]
 | 99,4=>some [0,1,2,3,9,10,11]
 | 99,6=>some [0,1,2,3,9,10,12]
 | 100,0=>some [0,1,4,11,12]
 | 100,2=>some [0,1,4,11,12]
 | 100,4=>some [0,1,4,11,12]
 | 101,0=>some [0,1,4,12,13]
 | 101,2=>some [0,1,4,12,13]
 | 101,4=>some [0,1,4,12,13]
 | 101,6=>some [0,1,4,12,13]
 | 101,8=>some [0,1,4,12,13]
 | 107,0=>some [4,15,16,17]
 | 109,0=>some [0,1,7,8]
 | 110,0=>some [0,2,3,4,10]
 | _,_=>none
def polCrit:Nat→Nat→List (Nat × Nat):=fun f r=>match f,r with
 | 4,8=>[(0,4)]
 | 6,10=>[(1,7)]
 | 6,15=>[(1,8)]
 | 6,17=>[(5,9),(8,9)]
 | 7,14=>[(2,3)]
 | 11,1=>[(11,15)]
 | 15,6=>[(1,6)]
 | 18,4=>[(3,4)]
 | 22,14=>[(23,27)]
 | 26,15=>[(0,9),(1,9)]
 | 26,22=>[(0,10),(1,10)]
 | 30,1=>[(8,10)]
 | 31,9=>[(2,3),(11,12)]
 | 35,8=>[(7,8)]
 | 35,11=>[(2,13),(5,13),(6,13),(9,13),(10,13)]
 | 39,1=>[(2,3)]
 | 42,1=>[(2,3)]
 | 64,2=>[(5,9),(3,14),(5,14),(9,14),(11,14)]
 | 75,10=>[(0,8),(3,8),(5,8),(0,9),(8,13),(9,13)]
 | 90,9=>[(5,7)]
 | _,_=>[]
def polPrim (f:Nat):Bool:=false && f == f
def pol:Pol:={ isMut:=fun f t=>(polMut f).contains t,grow:=fun f t=>(polGrow f).contains t,inl:=fun f g d=>polInl f || polSite g d,frz:=fun g d=>polFrz.contains (g,d),fresh:=polFresh,live:=polLive,crit:=polCrit,glob:=fun _=>none,prim:=polPrim }
def progOkB (P:Program) (pol:Pol):Bool:=(List.range P.funcs.size).all fun f=>match P.funcs[f]? with
 | some fn=>match fn.body with
  | some c=>codeOk pol regionOk f c && fn.name != "runtime.NumGoroutine"
  | none=>true
 | none=>true
theorem qaf {P:Program} {pol:Pol} (h:progOkB P pol=true):ProgOk P pol regionOk:=by
 refine ⟨fun f fn c hf hc=>?_⟩
 have hlt:f < P.funcs.size:=(Array.getElem?_eq_some_iff.1 hf).1
 have:=List.all_eq_true.1 h f (by simp [hlt])
 simp only [hf,hc,Bool.and_eq_true,bne_iff_ne] at this
 exact this
theorem qag (g f t:Nat) (h1:polInl g=false) (h2:polSite f t=false):pol.inl g f t=false:=by show (polInl g || polSite f t)=false; rw [h1,h2]; rfl
theorem qah (g f t:Nat) (h1:polInl g=true):pol.inl g f t=true:=by show (polInl g || polSite f t)=true; rw [h1]; rfl
theorem qai (g f t:Nat) (h1:polSite f t=true):pol.inl g f t=true:=by show (polInl g || polSite f t)=true; rw [h1]; cases polInl g <;> rfl
theorem qaj (g f t:Nat) (h:polFresh g f t=false):pol.fresh g f t=false:=h
theorem qak (g f t:Nat) (h:polFresh g f t=true):pol.fresh g f t=true:=h
theorem qal (g:Nat) (args:List AV) (h:polPrim g=false):primB pol g args=false:=by
 have:pol.prim g=false:=h
 simp [primB,this]
theorem qam (g:Nat) (h:polPrim g=false):pol.prim g=false:=h
theorem qan (g:Nat) (h:polPrim g=true):pol.prim g=true:=h
theorem sound:Sound Try.prog pol:=⟨by kernel_rfl,qaf (by kernel_rfl),q9t (fun _=>rfl)⟩
theorem laidOut:laidOutB Try.prog=true:=by kernel_rfl
theorem own:ownKnob Try.prog.godebug=none:=by kernel_rfl
end Go.Proofs.Ytnjaokhdeaeegaa
