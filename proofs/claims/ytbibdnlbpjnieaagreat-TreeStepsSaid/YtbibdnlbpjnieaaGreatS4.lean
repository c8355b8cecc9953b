/- Part 4 of the proof of TreeSteps. -/
import Derived.Test.YtbibdnlbpjnieaaGreatS3
import Derived.Test.YtbibdnlbpjnieaaGreatRows
set_option linter.all false
set_option maxRecDepth 100000
set_option maxHeartbeats 4000000
namespace Go.Proofs.YtbibdnlbpjnieaaGreat
open Go Go.Abs Go.RowKit
def polMut:Nat→List Nat:=fun f=>match f with|3=>[2]|7=>[1]|15=>[1]|26=>[3]|65=>[1]|104=>[3]|_=>[]
def polGrow:Nat→List Nat:=fun f=>match f with|8=>[29,32]|13=>[5,13]|15=>[3]|20=>[3]|21=>[5]|25=>[3,11]|26=>[7,8]|32=>[4,5]|39=>[5,21]|52=>[3]|53=>[4]|83=>[5]|104=>[7]|111=>[7]|118=>[5]|_=>[]
def polInl (g:Nat):Bool:=g == 31 || g == 59 || g == 60 || g == 61 || g == 103 || g == 123 || g == 130 || g == 131
def polSite (f t:Nat):Bool:=false && f == t
def polFresh (g f t:Nat):Bool:=g == 30 || (f == 30 && t == 13) || (f == 8 && t == 42) || (f == 13 && t == 24) || (f == 39 && t == 20) || false
def polFrz:List (Nat × Nat):=[(45,22),(16,38),(8,51),(33,21),(3,21)]
def polLive:Nat→Nat→Option (List Nat):=fun f b=>match f,b with
 | 8,0=>some [4,5,7]
 | 9,0=>some [1,3,4]
 | 9,2=>some [1,3,4,5,6]
 | 9,4=>some [1,3,7,8]
 | 11,0=>some [1,5]
 | 13,0=>some [2,4,5,6]
 | 14,0=>some [1,35,36]
 | 15,0=>some [1,2,3,32,33,34]
 | 16,0=>some [2,3,5]
 | 18,0=>some [1,3]
 | 18,2=>some [1,3,4,5,6]
 | 19,0=>some [0,1,12,13]
 | 20,0=>some [1,3,4]
 | 21,0=>some [1,3,4,5,6]
 | 22,0=>some [2,6,7,23,24]
 | 23,0=>some [3,4,5,7]
 | 23,2=>some [3,4,5,7,8,42,43,44]
 | 25,0=>some [1,2,3,4]
 | 25,2=>some [1,2,3,4,5,6]
 | 26,0=>some [1,2,3,6,8,9]
 | 26,2=>some [1,2,3,6,8,9,10,11]
 | 28,0=>some [1,3,37,38,39]
 | 28,2=>some [1,3,59,60,61]
 | 29,0=>some [12,13,14]
 | 30,0=>some [2,3,38,39,40]
 | 32,0=>some [2,4,5,10,11,12]
 | 37,0=>some [2,3,7,8]
 | 37,2=>some [2,3,7,8,9]
 | 38,0=>some [2,3,5]
 | 38,2=>some [2,3,6]
 | 38,4=>some [2,3,7]
 | 39,0=>some [2,4,5,6]
 | 40,0=>some [2,5,74,75,76]
 | 42,0=>some [2,3,5]
 | 42,2=>some [2,3,5,6,22,23,24]
 | 44,0=>some [0,1,7,8]
 | 45,0=>some [1,3,5,6]
 | 45,2=>some [1,5,6,7,8,40,41,42]
 | 46,0=>some [1,3,4]
 | 47,0=>some [2,3,5]
 | 47,2=>some [2,3,6]
 | 47,4=>some [2,3,7]
 | 51,0=>some [0,1,5]
 | 52,0=>some [1,3,4]
 | 52,2=>some [1,3,5]
 | 52,4=>some [1,3,5,6]
 | 53,0=>some [1,3,4,5]
 | 53,2=>some [1,4,7]
 | 53,4=>some [1,4,7,8]
 | 58,0=>some [1,3,7,8,9]
 | 59,0=>some [1,2]
 | 60,0=>some [1,2]
 | 60,2=>some [1,2,4,25,26,27]
 | 61,0=>some [1,2]
 | 65,0=>some [1,2,3]
 | 67,0=>some [3,14,15]
 | 67,2=>some [3,4,14,15,18,19]
 | 69,0=>some [3,5,7,17,18]
 | 69,2=>some [3,5,7,17,18,21,22,23]
 | 74,0=>some [0,1,7,8,9]
 | 77,0=>some [1,34,35,36]
 | 81,0=>some [0,1,5]
 | 82,0=>some [2,3,5]
 | 82,2=>some [2,3,6]
 | 83,0=>some [2,5,6,7]
 | 85,0=>some [1,5,6]
 | 86,0=>some [1,5,13,14]
 | 88,0=>some [1,2,3,13,14]
 | 88,2=>some [1,2,3,25,26]
 | 88,4=>some [3]
 | 89,0=>some [1,2,4,5,15,16]
 | 89,2=>some [2,4,5,7,33,34]
 | 89,4=>some [7]
 | 91,0=>some [5,6,7,16]
 | 95,0=>some [1,3,4]
 | 108,0=>some [4,15,16,17]
 | 110,0=>some [0,1,7,8]
 | 111,0=>some [3,7]
 | 118,0=>some [1,2,5,6]
 | 128,0=>some [1,5,13,14]
 | 131,0=>some [0,4,5,6]
 | 139,0=>some [0,1,8,9,10]
 | 141,0=>some [0,1,8,9,10]
 | 143,0=>some [0,6,7,8]
 | _,_=>none
def polCrit:Nat→Nat→List (Nat × Nat):=fun f r=>match f,r with
 | 3,10=>[(0,4)]
 | 5,13=>[(0,3)]
 | 5,17=>[(0,4),(7,11)]
 | 7,1=>[(11,15)]
 | 8,6=>[(0,5),(5,7),(0,8),(3,8),(4,8),(0,11),(3,11),(4,11),(7,11),(10,11)]
 | 13,1=>[(0,5),(0,7),(3,7),(4,7)]
 | 13,5=>[(1,4),(1,5)]
 | 15,2=>[(11,15)]
 | 15,7=>[(11,22),(18,22),(18,24)]
 | 17,5=>[(0,2)]
 | 18,6=>[(1,7),(4,7),(1,8),(4,8),(5,8),(7,8),(1,9),(4,9),(5,9),(7,9)]
 | 20,7=>[(1,5),(1,8),(3,8),(5,8),(7,8)]
 | 20,8=>[(0,4)]
 | 21,1=>[(1,2)]
 | 21,9=>[(3,5)]
 | 21,11=>[(3,6),(6,11),(6,12),(3,14),(11,14),(3,16),(11,16)]
 | 25,11=>[(1,5),(1,8),(3,8),(5,8),(7,8)]
 | 25,12=>[(0,4),(2,4),(0,5),(0,7),(2,7),(4,7),(5,7),(6,7)]
 | 25,15=>[(1,3),(1,4)]
 | 30,1=>[(1,4),(4,6),(1,7),(1,9),(3,9),(4,9),(6,9),(7,9)]
 | 30,9=>[(1,5)]
 | 30,10=>[(1,5)]
 | 30,11=>[(1,5)]
 | 32,4=>[(3,6)]
 | 33,1=>[(0,5),(0,7),(4,7)]
 | 39,3=>[(2,4),(0,8),(2,8),(4,8),(6,8)]
 | 39,7=>[(1,9),(1,10)]
 | 40,5=>[(5,8)]
 | 42,7=>[(0,5)]
 | 42,10=>[(3,6)]
 | 43,1=>[(0,11),(3,11)]
 | 45,8=>[(0,6),(3,6)]
 | 45,13=>[(11,14)]
 | 45,14=>[(0,12),(5,12),(10,12),(11,12)]
 | 45,16=>[(3,5)]
 | 48,1=>[(9,13)]
 | 48,3=>[(2,6),(2,9),(8,9)]
 | 50,3=>[(10,12),(10,17)]
 | 52,12=>[(3,5)]
 | 53,16=>[(3,5)]
 | 53,18=>[(5,13),(9,13)]
 | 58,10=>[(3,5)]
 | 58,11=>[(3,7),(7,12),(7,14),(3,16),(12,16),(12,18)]
 | 58,12=>[(3,7),(5,7)]
 | 59,1=>[(0,8)]
 | 60,11=>[(0,16),(5,16),(8,16),(11,16),(12,16)]
 | 69,9=>[(5,7)]
 | 78,2=>[(1,5),(5,7),(1,9),(5,11),(9,11),(1,13)]
 | 87,4=>[(6,9)]
 | 88,5=>[(0,4)]
 | 88,14=>[(3,9),(5,9),(7,9)]
 | 89,5=>[(3,6)]
 | 90,2=>[(0,8),(3,8)]
 | 91,3=>[(1,2),(0,4),(1,4),(2,4),(3,4),(0,5),(1,5),(2,5),(3,5)]
 | 92,1=>[(0,6),(3,6),(0,9),(3,9),(4,9),(6,9)]
 | 92,4=>[(0,3)]
 | 97,1=>[(1,10),(3,10),(5,10),(8,10)]
 | 111,9=>[(1,2)]
 | 119,1=>[(1,4),(10,13)]
 | 129,3=>[(2,5)]
 | _,_=>[]
def polPrim (f:Nat):Bool:=f == 73 || f == 70 || f == 71 || f == 72 || false
def pol0:Pol:={ isMut:=fun f t=>(polMut f).contains t,grow:=fun f t=>(polGrow f).contains t,inl:=fun f g d=>polInl f || polSite g d,frz:=fun g d=>polFrz.contains (g,d),fresh:=polFresh,live:=polLive,crit:=polCrit,glob:=fun _=>none }
def pol:Pol:={ pol0 with prim:=polPrim }
def progOkB (P:Program) (pol:Pol):Bool:=(List.range P.funcs.size).all fun f=>match P.funcs[f]? with
 | some fn=>match fn.body with
  | some c=>codeOk pol regionOk f c && fn.name != "runtime.NumGoroutine"
  | none=>true
 | none=>true
theorem q5c {P:Program} {pol:Pol} (h:progOkB P pol=true):ProgOk P pol regionOk:=by
 refine ⟨fun f fn c hf hc=>?_⟩
 have hlt:f < P.funcs.size:=(Array.getElem?_eq_some_iff.1 hf).1
 have:=List.all_eq_true.1 h f (by simp [hlt])
 simp only [hf,hc,Bool.and_eq_true,bne_iff_ne] at this
 exact this
theorem q8X (g f t:Nat) (h1:polInl g=false) (h2:polSite f t=false):pol.inl g f t=false:=by show (polInl g || polSite f t)=false; rw [h1,h2]; rfl
theorem q8Y (g f t:Nat) (h1:polInl g=true):pol.inl g f t=true:=by show (polInl g || polSite f t)=true; rw [h1]; rfl
theorem q8Z (g f t:Nat) (h1:polSite f t=true):pol.inl g f t=true:=by show (polInl g || polSite f t)=true; rw [h1]; cases polInl g <;> rfl
theorem q90 (g f t:Nat) (h:polFresh g f t=false):pol.fresh g f t=false:=h
theorem q91 (g f t:Nat) (h:polFresh g f t=true):pol.fresh g f t=true:=h
theorem q92 (g:Nat) (args:List AV) (h:polPrim g=false):primB pol g args=false:=by
 have:pol.prim g=false:=h
 simp [primB,this]
theorem q93 (g:Nat) (h:polPrim g=false):pol.prim g=false:=h
theorem q94 (g:Nat) (h:polPrim g=true):pol.prim g=true:=h
theorem sound0:Sound Tryz.prog pol0:=⟨by kernel_rfl,q5c (by kernel_rfl),q8r (fun _=>rfl)⟩
theorem prim73 (a:Option Addr) (cap:Nat):∃ r,ans Tryz.prog pol0 73 [.sc (.slice a 0 cap)]=some r∧(r=.sc (.slice none 0 0)∨∃ c k,r=.sl c k []):=by
 cases a with
 | none=>cases cap with
  | zero=>exact ⟨.sc (.slice none 0 0),q0v (n:=10) 3 (by kernel_rfl),.inl rfl⟩
  | succ cap=>exact ⟨.sc (.slice none 0 0),q0v (n:=10) 3 (by kernel_rfl),.inl rfl⟩
 | some a=>exact ⟨.sl true 8 [],q0v (n:=10) 3 (by kernel_rfl),.inr ⟨true,_,rfl⟩⟩
theorem prim70 (a:Option Addr) (cap:Nat):∃ r,ans Tryz.prog pol0 70 [.sc (.slice a 0 cap)]=some r∧(r=.sc (.slice none 0 0)∨∃ c k,r=.sl c k []):=by
 cases a with
 | none=>cases cap with
  | zero=>exact ⟨.sc (.slice none 0 0),q0v (n:=10) 3 (by kernel_rfl),.inl rfl⟩
  | succ cap=>exact ⟨.sc (.slice none 0 0),q0v (n:=10) 3 (by kernel_rfl),.inl rfl⟩
 | some a=>exact ⟨.sl true 1 [],q0v (n:=10) 3 (by kernel_rfl),.inr ⟨true,_,rfl⟩⟩
theorem prim71 (a:Option Addr) (cap:Nat):∃ r,ans Tryz.prog pol0 71 [.sc (.slice a 0 cap)]=some r∧(r=.sc (.slice none 0 0)∨∃ c k,r=.sl c k []):=by
 cases a with
 | none=>cases cap with
  | zero=>exact ⟨.sc (.slice none 0 0),q0v (n:=10) 3 (by kernel_rfl),.inl rfl⟩
  | succ cap=>exact ⟨.sc (.slice none 0 0),q0v (n:=10) 3 (by kernel_rfl),.inl rfl⟩
 | some a=>exact ⟨.sl true 1 [],q0v (n:=10) 3 (by kernel_rfl),.inr ⟨true,_,rfl⟩⟩
theorem prim72 (a:Option Addr) (cap:Nat):∃ r,ans Tryz.prog pol0 72 [.sc (.slice a 0 cap)]=some r∧(r=.sc (.slice none 0 0)∨∃ c k,r=.sl c k []):=by
 cases a with
 | none=>cases cap with
  | zero=>exact ⟨.sc (.slice none 0 0),q0v (n:=10) 3 (by kernel_rfl),.inl rfl⟩
  | succ cap=>exact ⟨.sc (.slice none 0 0),q0v (n:=10) 3 (by kernel_rfl),.inl rfl⟩
 | some a=>exact ⟨.sl true 4 [],q0v (n:=10) 3 (by kernel_rfl),.inr ⟨true,_,rfl⟩⟩
theorem sound:Sound Tryz.prog pol:=⟨sound0.mix,q5c (by kernel_rfl),q8s sound0 rfl (fun f hf a cap=>by
 simp only [pol,polPrim,Bool.or_eq_true,beq_iff_eq,Bool.false_eq_true,or_false] at hf
 rcases hf with ((rfl|rfl)|rfl)|rfl
 ·exact prim73 a cap
 ·exact prim70 a cap
 ·exact prim71 a cap
 ·exact prim72 a cap)⟩
theorem laidOut:laidOutB Tryz.prog=true:=by kernel_rfl
theorem own:ownKnob Tryz.prog.godebug=none:=by kernel_rfl
end Go.Proofs.YtbibdnlbpjnieaaGreat
