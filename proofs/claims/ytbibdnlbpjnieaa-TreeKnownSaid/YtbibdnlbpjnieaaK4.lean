/- Part 4 of the proof of TreeKnown. -/
import Derived.Test.YtbibdnlbpjnieaaK3
import Derived.Test.YtbibdnlbpjnieaaRows
set_option linter.all false
set_option maxRecDepth 100000
set_option maxHeartbeats 4000000
namespace Go.Proofs.Ytbibdnlbpjnieaa
open Go Go.Abs Go.RowKit
def polMut:Nat → List Nat:=fun f=>match f with | 10=>[2] | 42=>[5] | _=>[]
def polGrow:Nat → List Nat:=fun f=>match f with | 6=>[13,19] | 8=>[11] | 15=>[29,32] | 22=>[5,24] | 34=>[4,5] | 69=>[7] | _=>[]
def polInl (g:Nat):Bool:=g == 26 || g == 39 || g == 40 || g == 41 || g == 42 || g == 60 || g == 72 || g == 90 || g == 91
def polSite (f t:Nat):Bool:=false && f == t
def polFresh (g f t:Nat):Bool:=g == 30 || (f == 30 && t == 13) || (f == 15 && t == 42) || (f == 8 && t == 92) || (f == 8 && t == 99) || (f == 5 && t == 63) || (f == 5 && t == 101) || false
def polFrz:List (Nat × Nat):=[(8,120),(25,22),(11,38),(15,51),(35,21),(8,50),(6,209),(6,216)]
def polLive:Nat → Nat → Option (List Nat):=fun f b=>match f,b with
 | 3,0=>some [9,11,48]
 | 6,0=>some [7,9,11,12,13,82,83,84]
 | 6,2=>some [7,11,12,13,162,163]
 | 6,4=>some [7,11,12,13,18,19,162,163,172,173,174]
 | 6,6=>some [7,11,12,13,18,26,27,162,163,238,239,240]
 | 8,0=>some [1,2,3,8,10,11,28,29]
 | 8,2=>some [2,8,10,14,15,57,58,59]
 | 8,4=>some [8,10,14,15,128,129,130]
 | 10,0=>some [2,4,8,9]
 | 11,0=>some [2,3,5]
 | 12,0=>some [0,1,12,13]
 | 13,0=>some [3,4,5,7]
 | 13,2=>some [3,4,5,7,8,42,43,44]
 | 15,0=>some [4,5,7]
 | 18,0=>some [1,35,36]
 | 19,0=>some [1,3,9,25,26,27]
 | 20,0=>some [0,1,12,13]
 | 21,0=>some [2,6,7,23,24]
 | 22,0=>some [1,2,3,4,5,6]
 | 22,2=>some [1,2,3,4,5,7]
 | 22,4=>some [1,2,3,4,5,8]
 | 22,6=>some [1,2,3,4,5,9]
 | 22,8=>some [1,2,3,5,10]
 | 24,0=>some [2,3,5]
 | 24,2=>some [2,3,5,6,22,23,24]
 | 25,0=>some [1,3,5,6]
 | 25,2=>some [1,5,6,7,8,40,41,42]
 | 29,0=>some [0,1,7,8]
 | 30,0=>some [2,3,38,39,40]
 | 32,0=>some [1,3,37,38,39]
 | 32,2=>some [1,3,59,60,61]
 | 33,0=>some [12,13,14]
 | 34,0=>some [2,4,5,10,11,12]
 | 37,0=>some [2,5,74,75,76]
 | 38,0=>some [3,5,7,17,18]
 | 38,2=>some [3,5,7,17,18,21,22,23]
 | 39,0=>some [1,2]
 | 40,0=>some [1,2]
 | 40,2=>some [1,2,4,25,26,27]
 | 41,0=>some [1,2]
 | 42,0=>some [2,3,5,8,9,10,11]
 | 46,0=>some [1,2,3,13,14]
 | 46,2=>some [1,2,3,25,26]
 | 46,4=>some [3]
 | 47,0=>some [1,2,4,5,15,16]
 | 47,2=>some [2,4,5,7,33,34]
 | 47,4=>some [7]
 | 49,0=>some [5,6,7,16]
 | 51,0=>some [0,1,7,8,9]
 | 52,0=>some [1,5,6]
 | 53,0=>some [1,5,13,14]
 | 58,0=>some [1,34,35,36]
 | 61,0=>some [3,14,15]
 | 61,2=>some [3,4,14,15,18,19]
 | 69,0=>some [3,7]
 | 85,0=>some [4,15,16,17]
 | 87,0=>some [0,1,7,8]
 | 88,0=>some [1,5,13,14]
 | 91,0=>some [0,4,5,6]
 | 97,0=>some [0,1,8,9,10]
 | 99,0=>some [0,1,8,9,10]
 | 104,0=>some [0,6,7,8]
 | _,_=>none
def polCrit:Nat → Nat → List (Nat × Nat):=fun f r=>match f,r with
 | 6,13=>[(10,11)]
 | 6,44=>[(6,8)]
 | 8,22=>[(1,5)]
 | 8,30=>[(0,11),(4,11),(5,11),(7,11)]
 | 9,5=>[(0,2)]
 | 15,6=>[(0,5),(5,7),(0,8),(3,8),(4,8),(0,11),(3,11),(4,11),(7,11),(10,11)]
 | 22,15=>[(0,9),(1,9)]
 | 22,22=>[(0,10),(1,10)]
 | 24,7=>[(0,5)]
 | 24,10=>[(3,6)]
 | 25,8=>[(0,6),(3,6)]
 | 25,13=>[(11,14)]
 | 25,14=>[(0,12),(5,12),(10,12),(11,12)]
 | 25,16=>[(3,5)]
 | 28,1=>[(0,11),(3,11)]
 | 30,1=>[(1,4),(4,6),(1,7),(1,9),(3,9),(4,9),(6,9),(7,9)]
 | 30,9=>[(1,5)]
 | 30,10=>[(1,5)]
 | 30,11=>[(1,5)]
 | 34,4=>[(3,6)]
 | 35,1=>[(0,5),(0,7),(4,7)]
 | 37,5=>[(5,8)]
 | 38,9=>[(5,7)]
 | 39,1=>[(0,8)]
 | 40,11=>[(0,16),(5,16),(8,16),(11,16),(12,16)]
 | 42,2=>[(5,9),(3,14),(5,14),(9,14),(11,14)]
 | 46,5=>[(0,4)]
 | 46,14=>[(3,9),(5,9),(7,9)]
 | 47,5=>[(3,6)]
 | 48,2=>[(0,8),(3,8)]
 | 49,3=>[(1,2),(0,4),(1,4),(2,4),(3,4),(0,5),(1,5),(2,5),(3,5)]
 | 50,1=>[(0,6),(3,6),(0,9),(3,9),(4,9),(6,9)]
 | 50,4=>[(0,3)]
 | 54,4=>[(6,9)]
 | 59,2=>[(1,5),(5,7),(1,9),(5,11),(9,11),(1,13)]
 | 69,9=>[(1,2)]
 | 89,3=>[(2,5)]
 | _,_=>[]
def polPrim (f:Nat):Bool:=f == 17 || f == 23 || f == 55 || f == 56 || f == 57 || false
def pol0:Pol:={ isMut:=fun f t=>(polMut f).contains t,grow:=fun f t=>(polGrow f).contains t,inl:=fun f g d=>polInl f || polSite g d,frz:=fun g d=>polFrz.contains (g,d),fresh:=polFresh,live:=polLive,crit:=polCrit,glob:=fun _=>none }
def pol:Pol:={ pol0 with prim:=polPrim }
def progOkB (P:Program) (pol:Pol):Bool:=(List.range P.funcs.size).all fun f=>match P.funcs[f]? with
 | some fn=>match fn.body with
  | some c=>codeOk pol regionOk f c && fn.name != "runtime.NumGoroutine"
  | none=>true
 | none=>true
theorem progOk_of {P:Program} {pol:Pol} (h:progOkB P pol = true):ProgOk P pol regionOk:=by
 refine ⟨fun f fn c hf hc=>?_⟩
 have hlt:f < P.funcs.size:=(Array.getElem?_eq_some_iff.1 hf).1
 have:=List.all_eq_true.1 h f (by simp [hlt])
 simp only [hf,hc,Bool.and_eq_true,bne_iff_ne] at this
 exact this
theorem pol_inl (g f t:Nat) (h1:polInl g = false) (h2:polSite f t = false):pol.inl g f t = false:=by show (polInl g || polSite f t) = false; rw [h1,h2]; rfl
theorem pol_inlT (g f t:Nat) (h1:polInl g = true):pol.inl g f t = true:=by show (polInl g || polSite f t) = true; rw [h1]; rfl
theorem pol_inlS (g f t:Nat) (h1:polSite f t = true):pol.inl g f t = true:=by show (polInl g || polSite f t) = true; rw [h1]; cases polInl g <;> rfl
theorem pol_fresh (g f t:Nat) (h:polFresh g f t = false):pol.fresh g f t = false:=h
theorem pol_freshT (g f t:Nat) (h:polFresh g f t = true):pol.fresh g f t = true:=h
theorem prB_pol (g:Nat) (args:List AV) (h:polPrim g = false):primB pol g args = false:=by
 have:pol.prim g = false:=h
 simp [primB,this]
theorem pol_prim (g:Nat) (h:polPrim g = false):pol.prim g = false:=h
theorem pol_primT (g:Nat) (h:polPrim g = true):pol.prim g = true:=h
theorem sound0:Sound Try.prog pol0:=⟨by kernel_rfl,progOk_of (by kernel_rfl),prim_no (fun _=>rfl)⟩
theorem prim17 (a:Option Addr) (cap:Nat):∃ r,ans Try.prog pol0 17 [.sc (.slice a 0 cap)] = some r ∧ (r = .sc (.slice none 0 0) ∨ ∃ c k,r = .sl c k []):=by
 cases a with
 | none=>cases cap with
  | zero=>exact ⟨.sc (.slice none 0 0),ans_of_run (n:=10) 3 (by kernel_rfl),.inl rfl⟩
  | succ cap=>exact ⟨.sc (.slice none 0 0),ans_of_run (n:=10) 3 (by kernel_rfl),.inl rfl⟩
 | some a=>exact ⟨.sl true 5 [],ans_of_run (n:=10) 3 (by kernel_rfl),.inr ⟨true,_,rfl⟩⟩
theorem prim23 (a:Option Addr) (cap:Nat):∃ r,ans Try.prog pol0 23 [.sc (.slice a 0 cap)] = some r ∧ (r = .sc (.slice none 0 0) ∨ ∃ c k,r = .sl c k []):=by
 cases a with
 | none=>cases cap with
  | zero=>exact ⟨.sc (.slice none 0 0),ans_of_run (n:=10) 3 (by kernel_rfl),.inl rfl⟩
  | succ cap=>exact ⟨.sc (.slice none 0 0),ans_of_run (n:=10) 3 (by kernel_rfl),.inl rfl⟩
 | some a=>exact ⟨.sl true 8 [],ans_of_run (n:=10) 3 (by kernel_rfl),.inr ⟨true,_,rfl⟩⟩
theorem prim55 (a:Option Addr) (cap:Nat):∃ r,ans Try.prog pol0 55 [.sc (.slice a 0 cap)] = some r ∧ (r = .sc (.slice none 0 0) ∨ ∃ c k,r = .sl c k []):=by
 cases a with
 | none=>cases cap with
  | zero=>exact ⟨.sc (.slice none 0 0),ans_of_run (n:=10) 3 (by kernel_rfl),.inl rfl⟩
  | succ cap=>exact ⟨.sc (.slice none 0 0),ans_of_run (n:=10) 3 (by kernel_rfl),.inl rfl⟩
 | some a=>exact ⟨.sl true 1 [],ans_of_run (n:=10) 3 (by kernel_rfl),.inr ⟨true,_,rfl⟩⟩
theorem prim56 (a:Option Addr) (cap:Nat):∃ r,ans Try.prog pol0 56 [.sc (.slice a 0 cap)] = some r ∧ (r = .sc (.slice none 0 0) ∨ ∃ c k,r = .sl c k []):=by
 cases a with
 | none=>cases cap with
  | zero=>exact ⟨.sc (.slice none 0 0),ans_of_run (n:=10) 3 (by kernel_rfl),.inl rfl⟩
  | succ cap=>exact ⟨.sc (.slice none 0 0),ans_of_run (n:=10) 3 (by kernel_rfl),.inl rfl⟩
 | some a=>exact ⟨.sl true 1 [],ans_of_run (n:=10) 3 (by kernel_rfl),.inr ⟨true,_,rfl⟩⟩
theorem prim57 (a:Option Addr) (cap:Nat):∃ r,ans Try.prog pol0 57 [.sc (.slice a 0 cap)] = some r ∧ (r = .sc (.slice none 0 0) ∨ ∃ c k,r = .sl c k []):=by
 cases a with
 | none=>cases cap with
  | zero=>exact ⟨.sc (.slice none 0 0),ans_of_run (n:=10) 3 (by kernel_rfl),.inl rfl⟩
  | succ cap=>exact ⟨.sc (.slice none 0 0),ans_of_run (n:=10) 3 (by kernel_rfl),.inl rfl⟩
 | some a=>exact ⟨.sl true 4 [],ans_of_run (n:=10) 3 (by kernel_rfl),.inr ⟨true,_,rfl⟩⟩
theorem sound:Sound Try.prog pol:=⟨sound0.mix,progOk_of (by kernel_rfl),prim_of sound0 rfl (fun f hf a cap=>by
 simp only [pol,polPrim,Bool.or_eq_true,beq_iff_eq,Bool.false_eq_true,or_false] at hf
 rcases hf with (((rfl | rfl) | rfl) | rfl) | rfl
 ·exact prim17 a cap
 ·exact prim23 a cap
 ·exact prim55 a cap
 ·exact prim56 a cap
 ·exact prim57 a cap)⟩
theorem laidOut:laidOutB Try.prog = true:=by kernel_rfl
theorem own:ownKnob Try.prog.godebug = none:=by kernel_rfl
end Go.Proofs.Ytbibdnlbpjnieaa
