/- Part 10 of the proof of TopSchedule. -/
import Derived.Test.YtogagakgmbkonaaGreatS9
set_option linter.all false
set_option maxRecDepth 100000
set_option maxHeartbeats 4000000
namespace Go.Abs
open Go
theorem a1{G Q:Prop}{b:Bool}[w:JU G b Q](h:Q)(ab:b=true:=by with_unfolding_all rfl):G:=yM ab h
def aD:T:=.aA (.int .i64 0)
def b6:T:=.aA (.slice none 0 0)
theorem aBg:aD=.aA (.int .i64 0):=(fun x=>x) rfl
theorem aBf:b6=.aA (.slice none 0 0):=(fun x=>x) rfl
attribute [go_sem] aBg aBf
abbrev bh(n:Int):Src:=.c (.aA (.int .i64 n))
abbrev ji(b:Bool):Src:=.c (.aA (.bool b))
abbrev dq(f:Nat):Src:=.c (.fn (.func f) [] [])
abbrev aL(d:Tmp)(op:rV):da:=⟨some d,none,none,.eu [],op⟩
abbrev fP(op:rV):da:=⟨none,none,none,.eu [],op⟩
abbrev bd(d j:Tmp)(b:Bool)(op:rV):da:=⟨some d,some (j,b),none,.eu [],op⟩
abbrev pv(d t:Tmp)(op:rV):da:=⟨some d,none,none,.eu [.v t],op⟩
abbrev vo(t:Tmp)(op:rV):da:=⟨none,none,none,.eu [.v t],op⟩
abbrev wX(d:Tmp)(g:Src)(l:List Src):da:=⟨some d,none,none,.oS g l,.call g l⟩
abbrev aa(d s:Tmp):da:=⟨some d,none,none,.eu [],.e9 (.v s)⟩
abbrev aQ(d k s:Tmp):da:=⟨some d,none,none,.eu [],.Bh k (.v s)⟩
abbrev aX(d k s:Tmp):da:=⟨some d,none,none,.eu [],.fL false k (.v s)⟩
abbrev bu(d k s:Tmp):da:=⟨some d,none,none,.eu [],.fL true k (.v s)⟩
def wH(r:Nat):Code→Option (Array Oper)
 | .region id ops _=>if id=r then some ops else none
 | .seq a b=>(wH r a).or (wH r b)
 | .cond _ a b=>(wH r a).or (wH r b)
 | .block _ c=>wH r c
 | .loop c=>wH r c
 | .scope c=>wH r c
 | .rangeFunc _ _ a b=>(wH r a).or (wH r b)
 | _=>none
def eF(P:Program)(f r i:Nat):Oper :=
 match P.funcs[f]? with
 | some fn=>match fn.body with
  | some c=>match wH r c with
   | some ops=>(ops[i]?).getD default
   | none=>default
  | none=>default
 | none=>default
def Ap:Code→List (Code × Code)
 | .rangeFunc _ _ a b=>[(a,b)]
 | .seq a b=>Ap a++Ap b
 | .cond _ a b=>Ap a++Ap b
 | .block _ c=>Ap c
 | .loop c=>Ap c
 | .scope c=>Ap c
 | _=>[]
def hc(P:Program)(f k:Nat):Code × Code :=
 match P.funcs[f]? with
 | some fn=>match fn.body with
  | some c=>((Ap c)[k]?).getD (.skip,.skip)
  | none=>(.skip,.skip)
 | none=>(.skip,.skip)
end Go.Abs
namespace Go.Proofs.YtogagakgmbkonaaGreat
open Go Go.Abs
attribute [go_sem] adT avF avG E3 adP wA yp adR adQ avH avI Ak avJ adS E4
end Go.Proofs.YtogagakgmbkonaaGreat
