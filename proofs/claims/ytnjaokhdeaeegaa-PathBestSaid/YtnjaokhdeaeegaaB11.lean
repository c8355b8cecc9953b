/- Part 11 of the proof of PathBest. -/
import Derived.Test.YtnjaokhdeaeegaaB10
set_option linter.all false
set_option maxRecDepth 100000
set_option maxHeartbeats 4000000
namespace Go.Abs
open Go
def yZ:T:=.sc (.int .i64 0)
def yS:T:=.sc (.slice none 0 0)
theorem yZ_eq:yZ=.sc (.int .i64 0):=(fun x=>x) rfl
theorem yS_eq:yS=.sc (.slice none 0 0):=(fun x=>x) rfl
attribute [go_sem] yZ_eq yS_eq
abbrev yI (n:Int):Src:=.c (.sc (.int .i64 n))
abbrev yB (b:Bool):Src:=.c (.sc (.bool b))
abbrev yC (f:Nat):Src:=.c (.fn (.func f) [] [])
abbrev yO (d:Tmp) (op:IOp):I1:=⟨some d,none,none,.objs [],op⟩
abbrev yN (op:IOp):I1:=⟨none,none,none,.objs [],op⟩
abbrev yG (d j:Tmp) (b:Bool) (op:IOp):I1:=⟨some d,some (j,b),none,.objs [],op⟩
abbrev yP (d t:Tmp) (op:IOp):I1:=⟨some d,none,none,.objs [.v t],op⟩
abbrev yT (t:Tmp) (op:IOp):I1:=⟨none,none,none,.objs [.v t],op⟩
abbrev yQ (d:Tmp) (g:Src) (l:List Src):I1:=⟨some d,none,none,.cal g l,.call g l⟩
abbrev yM (d s:Tmp):I1:=⟨some d,none,none,.objs [],.mv (.v s)⟩
abbrev yF (d k s:Tmp):I1:=⟨some d,none,none,.objs [],.fa k (.v s)⟩
abbrev yL (d k s:Tmp):I1:=⟨some d,none,none,.objs [],.ld false k (.v s)⟩
abbrev yD (d k s:Tmp):I1:=⟨some d,none,none,.objs [],.ld true k (.v s)⟩
def regOf (r:Nat):Code→Option (Array Oper)
 | .region id ops _=>if id=r then some ops else none
 | .seq a b=>(regOf r a).or (regOf r b)
 | .cond _ a b=>(regOf r a).or (regOf r b)
 | .block _ c=>regOf r c
 | .loop c=>regOf r c
 | .scope c=>regOf r c
 | .rangeFunc _ _ a b=>(regOf r a).or (regOf r b)
 | _=>none
def opOf (P:Program) (f r i:Nat):Oper :=
 match P.funcs[f]? with
 | some fn=>match fn.body with
  | some c=>match regOf r c with
   | some ops=>(ops[i]?).getD default
   | none=>default
  | none=>default
 | none=>default
def rfsOf:Code→List (Code × Code)
 | .rangeFunc _ _ a b=>[(a,b)]
 | .seq a b=>rfsOf a++rfsOf b
 | .cond _ a b=>rfsOf a++rfsOf b
 | .block _ c=>rfsOf c
 | .loop c=>rfsOf c
 | .scope c=>rfsOf c
 | _=>[]
def rfOf (P:Program) (f k:Nat):Code × Code :=
 match P.funcs[f]? with
 | some fn=>match fn.body with
  | some c=>((rfsOf c)[k]?).getD (.skip,.skip)
  | none=>(.skip,.skip)
 | none=>(.skip,.skip)
end Go.Abs
namespace Go.Proofs.Ytnjaokhdeaeegaa
open Go Go.Abs
attribute [go_sem] qal qaj qak polFresh qag polInl polSite qah qai qam qan polPrim
end Go.Proofs.Ytnjaokhdeaeegaa
