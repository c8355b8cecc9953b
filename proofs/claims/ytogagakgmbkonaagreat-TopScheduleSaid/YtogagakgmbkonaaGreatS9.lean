/- Part 9 of the proof of TopSchedule. -/
import Derived.Test.YtogagakgmbkonaaGreatS8
import Derived.Attr
set_option linter.all false
set_option maxRecDepth 100000
set_option maxHeartbeats 4000000
namespace Go.Abs
open Go
attribute [go_sem] aip aiq aiw ail aik ain aim aiv aAY aA1  auD auC  ahX ahV alx alw aly aua axZ axY ax1 ahM
 ahO ahL asc asb ase aij ahU ahS axC aj9 aj7 aug al6 aAy alJ alI az9 aAa akl akn akm auw auy axF axE axD
 aAz amy aAD ahy ahK ahG ahB ahH ahF ahE ahD ahC ahz ahA ahJ ahI     aub  aju au7 au9 au8 atb
 atc azh azi azj azk akE akF aiM aiR aiS aiQ aiN azm azn azo azu gz nB na vx qT
 aiF aiA asu PS ajn agR agT agS agQ Kr Kq aiG aiH aiI atC agM agL atJ azY azX akD  asV len_nil asT
 ea oj dS lG pA r5 AP l6 Ge qV AV List.head?_cons
 jc lF AW zc Gk bP nD aiB List.contains_nil List.contains_cons Bool.or_false Gb O7 vw Ki ur eq_self
 fJ ax9 az8 afg ar3 arX ar8 ar6 ar7 arR arO arQ ar1 asa ar4 arP ar5  arT arW ar9 arV  ao3 arZ ao2 arY ash ar0 arU ar2
 arN  arS ayR ayQ au1 au0 au4 au3 auK auL ajk ajo aw5 aw6 aw4 axc axA VK ay1 ayT ayU aza aeU
 ay7 ay5  azc azb  ay6 ay9  ay8 arJ arK arM    arL   aiO  aiP auR auQ ayO ax6
 ax8 ajm ajl atq atp alk   Xj Pv Xk ahg ahh  ahe zj GY alb alj als YA alr alp asi asl asj asm
 asn ag0 Pr  agY  Xf zh ajZ  P5 alX aid aie ahr ahq akO akN ah0 ahZ ahY  akL akK aw2 aw3 ak2 ak1
   ayh  AO w8 decide_true decide_false List.isEmpty_cons ayq ayl ayp aeH ayu  ays aeI PT  adf adg axd
 axb axa ag6  bJ Int.natCast_nonneg ld aA3 aA2 aA4 auE ayb aya ayc azF azB azz azy auk auj aui auh C9 Ph
 nC List.range'_zero axy VF aek agZ GO   ahf true_or or_true gT J3 r4 uv alW  wrap_i64 asx aiy
 aix aiz axS axR avn avm ava avb  avo ayn ayo ayt ayr ajp            
  ahu aht Bool.not_not ak0  at6  at4  at2  at5 at3             aeJ
 atx adh atw   atW       aiD Ke Bool.or_true J4 Pg atZ at0     
    alS alR alv alu alC alB   axg axh  axf axe aiu atd atf XT ax5 ax4
 aih aBl aBm aBk aBj aia aii ao1 aoZ ao0 ahd Xi xo List.zip_cons_cons List.zip_nil_left        qd ahw
 Xo ahx  ayf ayg aky akr aks  atI        asM asK asL asz asy asA   adB ale
 ald alf auf avh avg  ave avi adM avc avd  ahj ahi ahk  ahs  O0 List.drop_left    
   ayz azw azx ahv 
 ax0 ahN asd aio atm atj atn  atl   atk aue U8 ae1 auX auZ adK aiE aj8 auA auB adF auz alA ayZ ayY ayW ayX auF ais
attribute [go_sem] reduceIte Nat.reduceEqDiff Nat.reduceAdd Int.reduceEq Nat.reduceLeDiff Nat.reduceLT Nat.reduceBEq Nat.reduceMul Nat.reduceSub Int.reduceToNat Int.reduceLE Int.reduceLT Int.reduceAdd Int.reduceSub Int.reduceMul Int.reduceNeg Int.reduceDiv Int.reduceMod Int.reduceTDiv Int.reduceTMod Int.reducePow
theorem mQ:([]:List Nat).length=0:=rfl
abbrev oc:=@ahW
abbrev ob:=@ahT
class C3(G:Prop)(Q:outParam Prop):Prop where
 go:Q→G
theorem aZ{G Q:Prop}[w:C3 G Q](h:Q):G:=w.go h
class JU(G:Prop)(b:outParam Bool)(Q:outParam Prop):Prop where
 go:b=true→Q→G
theorem yM{G Q:Prop}{b:Bool}[w:JU G b Q](ab:b=true)(h:Q):G:=w.go ab h
section
variable{P:Program}{pol:c4}{K:eZ}{I:eY}{n:Nat}{f:FuncId}{e:aM}{h:aj}
instance{l:List da}{R:cW→aM→aj→Prop}:C3 (c6 P pol K I n f (.eV [] l) R e h) (aM→hY P pol K I f .d l (E0 R) e h):=⟨fun x=>air (x e)⟩
instance{c:Nat × Nat}{fj:List (Nat × Nat)}{l:List da}{R:cW→aM→aj→Prop}:C3 (c6 P pol K I n f (.eV (c::fj) l) R e h) (aM→hY P pol K I f (.t (c::fj) []) l (E0 R) e h):=⟨fun x=>ait (x e)⟩
instance{aq:List Nat}{c:C}{R:cW→aM→aj→Prop}:C3 (c6 P pol K I n f (ha aq c) R e h) (∀ e7,c6 P pol K I n f c R (vf e e7 aq) h):=⟨atE⟩
instance{aq:List Nat}{r:List da}{R:cW→aM→aj→Prop}:C3 (kv P pol K I f (bc aq r) R e h) (∀ e7,kv P pol K I f r R (vf e e7 aq) h):=⟨atH⟩
instance{L:hl}{aq:List Nat}{r:List da}{Q:aM→aj→Prop}:C3 (hY P pol K I f L (bc aq r) Q e h) (∀ e7,hY P pol K I f L r Q (vf e e7 aq) h):=⟨atG⟩
end
instance{c:List (Nat × Nat)}{aq:List (Option (List Nat))}{Q:Prop}:JU (nO c aq=true∧Q) (nO c aq) Q:=⟨agW⟩
instance{c:List (Nat × Nat)}{aq:List (Option (List Nat))}:JU (nO c aq=true) (nO c aq) True:=⟨fun h _=>h⟩
theorem nL{b:Bool}:((!b)=true)=(b=false):=by cases b<;>simp
theorem nM{b:Bool}:((!b)=false)=(b=true):=by cases b<;>simp
end Go.Abs
