/- Part 4 of the proof of TopSchedule. -/
import Derived.Test.YtogagakgmbkonaaGreatS3
import Derived.Test.YtogagakgmbkonaaGreatRows
set_option linter.all false
set_option maxRecDepth 100000
set_option maxHeartbeats 4000000
namespace Go.Proofs.YtogagakgmbkonaaGreat
open Go Go.Abs Go.RowKit
def avu:Nat→List Nat:=fun f=>match f with|9=>[29]|17=>[5]|_=>[]
def avr:Nat→List Nat:=fun f=>match f with|5=>[5,24]|7=>[5]|8=>[11]|10=>[5]|32=>[5,14]|47=>[11]|64=>[9,10,20]|67=>[12]|100=>[5]|124=>[5]|_=>[]
def wA(g:Nat):Bool:=g == 17 || g == 22 || g == 25 || g == 26 || g == 30 || g == 51 || g == 52 || g == 58 || g == 59 || g == 88
def yp(f t:Nat):Bool:=false && f == t
def E3(g f t:Nat):Bool:=(f == 12 && t == 123) || false
def avq:List (Nat × Nat):=[]
def avt:Nat→Nat→Option (List Nat):=fun f b=>match f,b with
 | 5,0=>some [1,2,3,4,5,6]
 | 5,2=>some [1,2,3,4,5,7]
 | 5,4=>some [1,2,3,4,5,8]
 | 5,6=>some [1,2,3,4,5,9]
 | 5,8=>some [1,2,3,5,10]
 | 7,0=>some [1,2,5,6]
 | 8,0=>some [3,4,6,11,35,36,37]
 | 10,0=>some [1,2,5,6]
 | 11,0=>some [1,2,24,25,26]
 | 11,2=>some [1,2,37,38,39]
 | 11,4=>some [1,2,9,10,37,38,39,47,48,49]
 | 12,0=>some [2,3,4,5,8,9,13,14,57,58]
 | 12,2=>some [5,13,16]
 | 12,4=>some [5,13,16,17,18,19]
 | 12,6=>some [5,14,20,111,112]
 | 14,0=>some [2,3,5,6,9,10,11,12,43,44,45]
 | 14,2=>some [2,3,5,6,9,10,11,19,70,71,72]
 | 14,4=>some [6,9,10,11,19]
 | 14,6=>some [6,9,10,11,19,22,23]
 | 17,0=>some [2,3,5,8,9,10,11]
 | 19,0=>some [2,3,4,6,8,9]
 | 19,2=>some [3,4,6,8,10,11,12]
 | 20,0=>some [1,2,19,20,21]
 | 20,2=>some [8,31,32,33]
 | 22,0=>some [0,5,6,7,9,40,41]
 | 22,2=>some [0,5,6,7,9,10,40,41,55,56,57]
 | 23,0=>some [0,3,5,32,33,34]
 | 23,2=>some [0,3,50]
 | 23,4=>some [0,3,10,50,55,56,57]
 | 23,6=>some [0,81,82,83]
 | 24,0=>some [1,21,22,23]
 | 24,2=>some [1,43,44,45]
 | 26,0=>some [0,1,5,6,44,45]
 | 28,0=>some [5,7,9,10]
 | 30,0=>some [0,1,3,4,9,10]
 | 32,0=>some [1,4,5,6,15,16,17]
 | 33,0=>some [1,2,5,23,24,25]
 | 33,2=>some [1,2,5,23,24,25,49,50,51]
 | 33,4=>some [68,69,70]
 | 34,0=>some [1,5,6,7,8,18]
 | 34,2=>some [1,5,6,7]
 | 34,4=>some [1,5,6,7,10,11,57,58,59]
 | 35,0=>some [1,3,17,18,19]
 | 39,0=>some [1,2,3,7]
 | 42,0=>some [1,2,3,7]
 | 42,2=>some [1,2,3,7,8]
 | 43,1=>some [2,3,5]
 | 44,0=>some [1,3,37,38,39]
 | 44,2=>some [1,3,59,60,61]
 | 45,0=>some [17,18,19]
 | 47,0=>some [11]
 | 49,0=>some [4,5,11]
 | 50,0=>some [4,10,11,12]
 | 51,0=>some [0,1,2,8,9]
 | 56,0=>some [0,2,3,4,6,15,16,17]
 | 56,2=>some [0,2,3,4,6,8,9,15,16,17,32,33]
 | 56,4=>some [0,2,3,4,6,8,9,15,16,17,32,33,44,45,46]
 | 57,0=>some [1,2,3,7,8,24,25,26]
 | 60,0=>some [0,1,6,7,9]
 | 64,0=>some [2,3,7,8,9]
 | 64,2=>some [2,3,8,9,10,11,12]
 | 65,0=>some [1,2,5]
 | 65,2=>some [1,2,6,7]
 | 66,0=>some [0,1,5]
 | 67,0=>some [1,2,5,6]
 | 70,0=>some [3,14,15]
 | 70,2=>some [3,4,14,15,18,19]
 | 72,0=>some [3,5,7,17,18]
 | 72,2=>some [3,5,7,17,18,21,22,23]
 | 81,0=>some [0,1,6,7,8]
 | 87,0=>some [5,17,18,19]
 | 89,0=>some [0,1,2,3,10,11,12]
 | 89,2=>some [0,1,2,3,5,6,10,11,12,22,23,24]
 | 98,0=>some [2,3,7,8,9,19,20]
 | 100,0=>some [1,2,5,6]
 | 101,0=>some [0,1,5]
 | 106,0=>some [4,15,16,17]
 | 108,0=>some [0,1,7,8]
 | 113,0=>some [2,5,6,7]
 | 114,0=>some [1,9,10,11]
 | 114,2=>some [1,6,9,10,11,15,16,17]
 | 115,0=>some [9,24,25,26]
 | 116,0=>some [0,1,3,4,6,14,15,16]
 | 117,0=>some [9,10,11]
 | 118,0=>some [0,5,8,9,10]
 | 124,0=>some [5]
 | 126,0=>some [0,1]
 | 129,0=>some [0,2,8,9,10]
 | 130,0=>some [0,1,7,8]
 | _,_=>none
def avp:Nat→Nat→List (Nat × Nat):=fun f r=>match f,r with
 | 3,25=>[(0,11),(1,11),(4,11),(7,11)]
 | 4,2=>[(0,2),(1,2),(0,3),(1,3),(0,4),(1,4),(0,9),(1,9),(2,9),(3,9),(5,9)]
 | 4,4=>[(0,2),(1,2),(0,3),(1,3),(0,4),(1,4),(0,9),(1,9),(2,9),(3,9),(5,9)]
 | 4,6=>[(0,2),(1,2),(0,3),(1,3),(0,4),(1,4)]
 | 5,15=>[(0,9),(1,9)]
 | 5,22=>[(0,10),(1,10)]
 | 7,5=>[(3,12),(4,12),(6,12),(8,12)]
 | 9,12=>[(3,4)]
 | 12,16=>[(0,3)]
 | 17,2=>[(5,9),(3,14),(5,14),(9,14),(11,14)]
 | 19,9=>[(5,6),(5,9),(5,12),(5,15),(13,15),(1,19),(4,19),(5,19),(6,19),(9,19),(12,19),(13,19),(15,19),(1,21),(4,21),(5,21),(6,21),(9,21),(12,21),(13,21),(15,21)]
 | 19,19=>[(10,12)]
 | 19,21=>[(0,3)]
 | 22,2=>[(5,8)]
 | 22,14=>[(4,6)]
 | 22,15=>[(5,14)]
 | 23,8=>[(2,8),(5,8),(6,8),(2,9)]
 | 28,6=>[(3,4),(3,5),(3,6)]
 | 39,5=>[(10,15),(21,29)]
 | 42,9=>[(2,3),(11,12)]
 | 43,17=>[(9,11),(22,24)]
 | 52,5=>[(3,7),(3,8)]
 | 65,14=>[(23,27)]
 | 72,9=>[(5,7)]
 | 97,5=>[(2,9),(6,9)]
 | 110,4=>[(5,9),(8,9)]
 | 116,6=>[(7,11)]
 | 116,8=>[(2,12),(4,12),(9,12)]
 | 119,2=>[(4,7)]
 | _,_=>[]
def Ak(f:Nat):Bool:=false && f == f
def avs(f b:Nat):Bool:=(f == 26 && b == 0) || (f == 23 && b == 0) || (f == 12 && b == 0) || false
def E4(g:Nat):Bool:=g == 51 || g == 88 || false
def avv(f:Nat):Bool:=f == 26 || f == 9 || false
def pol:c4:={ IL:=fun f t=>(avu f).contains t,grow:=fun f t=>(avr f).contains t,inl:=fun f g d=>wA f || yp g d,dV:=fun g d=>avq.contains (g,d),fresh:=E3,live:=avt,fj:=avp,gK:=fun _=>none,u6:=Ak,M0:=avs,trim:=E4,lq:=avv }
def avN(P:Program)(pol:c4):Bool:=(List.range P.funcs.size).all fun f=>match P.funcs[f]? with
 | some fn=>match fn.body with
  | some c=>codeOk pol n3 f c && fn.name != "runtime.NumGoroutine"
  | none=>true
 | none=>true
theorem avO{P:Program}{pol:c4}(h:avN P pol=true):FV P pol n3:=by
 refine⟨fun f fn c aI af=>?_⟩
 have aB:f<P.funcs.size:=(s6.1 aI).1
 have:=jY.1 h f (by simp[aB])
 simp only[aI,af,fe,bne_iff_ne]at this
 exact this
theorem adP(g f t:Nat)(ad:wA g=false)(ag:yp f t=false):pol.inl g f t=false:=by show(wA g || yp f t)=false;rw[ad,ag];rfl
theorem adR(g f t:Nat)(ad:wA g=true):pol.inl g f t=true:=by show(wA g || yp f t)=true;rw[ad];rfl
theorem adQ(g f t:Nat)(ad:yp f t=true):pol.inl g f t=true:=by show(wA g || yp f t)=true;rw[ad];cases wA g<;>rfl
theorem avF(g f t:Nat)(h:E3 g f t=false):pol.fresh g f t=false:=h
theorem avG(g f t:Nat)(h:E3 g f t=true):pol.fresh g f t=true:=h
theorem avJ(g:Nat)(h:E4 g=false):pol.trim g=false:=h
theorem adS(g:Nat)(h:E4 g=true):pol.trim g=true:=h
theorem adT(g:Nat)(args:List ah)(h:Ak g=false):u7 pol g args=false:=by
 have:pol.u6 g=false:=h
 simp[u7,this]
theorem avH(g:Nat)(h:Ak g=false):pol.u6 g=false:=h
theorem avI(g:Nat)(h:Ak g=true):pol.u6 g=true:=h
theorem sound:Sound Tryz.prog pol:=⟨by kernel_rfl,avO (by kernel_rfl),adV (fun _=>rfl)⟩
theorem laidOut:laidOutB Tryz.prog=true:=by kernel_rfl
theorem own:ownKnob Tryz.prog.godebug=none:=by kernel_rfl
end Go.Proofs.YtogagakgmbkonaaGreat
