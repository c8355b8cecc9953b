/- Part 18 of the proof of PathKnown. -/
import Derived.Test.YtnjaokhdeaeegaaK17
set_option linter.all false
set_option maxRecDepth 100000
set_option maxHeartbeats 4000000
namespace Go.Proofs.Ytnjaokhdeaeegaa
open Go Go.Abs
theorem kn1:pickL (grT meshT) (qB (grT meshT) [0] [1] 8) (routesL (grT meshT) (stA meshT) 3 4)=[]:=by decide +kernel
theorem kn2:pickL (grT meshT) (qB (grT meshT) [] [] 2) (routesL (grT meshT) (stA meshT) 3 4)=[]:=by decide +kernel
theorem kn3:pickL (grT meshT) (qB (grT meshT) [] [] 3) (routesL (grT meshT) (stA meshT) 3 4)=[8,2,11]:=by decide +kernel
theorem kn4:pairR (grT meshT) (routesL (grT meshT) (stA meshT) 2 4)=([],[]):=by decide +kernel
theorem kn5:sepR meshT 2 4=(-1,5,true):=by decide +kernel
theorem kn6:sepR meshT 3 2=(0,0,false):=by decide +kernel
theorem kn7:pickL (grT meshT) (qB (grT meshT) [3,4] [] 8) (routesL (grT meshT) (stA meshT) 3 4)=[8,2,11]:=by decide +kernel
theorem qhP:ans Try.prog pol 9 []=some (B true):=by
 have hok:=q6I
 have e34:endP meshT 3 4:=by decide +kernel
 have e32:endP meshT 3 2:=by decide +kernel
 have e24:endP meshT 2 4:=by decide +kernel
 have e33:¬ endP meshT 3 3:=by decide +kernel
 have kW:=qhO
 have kM:=q6J
 have k1:ans Try.prog pol 12 [tpT true true meshT,I 3,I 4,.agg [.sl true 1 [I 0],.sl true 1 [I 1]],I 8]=some (.tup [nilT,I 4]):=by
  have k:=q0V true true meshT hok 3 4 e34 (q1A (c:=true) (N:=[0])) (q1A (c:=true) (N:=[1])) (by simp) (by simp) 8
  have e:lsA meshT 3 4 [0] [1] 8=.tup [nilT,I 4]:=by
   unfold lsA
   rw [if_pos (by decide +kernel),show (8:Int).toNat=8 from rfl,show List.map Int.toNat [0]=[0] from rfl,show List.map Int.toNat [1]=[1] from rfl,q1B hok 3 4 [0] [1] (show 8≤8 by omega),kn1]; rfl
  rw [e] at k
  exact k
 have k2:ans Try.prog pol 12 [tpT true true meshT,I 3,I 4,.agg [nilT,nilT],I 9]=some (.tup [nilT,I 2]):=by
  have k:=q0V true true meshT hok 3 4 e34 q0I q0I (by simp) (by simp) 9
  have e:lsA meshT 3 4 [] [] 9=.tup [nilT,I 2]:=by
   unfold lsA
   rw [if_neg (by decide +kernel)]
  rw [e] at k
  exact k
 have k3:ans Try.prog pol 12 [tpT true true meshT,I 3,I 4,.agg [nilT,nilT],I 2]=some (.tup [nilT,I 4]):=by
  have k:=q0V true true meshT hok 3 4 e34 q0I q0I (by simp) (by simp) 2
  have e:lsA meshT 3 4 [] [] 2=.tup [nilT,I 4]:=by
   unfold lsA
   rw [if_pos (by decide +kernel),show (2:Int).toNat=2 from rfl,List.map_nil,q1B hok 3 4 [] [] (show 2≤8 by omega),kn2]; rfl
  rw [e] at k
  exact k
 have k4:ans Try.prog pol 12 [tpT true true meshT,I 3,I 4,.agg [nilT,nilT],I 3]=some (.tup [.sl false 1 (ptL [8,2,11]),I 0]):=by
  have k:=q0V true true meshT hok 3 4 e34 q0I q0I (by simp) (by simp) 3
  have e:lsA meshT 3 4 [] [] 3=.tup [rgT [8,2,11],I 0]:=by
   unfold lsA
   rw [if_pos (by decide +kernel),show (3:Int).toNat=3 from rfl,List.map_nil,q1B hok 3 4 [] [] (show 3≤8 by omega),kn3]; rfl
  rw [e] at k
  exact k
 have k5:ans Try.prog pol 12 [tpT true true meshT,I 3,I 4,.agg [.sl true 1 [I 5],nilT],I 8]=some (.tup [nilT,I 2]):=by
  have k:=q0V true true meshT hok 3 4 e34 (q1A (c:=true) (N:=[5])) q0I (by simp) (by simp) 8
  have e:lsA meshT 3 4 [5] [] 8=.tup [nilT,I 2]:=by
   unfold lsA
   rw [if_neg (by decide +kernel)]
  rw [e] at k
  exact k
 have k6:ans Try.prog pol 12 [tpT true true meshT,I 3,I 4,.agg [nilT,.sl true 1 [I 6]],I 8]=some (.tup [nilT,I 2]):=by
  have k:=q0V true true meshT hok 3 4 e34 q0I (q1A (c:=true) (N:=[6])) (by simp) (by simp) 8
  have e:lsA meshT 3 4 [] [6] 8=.tup [nilT,I 2]:=by
   unfold lsA
   rw [if_neg (by decide +kernel)]
  rw [e] at k
  exact k
 have k7:ans Try.prog pol 12 [tpT true true meshT,I 3,I 4,.agg [.sl true 1 [I 3,I 4],nilT],I 8]=some (.tup [.sl false 1 (ptL [8,2,11]),I 0]):=by
  have k:=q0V true true meshT hok 3 4 e34 (q1A (c:=true) (N:=[3,4])) q0I (by simp) (by simp) 8
  have e:lsA meshT 3 4 [3,4] [] 8=.tup [rgT [8,2,11],I 0]:=by
   unfold lsA
   rw [if_pos (by decide +kernel),show (8:Int).toNat=8 from rfl,show List.map Int.toNat [3,4]=[3,4] from rfl,List.map_nil,q1B hok 3 4 [3,4] [] (show 8≤8 by omega),kn7]; rfl
  rw [e] at k
  exact k
 have k8:ans Try.prog pol 12 [tpT true true meshT,I 3,I 3,.agg [nilT,nilT],I 8]=some (.tup [nilT,I 2]):=qhF true true meshT 3 3 q0I q0I 8 hok e33
 have k9:ans Try.prog pol 18 [tpT true true meshT,I 2,I 4]=some (.tup [nilT,nilT,I 4]):=by
  have k:=q3H true true meshT hok 2 4 e24
  rw [kn4] at k
  exact k
 have k10:ans Try.prog pol 24 [tpT true true meshT,I 2,I 4]=some (.tup [.agg [I (-1),I 5],B true,I 0]):=by
  have k:=q3w true true meshT 2 4 hok e24
  rw [kn5] at k
  exact k
 have k11:ans Try.prog pol 24 [tpT true true meshT,I 3,I 2]=some (.tup [.agg [I 0,I 0],B false,I 0]):=by
  have k:=q3w true true meshT 3 2 hok e32
  rw [kn6] at k
  exact k
 have k12:ans Try.prog pol 20 [tpT true true meshT,.sl true 1 [I 0,I 4]]=some (.tup [I 0,I 310]):=by
  have k:=q6H true true true meshT hok [0,4] (by simp)
  have hv:vldB meshT [0,4]=false:=by
   rw [← Bool.not_eq_true,q1X]
   intro k
   exact absurd (k.2.2 1 4 rfl) (by decide +kernel)
  have e:csA meshT [0,4]=.tup [I 0,I 310]:=by
   unfold csA
   rw [hv,if_neg (by simp)]
  rw [e] at k
  exact k
 have q1:ans Try.prog pol 17 [.sl false 1 (ptL [8,2,11]),.sl true 1 [I 8,I 2,I 11]]=some (B true):=q1Y false true [8,2,11] [8,2,11] (by simp)
 have l1:(ptL [8,2,11]).length=3:=rfl
 generalize ptL [8,2,11]=P1 at *
 have tT:∀ t:Tpo,List.take 3 (tpC true true t)=tpC true true t:=fun _=>rfl
 refine q02 10 1 il9_eq (Nat.le_of_ble_eq_true rfl) ?_
 generalize meshT=M at *
 (repeat' first|simp only [il9c,go_sem,kW,kM,k1,k2,k3,k4,k5,k6,k7,k8,k9,k10,k11,k12,q1,l1,tT]|with_reducible refine wX fun _=>?_|((with_reducible refine wY ?_ ?_); rfl)|fail)
end Go.Proofs.Ytnjaokhdeaeegaa
namespace Go.Proofs.Ytnjaokhdeaeegaa
open Go Go.Abs
end Go.Proofs.Ytnjaokhdeaeegaa
namespace Go.Proofs.Ytnjaokhdeaeegaa
open Go Go.Abs
theorem foldC_all {f:Nat→Bool}:∀ (n i:Nat),foldC (ρ:=Bool) (fun k (_:Unit) (_:Unit)=>if f k=true then Ctl.go () else Ctl.out false) (fun _=>true) i (List.replicate n ()) ()=(List.range' i n).all f:=by
 intro n
 induction n with
 | zero=>intro i; rfl
 | succ n ih =>
  intro i
  rw [List.replicate_succ,List.range'_succ,List.all_cons]
  by_cases h:f i=true
  ·rw [q0s (s':=()) (if_pos h),ih,h,Bool.true_and]
  ·rw [q0C (r:=false) (if_neg h)]
   have:f i=false:=by simpa using h
   rw [this,Bool.false_and]
end Go.Proofs.Ytnjaokhdeaeegaa
namespace Go.Proofs.Ytnjaokhdeaeegaa
open Go Go.Abs
end Go.Proofs.Ytnjaokhdeaeegaa
namespace Go.Proofs.Ytnjaokhdeaeegaa
open Go Go.Abs
theorem qhQ {x:T} (f:FitE Try.prog 94 x):∃ a,x=encK a:=by
 obtain ⟨c,rfl,g⟩:=q8u (ls:=[.int .i64,.int .i64,.int .i64,.int .i64]) (by kernel_rfl) (by kernel_rfl) f
 obtain ⟨y0,q0,rfl,v0,g⟩:=q1J g
 obtain ⟨y1,q1,rfl,v1,g⟩:=q1J g
 obtain ⟨y2,q2,rfl,v2,g⟩:=q1J g
 obtain ⟨y3,q3,rfl,v3,g⟩:=q1J g
 obtain rfl:=q52 g
 obtain ⟨n0,rfl,w0⟩:=v0
 obtain ⟨n1,rfl,w1⟩:=v1
 obtain ⟨n2,rfl,w2⟩:=v2
 obtain ⟨n3,rfl,w3⟩:=v3
 exact ⟨⟨n0,n1,n2,n3⟩,rfl⟩
theorem links {xs:List T} (h:∀ y∈xs,FitE Try.prog 94 y):∃ l,xs=List.map encK l:=qdw (fun y hy=>qhQ (h y hy))
end Go.Proofs.Ytnjaokhdeaeegaa
