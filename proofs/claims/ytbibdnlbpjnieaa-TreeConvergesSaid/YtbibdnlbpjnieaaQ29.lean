/- Part 29 of the proof of TreeConverges. -/
import Derived.Test.YtbibdnlbpjnieaaQ28
set_option linter.all false
set_option maxRecDepth 100000
set_option maxHeartbeats 4000000
namespace Go.Proofs.Ytbibdnlbpjnieaa
open Go Go.Abs
theorem len_lt {n:Nat} (h:n≤maxLen):n < 9223372036854775808:=Nat.lt_of_le_of_lt h (by decide)
theorem u8s_one {x:T} (f:FitE Try.prog 5 x):∃ a,x=U8 a∧(fun a:Int=>0≤a∧a < 256) a:=by
 obtain ⟨n0,rfl,w0⟩:=fit_leaf (l:=.int .u8) (by kernel_rfl) (by kernel_rfl) f
 exact ⟨n0,rfl,wf_u8 w0⟩
theorem u8s {xs:List T} (h:∀ y∈xs,FitE Try.prog 5 y):∃ l,xs=List.map U8 l∧∀ a∈l,(fun a:Int=>0≤a∧a < 256) a:=list_enc' (fun y hy=>u8s_one (h y hy))
theorem ghosts_one {x:T} (f:FitE Try.prog 69 x):∃ a,x=encG a∧(fun g:Gh=>(0≤g.n∧g.n < 256)∧(0≤g.p∧g.p < 256)) a:=by
 obtain ⟨c,rfl,g⟩:=fit_agg (ls:=[.int .u8,.int .u8,.int .i64,.int .i64,.int .i64,.int .i64,.int .i64,.int .i64,.int .i64]) (by kernel_rfl) (by kernel_rfl) f
 obtain ⟨y0,q0,rfl,v0,g⟩:=leafs_cons g
 obtain ⟨y1,q1,rfl,v1,g⟩:=leafs_cons g
 obtain ⟨y2,q2,rfl,v2,g⟩:=leafs_cons g
 obtain ⟨y3,q3,rfl,v3,g⟩:=leafs_cons g
 obtain ⟨y4,q4,rfl,v4,g⟩:=leafs_cons g
 obtain ⟨y5,q5,rfl,v5,g⟩:=leafs_cons g
 obtain ⟨y6,q6,rfl,v6,g⟩:=leafs_cons g
 obtain ⟨y7,q7,rfl,v7,g⟩:=leafs_cons g
 obtain ⟨y8,q8,rfl,v8,g⟩:=leafs_cons g
 obtain rfl:=leafs_nil g
 obtain ⟨n0,rfl,w0⟩:=v0
 obtain ⟨n1,rfl,w1⟩:=v1
 obtain ⟨n2,rfl,w2⟩:=v2
 obtain ⟨n3,rfl,w3⟩:=v3
 obtain ⟨n4,rfl,w4⟩:=v4
 obtain ⟨n5,rfl,w5⟩:=v5
 obtain ⟨n6,rfl,w6⟩:=v6
 obtain ⟨n7,rfl,w7⟩:=v7
 obtain ⟨n8,rfl,w8⟩:=v8
 exact ⟨⟨n0,n1,⟨true,n2,n3,n4,n5,n6,n7,n8⟩⟩,rfl,⟨wf_u8 w0,wf_u8 w1⟩⟩
theorem ghosts {xs:List T} (h:∀ y∈xs,FitE Try.prog 69 y):∃ l,xs=List.map encG l∧∀ a∈l,(fun g:Gh=>(0≤g.n∧g.n < 256)∧(0≤g.p∧g.p < 256)) a:=list_enc' (fun y hy=>ghosts_one (h y hy))
end Go.Proofs.Ytbibdnlbpjnieaa
