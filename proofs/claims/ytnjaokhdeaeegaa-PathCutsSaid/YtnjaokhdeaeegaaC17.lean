/- Part 17 of the proof of PathCuts. -/
import Derived.Test.YtnjaokhdeaeegaaC16
set_option linter.all false
set_option maxRecDepth 100000
set_option maxHeartbeats 4000000
namespace Go.Proofs.Ytnjaokhdeaeegaa
open Go Go.Abs
section
variable (c1 c2:Bool) (t:Tpo) (h:okT t=true)
include h
omit h in
theorem qhF (n:Nat) (J:List (Value × Nat)) (J0:Inl) (nn:Nat) (hn:n≤4000000000000000000):∀ (r i j:Nat) (d:Rts) (m k:Nat),j - i≤r→j < n→i≤n→d.size=n→okD t d→m≤n→r < k→∀ (R:Xit→FEnv→Heap→Prop) (e:FEnv),
  (e 0=.ms 0 n 0 n 1 false∧e 8=.t (I (i:Nat))∧e 9=.t (I (j:Nat))) →
  (∀ e m',m'≤n→R (.exit 0) e (hS (Sort.reverseLoop i j d) m' J)) →
  wpIter (J.length+1) (some [0,8,9]) (wc Try.prog pol (ans Try.prog pol) J0 nn 98 il98l0) R k e (hS d m J):=by
 intro r
 induction r with
 | zero =>
  intro i j d m k hr hj hi hd ho hm hk R e hs hR
  obtain ⟨k,rfl⟩:∃ q,k=q+1:=⟨k - 1,by omega⟩
  have d1:decide (((i:Nat):Int) < ((j:Nat):Int))=false:=decide_eq_false (by omega)
  rw [Sort.reverseLoop,if_neg (by omega)] at hR
  rw [q06]
  (repeat' first|simp only [il98l0_go,il98l0b,go_sem,hs,d1]|with_reducible refine wX fun _=>?_|((with_reducible refine wY ?_ ?_); rfl)|fail)
  all_goals exact hR _ m hm
 | succ r ih =>
  intro i j d m k hr hj hi hd ho hm hk R e hs hR
  obtain ⟨k,rfl⟩:∃ q,k=q+1:=⟨k - 1,by omega⟩
  rw [Sort.reverseLoop] at hR
  rw [q06]
  by_cases hij:i < j
  ·have d1:decide (((i:Nat):Int) < ((j:Nat):Int))=true:=decide_eq_true (by omega)
   have w1:IntKind.i64.wrap (((i:Nat):Int)+1)=((i+1:Nat):Int):=q00 (by omega) (by omega)
   have w2:IntKind.i64.wrap (((j:Nat):Int) - 1)=((j - 1:Nat):Int):=by rw [q00 (by omega) (by omega)]; omega
   have hin:i < n:=by omega
   have sf:=q0u hd hin hj
   rw [if_pos hij] at hR
   rw [hS_eq]
   (repeat' first|simp only [il98l0_go,il98l0b,go_sem,hs,d1,w1,w2,sf,hm,hin,hj,q0p,q07]|with_reducible refine wX fun _=>?_|((with_reducible refine wY ?_ ?_); rfl)|fail)
   all_goals (rw [q0q]; refine ih (i+1) (j - 1) (Sort.swp d i j) n k (by omega) (by omega) (by omega) (by rw [q0n]; exact hd) (q0s ho (by omega) (by omega)) (Nat.le_refl n) (by omega) R _ ?_ hR; simp only [go_sem,hs,w1,w2])
  ·have d1:decide (((i:Nat):Int) < ((j:Nat):Int))=false:=decide_eq_false (by omega)
   rw [if_neg hij] at hR
   (repeat' first|simp only [il98l0_go,il98l0b,go_sem,hs,d1]|with_reducible refine wX fun _=>?_|((with_reducible refine wY ?_ ?_); rfl)|fail)
   all_goals exact hR _ m hm
omit h in
theorem q3O (n a b:Nat) (J:List (Value × Nat)) (nn dd:Nat) (hn:n≤4000000000000000000) (hnn:n < nn) (hab:a < b) (hb:b≤n) (d:Rts) (m:Nat) (hd:d.size=n) (ho:okD t d) (hm:m≤n) (Q:AV→Heap→Prop)
  (hQ:∀ m',m'≤n→Q (.t (.tup [])) (hS (Sort.reverseRange d a b) m' J)) :
  oB (inl Try.prog pol (ans Try.prog pol) nn (dd+1) (.fn 98) [.ms 0 n 0 n 1 false,.t (I (a:Nat)),.t (I (b:Nat)),.t (cmF c1 c2 t)] (hS d m J)) Q:=by
 have w1:IntKind.i64.wrap (((b:Nat):Int) - 1)=((b - 1:Nat):Int):=by rw [q00 (by omega) (by omega)]; omega
 with_reducible refine q0e il98_eq ?_ ?_
 ·exact Nat.le_of_ble_eq_true rfl
 (repeat' first|simp only [il98c,go_sem,w1,q01]|with_reducible refine wX fun _=>?_|((with_reducible refine wY ?_ ?_); rfl)|fail)
 refine qhF t n J _ nn hn (b - 1 - a) a (b - 1) d m nn (by omega) (by omega) (by omega) hd ho hm (by omega) _ _ (by simp only [go_sem]) ?_
 intro e m1 hm1
 (repeat' first|simp only [il98c,go_sem,q01]|with_reducible refine wX fun _=>?_|((with_reducible refine wY ?_ ?_); rfl)|fail)
 all_goals exact hQ m1 hm1
theorem qhG (n a:Nat) (J:List (Value × Nat)) (J0:Inl) (nn:Nat) (hn:n≤4000000000000000000) (ha:a < n) (d:Rts) (hd:d.size=n) (ho:okD t d) (m:Nat) (hm:m≤n) (j:Nat) (hj:j < n):∀ (r i k:Nat),j+1 - i≤r→i≤n→r < k→∀ (R:Xit→FEnv→Heap→Prop) (e:FEnv),
  (e 0=.ms 0 n 0 n 1 false∧e 1=.t (I (a:Nat))∧e 4=.t (cmF c1 c2 t)∧e 12=.t (I (i:Nat))∧e 13=.t (I (j:Nat))) →
  (∀ e,(e 0=.ms 0 n 0 n 1 false∧e 1=.t (I (a:Nat))∧e 4=.t (cmF c1 c2 t)∧e 12=.t (I (Sort.scanUp (fun x=>ltR t x d[a]!) d j i:Nat))∧e 13=.t (I (j:Nat)))→R (.exit 0) e (hS d m J)) →
  wpIter (J.length+1) (some [0,1,4,12,13]) (wc Try.prog pol (ans Try.prog pol) J0 nn 101 il101l0) R k e (hS d m J):=by
 have ga:=q05 (d:=d) (i:=a) (by omega)
 have gl:=q0j d
 rw [hd] at gl
 intro r
 induction r with
 | zero =>
  intro i k hr hi hk R e hs hR
  obtain ⟨k,rfl⟩:∃ q,k=q+1:=⟨k - 1,by omega⟩
  have d1:decide (((i:Nat):Int)≤((j:Nat):Int))=false:=decide_eq_false (by omega)
  rw [Sort.scanUp,if_neg (by simp; omega)] at hR
  rw [q06]
  (repeat' first|simp only [il101l0_go,il101l0b,go_sem,hs,d1]|with_reducible refine wX fun _=>?_|((with_reducible refine wY ?_ ?_); rfl)|fail)
  all_goals (refine hR _ ?_; simp only [go_sem,hs])
 | succ r ih =>
  intro i k hr hi hk R e hs hR
  obtain ⟨k,rfl⟩:∃ q,k=q+1:=⟨k - 1,by omega⟩
  rw [Sort.scanUp] at hR
  rw [q06]
  by_cases hij:i≤j
  ·have d1:decide (((i:Nat):Int)≤((j:Nat):Int))=true:=decide_eq_true (by omega)
   have w1:IntKind.i64.wrap (((i:Nat):Int)+1)=((i+1:Nat):Int):=q00 (by omega) (by omega)
   have hin:i < n:=by omega
   have gi:=q05 (d:=d) (i:=i) (by omega)
   have kc:=q0f c1 c2 t h ho (i:=i) (j:=a) (by omega) (by omega)
   have dl:=@q0d t d[i]! d[a]!
   cases hl:ltR t d[i]! d[a]! with
   | false =>
    rw [hl] at dl hR
    rw [if_neg (by simp)] at hR
    rw [hS_eq]
    (repeat' first|simp only [il101l0_go,il101l0b,go_sem,hs,d1,kc,dl,ga,gi,gl,hm,ha,hin]|with_reducible refine wX fun _=>?_|((with_reducible refine wY ?_ ?_); rfl)|fail)
    all_goals (refine hR _ ?_; simp only [go_sem,hs])
   | true =>
    rw [hl] at dl hR
    rw [if_pos (by simp [hij])] at hR
    rw [hS_eq]
    (repeat' first|simp only [il101l0_go,il101l0b,go_sem,hs,d1,w1,kc,dl,ga,gi,gl,hm,ha,hin,q07]|with_reducible refine wX fun _=>?_|((with_reducible refine wY ?_ ?_); rfl)|fail)
    all_goals (rw [← hS_eq]; refine ih (i+1) k (by omega) (by omega) (by omega) R _ ?_ hR; simp only [go_sem,hs,w1])
  ·have d1:decide (((i:Nat):Int)≤((j:Nat):Int))=false:=decide_eq_false (by omega)
   rw [if_neg (by simp [hij])] at hR
   (repeat' first|simp only [il101l0_go,il101l0b,go_sem,hs,d1]|with_reducible refine wX fun _=>?_|((with_reducible refine wY ?_ ?_); rfl)|fail)
   all_goals (refine hR _ ?_; simp only [go_sem,hs])
theorem qhH (n a:Nat) (J:List (Value × Nat)) (J0:Inl) (nn:Nat) (hn:n≤4000000000000000000) (ha:a < n) (d:Rts) (hd:d.size=n) (ho:okD t d) (m:Nat) (hm:m≤n) (i:Nat) (hi:1≤i) (hi2:i≤n):∀ (j k:Nat),j < n→j < k→∀ (R:Xit→FEnv→Heap→Prop) (e:FEnv),
  (e 0=.ms 0 n 0 n 1 false∧e 1=.t (I (a:Nat))∧e 4=.t (cmF c1 c2 t)∧e 12=.t (I (i:Nat))∧e 13=.t (I (j:Nat))) →
  (∀ e,(e 0=.ms 0 n 0 n 1 false∧e 1=.t (I (a:Nat))∧e 4=.t (cmF c1 c2 t)∧e 12=.t (I (i:Nat))∧e 13=.t (I (Sort.scanDown (fun x=>!ltR t x d[a]!) d i j:Nat)))→R (.exit 2) e (hS d m J)) →
  wpIter (J.length+1) (some [0,1,4,12,13]) (wc Try.prog pol (ans Try.prog pol) J0 nn 101 il101l1) R k e (hS d m J):=by
 have ga:=q05 (d:=d) (i:=a) (by omega)
 have gl:=q0j d
 rw [hd] at gl
 intro j
 induction j with
 | zero =>
  intro k hj hk R e hs hR
  obtain ⟨k,rfl⟩:∃ q,k=q+1:=⟨k - 1,by omega⟩
  have d1:decide (((i:Nat):Int)≤0)=false:=decide_eq_false (by omega)
  rw [Sort.scanDown] at hR
  rw [q06]
  (repeat' first|simp only [il101l1_go,il101l1b,go_sem,hs,d1]|with_reducible refine wX fun _=>?_|((with_reducible refine wY ?_ ?_); rfl)|fail)
  all_goals (refine hR _ ?_; simp only [go_sem,hs])
 | succ j ih =>
  intro k hj hk R e hs hR
  obtain ⟨k,rfl⟩:∃ q,k=q+1:=⟨k - 1,by omega⟩
  rw [Sort.scanDown] at hR
  rw [q06]
  by_cases hij:i≤j+1
  ·have d1:decide (((i:Nat):Int)≤((j+1:Nat):Int))=true:=decide_eq_true (by omega)
   have w1:IntKind.i64.wrap (((j+1:Nat):Int) - 1)=((j:Nat):Int):=by rw [q00 (by omega) (by omega)]; omega
   have gi:=q05 (d:=d) (i:=j+1) (by omega)
   have kc:=q0f c1 c2 t h ho (i:=j+1) (j:=a) (by omega) (by omega)
   have dl:=@q0d t d[j+1]! d[a]!
   cases hl:ltR t d[j+1]! d[a]! with
   | true =>
    rw [hl] at dl hR
    rw [if_neg (by simp)] at hR
    rw [hS_eq]
    (repeat' first|simp only [il101l1_go,il101l1b,go_sem,hs,d1,kc,dl,ga,gi,gl,hm,ha,hj]|with_reducible refine wX fun _=>?_|((with_reducible refine wY ?_ ?_); rfl)|fail)
    all_goals (refine hR _ ?_; simp only [go_sem,hs])
   | false =>
    rw [hl] at dl hR
    rw [if_pos (by simp [hij])] at hR
    rw [hS_eq]
    (repeat' first|simp only [il101l1_go,il101l1b,go_sem,hs,d1,w1,kc,dl,ga,gi,gl,hm,ha,hj,q07]|with_reducible refine wX fun _=>?_|((with_reducible refine wY ?_ ?_); rfl)|fail)
    all_goals (rw [← hS_eq]; refine ih k (by omega) (by omega) R _ ?_ hR; simp only [go_sem,hs,w1])
  ·have d1:decide (((i:Nat):Int)≤((j+1:Nat):Int))=false:=decide_eq_false (by omega)
   rw [if_neg (by simp [hij])] at hR
   (repeat' first|simp only [il101l1_go,il101l1b,go_sem,hs,d1]|with_reducible refine wX fun _=>?_|((with_reducible refine wY ?_ ?_); rfl)|fail)
   all_goals (refine hR _ ?_; simp only [go_sem,hs])
theorem q6U (n a:Nat) (J:List (Value × Nat)) (J0:Inl) (nn:Nat) (hn:n≤4000000000000000000) (ha:a < n) (d:Rts) (hd:d.size=n) (ho:okD t d) (m:Nat) (hm:m≤n) (j:Nat) (hj:j < n):∀ (r i k:Nat),j+1 - i≤r→i≤n→r < k→∀ (R:Xit→FEnv→Heap→Prop) (e:FEnv),
  (e 0=.ms 0 n 0 n 1 false∧e 1=.t (I (a:Nat))∧e 4=.t (cmF c1 c2 t)∧e 12=.t (I (i:Nat))∧e 13=.t (I (j:Nat))) →
  (∀ e,(e 0=.ms 0 n 0 n 1 false∧e 1=.t (I (a:Nat))∧e 4=.t (cmF c1 c2 t)∧e 12=.t (I (Sort.scanUp (fun x=>ltR t x d[a]!) d j i:Nat))∧e 13=.t (I (j:Nat)))→R (.exit 6) e (hS d m J)) →
  wpIter (J.length+1) (some [0,1,4,12,13]) (wc Try.prog pol (ans Try.prog pol) J0 nn 101 il101l2) R k e (hS d m J):=by
 have ga:=q05 (d:=d) (i:=a) (by omega)
 have gl:=q0j d
 rw [hd] at gl
 intro r
 induction r with
 | zero =>
  intro i k hr hi hk R e hs hR
  obtain ⟨k,rfl⟩:∃ q,k=q+1:=⟨k - 1,by omega⟩
  have d1:decide (((i:Nat):Int)≤((j:Nat):Int))=false:=decide_eq_false (by omega)
  rw [Sort.scanUp,if_neg (by simp; omega)] at hR
  rw [q06]
  (repeat' first|simp only [il101l2_go,il101l2b,go_sem,hs,d1]|with_reducible refine wX fun _=>?_|((with_reducible refine wY ?_ ?_); rfl)|fail)
  all_goals (refine hR _ ?_; simp only [go_sem,hs])
 | succ r ih =>
  intro i k hr hi hk R e hs hR
  obtain ⟨k,rfl⟩:∃ q,k=q+1:=⟨k - 1,by omega⟩
  rw [Sort.scanUp] at hR
  rw [q06]
  by_cases hij:i≤j
  ·have d1:decide (((i:Nat):Int)≤((j:Nat):Int))=true:=decide_eq_true (by omega)
   have w1:IntKind.i64.wrap (((i:Nat):Int)+1)=((i+1:Nat):Int):=q00 (by omega) (by omega)
   have hin:i < n:=by omega
   have gi:=q05 (d:=d) (i:=i) (by omega)
   have kc:=q0f c1 c2 t h ho (i:=i) (j:=a) (by omega) (by omega)
   have dl:=@q0d t d[i]! d[a]!
   cases hl:ltR t d[i]! d[a]! with
   | false =>
    rw [hl] at dl hR
    rw [if_neg (by simp)] at hR
    rw [hS_eq]
    (repeat' first|simp only [il101l2_go,il101l2b,go_sem,hs,d1,kc,dl,ga,gi,gl,hm,ha,hin]|with_reducible refine wX fun _=>?_|((with_reducible refine wY ?_ ?_); rfl)|fail)
    all_goals (refine hR _ ?_; simp only [go_sem,hs])
   | true =>
    rw [hl] at dl hR
    rw [if_pos (by simp [hij])] at hR
    rw [hS_eq]
    (repeat' first|simp only [il101l2_go,il101l2b,go_sem,hs,d1,w1,kc,dl,ga,gi,gl,hm,ha,hin,q07]|with_reducible refine wX fun _=>?_|((with_reducible refine wY ?_ ?_); rfl)|fail)
    all_goals (rw [← hS_eq]; refine ih (i+1) k (by omega) (by omega) (by omega) R _ ?_ hR; simp only [go_sem,hs,w1])
  ·have d1:decide (((i:Nat):Int)≤((j:Nat):Int))=false:=decide_eq_false (by omega)
   rw [if_neg (by simp [hij])] at hR
   (repeat' first|simp only [il101l2_go,il101l2b,go_sem,hs,d1]|with_reducible refine wX fun _=>?_|((with_reducible refine wY ?_ ?_); rfl)|fail)
   all_goals (refine hR _ ?_; simp only [go_sem,hs])
theorem q6V (n a:Nat) (J:List (Value × Nat)) (J0:Inl) (nn:Nat) (hn:n≤4000000000000000000) (ha:a < n) (d:Rts) (hd:d.size=n) (ho:okD t d) (m:Nat) (hm:m≤n) (i:Nat) (hi:1≤i) (hi2:i≤n):∀ (j k:Nat),j < n→j < k→∀ (R:Xit→FEnv→Heap→Prop) (e:FEnv),
  (e 0=.ms 0 n 0 n 1 false∧e 1=.t (I (a:Nat))∧e 4=.t (cmF c1 c2 t)∧e 12=.t (I (i:Nat))∧e 13=.t (I (j:Nat))) →
  (∀ e,(e 0=.ms 0 n 0 n 1 false∧e 1=.t (I (a:Nat))∧e 4=.t (cmF c1 c2 t)∧e 12=.t (I (i:Nat))∧e 13=.t (I (Sort.scanDown (fun x=>!ltR t x d[a]!) d i j:Nat)))→R (.exit 8) e (hS d m J)) →
  wpIter (J.length+1) (some [0,1,4,12,13]) (wc Try.prog pol (ans Try.prog pol) J0 nn 101 il101l3) R k e (hS d m J):=by
 have ga:=q05 (d:=d) (i:=a) (by omega)
 have gl:=q0j d
 rw [hd] at gl
 intro j
 induction j with
 | zero =>
  intro k hj hk R e hs hR
  obtain ⟨k,rfl⟩:∃ q,k=q+1:=⟨k - 1,by omega⟩
  have d1:decide (((i:Nat):Int)≤0)=false:=decide_eq_false (by omega)
  rw [Sort.scanDown] at hR
  rw [q06]
  (repeat' first|simp only [il101l3_go,il101l3b,go_sem,hs,d1]|with_reducible refine wX fun _=>?_|((with_reducible refine wY ?_ ?_); rfl)|fail)
  all_goals (refine hR _ ?_; simp only [go_sem,hs])
 | succ j ih =>
  intro k hj hk R e hs hR
  obtain ⟨k,rfl⟩:∃ q,k=q+1:=⟨k - 1,by omega⟩
  rw [Sort.scanDown] at hR
  rw [q06]
  by_cases hij:i≤j+1
  ·have d1:decide (((i:Nat):Int)≤((j+1:Nat):Int))=true:=decide_eq_true (by omega)
   have w1:IntKind.i64.wrap (((j+1:Nat):Int) - 1)=((j:Nat):Int):=by rw [q00 (by omega) (by omega)]; omega
   have gi:=q05 (d:=d) (i:=j+1) (by omega)
   have kc:=q0f c1 c2 t h ho (i:=j+1) (j:=a) (by omega) (by omega)
   have dl:=@q0d t d[j+1]! d[a]!
   cases hl:ltR t d[j+1]! d[a]! with
   | true =>
    rw [hl] at dl hR
    rw [if_neg (by simp)] at hR
    rw [hS_eq]
    (repeat' first|simp only [il101l3_go,il101l3b,go_sem,hs,d1,kc,dl,ga,gi,gl,hm,ha,hj]|with_reducible refine wX fun _=>?_|((with_reducible refine wY ?_ ?_); rfl)|fail)
    all_goals (refine hR _ ?_; simp only [go_sem,hs])
   | false =>
    rw [hl] at dl hR
    rw [if_pos (by simp [hij])] at hR
    rw [hS_eq]
    (repeat' first|simp only [il101l3_go,il101l3b,go_sem,hs,d1,w1,kc,dl,ga,gi,gl,hm,ha,hj,q07]|with_reducible refine wX fun _=>?_|((with_reducible refine wY ?_ ?_); rfl)|fail)
    all_goals (rw [← hS_eq]; refine ih k (by omega) (by omega) R _ ?_ hR; simp only [go_sem,hs,w1])
  ·have d1:decide (((i:Nat):Int)≤((j+1:Nat):Int))=false:=decide_eq_false (by omega)
   rw [if_neg (by simp [hij])] at hR
   (repeat' first|simp only [il101l3_go,il101l3b,go_sem,hs,d1]|with_reducible refine wX fun _=>?_|((with_reducible refine wY ?_ ?_); rfl)|fail)
   all_goals (refine hR _ ?_; simp only [go_sem,hs])
theorem q6W (n a:Nat) (J:List (Value × Nat)) (J0:Inl) (nn:Nat) (hn:n≤4000000000000000000) (ha:a < n) (d:Rts) (hd:d.size=n) (ho:okD t d) (m:Nat) (hm:m≤n) (j:Nat) (hj:j < n):∀ (r i k:Nat),j+1 - i≤r→i≤n→r < k→∀ (R:Xit→FEnv→Heap→Prop) (e:FEnv),
  (e 0=.ms 0 n 0 n 1 false∧e 1=.t (I (a:Nat))∧e 4=.t (cmF c1 c2 t)∧e 11=.t (I (i:Nat))∧e 12=.t (I (j:Nat))) →
  (∀ e,(e 0=.ms 0 n 0 n 1 false∧e 1=.t (I (a:Nat))∧e 4=.t (cmF c1 c2 t)∧e 11=.t (I (Sort.scanUp (fun x=>!ltR t d[a]! x) d j i:Nat))∧e 12=.t (I (j:Nat)))→R (.exit 2) e (hS d m J)) →
  wpIter (J.length+1) (some [0,1,4,11,12]) (wc Try.prog pol (ans Try.prog pol) J0 nn 100 il100l0) R k e (hS d m J):=by
 have ga:=q05 (d:=d) (i:=a) (by omega)
 have gl:=q0j d
 rw [hd] at gl
 intro r
 induction r with
 | zero =>
  intro i k hr hi hk R e hs hR
  obtain ⟨k,rfl⟩:∃ q,k=q+1:=⟨k - 1,by omega⟩
  have d1:decide (((i:Nat):Int)≤((j:Nat):Int))=false:=decide_eq_false (by omega)
  rw [Sort.scanUp,if_neg (by simp; omega)] at hR
  rw [q06]
  (repeat' first|simp only [il100l0_go,il100l0b,go_sem,hs,d1]|with_reducible refine wX fun _=>?_|((with_reducible refine wY ?_ ?_); rfl)|fail)
  all_goals (refine hR _ ?_; simp only [go_sem,hs])
 | succ r ih =>
  intro i k hr hi hk R e hs hR
  obtain ⟨k,rfl⟩:∃ q,k=q+1:=⟨k - 1,by omega⟩
  rw [Sort.scanUp] at hR
  rw [q06]
  by_cases hij:i≤j
  ·have d1:decide (((i:Nat):Int)≤((j:Nat):Int))=true:=decide_eq_true (by omega)
   have w1:IntKind.i64.wrap (((i:Nat):Int)+1)=((i+1:Nat):Int):=q00 (by omega) (by omega)
   have hin:i < n:=by omega
   have gi:=q05 (d:=d) (i:=i) (by omega)
   have kc:=q0f c1 c2 t h ho (i:=a) (j:=i) (by omega) (by omega)
   have dl:=@q0d t d[a]! d[i]!
   cases hl:ltR t d[a]! d[i]! with
   | true =>
    rw [hl] at dl hR
    rw [if_neg (by simp)] at hR
    rw [hS_eq]
    (repeat' first|simp only [il100l0_go,il100l0b,go_sem,hs,d1,kc,dl,ga,gi,gl,hm,ha,hin]|with_reducible refine wX fun _=>?_|((with_reducible refine wY ?_ ?_); rfl)|fail)
    all_goals (refine hR _ ?_; simp only [go_sem,hs])
   | false =>
    rw [hl] at dl hR
    rw [if_pos (by simp [hij])] at hR
    rw [hS_eq]
    (repeat' first|simp only [il100l0_go,il100l0b,go_sem,hs,d1,w1,kc,dl,ga,gi,gl,hm,ha,hin,q07]|with_reducible refine wX fun _=>?_|((with_reducible refine wY ?_ ?_); rfl)|fail)
    all_goals (rw [← hS_eq]; refine ih (i+1) k (by omega) (by omega) (by omega) R _ ?_ hR; simp only [go_sem,hs,w1])
  ·have d1:decide (((i:Nat):Int)≤((j:Nat):Int))=false:=decide_eq_false (by omega)
   rw [if_neg (by simp [hij])] at hR
   (repeat' first|simp only [il100l0_go,il100l0b,go_sem,hs,d1]|with_reducible refine wX fun _=>?_|((with_reducible refine wY ?_ ?_); rfl)|fail)
   all_goals (refine hR _ ?_; simp only [go_sem,hs])
theorem q6X (n a:Nat) (J:List (Value × Nat)) (J0:Inl) (nn:Nat) (hn:n≤4000000000000000000) (ha:a < n) (d:Rts) (hd:d.size=n) (ho:okD t d) (m:Nat) (hm:m≤n) (i:Nat) (hi:1≤i) (hi2:i≤n):∀ (j k:Nat),j < n→j < k→∀ (R:Xit→FEnv→Heap→Prop) (e:FEnv),
  (e 0=.ms 0 n 0 n 1 false∧e 1=.t (I (a:Nat))∧e 4=.t (cmF c1 c2 t)∧e 11=.t (I (i:Nat))∧e 12=.t (I (j:Nat))) →
  (∀ e,(e 0=.ms 0 n 0 n 1 false∧e 1=.t (I (a:Nat))∧e 4=.t (cmF c1 c2 t)∧e 11=.t (I (i:Nat))∧e 12=.t (I (Sort.scanDown (fun x=>ltR t d[a]! x) d i j:Nat)))→R (.exit 4) e (hS d m J)) →
  wpIter (J.length+1) (some [0,1,4,11,12]) (wc Try.prog pol (ans Try.prog pol) J0 nn 100 il100l1) R k e (hS d m J):=by
 have ga:=q05 (d:=d) (i:=a) (by omega)
 have gl:=q0j d
 rw [hd] at gl
 intro j
 induction j with
 | zero =>
  intro k hj hk R e hs hR
  obtain ⟨k,rfl⟩:∃ q,k=q+1:=⟨k - 1,by omega⟩
  have d1:decide (((i:Nat):Int)≤0)=false:=decide_eq_false (by omega)
  rw [Sort.scanDown] at hR
  rw [q06]
  (repeat' first|simp only [il100l1_go,il100l1b,go_sem,hs,d1]|with_reducible refine wX fun _=>?_|((with_reducible refine wY ?_ ?_); rfl)|fail)
  all_goals (refine hR _ ?_; simp only [go_sem,hs])
 | succ j ih =>
  intro k hj hk R e hs hR
  obtain ⟨k,rfl⟩:∃ q,k=q+1:=⟨k - 1,by omega⟩
  rw [Sort.scanDown] at hR
  rw [q06]
  by_cases hij:i≤j+1
  ·have d1:decide (((i:Nat):Int)≤((j+1:Nat):Int))=true:=decide_eq_true (by omega)
   have w1:IntKind.i64.wrap (((j+1:Nat):Int) - 1)=((j:Nat):Int):=by rw [q00 (by omega) (by omega)]; omega
   have gi:=q05 (d:=d) (i:=j+1) (by omega)
   have kc:=q0f c1 c2 t h ho (i:=a) (j:=j+1) (by omega) (by omega)
   have dl:=@q0d t d[a]! d[j+1]!
   cases hl:ltR t d[a]! d[j+1]! with
   | false =>
    rw [hl] at dl hR
    rw [if_neg (by simp)] at hR
    rw [hS_eq]
    (repeat' first|simp only [il100l1_go,il100l1b,go_sem,hs,d1,kc,dl,ga,gi,gl,hm,ha,hj]|with_reducible refine wX fun _=>?_|((with_reducible refine wY ?_ ?_); rfl)|fail)
    all_goals (refine hR _ ?_; simp only [go_sem,hs])
   | true =>
    rw [hl] at dl hR
    rw [if_pos (by simp [hij])] at hR
    rw [hS_eq]
    (repeat' first|simp only [il100l1_go,il100l1b,go_sem,hs,d1,w1,kc,dl,ga,gi,gl,hm,ha,hj,q07]|with_reducible refine wX fun _=>?_|((with_reducible refine wY ?_ ?_); rfl)|fail)
    all_goals (rw [← hS_eq]; refine ih k (by omega) (by omega) R _ ?_ hR; simp only [go_sem,hs,w1])
  ·have d1:decide (((i:Nat):Int)≤((j+1:Nat):Int))=false:=decide_eq_false (by omega)
   rw [if_neg (by simp [hij])] at hR
   (repeat' first|simp only [il100l1_go,il100l1b,go_sem,hs,d1]|with_reducible refine wX fun _=>?_|((with_reducible refine wY ?_ ?_); rfl)|fail)
   all_goals (refine hR _ ?_; simp only [go_sem,hs])
theorem qhI (n a:Nat) (J:List (Value × Nat)) (J0:Inl) (nn:Nat) (hn:n≤4000000000000000000) (hnn:n < nn) (ha:a < n):∀ (r i j:Nat) (d:Rts) (m k:Nat),j+1 - i≤r→a < i→i≤j+1→j < n→d.size=n→okD t d→m≤n→r < k→∀ (R:Xit→FEnv→Heap→Prop) (e:FEnv),
  (e 0=.ms 0 n 0 n 1 false∧e 1=.t (I (a:Nat))∧e 4=.t (cmF c1 c2 t)∧e 12=.t (I (i:Nat))∧e 13=.t (I (j:Nat))) →
  (∀ e m',m'≤n→(Sort.partLoop (ltR t) a i j d).2.size=n→okD t (Sort.partLoop (ltR t) a i j d).2→(Sort.partLoop (ltR t) a i j d).1≤j+1→(e 0=.ms 0 n 0 n 1 false∧e 1=.t (I (a:Nat))∧e 13=.t (I (((Sort.partLoop (ltR t) a i j d).1:Nat))))→R (.exit 4) e (hS (Sort.partLoop (ltR t) a i j d).2 m' J)) →
  wpIter (J.length+1) (some [0,1,4,12,13]) (wc Try.prog pol (ans Try.prog pol) J0 nn 101 il101l4) R k e (hS d m J):=by
 intro r
 induction r with
 | zero=>
  intro i j d m k hr hai hij hj hd ho hm hk R e hs hR
  obtain ⟨k,rfl⟩:∃ q,k=q+1:=⟨k - 1,by omega⟩
  have u1:=Sort.scanUp_spec (fun x=>ltR t x d[a]!) d j _ i rfl
  rw [Sort.partLoop_eq] at hR
  rw [q06]
  (repeat' first|simp only [il101l4_go,il101l4b,go_sem,hs,q01]|with_reducible refine wX fun _=>?_|((with_reducible refine wY ?_ ?_); rfl)|fail)
  refine q6U c1 c2 t h n a J J0 nn hn ha d hd ho m hm j hj (j+1 - i) i nn (Nat.le_refl _) (by omega) (by omega) _ _ (by simp only [go_sem,hs]) ?_
  intro e1 he1
  have v1:=Sort.scanDown_spec (fun x=>!ltR t x d[a]!) d (Sort.scanUp (fun x=>ltR t x d[a]!) d j i) j
  obtain ⟨u2,u3,_,u5⟩:=u1
  have u3:=u3 hij
  (repeat' first|simp only [il101l4_go,il101l4b,go_sem,he1,q01]|with_reducible refine wX fun _=>?_|((with_reducible refine wY ?_ ?_); rfl)|fail)
  refine q6V c1 c2 t h n a J J0 nn hn ha d hd ho m hm (Sort.scanUp (fun x=>ltR t x d[a]!) d j i) (by omega) (by omega) j nn hj (by omega) _ _ (by simp only [go_sem,he1]) ?_
  intro e2 he2
  obtain ⟨v2,v3,_,v5⟩:=v1
  have v3:=v3 u3
  generalize Sort.scanUp (fun x=>ltR t x d[a]!) d j i=i2 at *
  generalize Sort.scanDown (fun x=>!ltR t x d[a]!) d i2 j=j2 at *
  by_cases hc:i2 > j2
  ·have d1:decide (((j2:Nat):Int) < ((i2:Nat):Int))=true:=decide_eq_true (by omega)
   rw [if_pos hc] at hR
   (repeat' first|simp only [il101l4_go,il101l4b,go_sem,he2,d1,q01]|with_reducible refine wX fun _=>?_|((with_reducible refine wY ?_ ?_); rfl)|fail)
   all_goals (refine hR _ m hm hd ho (by simp only []; omega) ?_; simp only [go_sem,he2])
  ·have d1:decide (((j2:Nat):Int) < ((i2:Nat):Int))=false:=decide_eq_false (by omega)
   rw [if_neg hc] at hR
   exact absurd hc (by omega)
 | succ r ih =>
  intro i j d m k hr hai hij hj hd ho hm hk R e hs hR
  obtain ⟨k,rfl⟩:∃ q,k=q+1:=⟨k - 1,by omega⟩
  have u1:=Sort.scanUp_spec (fun x=>ltR t x d[a]!) d j _ i rfl
  rw [Sort.partLoop_eq] at hR
  rw [q06]
  (repeat' first|simp only [il101l4_go,il101l4b,go_sem,hs,q01]|with_reducible refine wX fun _=>?_|((with_reducible refine wY ?_ ?_); rfl)|fail)
  refine q6U c1 c2 t h n a J J0 nn hn ha d hd ho m hm j hj (j+1 - i) i nn (Nat.le_refl _) (by omega) (by omega) _ _ (by simp only [go_sem,hs]) ?_
  intro e1 he1
  have v1:=Sort.scanDown_spec (fun x=>!ltR t x d[a]!) d (Sort.scanUp (fun x=>ltR t x d[a]!) d j i) j
  obtain ⟨u2,u3,_,u5⟩:=u1
  have u3:=u3 hij
  (repeat' first|simp only [il101l4_go,il101l4b,go_sem,he1,q01]|with_reducible refine wX fun _=>?_|((with_reducible refine wY ?_ ?_); rfl)|fail)
  refine q6V c1 c2 t h n a J J0 nn hn ha d hd ho m hm (Sort.scanUp (fun x=>ltR t x d[a]!) d j i) (by omega) (by omega) j nn hj (by omega) _ _ (by simp only [go_sem,he1]) ?_
  intro e2 he2
  obtain ⟨v2,v3,_,v5⟩:=v1
  have v3:=v3 u3
  generalize Sort.scanUp (fun x=>ltR t x d[a]!) d j i=i2 at *
  generalize Sort.scanDown (fun x=>!ltR t x d[a]!) d i2 j=j2 at *
  by_cases hc:i2 > j2
  ·have d1:decide (((j2:Nat):Int) < ((i2:Nat):Int))=true:=decide_eq_true (by omega)
   rw [if_pos hc] at hR
   (repeat' first|simp only [il101l4_go,il101l4b,go_sem,he2,d1,q01]|with_reducible refine wX fun _=>?_|((with_reducible refine wY ?_ ?_); rfl)|fail)
   all_goals (refine hR _ m hm hd ho (by simp only []; omega) ?_; simp only [go_sem,he2])
  ·have d1:decide (((j2:Nat):Int) < ((i2:Nat):Int))=false:=decide_eq_false (by omega)
   rw [if_neg hc] at hR
   have w1:IntKind.i64.wrap (((i2:Nat):Int)+1)=((i2+1:Nat):Int):=q00 (by omega) (by omega)
   have w2:IntKind.i64.wrap (((j2:Nat):Int) - 1)=((j2 - 1:Nat):Int):=by rw [q00 (by omega) (by omega)]; omega
   have b1:i2 < n:=by omega
   have b2:j2 < n:=by omega
   have hne:i2≠j2:=by
    intro e; subst e
    have k1:=u5 (by omega)
    have k2:=v5 (by omega) (by omega)
    first|(simp [k1] at k2; done)|(simp [k2] at k1; done)
   have sf:=q0u hd b1 b2
   rw [hS_eq]
   (repeat' first|simp only [il101l4_go,il101l4b,go_sem,he2,d1,w1,w2,sf,hm,b1,b2,q0p,q07]|with_reducible refine wX fun _=>?_|((with_reducible refine wY ?_ ?_); rfl)|fail)
   all_goals (rw [q0q]; refine ih (i2+1) (j2 - 1) (Sort.swp d i2 j2) n k (by omega) (by omega) (by omega) (by omega) (by rw [q0n]; exact hd) (q0s ho (by omega) (by omega)) (Nat.le_refl n) (by omega) R _ ?_ (fun e m' q1 q2 q3 q4 q5=>hR e m' q1 q2 q3 (by omega) q5); simp only [go_sem,he2,w1,w2])
theorem qhJ (n a:Nat) (J:List (Value × Nat)) (J0:Inl) (nn:Nat) (hn:n≤4000000000000000000) (hnn:n < nn) (ha:a < n):∀ (r i j:Nat) (d:Rts) (m k:Nat),j+1 - i≤r→a < i→i≤j+1→j < n→d.size=n→okD t d→m≤n→r < k→∀ (R:Xit→FEnv→Heap→Prop) (e:FEnv),
  (e 0=.ms 0 n 0 n 1 false∧e 1=.t (I (a:Nat))∧e 4=.t (cmF c1 c2 t)∧e 11=.t (I (i:Nat))∧e 12=.t (I (j:Nat))) →
  (∀ e m',m'≤n→(Sort.partEqLoop (ltR t) a i j d).2.size=n→okD t (Sort.partEqLoop (ltR t) a i j d).2→(Sort.partEqLoop (ltR t) a i j d).1≤j+1→(e 0=.ms 0 n 0 n 1 false∧e 1=.t (I (a:Nat))∧e 11=.t (I (((Sort.partEqLoop (ltR t) a i j d).1:Nat))))→R (.exit 0) e (hS (Sort.partEqLoop (ltR t) a i j d).2 m' J)) →
  wpIter (J.length+1) (some [0,1,4,11,12]) (wc Try.prog pol (ans Try.prog pol) J0 nn 100 il100l2) R k e (hS d m J):=by
 intro r
 induction r with
 | zero=>
  intro i j d m k hr hai hij hj hd ho hm hk R e hs hR
  obtain ⟨k,rfl⟩:∃ q,k=q+1:=⟨k - 1,by omega⟩
  have u1:=Sort.scanUp_spec (fun x=>!ltR t d[a]! x) d j _ i rfl
  rw [Sort.partEqLoop_eq] at hR
  rw [q06]
  (repeat' first|simp only [il100l2_go,il100l2b,go_sem,hs,q01]|with_reducible refine wX fun _=>?_|((with_reducible refine wY ?_ ?_); rfl)|fail)
  refine q6W c1 c2 t h n a J J0 nn hn ha d hd ho m hm j hj (j+1 - i) i nn (Nat.le_refl _) (by omega) (by omega) _ _ (by simp only [go_sem,hs]) ?_
  intro e1 he1
  have v1:=Sort.scanDown_spec (fun x=>ltR t d[a]! x) d (Sort.scanUp (fun x=>!ltR t d[a]! x) d j i) j
  obtain ⟨u2,u3,_,u5⟩:=u1
  have u3:=u3 hij
  (repeat' first|simp only [il100l2_go,il100l2b,go_sem,he1,q01]|with_reducible refine wX fun _=>?_|((with_reducible refine wY ?_ ?_); rfl)|fail)
  refine q6X c1 c2 t h n a J J0 nn hn ha d hd ho m hm (Sort.scanUp (fun x=>!ltR t d[a]! x) d j i) (by omega) (by omega) j nn hj (by omega) _ _ (by simp only [go_sem,he1]) ?_
  intro e2 he2
  obtain ⟨v2,v3,_,v5⟩:=v1
  have v3:=v3 u3
  generalize Sort.scanUp (fun x=>!ltR t d[a]! x) d j i=i2 at *
  generalize Sort.scanDown (fun x=>ltR t d[a]! x) d i2 j=j2 at *
  by_cases hc:i2 > j2
  ·have d1:decide (((j2:Nat):Int) < ((i2:Nat):Int))=true:=decide_eq_true (by omega)
   rw [if_pos hc] at hR
   (repeat' first|simp only [il100l2_go,il100l2b,go_sem,he2,d1,q01]|with_reducible refine wX fun _=>?_|((with_reducible refine wY ?_ ?_); rfl)|fail)
   all_goals (refine hR _ m hm hd ho (by simp only []; omega) ?_; simp only [go_sem,he2])
  ·have d1:decide (((j2:Nat):Int) < ((i2:Nat):Int))=false:=decide_eq_false (by omega)
   rw [if_neg hc] at hR
   exact absurd hc (by omega)
 | succ r ih =>
  intro i j d m k hr hai hij hj hd ho hm hk R e hs hR
  obtain ⟨k,rfl⟩:∃ q,k=q+1:=⟨k - 1,by omega⟩
  have u1:=Sort.scanUp_spec (fun x=>!ltR t d[a]! x) d j _ i rfl
  rw [Sort.partEqLoop_eq] at hR
  rw [q06]
  (repeat' first|simp only [il100l2_go,il100l2b,go_sem,hs,q01]|with_reducible refine wX fun _=>?_|((with_reducible refine wY ?_ ?_); rfl)|fail)
  refine q6W c1 c2 t h n a J J0 nn hn ha d hd ho m hm j hj (j+1 - i) i nn (Nat.le_refl _) (by omega) (by omega) _ _ (by simp only [go_sem,hs]) ?_
  intro e1 he1
  have v1:=Sort.scanDown_spec (fun x=>ltR t d[a]! x) d (Sort.scanUp (fun x=>!ltR t d[a]! x) d j i) j
  obtain ⟨u2,u3,_,u5⟩:=u1
  have u3:=u3 hij
  (repeat' first|simp only [il100l2_go,il100l2b,go_sem,he1,q01]|with_reducible refine wX fun _=>?_|((with_reducible refine wY ?_ ?_); rfl)|fail)
  refine q6X c1 c2 t h n a J J0 nn hn ha d hd ho m hm (Sort.scanUp (fun x=>!ltR t d[a]! x) d j i) (by omega) (by omega) j nn hj (by omega) _ _ (by simp only [go_sem,he1]) ?_
  intro e2 he2
  obtain ⟨v2,v3,_,v5⟩:=v1
  have v3:=v3 u3
  generalize Sort.scanUp (fun x=>!ltR t d[a]! x) d j i=i2 at *
  generalize Sort.scanDown (fun x=>ltR t d[a]! x) d i2 j=j2 at *
  by_cases hc:i2 > j2
  ·have d1:decide (((j2:Nat):Int) < ((i2:Nat):Int))=true:=decide_eq_true (by omega)
   rw [if_pos hc] at hR
   (repeat' first|simp only [il100l2_go,il100l2b,go_sem,he2,d1,q01]|with_reducible refine wX fun _=>?_|((with_reducible refine wY ?_ ?_); rfl)|fail)
   all_goals (refine hR _ m hm hd ho (by simp only []; omega) ?_; simp only [go_sem,he2])
  ·have d1:decide (((j2:Nat):Int) < ((i2:Nat):Int))=false:=decide_eq_false (by omega)
   rw [if_neg hc] at hR
   have w1:IntKind.i64.wrap (((i2:Nat):Int)+1)=((i2+1:Nat):Int):=q00 (by omega) (by omega)
   have w2:IntKind.i64.wrap (((j2:Nat):Int) - 1)=((j2 - 1:Nat):Int):=by rw [q00 (by omega) (by omega)]; omega
   have b1:i2 < n:=by omega
   have b2:j2 < n:=by omega
   have hne:i2≠j2:=by
    intro e; subst e
    have k1:=u5 (by omega)
    have k2:=v5 (by omega) (by omega)
    first|(simp [k1] at k2; done)|(simp [k2] at k1; done)
   have sf:=q0u hd b1 b2
   rw [hS_eq]
   (repeat' first|simp only [il100l2_go,il100l2b,go_sem,he2,d1,w1,w2,sf,hm,b1,b2,q0p,q07]|with_reducible refine wX fun _=>?_|((with_reducible refine wY ?_ ?_); rfl)|fail)
   all_goals (rw [q0q]; refine ih (i2+1) (j2 - 1) (Sort.swp d i2 j2) n k (by omega) (by omega) (by omega) (by omega) (by rw [q0n]; exact hd) (q0s ho (by omega) (by omega)) (Nat.le_refl n) (by omega) R _ ?_ (fun e m' q1 q2 q3 q4 q5=>hR e m' q1 q2 q3 (by omega) q5); simp only [go_sem,he2,w1,w2])
theorem q0H (n a b p:Nat) (J:List (Value × Nat)) (nn dd:Nat) (hn:n≤4000000000000000000) (hnn:n < nn) (hap:a≤p) (hpb:p < b) (hb:b≤n) (d:Rts) (m:Nat) (hd:d.size=n) (ho:okD t d) (hm:m≤n) (Q:AV→Heap→Prop)
  (hQ:∀ m',m'≤n→Q (.t (.tup [I ((Sort.partition (ltR t) d a b p).1:Nat),B (Sort.partition (ltR t) d a b p).2.1])) (hS (Sort.partition (ltR t) d a b p).2.2 m' J)) :
  oB (inl Try.prog pol (ans Try.prog pol) nn (dd+1) (.fn 101) [.ms 0 n 0 n 1 false,.t (I (a:Nat)),.t (I (b:Nat)),.t (I (p:Nat)),.t (cmF c1 c2 t)] (hS d m J)) Q:=by
 have w1:IntKind.i64.wrap (((a:Nat):Int)+1)=((a+1:Nat):Int):=q00 (by omega) (by omega)
 have w2:IntKind.i64.wrap (((b:Nat):Int) - 1)=((b - 1:Nat):Int):=by rw [q00 (by omega) (by omega)]; omega
 have ha:a < n:=by omega
 have hp:p < n:=by omega
 have sf:=q0u hd ha hp
 have hpe:Sort.partition (ltR t) d a b p=if Sort.scanUp (fun x=>ltR t x (Sort.swp d a p)[a]!) (Sort.swp d a p) (b - 1) (a+1) > Sort.scanDown (fun x=>!ltR t x (Sort.swp d a p)[a]!) (Sort.swp d a p) (Sort.scanUp (fun x=>ltR t x (Sort.swp d a p)[a]!) (Sort.swp d a p) (b - 1) (a+1)) (b - 1)
   then (Sort.scanDown (fun x=>!ltR t x (Sort.swp d a p)[a]!) (Sort.swp d a p) (Sort.scanUp (fun x=>ltR t x (Sort.swp d a p)[a]!) (Sort.swp d a p) (b - 1) (a+1)) (b - 1),true,Sort.swp (Sort.swp d a p) (Sort.scanDown (fun x=>!ltR t x (Sort.swp d a p)[a]!) (Sort.swp d a p) (Sort.scanUp (fun x=>ltR t x (Sort.swp d a p)[a]!) (Sort.swp d a p) (b - 1) (a+1)) (b - 1)) a)
   else ((Sort.partLoop (ltR t) a (Sort.scanUp (fun x=>ltR t x (Sort.swp d a p)[a]!) (Sort.swp d a p) (b - 1) (a+1)+1) (Sort.scanDown (fun x=>!ltR t x (Sort.swp d a p)[a]!) (Sort.swp d a p) (Sort.scanUp (fun x=>ltR t x (Sort.swp d a p)[a]!) (Sort.swp d a p) (b - 1) (a+1)) (b - 1) - 1) (Sort.swp (Sort.swp d a p) (Sort.scanUp (fun x=>ltR t x (Sort.swp d a p)[a]!) (Sort.swp d a p) (b - 1) (a+1)) (Sort.scanDown (fun x=>!ltR t x (Sort.swp d a p)[a]!) (Sort.swp d a p) (Sort.scanUp (fun x=>ltR t x (Sort.swp d a p)[a]!) (Sort.swp d a p) (b - 1) (a+1)) (b - 1)))).1,false,
    Sort.swp (Sort.partLoop (ltR t) a (Sort.scanUp (fun x=>ltR t x (Sort.swp d a p)[a]!) (Sort.swp d a p) (b - 1) (a+1)+1) (Sort.scanDown (fun x=>!ltR t x (Sort.swp d a p)[a]!) (Sort.swp d a p) (Sort.scanUp (fun x=>ltR t x (Sort.swp d a p)[a]!) (Sort.swp d a p) (b - 1) (a+1)) (b - 1) - 1) (Sort.swp (Sort.swp d a p) (Sort.scanUp (fun x=>ltR t x (Sort.swp d a p)[a]!) (Sort.swp d a p) (b - 1) (a+1)) (Sort.scanDown (fun x=>!ltR t x (Sort.swp d a p)[a]!) (Sort.swp d a p) (Sort.scanUp (fun x=>ltR t x (Sort.swp d a p)[a]!) (Sort.swp d a p) (b - 1) (a+1)) (b - 1)))).2
     (Sort.partLoop (ltR t) a (Sort.scanUp (fun x=>ltR t x (Sort.swp d a p)[a]!) (Sort.swp d a p) (b - 1) (a+1)+1) (Sort.scanDown (fun x=>!ltR t x (Sort.swp d a p)[a]!) (Sort.swp d a p) (Sort.scanUp (fun x=>ltR t x (Sort.swp d a p)[a]!) (Sort.swp d a p) (b - 1) (a+1)) (b - 1) - 1) (Sort.swp (Sort.swp d a p) (Sort.scanUp (fun x=>ltR t x (Sort.swp d a p)[a]!) (Sort.swp d a p) (b - 1) (a+1)) (Sort.scanDown (fun x=>!ltR t x (Sort.swp d a p)[a]!) (Sort.swp d a p) (Sort.scanUp (fun x=>ltR t x (Sort.swp d a p)[a]!) (Sort.swp d a p) (b - 1) (a+1)) (b - 1)))).1 a):=rfl
 rw [hpe] at hQ
 clear hpe
 have hd0:(Sort.swp d a p).size=n:=by rw [q0n]; exact hd
 have ho0:=q0s ho (i:=a) (j:=p) (by omega) (by omega)
 with_reducible refine q0e il101_eq ?_ ?_
 ·exact Nat.le_of_ble_eq_true rfl
 rw [hS_eq]
 (repeat' first|simp only [il101c,go_sem,w1,w2,sf,hm,ha,hp,q0p,q07]|with_reducible refine wX fun _=>?_|((with_reducible refine wY ?_ ?_); rfl)|fail)
 rw [q0q]
 generalize Sort.swp d a p=D at *
 have u1:=Sort.scanUp_spec (fun x=>ltR t x D[a]!) D (b - 1) _ (a+1) rfl
 refine qhG c1 c2 t h n a J _ nn hn ha D hd0 ho0 n (Nat.le_refl n) (b - 1) (by omega) (b - 1+1 - (a+1)) (a+1) nn (Nat.le_refl _) (by omega) (by omega) _ _ (by simp only [go_sem,w1,w2]) ?_
 intro e1 he1
 have v1:=Sort.scanDown_spec (fun x=>!ltR t x D[a]!) D (Sort.scanUp (fun x=>ltR t x D[a]!) D (b - 1) (a+1)) (b - 1)
 obtain ⟨u2,u3,_,u5⟩:=u1
 have u3:=u3 (by omega)
 (repeat' first|simp only [il101c,go_sem,he1,q01]|with_reducible refine wX fun _=>?_|((with_reducible refine wY ?_ ?_); rfl)|fail)
 refine qhH c1 c2 t h n a J _ nn hn ha D hd0 ho0 n (Nat.le_refl n) (Sort.scanUp (fun x=>ltR t x D[a]!) D (b - 1) (a+1)) (by omega) (by omega) (b - 1) nn (by omega) (by omega) _ _ (by simp only [go_sem,he1]) ?_
 intro e2 he2
 obtain ⟨v2,v3,_,v5⟩:=v1
 have v3:=v3 u3
 generalize Sort.scanUp (fun x=>ltR t x D[a]!) D (b - 1) (a+1)=i2 at *
 generalize Sort.scanDown (fun x=>!ltR t x D[a]!) D i2 (b - 1)=j2 at *
 have b2:j2 < n:=by omega
 by_cases hc:i2 > j2
 ·have d1:decide (((j2:Nat):Int) < ((i2:Nat):Int))=true:=decide_eq_true (by omega)
  rw [if_pos hc] at hQ
  have sg:=q0u hd0 b2 ha
  rw [hS_eq]
  (repeat' first|simp only [il101c,go_sem,he2,d1,sg,ha,b2,q0p,q07]|with_reducible refine wX fun _=>?_|((with_reducible refine wY ?_ ?_); rfl)|fail)
  all_goals (rw [q0q]; exact hQ n (Nat.le_refl n))
 ·have d1:decide (((j2:Nat):Int) < ((i2:Nat):Int))=false:=decide_eq_false (by omega)
  rw [if_neg hc] at hQ
  have w3:IntKind.i64.wrap (((i2:Nat):Int)+1)=((i2+1:Nat):Int):=q00 (by omega) (by omega)
  have w4:IntKind.i64.wrap (((j2:Nat):Int) - 1)=((j2 - 1:Nat):Int):=by rw [q00 (by omega) (by omega)]; omega
  have b1:i2 < n:=by omega
  have hne:i2≠j2:=by
   intro e; subst e
   have k1:=u5 (by omega)
   have k2:=v5 (by omega) (by omega)
   first|(simp [k1] at k2; done)|(simp [k2] at k1; done)
  have sg:=q0u hd0 b1 b2
  rw [hS_eq]
  (repeat' first|simp only [il101c,go_sem,he2,d1,sg,b1,b2,w3,w4,q0p,q07]|with_reducible refine wX fun _=>?_|((with_reducible refine wY ?_ ?_); rfl)|fail)
  rw [q0q]
  have hd1:(Sort.swp D i2 j2).size=n:=by rw [q0n]; exact hd0
  have ho1:=q0s ho0 (i:=i2) (j:=j2) (by omega) (by omega)
  generalize Sort.swp D i2 j2=D1 at *
  refine qhI c1 c2 t h n a J _ nn hn hnn ha (j2 - 1+1 - (i2+1)) (i2+1) (j2 - 1) D1 n nn (Nat.le_refl _) (by omega) (by omega) (by omega) hd1 ho1 (Nat.le_refl n) (by omega) _ _ (by simp only [go_sem,he2,w3,w4]) ?_
  intro e3 m3 hm3 s1 s2 s3 he3
  generalize Sort.partLoop (ltR t) a (i2+1) (j2 - 1) D1=res at *
  obtain ⟨j3,D3⟩:=res
  dsimp only at *
  have b3:j3 < n:=by omega
  have sg:=q0u s1 b3 ha
  rw [hS_eq]
  (repeat' first|simp only [il101c,go_sem,he3,sg,ha,b3,hm3,q0p,q07]|with_reducible refine wX fun _=>?_|((with_reducible refine wY ?_ ?_); rfl)|fail)
  all_goals (rw [q0q]; exact hQ n (Nat.le_refl n))
theorem q1q (n a b p:Nat) (J:List (Value × Nat)) (nn dd:Nat) (hn:n≤4000000000000000000) (hnn:n < nn) (hap:a≤p) (hpb:p < b) (hb:b≤n) (d:Rts) (m:Nat) (hd:d.size=n) (ho:okD t d) (hm:m≤n) (Q:AV→Heap→Prop)
  (hQ:∀ m',m'≤n→Q (.t (I ((Sort.partitionEqual (ltR t) d a b p).1:Nat))) (hS (Sort.partitionEqual (ltR t) d a b p).2 m' J)) :
  oB (inl Try.prog pol (ans Try.prog pol) nn (dd+1) (.fn 100) [.ms 0 n 0 n 1 false,.t (I (a:Nat)),.t (I (b:Nat)),.t (I (p:Nat)),.t (cmF c1 c2 t)] (hS d m J)) Q:=by
 have w1:IntKind.i64.wrap (((a:Nat):Int)+1)=((a+1:Nat):Int):=q00 (by omega) (by omega)
 have w2:IntKind.i64.wrap (((b:Nat):Int) - 1)=((b - 1:Nat):Int):=by rw [q00 (by omega) (by omega)]; omega
 have ha:a < n:=by omega
 have hp:p < n:=by omega
 have sf:=q0u hd ha hp
 rw [Sort.partitionEqual] at hQ
 have hd0:(Sort.swp d a p).size=n:=by rw [q0n]; exact hd
 have ho0:=q0s ho (i:=a) (j:=p) (by omega) (by omega)
 with_reducible refine q0e il100_eq ?_ ?_
 ·exact Nat.le_of_ble_eq_true rfl
 rw [hS_eq]
 (repeat' first|simp only [il100c,go_sem,w1,w2,sf,hm,ha,hp,q0p,q07]|with_reducible refine wX fun _=>?_|((with_reducible refine wY ?_ ?_); rfl)|fail)
 rw [q0q]
 refine qhJ c1 c2 t h n a J _ nn hn hnn ha (b - 1+1 - (a+1)) (a+1) (b - 1) (Sort.swp d a p) n nn (Nat.le_refl _) (by omega) (by omega) (by omega) hd0 ho0 (Nat.le_refl n) (by omega) _ _ (by simp only [go_sem,w1,w2]) ?_
 intro e3 m3 hm3 s1 s2 s3 he3
 (repeat' first|simp only [il100c,go_sem,he3,q01]|with_reducible refine wX fun _=>?_|((with_reducible refine wY ?_ ?_); rfl)|fail)
 all_goals exact hQ m3 hm3
end
end Go.Proofs.Ytnjaokhdeaeegaa
namespace Go.Proofs.Ytnjaokhdeaeegaa
open Go Go.Abs
section
variable (c1 c2:Bool) (t:Tpo) (h:okT t=true)
include h
theorem qhK (n b:Nat) (x1 x10:T) (J:List (Value × Nat)) (J0:Inl) (nn:Nat) (hn:n≤4000000000000000000) (hb:b≤n) (d:Rts) (hd:d.size=n) (ho:okD t d) (m:Nat) (hm:m≤n):∀ (r i k:Nat),b - i≤r→1≤i→i≤b→r < k→∀ (R:Xit→FEnv→Heap→Prop) (e:FEnv),
  (e 0=.ms 0 n 0 n 1 false∧e 1=.t x1∧e 2=.t (I (b:Nat))∧e 3=.t (cmF c1 c2 t)∧e 9=.t (I (i:Nat))∧e 10=.t x10) →
  (∀ e,Sort.scanSorted (ltR t) d b i≤b→i≤Sort.scanSorted (ltR t) d b i→(e 0=.ms 0 n 0 n 1 false∧e 1=.t x1∧e 2=.t (I (b:Nat))∧e 3=.t (cmF c1 c2 t)∧e 9=.t (I (Sort.scanSorted (ltR t) d b i:Nat))∧e 10=.t x10)→R (.exit 2) e (hS d m J)) →
  wpIter (J.length+1) (some [0,1,2,3,9,10]) (wc Try.prog pol (ans Try.prog pol) J0 nn 99 il99l0) R k e (hS d m J):=by
 have gl:=q0j d
 rw [hd] at gl
 intro r
 induction r with
 | zero =>
  intro i k hr h1 hi hk R e hs hR
  obtain ⟨k,rfl⟩:∃ q,k=q+1:=⟨k - 1,by omega⟩
  have d1:decide (((i:Nat):Int) < ((b:Nat):Int))=false:=decide_eq_false (by omega)
  rw [Sort.scanSorted,if_neg (by simp; omega)] at hR
  rw [q06]
  (repeat' first|simp only [il99l0_go,il99l0b,go_sem,hs,d1]|with_reducible refine wX fun _=>?_|((with_reducible refine wY ?_ ?_); rfl)|fail)
  all_goals (refine hR _ hi (Nat.le_refl _) ?_; simp only [go_sem,hs])
 | succ r ih =>
  intro i k hr h1 hi hk R e hs hR
  obtain ⟨k,rfl⟩:∃ q,k=q+1:=⟨k - 1,by omega⟩
  rw [Sort.scanSorted] at hR
  rw [q06]
  by_cases hij:i < b
  ·have d1:decide (((i:Nat):Int) < ((b:Nat):Int))=true:=decide_eq_true (by omega)
   have w1:IntKind.i64.wrap (((i:Nat):Int)+1)=((i+1:Nat):Int):=q00 (by omega) (by omega)
   have w2:IntKind.i64.wrap (((i:Nat):Int) - 1)=((i - 1:Nat):Int):=by rw [q00 (by omega) (by omega)]; omega
   have hin:i < n:=by omega
   have hin2:i - 1 < n:=by omega
   have gi:=q05 (d:=d) (i:=i) (by omega)
   have gj:=q05 (d:=d) (i:=i - 1) (by omega)
   have kc:=q0f c1 c2 t h ho (i:=i) (j:=i - 1) (by omega) (by omega)
   have dl:=@q0d t d[i]! d[i - 1]!
   cases hl:ltR t d[i]! d[i - 1]! with
   | true =>
    rw [hl] at dl hR
    rw [if_neg (by simp)] at hR
    rw [hS_eq]
    (repeat' first|simp only [il99l0_go,il99l0b,go_sem,hs,d1,w2,kc,dl,gi,gj,gl,hm,hin,hin2]|with_reducible refine wX fun _=>?_|((with_reducible refine wY ?_ ?_); rfl)|fail)
    all_goals (refine hR _ hi (Nat.le_refl _) ?_; simp only [go_sem,hs])
   | false =>
    rw [hl] at dl hR
    rw [if_pos (by simp [hij])] at hR
    rw [hS_eq]
    (repeat' first|simp only [il99l0_go,il99l0b,go_sem,hs,d1,w1,w2,kc,dl,gi,gj,gl,hm,hin,hin2,q07]|with_reducible refine wX fun _=>?_|((with_reducible refine wY ?_ ?_); rfl)|fail)
    all_goals (rw [← hS_eq]; refine ih (i+1) k (by omega) (by omega) (by omega) (by omega) R _ ?_ (fun e q1 q2 q3=>hR e q1 (by omega) q3); simp only [go_sem,hs,w1])
  ·have d1:decide (((i:Nat):Int) < ((b:Nat):Int))=false:=decide_eq_false (by omega)
   rw [if_neg (by simp [hij])] at hR
   (repeat' first|simp only [il99l0_go,il99l0b,go_sem,hs,d1]|with_reducible refine wX fun _=>?_|((with_reducible refine wY ?_ ?_); rfl)|fail)
   all_goals (refine hR _ hi (Nat.le_refl _) ?_; simp only [go_sem,hs])
theorem qhL (n:Nat) (x1 x2 x9 x10:T) (J:List (Value × Nat)) (J0:Inl) (nn:Nat) (hn:n≤4000000000000000000):∀ (j:Nat) (d:Rts) (m k:Nat),j < n→d.size=n→okD t d→m≤n→j < k→∀ (R:Xit→FEnv→Heap→Prop) (e:FEnv),
  (e 0=.ms 0 n 0 n 1 false∧e 1=.t x1∧e 2=.t x2∧e 3=.t (cmF c1 c2 t)∧e 9=.t x9∧e 10=.t x10∧e 11=.t (I (j:Nat))) →
  (∀ e m',m'≤n→(Sort.shiftDown (ltR t) j d).size=n→okD t (Sort.shiftDown (ltR t) j d)→(e 0=.ms 0 n 0 n 1 false∧e 1=.t x1∧e 2=.t x2∧e 3=.t (cmF c1 c2 t)∧e 9=.t x9∧e 10=.t x10)→R (.exit 4) e (hS (Sort.shiftDown (ltR t) j d) m' J)) →
  wpIter (J.length+1) (some [0,1,2,3,9,10,11]) (wc Try.prog pol (ans Try.prog pol) J0 nn 99 il99l1) R k e (hS d m J):=by
 intro j
 induction j with
 | zero =>
  intro d m k hj hd ho hm hk R e hs hR
  obtain ⟨k,rfl⟩:∃ q,k=q+1:=⟨k - 1,by omega⟩
  rw [Sort.shiftDown] at hR
  have d1:decide ((1:Int)≤0)=false:=rfl
  rw [q06]
  (repeat' first|simp only [il99l1_go,il99l1b,go_sem,hs,d1]|with_reducible refine wX fun _=>?_|((with_reducible refine wY ?_ ?_); rfl)|fail)
  all_goals (refine hR _ m hm hd ho ?_; simp only [go_sem,hs])
 | succ j ih =>
  intro d m k hj hd ho hm hk R e hs hR
  obtain ⟨k,rfl⟩:∃ q,k=q+1:=⟨k - 1,by omega⟩
  have d1:decide ((1:Int)≤((j+1:Nat):Int))=true:=decide_eq_true (by omega)
  have w1:IntKind.i64.wrap (((j+1:Nat):Int) - 1)=((j:Nat):Int):=by rw [q00 (by omega) (by omega)]; omega
  rw [Sort.shiftDown] at hR
  have hj2:j < n:=by omega
  have sf:=q0u hd hj hj2
  have kc:=q0f c1 c2 t h ho (i:=j+1) (j:=j) (by omega) (by omega)
  have dl:=@q0d t d[j+1]! d[j]!
  rw [q06,hS_eq]
  cases hl:ltR t d[j+1]! d[j]! with
  | false =>
   rw [hl] at dl hR
   rw [if_pos (by simp)] at hR
   (repeat' first|simp only [il99l1_go,il99l1b,go_sem,hs,d1,w1,sf,kc,dl,hm,hj,hj2]|with_reducible refine wX fun _=>?_|((with_reducible refine wY ?_ ?_); rfl)|fail)
   all_goals (refine hR _ m hm hd ho ?_; simp only [go_sem,hs])
  | true =>
   rw [hl] at dl hR
   rw [if_neg (by simp)] at hR
   (repeat' first|simp only [il99l1_go,il99l1b,go_sem,hs,d1,w1,sf,kc,dl,hm,hj,hj2,q0p,q07]|with_reducible refine wX fun _=>?_|((with_reducible refine wY ?_ ?_); rfl)|fail)
   all_goals (rw [q0q]; refine ih (Sort.swp d (j+1) j) n k hj2 (by rw [q0n]; exact hd) (q0s ho (by omega) (by omega)) (Nat.le_refl n) (by omega) R _ ?_ hR; simp only [go_sem,hs,w1])
theorem q6Y (n b:Nat) (x1 x9 x10:T) (J:List (Value × Nat)) (J0:Inl) (nn:Nat) (hn:n≤4000000000000000000) (hb:b≤n):∀ (r j:Nat) (d:Rts) (m k:Nat),b - j≤r→1≤j→j≤b+1→d.size=n→okD t d→m≤n→r < k→∀ (R:Xit→FEnv→Heap→Prop) (e:FEnv),
  (e 0=.ms 0 n 0 n 1 false∧e 1=.t x1∧e 2=.t (I (b:Nat))∧e 3=.t (cmF c1 c2 t)∧e 9=.t x9∧e 10=.t x10∧e 12=.t (I (j:Nat))) →
  (∀ e m',m'≤n→(Sort.shiftUp (ltR t) b j d).size=n→okD t (Sort.shiftUp (ltR t) b j d)→(e 0=.ms 0 n 0 n 1 false∧e 1=.t x1∧e 2=.t (I (b:Nat))∧e 3=.t (cmF c1 c2 t)∧e 9=.t x9∧e 10=.t x10)→R (.exit 6) e (hS (Sort.shiftUp (ltR t) b j d) m' J)) →
  wpIter (J.length+1) (some [0,1,2,3,9,10,12]) (wc Try.prog pol (ans Try.prog pol) J0 nn 99 il99l2) R k e (hS d m J):=by
 intro r
 induction r with
 | zero =>
  intro j d m k hr h1 hj hd ho hm hk R e hs hR
  obtain ⟨k,rfl⟩:∃ q,k=q+1:=⟨k - 1,by omega⟩
  rw [Sort.shiftUp,if_neg (by omega)] at hR
  have d1:decide (((j:Nat):Int) < ((b:Nat):Int))=false:=decide_eq_false (by omega)
  rw [q06]
  (repeat' first|simp only [il99l2_go,il99l2b,go_sem,hs,d1]|with_reducible refine wX fun _=>?_|((with_reducible refine wY ?_ ?_); rfl)|fail)
  all_goals (refine hR _ m hm hd ho ?_; simp only [go_sem,hs])
 | succ r ih =>
  intro j d m k hr h1 hj hd ho hm hk R e hs hR
  obtain ⟨k,rfl⟩:∃ q,k=q+1:=⟨k - 1,by omega⟩
  rw [Sort.shiftUp] at hR
  by_cases hjb:j < b
  ·have d1:decide (((j:Nat):Int) < ((b:Nat):Int))=true:=decide_eq_true (by omega)
   have w1:IntKind.i64.wrap (((j:Nat):Int) - 1)=((j - 1:Nat):Int):=by rw [q00 (by omega) (by omega)]; omega
   have w2:IntKind.i64.wrap (((j:Nat):Int)+1)=((j+1:Nat):Int):=q00 (by omega) (by omega)
   have hj1:j < n:=by omega
   have hj2:j - 1 < n:=by omega
   have sf:=q0u hd hj1 hj2
   have kc:=q0f c1 c2 t h ho (i:=j) (j:=j - 1) (by omega) (by omega)
   have dl:=@q0d t d[j]! d[j - 1]!
   rw [if_pos hjb] at hR
   rw [q06,hS_eq]
   cases hl:ltR t d[j]! d[j - 1]! with
   | false =>
    rw [hl] at dl hR
    rw [if_pos (by simp)] at hR
    (repeat' first|simp only [il99l2_go,il99l2b,go_sem,hs,d1,w1,sf,kc,dl,hm,hj1,hj2]|with_reducible refine wX fun _=>?_|((with_reducible refine wY ?_ ?_); rfl)|fail)
    all_goals (refine hR _ m hm hd ho ?_; simp only [go_sem,hs])
   | true =>
    rw [hl] at dl hR
    rw [if_neg (by simp)] at hR
    (repeat' first|simp only [il99l2_go,il99l2b,go_sem,hs,d1,w1,w2,sf,kc,dl,hm,hj1,hj2,q0p,q07]|with_reducible refine wX fun _=>?_|((with_reducible refine wY ?_ ?_); rfl)|fail)
    all_goals (rw [q0q]; refine ih (j+1) (Sort.swp d j (j - 1)) n k (by omega) (by omega) (by omega) (by rw [q0n]; exact hd) (q0s ho (by omega) (by omega)) (Nat.le_refl n) (by omega) R _ ?_ hR; simp only [go_sem,hs,w2])
  ·have d1:decide (((j:Nat):Int) < ((b:Nat):Int))=false:=decide_eq_false (by omega)
   rw [if_neg hjb] at hR
   rw [q06]
   (repeat' first|simp only [il99l2_go,il99l2b,go_sem,hs,d1]|with_reducible refine wX fun _=>?_|((with_reducible refine wY ?_ ?_); rfl)|fail)
   all_goals (refine hR _ m hm hd ho ?_; simp only [go_sem,hs])
theorem qhM (n a b:Nat) (J:List (Value × Nat)) (J0:Inl) (nn:Nat) (hn:n≤4000000000000000000) (hnn:n < nn) (hb:b≤n) (hab:a < b):∀ (s q i:Nat) (d:Rts) (m k:Nat),q+s=5→a < i→i≤b→d.size=n→okD t d→m≤n→s < k→∀ (R:Xit→FEnv→Heap→Prop) (e:FEnv),
  (e 0=.ms 0 n 0 n 1 false∧e 1=.t (I (a:Nat))∧e 2=.t (I (b:Nat))∧e 3=.t (cmF c1 c2 t)∧e 9=.t (I (i:Nat))∧e 10=.t (I (q:Nat))) →
  (∀ x e m',m'≤n→(x=.exit 0∧(Sort.partialIns (ltR t) a b s i d).2=false∨x=.ret∧e 8=.t (B (Sort.partialIns (ltR t) a b s i d).2))→R x e (hS (Sort.partialIns (ltR t) a b s i d).1 m' J)) →
  wpIter (J.length+1) (some [0,1,2,3,9,10]) (wc Try.prog pol (ans Try.prog pol) J0 nn 99 il99l3) R k e (hS d m J):=by
 intro s
 induction s with
 | zero =>
  intro q i d m k hq hai hib hd ho hm hk R e hs hR
  obtain ⟨k,rfl⟩:∃ q,k=q+1:=⟨k - 1,by omega⟩
  obtain rfl:q=5:=by omega
  rw [Sort.partialIns] at hR
  rw [q06]
  have d1:decide (((5:Nat):Int) < 5)=false:=rfl
  (repeat' first|simp only [il99l3_go,il99l3b,go_sem,hs,d1]|with_reducible refine wX fun _=>?_|((with_reducible refine wY ?_ ?_); rfl)|fail)
  all_goals exact hR _ _ m hm (.inl ⟨rfl,rfl⟩)
 | succ s ih =>
  intro q i d m k hq hai hib hd ho hm hk R e hs hR
  obtain ⟨k,rfl⟩:∃ q,k=q+1:=⟨k - 1,by omega⟩
  have d1:decide (((q:Nat):Int) < 5)=true:=decide_eq_true (by omega)
  have wq:IntKind.i64.wrap (((q:Nat):Int)+1)=((q+1:Nat):Int):=q00 (by omega) (by omega)
  have w0:IntKind.i64.wrap (((b:Nat):Int) - ((a:Nat):Int))=((b - a:Nat):Int):=by rw [q00 (by omega) (by omega)]; omega
  rw [Sort.partialIns_succ] at hR
  rw [q06]
  (repeat' first|simp only [il99l3_go,il99l3b,go_sem,hs,d1,q01]|with_reducible refine wX fun _=>?_|((with_reducible refine wY ?_ ?_); rfl)|fail)
  refine qhK c1 c2 t h n b (I (a:Nat)) (I (q:Nat)) J J0 nn hn hb d hd ho m hm (b - i) i nn (Nat.le_refl _) (by omega) hib (by omega) _ _ (by simp only [go_sem,hs]) ?_
  intro e1 i1 i2 he1
  generalize Sort.scanSorted (ltR t) d b i=x at *
  by_cases hxb:x=b
  ·have d2:decide (((x:Nat):Int)=((b:Nat):Int))=true:=decide_eq_true (by omega)
   rw [if_pos hxb] at hR
   (repeat' first|simp only [il99l3_go,il99l3b,go_sem,he1,d2,q01]|with_reducible refine wX fun _=>?_|((with_reducible refine wY ?_ ?_); rfl)|fail)
   all_goals (refine hR _ _ m hm (.inr ⟨rfl,?_⟩); simp only [go_sem])
  ·have d2:decide (((x:Nat):Int)=((b:Nat):Int))=false:=decide_eq_false (by omega)
   rw [if_neg hxb] at hR
   by_cases h50:b - a < 50
   ·have d3:decide (((b - a:Nat):Int) < 50)=true:=decide_eq_true (by omega)
    rw [if_pos h50] at hR
    (repeat' first|simp only [il99l3_go,il99l3b,go_sem,he1,d2,d3,w0,q01]|with_reducible refine wX fun _=>?_|((with_reducible refine wY ?_ ?_); rfl)|fail)
    all_goals (refine hR _ _ m hm (.inr ⟨rfl,?_⟩); simp only [go_sem])
   ·have d3:decide (((b - a:Nat):Int) < 50)=false:=decide_eq_false (by omega)
    rw [if_neg h50] at hR
    have w1:IntKind.i64.wrap (((x:Nat):Int) - 1)=((x - 1:Nat):Int):=by rw [q00 (by omega) (by omega)]; omega
    have w2:IntKind.i64.wrap (((x:Nat):Int) - ((a:Nat):Int))=((x - a:Nat):Int):=by rw [q00 (by omega) (by omega)]; omega
    have w3:IntKind.i64.wrap (((b:Nat):Int) - ((x:Nat):Int))=((b - x:Nat):Int):=by rw [q00 (by omega) (by omega)]; omega
    have w4:IntKind.i64.wrap (((x:Nat):Int)+1)=((x+1:Nat):Int):=q00 (by omega) (by omega)
    have b1:x < n:=by omega
    have b2:x - 1 < n:=by omega
    have sf:=q0u hd b1 b2
    have hd1:(Sort.swp d x (x - 1)).size=n:=by rw [q0n]; exact hd
    have ho1:=q0s ho (i:=x) (j:=x - 1) (by omega) (by omega)
    -- behind the two shifts
    have fin:∀ (D:Rts) (m2:Nat) (e2:FEnv),D.size=n→okD t D→m2≤n→(e2 0=.ms 0 n 0 n 1 false∧e2 1=.t (I (a:Nat))∧e2 2=.t (I (b:Nat))∧e2 3=.t (cmF c1 c2 t)∧e2 9=.t (I (x:Nat))∧e2 10=.t (I ((q+1:Nat):Int))) →
      (∀ y e m',m'≤n→(y=.exit 0∧(Sort.partialIns (ltR t) a b s x D).2=false∨y=.ret∧e 8=.t (B (Sort.partialIns (ltR t) a b s x D).2))→R y e (hS (Sort.partialIns (ltR t) a b s x D).1 m' J)) →
      wpIter (J.length+1) (some [0,1,2,3,9,10]) (wc Try.prog pol (ans Try.prog pol) J0 nn 99 il99l3) R k e2 (hS D m2 J) :=
     fun D m2 e2 q1 q2 q3 q4 q5=>ih (q+1) x D m2 k (by omega) (by omega) i1 q1 q2 q3 (by omega) R e2 q4 q5
    rw [hS_eq]
    by_cases h2:x - a ≥ 2
    ·have d4:decide ((2:Int)≤((x - a:Nat):Int))=true:=decide_eq_true (by omega)
     rw [Sort.fixDown,if_pos h2] at hR
     (repeat' first|simp only [il99l3_go,il99l3b,go_sem,he1,d2,d3,d4,w0,w1,w2,sf,hm,b1,b2,q0p,q07]|with_reducible refine wX fun _=>?_|((with_reducible refine wY ?_ ?_); rfl)|fail)
     rw [q0q]
     refine qhL c1 c2 t h n (I (a:Nat)) (I (b:Nat)) (I (x:Nat)) (I (q:Nat)) J J0 nn hn (x - 1) (Sort.swp d x (x - 1)) n nn b2 hd1 ho1 (Nat.le_refl n) (by omega) _ _ (by simp only [go_sem,he1,w1]) ?_
     intro e2 m2 hm2 s1 s2 he2
     generalize Sort.shiftDown (ltR t) (x - 1) (Sort.swp d x (x - 1))=D at *
     by_cases h3:b - x ≥ 2
     ·have d5:decide ((2:Int)≤((b - x:Nat):Int))=true:=decide_eq_true (by omega)
      rw [Sort.fixUp,if_pos h3] at hR
      (repeat' first|simp only [il99l3_go,il99l3b,go_sem,he2,d5,w3,w4,q01]|with_reducible refine wX fun _=>?_|((with_reducible refine wY ?_ ?_); rfl)|fail)
      refine q6Y c1 c2 t h n b (I (a:Nat)) (I (x:Nat)) (I (q:Nat)) J J0 nn hn hb (b - (x+1)) (x+1) D m2 nn (Nat.le_refl _) (by omega) (by omega) s1 s2 hm2 (by omega) _ _ (by simp only [go_sem,he2,w4]) ?_
      intro e3 m3 hm3 r1 r2 he3
      (repeat' first|simp only [il99l3_go,il99l3b,go_sem,he3,wq,q01]|with_reducible refine wX fun _=>?_|((with_reducible refine wY ?_ ?_); rfl)|fail)
      all_goals (refine fin _ m3 _ r1 r2 hm3 ?_ hR; simp only [go_sem,he3,wq])
     ·have d5:decide ((2:Int)≤((b - x:Nat):Int))=false:=decide_eq_false (by omega)
      rw [Sort.fixUp,if_neg h3] at hR
      (repeat' first|simp only [il99l3_go,il99l3b,go_sem,he2,d5,w3,wq,q01]|with_reducible refine wX fun _=>?_|((with_reducible refine wY ?_ ?_); rfl)|fail)
      all_goals (refine fin _ m2 _ s1 s2 hm2 ?_ hR; simp only [go_sem,he2,wq])
    ·have d4:decide ((2:Int)≤((x - a:Nat):Int))=false:=decide_eq_false (by omega)
     rw [Sort.fixDown,if_neg h2] at hR
     by_cases h3:b - x ≥ 2
     ·have d5:decide ((2:Int)≤((b - x:Nat):Int))=true:=decide_eq_true (by omega)
      rw [Sort.fixUp,if_pos h3] at hR
      (repeat' first|simp only [il99l3_go,il99l3b,go_sem,he1,d2,d3,d4,d5,w0,w1,w2,w3,w4,sf,hm,b1,b2,q0p,q07]|with_reducible refine wX fun _=>?_|((with_reducible refine wY ?_ ?_); rfl)|fail)
      rw [q0q]
      refine q6Y c1 c2 t h n b (I (a:Nat)) (I (x:Nat)) (I (q:Nat)) J J0 nn hn hb (b - (x+1)) (x+1) (Sort.swp d x (x - 1)) n nn (Nat.le_refl _) (by omega) (by omega) hd1 ho1 (Nat.le_refl n) (by omega) _ _ (by simp only [go_sem,he1,w4]) ?_
      intro e3 m3 hm3 r1 r2 he3
      (repeat' first|simp only [il99l3_go,il99l3b,go_sem,he3,wq,q01]|with_reducible refine wX fun _=>?_|((with_reducible refine wY ?_ ?_); rfl)|fail)
      all_goals (refine fin _ m3 _ r1 r2 hm3 ?_ hR; simp only [go_sem,he3,wq])
     ·have d5:decide ((2:Int)≤((b - x:Nat):Int))=false:=decide_eq_false (by omega)
      rw [Sort.fixUp,if_neg h3] at hR
      (repeat' first|simp only [il99l3_go,il99l3b,go_sem,he1,d2,d3,d4,d5,w0,w1,w2,w3,wq,sf,hm,b1,b2,q0p,q07]|with_reducible refine wX fun _=>?_|((with_reducible refine wY ?_ ?_); rfl)|fail)
      all_goals (rw [q0q]; refine fin _ n _ hd1 ho1 (Nat.le_refl n) ?_ hR; simp only [go_sem,he1,wq])
theorem q6Z (n a b:Nat) (J:List (Value × Nat)) (nn dd:Nat) (hn:n≤4000000000000000000) (hnn:n < nn) (hnn5:5 < nn) (hab:a < b) (hb:b≤n) (d:Rts) (m:Nat) (hd:d.size=n) (ho:okD t d) (hm:m≤n) (Q:AV→Heap→Prop)
  (hQ:∀ m',m'≤n→Q (.t (B (Sort.partialInsertionSort (ltR t) d a b).2)) (hS (Sort.partialInsertionSort (ltR t) d a b).1 m' J)) :
  oB (inl Try.prog pol (ans Try.prog pol) nn (dd+1) (.fn 99) [.ms 0 n 0 n 1 false,.t (I (a:Nat)),.t (I (b:Nat)),.t (cmF c1 c2 t)] (hS d m J)) Q:=by
 have w1:IntKind.i64.wrap (((a:Nat):Int)+1)=((a+1:Nat):Int):=q00 (by omega) (by omega)
 rw [Sort.partialInsertionSort] at hQ
 with_reducible refine q0e il99_eq ?_ ?_
 ·exact Nat.le_of_ble_eq_true rfl
 (repeat' first|simp only [il99c,go_sem,w1,q01]|with_reducible refine wX fun _=>?_|((with_reducible refine wY ?_ ?_); rfl)|fail)
 refine qhM c1 c2 t h n a b J _ nn hn hnn hb hab 5 0 (a+1) d m nn rfl (by omega) (by omega) hd ho hm hnn5 _ _ (by simp only [go_sem,w1]) ?_
 intro x e1 m1 hm1 hx
 generalize Sort.partialIns (ltR t) a b 5 (a+1) d=res at *
 obtain ⟨D,v⟩:=res
 dsimp only at *
 rcases hx with ⟨rfl,rfl⟩|⟨rfl,he1⟩
 ·(repeat' first|simp only [il99c,go_sem,q01]|with_reducible refine wX fun _=>?_|((with_reducible refine wY ?_ ?_); rfl)|fail)
  all_goals exact hQ m1 hm1
 ·(repeat' first|simp only [il99c,go_sem,he1,q01]|with_reducible refine wX fun _=>?_|((with_reducible refine wY ?_ ?_); rfl)|fail)
  all_goals exact hQ m1 hm1
end
end Go.Proofs.Ytnjaokhdeaeegaa
namespace Go.Proofs.Ytnjaokhdeaeegaa
open Go Go.Abs
theorem qhN (J:List (Value × Nat)) (kk:IntKind) (z:Int) (k:Nat):(jX (J++[(.int kk z,k)]))[J.length]? = some (.row 1 [.t (.sc (.int kk z))] k):=by
 simp [jX,jV]
theorem qhO (J:List (Value × Nat)) (kk:IntKind) (z z':Int) (k k':Nat):(jX (J++[(.int kk z,k)])).set J.length (.row 1 [.t (.sc (.int kk z'))] k')=jX (J++[(.int kk z',k')]):=by
 simp [jX,jV,List.set_append]
theorem hS_sw (d:Rts) (m:Nat) (J:List (Value × Nat)) (kk:IntKind) (z:Int) (k:Nat):(hS d m (J++[(.int kk z,k)]))[J.length+1]? = some (.row 1 [.t (.sc (.int kk z))] k):=qhN J kk z k
theorem qhP (d:Rts) (m:Nat) (J:List (Value × Nat)) (kk:IntKind) (z:Int) (k:Nat):hS d m J++[.row 1 [.t (.sc (.int kk z))] k]=hS d m (J++[(.int kk z,k)]):=by simp [hS,jX,jV]
abbrev rtsT (d:Rts):T:=.sl false 1 (d.toList.map rgT)
theorem q70 {d:Rts} {i:Nat} (hi:i < d.size):(d.toList.map rgT)[i]? = some (rgT d[i]!):=by
 simp [hi,getElem!_pos]
theorem q2D (d:Rts) (m n:Nat) (J:List (Value × Nat)) (hn:d.size=n) (hm:m≤n) (D:Nat):snL (hS d m J) (D+1) false 1 (elemsOf (hS d m J) 1 (.ms 0 n 0 n 1 false))=some (rtsT d):=by
 subst hn
 have hl:((d.toList.map rgT).map AV.t).length=d.size:=by simp
 have he:elemsOf (hS d m J) 1 (.ms 0 d.size 0 d.size 1 false)=some ((d.toList.map rgT).map .t):=by
  rw [q3y (by rw [hS_0]; exact ⟨rfl,hl,hm⟩),hS_0]; rfl
 rw [he,q5W,q5Y]
 rfl
abbrev swH (s:Nat) (k:Nat):Heap:=[.row 1 [.t (I ((s:Nat):Int))] k]
section
variable (c1 c2:Bool) (t:Tpo) (h:okT t=true)
include h
theorem q3P (n a b:Nat) (nn dd:Nat) (ha:a < n) (hb:b < n) (d:Rts) (hd:d.size=n) (ho:okD t d) (s:Nat) (hs:s≤1000) (k:Nat) (hk:k≤1) (Q:AV→Heap→Prop)
  (hQ:∀ k',k'≤1→Q (.t (.tup [I (((Sort.order2 (ltR t) d a b s).1:Nat):Int),I (((Sort.order2 (ltR t) d a b s).2.1:Nat):Int)])) (swH (Sort.order2 (ltR t) d a b s).2.2 k')) :
  oB (inl Try.prog pol (ans Try.prog pol) nn (dd+1) (.fn 115) [.t (rtsT d),.t (I (a:Nat)),.t (I (b:Nat)),.ref 0 1 0 0,.t (cmF c1 c2 t)] (swH s k)) Q:=by
 have ga:=q70 (d:=d) (i:=a) (by omega)
 have gb:=q70 (d:=d) (i:=b) (by omega)
 have kc:=q0f c1 c2 t h ho (i:=b) (j:=a) (by omega) (by omega)
 have dl:=@q0d t d[b]! d[a]!
 have w1:IntKind.i64.wrap (((s:Nat):Int)+1)=((s+1:Nat):Int):=q00 (by omega) (by omega)
 rw [Sort.order2] at hQ
 with_reducible refine q0e il115_eq ?_ ?_
 ·exact Nat.le_of_ble_eq_true rfl
 cases hl:ltR t d[b]! d[a]! with
 | true =>
  rw [hl] at dl hQ
  (repeat' first|simp only [il115c,go_sem,ga,gb,kc,dl,hk,w1]|with_reducible refine wX fun _=>?_|((with_reducible refine wY ?_ ?_); rfl)|fail)
  all_goals exact hQ 1 (Nat.le_refl 1)
 | false =>
  rw [hl] at dl hQ
  (repeat' first|simp only [il115c,go_sem,ga,gb,kc,dl,hk]|with_reducible refine wX fun _=>?_|((with_reducible refine wY ?_ ?_); rfl)|fail)
  all_goals exact hQ k hk
omit h in
theorem q3Q (lt:List Nat→List Nat→Bool) (d:Rts) (a b s n:Nat) (ha:a < n) (hb:b < n):(Sort.order2 lt d a b s).1 < n∧(Sort.order2 lt d a b s).2.1 < n∧(Sort.order2 lt d a b s).2.2≤s+1:=by
 unfold Sort.order2
 split
 ·exact ⟨hb,ha,Nat.le_refl _⟩
 ·exact ⟨ha,hb,Nat.le_succ _⟩
theorem q3R (n a b c:Nat) (nn dd:Nat) (ha:a < n) (hb:b < n) (hc:c < n) (d:Rts) (hd:d.size=n) (ho:okD t d) (s:Nat) (hs:s≤900) (k:Nat) (hk:k≤1) (Q:AV→Heap→Prop)
  (hQ:∀ k',k'≤1→(Sort.median (ltR t) d a b c s).2≤s+3→Q (.t (I (((Sort.median (ltR t) d a b c s).1:Nat):Int))) (swH (Sort.median (ltR t) d a b c s).2 k')) :
  oB (inl Try.prog pol (ans Try.prog pol) nn (dd+2) (.fn 114) [.t (rtsT d),.t (I (a:Nat)),.t (I (b:Nat)),.t (I (c:Nat)),.ref 0 1 0 0,.t (cmF c1 c2 t)] (swH s k)) Q:=by
 rw [Sort.median] at hQ
 dsimp only at hQ
 with_reducible refine q0e il114_eq ?_ ?_
 ·exact Nat.le_of_ble_eq_true rfl
 (repeat' first|simp only [il114c,go_sem]|with_reducible refine wX fun _=>?_|((with_reducible refine wY ?_ ?_); rfl)|fail)
 with_reducible refine @q3P c1 c2 t h n a b nn dd ha hb d hd ho s ?_ k hk _ ?_
 ·omega
 intro k1 hk1
 obtain ⟨x1,y1,z1⟩:=q3Q (ltR t) d a b s n ha hb
 generalize Sort.order2 (ltR t) d a b s=r1 at *
 obtain ⟨a1,b1,s1⟩:=r1
 dsimp only at *
 (repeat' first|simp only [il114c,go_sem]|with_reducible refine wX fun _=>?_|((with_reducible refine wY ?_ ?_); rfl)|fail)
 with_reducible refine @q3P c1 c2 t h n b1 c nn dd y1 hc d hd ho s1 ?_ k1 hk1 _ ?_
 ·omega
 intro k2 hk2
 obtain ⟨x2,y2,z2⟩:=q3Q (ltR t) d b1 c s1 n y1 hc
 generalize Sort.order2 (ltR t) d b1 c s1=r2 at *
 obtain ⟨b2,cc,s2⟩:=r2
 dsimp only at *
 (repeat' first|simp only [il114c,go_sem]|with_reducible refine wX fun _=>?_|((with_reducible refine wY ?_ ?_); rfl)|fail)
 with_reducible refine @q3P c1 c2 t h n a1 b2 nn dd x1 x2 d hd ho s2 ?_ k2 hk2 _ ?_
 ·omega
 intro k3 hk3
 obtain ⟨x3,y3,z3⟩:=q3Q (ltR t) d a1 b2 s2 n x1 x2
 generalize Sort.order2 (ltR t) d a1 b2 s2=r3 at *
 obtain ⟨a3,b3,s3⟩:=r3
 dsimp only at *
 (repeat' first|simp only [il114c,go_sem]|with_reducible refine wX fun _=>?_|((with_reducible refine wY ?_ ?_); rfl)|fail)
 all_goals exact hQ k3 hk3 (by omega)
theorem q3S (n a:Nat) (nn dd:Nat) (hn:n≤4000000000000000000) (ha:1≤a) (hb:a+1 < n) (d:Rts) (hd:d.size=n) (ho:okD t d) (s:Nat) (hs:s≤900) (k:Nat) (hk:k≤1) (Q:AV→Heap→Prop)
  (hQ:∀ k',k'≤1→(Sort.medianAdjacent (ltR t) d a s).2≤s+3→Q (.t (I (((Sort.medianAdjacent (ltR t) d a s).1:Nat):Int))) (swH (Sort.medianAdjacent (ltR t) d a s).2 k')) :
  oB (inl Try.prog pol (ans Try.prog pol) nn (dd+3) (.fn 113) [.t (rtsT d),.t (I (a:Nat)),.ref 0 1 0 0,.t (cmF c1 c2 t)] (swH s k)) Q:=by
 have w1:IntKind.i64.wrap (((a:Nat):Int) - 1)=((a - 1:Nat):Int):=by rw [q00 (by omega) (by omega)]; omega
 have w2:IntKind.i64.wrap (((a:Nat):Int)+1)=((a+1:Nat):Int):=q00 (by omega) (by omega)
 have b1:a - 1 < n:=by omega
 have b2:a < n:=by omega
 rw [Sort.medianAdjacent] at hQ
 with_reducible refine q0e il113_eq ?_ ?_
 ·exact Nat.le_of_ble_eq_true rfl
 (repeat' first|simp only [il113c,go_sem,w1,w2]|with_reducible refine wX fun _=>?_|((with_reducible refine wY ?_ ?_); rfl)|fail)
 with_reducible refine @q3R c1 c2 t h n (a - 1) a (a+1) nn dd b1 b2 hb d hd ho s hs k hk _ ?_
 intro k3 hk3 hz
 (repeat' first|simp only [il113c,go_sem]|with_reducible refine wX fun _=>?_|((with_reducible refine wY ?_ ?_); rfl)|fail)
 all_goals exact hQ k3 hk3 hz
def hintI (s:Nat):Int:=if s=0 then 1 else if s=12 then 2 else 0
omit h in
theorem q71:([.row 1 [.t (I 0)] 0]:Heap)=swH 0 0:=rfl
theorem q3T (n a b:Nat) (hn:n≤4000000000000000000) (hab:12 < b - a) (hb:b≤n) (d:Rts) (hd:d.size=n) (ho:okD t d) :
  ∃ p s,a≤p∧p < b∧ans Try.prog pol 97 [rtsT d,I (a:Nat),I (b:Nat),cmF c1 c2 t]=some (.tup [I ((p:Nat):Int),I (hintI s)]):=by
 have hcp:=Sort.choosePivot_holds (ltR t) d a b (by omega)
 have w0:IntKind.i64.wrap (((b:Nat):Int) - ((a:Nat):Int))=((b - a:Nat):Int):=by rw [q00 (by omega) (by omega)]; omega
 have hl:b=a+(b - a):=by omega
 rw [Sort.choosePivot] at hcp
 dsimp only at hcp
 generalize b - a=l at *
 have w1:IntKind.i64.wrap (Int.tdiv ((l:Nat):Int) 4)=((l / 4:Nat):Int):=by rw [show Int.tdiv ((l:Nat):Int) 4=((l / 4:Nat):Int) from (Int.ofNat_tdiv l 4).symm]; exact q00 (by omega) (by omega)
 have hq:4*(l / 4)≤l∧l < 4*(l / 4)+4:=by omega
 rw [if_pos (by omega)] at hcp
 generalize l / 4=q at *
 rw [Nat.mul_one] at hcp
 have w2:IntKind.i64.wrap (((q:Nat):Int)*1)=((q:Nat):Int):=by rw [q00 (by omega) (by omega)]; omega
 have w3:IntKind.i64.wrap (((q:Nat):Int)*2)=((q*2:Nat):Int):=by rw [q00 (by omega) (by omega)]; omega
 have w4:IntKind.i64.wrap (((q:Nat):Int)*3)=((q*3:Nat):Int):=by rw [q00 (by omega) (by omega)]; omega
 have w5:IntKind.i64.wrap (((a:Nat):Int)+((q:Nat):Int))=((a+q:Nat):Int):=q00 (by omega) (by omega)
 have w6:IntKind.i64.wrap (((a:Nat):Int)+((q*2:Nat):Int))=((a+q*2:Nat):Int):=q00 (by omega) (by omega)
 have w7:IntKind.i64.wrap (((a:Nat):Int)+((q*3:Nat):Int))=((a+q*3:Nat):Int):=q00 (by omega) (by omega)
 have d1:decide ((8:Int)≤((l:Nat):Int))=true:=decide_eq_true (by omega)
 by_cases h50:l ≥ 50
 ·rw [if_pos h50] at hcp
  refine ⟨_,(Sort.median (ltR t) d (Sort.medianAdjacent (ltR t) d (a+q) 0).1 (Sort.medianAdjacent (ltR t) d (a+q*2) (Sort.medianAdjacent (ltR t) d (a+q) 0).2).1 (Sort.medianAdjacent (ltR t) d (a+q*3) (Sort.medianAdjacent (ltR t) d (a+q*2) (Sort.medianAdjacent (ltR t) d (a+q) 0).2).2).1 (Sort.medianAdjacent (ltR t) d (a+q*3) (Sort.medianAdjacent (ltR t) d (a+q*2) (Sort.medianAdjacent (ltR t) d (a+q) 0).2).2).2).2,hcp.1,hcp.2,?_⟩
  have d2:decide ((50:Int)≤((l:Nat):Int))=true:=decide_eq_true (by omega)
  obtain ⟨nn,hnn⟩:∃ nn,10≤nn:=⟨10,Nat.le_refl _⟩
  refine q02 nn 4 il97_eq (Nat.le_of_ble_eq_true rfl) ?_
  have m1:=Sort.medianAdjacent_mem (ltR t) d (a+q) 0
  (repeat' first|simp only [il97c,go_sem,w0,w1,w2,w3,w4,w5,w6,w7,d1,d2]|with_reducible refine wX fun _=>?_|((with_reducible refine wY ?_ ?_); rfl)|fail)
  rw [q71]
  with_reducible refine @q3S c1 c2 t h n (a+q) nn 1 hn ?_ ?_ d hd ho 0 ?_ 0 ?_ _ ?_
  ·omega
  ·omega
  ·omega
  ·omega
  intro k1 hk1 hz1
  generalize Sort.medianAdjacent (ltR t) d (a+q) 0=r1 at *
  obtain ⟨p1,s1⟩:=r1
  dsimp only at *
  have m2:=Sort.medianAdjacent_mem (ltR t) d (a+q*2) s1
  (repeat' first|simp only [il97c,go_sem]|with_reducible refine wX fun _=>?_|((with_reducible refine wY ?_ ?_); rfl)|fail)
  with_reducible refine @q3S c1 c2 t h n (a+q*2) nn 1 hn ?_ ?_ d hd ho s1 ?_ k1 hk1 _ ?_
  ·omega
  ·omega
  ·omega
  intro k2 hk2 hz2
  generalize Sort.medianAdjacent (ltR t) d (a+q*2) s1=r2 at *
  obtain ⟨p2,s2⟩:=r2
  dsimp only at *
  have m3:=Sort.medianAdjacent_mem (ltR t) d (a+q*3) s2
  (repeat' first|simp only [il97c,go_sem]|with_reducible refine wX fun _=>?_|((with_reducible refine wY ?_ ?_); rfl)|fail)
  with_reducible refine @q3S c1 c2 t h n (a+q*3) nn 1 hn ?_ ?_ d hd ho s2 ?_ k2 hk2 _ ?_
  ·omega
  ·omega
  ·omega
  intro k3 hk3 hz3
  generalize Sort.medianAdjacent (ltR t) d (a+q*3) s2=r3 at *
  obtain ⟨p3,s3⟩:=r3
  dsimp only at *
  (repeat' first|simp only [il97c,go_sem]|with_reducible refine wX fun _=>?_|((with_reducible refine wY ?_ ?_); rfl)|fail)
  with_reducible refine @q3R c1 c2 t h n p1 p2 p3 nn 2 ?_ ?_ ?_ d hd ho s3 ?_ k3 hk3 _ ?_
  ·omega
  ·omega
  ·omega
  ·omega
  intro k4 hk4 hz4
  generalize Sort.median (ltR t) d p1 p2 p3 s3=r4 at *
  obtain ⟨p,s⟩:=r4
  dsimp only at *
  unfold hintI
  by_cases s0:s=0
  ·have e0:decide (((s:Nat):Int)=0)=true:=decide_eq_true (by omega)
   rw [if_pos s0]
   (repeat' first|simp only [il97c,go_sem,hk4,e0]|with_reducible refine wX fun _=>?_|((with_reducible refine wY ?_ ?_); rfl)|fail)
  ·have e0:decide (((s:Nat):Int)=0)=false:=decide_eq_false (by omega)
   rw [if_neg s0]
   by_cases s12:s=12
   ·have e1:decide (((s:Nat):Int)=12)=true:=decide_eq_true (by omega)
    rw [if_pos s12]
    (repeat' first|simp only [il97c,go_sem,hk4,e0,e1]|with_reducible refine wX fun _=>?_|((with_reducible refine wY ?_ ?_); rfl)|fail)
   ·have e1:decide (((s:Nat):Int)=12)=false:=decide_eq_false (by omega)
    rw [if_neg s12]
    (repeat' first|simp only [il97c,go_sem,hk4,e0,e1]|with_reducible refine wX fun _=>?_|((with_reducible refine wY ?_ ?_); rfl)|fail)
 ·rw [if_neg h50] at hcp
  refine ⟨_,(Sort.median (ltR t) d (a+q) (a+q*2) (a+q*3) 0).2,hcp.1,hcp.2,?_⟩
  have d2:decide ((50:Int)≤((l:Nat):Int))=false:=decide_eq_false (by omega)
  obtain ⟨nn,hnn⟩:∃ nn,10≤nn:=⟨10,Nat.le_refl _⟩
  refine q02 nn 4 il97_eq (Nat.le_of_ble_eq_true rfl) ?_
  (repeat' first|simp only [il97c,go_sem,w0,w1,w2,w3,w4,w5,w6,w7,d1,d2]|with_reducible refine wX fun _=>?_|((with_reducible refine wY ?_ ?_); rfl)|fail)
  rw [q71]
  with_reducible refine @q3R c1 c2 t h n (a+q) (a+q*2) (a+q*3) nn 2 ?_ ?_ ?_ d hd ho 0 ?_ 0 ?_ _ ?_
  ·omega
  ·omega
  ·omega
  ·omega
  ·omega
  intro k4 hk4 hz4
  generalize Sort.median (ltR t) d (a+q) (a+q*2) (a+q*3) 0=r4 at *
  obtain ⟨p,s⟩:=r4
  dsimp only at *
  unfold hintI
  by_cases s0:s=0
  ·have e0:decide (((s:Nat):Int)=0)=true:=decide_eq_true (by omega)
   rw [if_pos s0]
   (repeat' first|simp only [il97c,go_sem,hk4,e0]|with_reducible refine wX fun _=>?_|((with_reducible refine wY ?_ ?_); rfl)|fail)
  ·have e0:decide (((s:Nat):Int)=0)=false:=decide_eq_false (by omega)
   rw [if_neg s0]
   by_cases s12:s=12
   ·have e1:decide (((s:Nat):Int)=12)=true:=decide_eq_true (by omega)
    rw [if_pos s12]
    (repeat' first|simp only [il97c,go_sem,hk4,e0,e1]|with_reducible refine wX fun _=>?_|((with_reducible refine wY ?_ ?_); rfl)|fail)
   ·have e1:decide (((s:Nat):Int)=12)=false:=decide_eq_false (by omega)
    rw [if_neg s12]
    (repeat' first|simp only [il97c,go_sem,hk4,e0,e1]|with_reducible refine wX fun _=>?_|((with_reducible refine wY ?_ ?_); rfl)|fail)
end
end Go.Proofs.Ytnjaokhdeaeegaa
namespace Go.Proofs.Ytnjaokhdeaeegaa
open Go Go.Abs
noncomputable def strOf (o:Oper):Option ByteArray:=match o.op with|.index _ (.const (.string s)) _=>some s|_=>none
noncomputable def tabL (k:Nat):Option UInt8:=(strOf (opOf Try.prog 103 10 3)).bind (fun s=>s[k]?)
def ixS (L:Nat→Option UInt8) (h:Heap):AV→Option Res
 | .t (.sc (.int _ n))=>if 0≤n then vOf h ((L n.toNat).map fun b=>.t (.sc (.int .u8 (b.toNat:Nat)))) else none
 | _=>none
theorem q17 {L:Nat→Option UInt8} {h:Heap} {k:IntKind} {n:Int}:ixS L h (.t (.sc (.int k n)))=if 0≤n then vOf h ((L n.toNat).map fun b=>.t (.sc (.int .u8 (b.toNat:Nat)))) else none:=(fun x=>x) rfl
theorem qhQ {P:Program} {pol:Pol} {f:FuncId} {e:FEnv} {h:Heap} {o:Oper} {t:TypeId} {q:Tmp} {s:ByteArray} (ho:o.op=.index t (.const (.string s)) (.tmp q)) (ht:typ P t=some .string):iStep P pol f e h (.raw o)=ixS (fun k=>s[k]?) h (e q):=by
 show aOp P pol f (rhoF pol e) h o=_
 have h1:rhoF pol e (.const (.string s))=.t (.sc (.string s)):=rfl
 have h2:rhoF pol e (.tmp q)=e q:=rfl
 simp only [aOp,ho,aIndex,ht,h1,h2]
 generalize e q=v
 rcases v with x|_|_|_|_|_|_|_|_
 ·rcases x with v|_|_|_|_|_
  ·cases v
   all_goals try rfl
   rename_i kk n
   simp only [asNat,ixS]
   by_cases hn:0≤n
   ·rw [if_pos hn,if_pos hn]
    simp only []
    cases s[n.toNat]? <;> rfl
   ·rw [if_neg hn,if_neg hn]
  all_goals rfl
 all_goals rfl
theorem qhR:∃ s,strOf (opOf Try.prog 103 10 3)=some s∧∃ t q,(opOf Try.prog 103 10 3).op=.index t (.const (.string s)) (.tmp q)∧typ Try.prog t=some .string∧q=21:=by
 have h:(match (opOf Try.prog 103 10 3).op with|.index t (.const (.string s)) (.tmp q)=>(match typ Try.prog t with|some .string=>q == 21|_=>false)|_=>false)=true:=by kernel_rfl
 unfold strOf
 split at h
 ·rename_i t s q ho
  split at h
  ·rename_i ht
   rw [ho]
   exact ⟨s,rfl,t,q,rfl,ht,by simpa using h⟩
  ·cases h
 ·cases h
theorem q18 {e:FEnv} {h:Heap}:iStep Try.prog pol 103 e h (.raw (opOf Try.prog 103 10 3))=ixS tabL h (Src.get e (.v 21)):=by
 obtain ⟨s,h1,t,q,h2,h3,rfl⟩:=qhR
 rw [qhQ h2 h3]
 have e1:tabL=fun k=>s[k]?:=by funext k; rw [tabL,h1]; rfl
 rw [e1]; rfl
theorem qhS:(List.range 256).all (fun b=>(match tabL b with|some x=>x.toNat == Sort.bitsLen b|none=>false))=true:=by kernel_rfl
theorem q19 {b:Nat} (hb:b < 256):∃ x,tabL b=some x∧x.toNat=Sort.bitsLen b:=by
 have h:=List.all_eq_true.1 qhS b (List.mem_range.2 hb)
 split at h
 ·rename_i x hx
  exact ⟨x,hx,by simpa using h⟩
 ·cases h
theorem q1r {x k:Nat} (h:2 ^ k≤x):Sort.bitsLen x=k+Sort.bitsLen (x / 2 ^ k):=by
 have hle:∀ j,Sort.bitsLen x≤k+j↔Sort.bitsLen (x / 2 ^ k)≤j:=by
  intro j
  rw [Sort.bitsLen_le_iff,Sort.bitsLen_le_iff,Nat.div_lt_iff_lt_mul (Nat.two_pow_pos k),Nat.pow_add,Nat.mul_comm]
 have h1:k≤Sort.bitsLen x:=by
  refine Nat.le_of_not_lt fun hlt=>?_
  have:=(Sort.bitsLen_le_iff x (k - 1)).1 (by omega)
  have h2:2 ^ (k - 1)≤2 ^ k:=Nat.pow_le_pow_right (by omega) (by omega)
  omega
 have h3:=(hle (Sort.bitsLen x - k)).1 (by omega)
 have h4:=(hle (Sort.bitsLen (x / 2 ^ k))).2 (Nat.le_refl _)
 omega
theorem wrap_u64 {n:Int} (h0:0≤n) (h1:n < 18446744073709551616):IntKind.u64.wrap n=n:=by
 simp only [IntKind.wrap,IntKind.signed,IntKind.bits]
 simp
 omega
theorem q1a {n:Int} (h0:0≤n) (h1:n < 256):IntKind.u8.wrap n=n:=by
 simp only [IntKind.wrap,IntKind.signed,IntKind.bits]
 simp
 omega
theorem qhT (x:Nat) (hx:x < 2 ^ 64):ans Try.prog pol 103 [.sc (.int .u64 (x:Nat))]=some (I (Sort.bitsLen x:Nat)):=by
 by_cases c32:4294967296≤x
 ·have d32:decide ((4294967296:Int)≤((x:Nat):Int))=true:=decide_eq_true (by omega)
  have e32:=q1r (x:=x) (k:=32) (by omega)
  have f32:Int.fdiv ((x:Nat):Int) 4294967296=((x / 2 ^ 32:Nat):Int):=by rw [Int.fdiv_eq_ediv_of_nonneg _ (by omega)]; omega
  obtain ⟨x32,hx32⟩:∃ z,z=x / 2 ^ 32:=⟨_,rfl⟩
  rw [← hx32] at e32 f32
  have b32:x32 < 4294967296:=by omega
  by_cases c16:65536≤x32
  ·have d16:decide ((65536:Int)≤((x32:Nat):Int))=true:=decide_eq_true (by omega)
   have e16:=q1r (x:=x32) (k:=16) (by omega)
   have f16:Int.fdiv ((x32:Nat):Int) 65536=((x32 / 2 ^ 16:Nat):Int):=by rw [Int.fdiv_eq_ediv_of_nonneg _ (by omega)]; omega
   obtain ⟨x16,hx16⟩:∃ z,z=x32 / 2 ^ 16:=⟨_,rfl⟩
   rw [← hx16] at e16 f16
   have b16:x16 < 65536:=by omega
   by_cases c8:256≤x16
   ·have d8:decide ((256:Int)≤((x16:Nat):Int))=true:=decide_eq_true (by omega)
    have e8:=q1r (x:=x16) (k:=8) (by omega)
    have f8:Int.fdiv ((x16:Nat):Int) 256=((x16 / 2 ^ 8:Nat):Int):=by rw [Int.fdiv_eq_ediv_of_nonneg _ (by omega)]; omega
    obtain ⟨x8,hx8⟩:∃ z,z=x16 / 2 ^ 8:=⟨_,rfl⟩
    rw [← hx8] at e8 f8
    have b8:x8 < 256:=by omega
    have hlt:x8 < 256:=by omega
    have u8:IntKind.u8.wrap ((x8:Nat):Int)=((x8:Nat):Int):=q1a (by omega) (by omega)
    obtain ⟨y,hy,hz⟩:=q19 hlt
    have hb:Sort.bitsLen (x8)≤8:=(Sort.bitsLen_le_iff _ 8).2 (by omega)
    have wy:IntKind.i64.wrap ((y.toNat:Nat):Int)=((y.toNat:Nat):Int):=q00 (by omega) (by omega)
    have wz:IntKind.i64.wrap (56+((y.toNat:Nat):Int))=((Sort.bitsLen x:Nat):Int):=by rw [q00 (by omega) (by omega)]; omega
    refine q02 10 1 il103_eq (Nat.le_of_ble_eq_true rfl) ?_
    (repeat' first|simp only [il103c,go_sem,d32,f32,d16,f16,d8,f8,u8,hy,wy,wz,q18,q17]|with_reducible refine wX fun _=>?_|((with_reducible refine wY ?_ ?_); rfl)|fail)
   ·have d8:decide ((256:Int)≤((x16:Nat):Int))=false:=decide_eq_false (by omega)
    have hlt:x16 < 256:=by omega
    have u8:IntKind.u8.wrap ((x16:Nat):Int)=((x16:Nat):Int):=q1a (by omega) (by omega)
    obtain ⟨y,hy,hz⟩:=q19 hlt
    have hb:Sort.bitsLen (x16)≤8:=(Sort.bitsLen_le_iff _ 8).2 (by omega)
    have wy:IntKind.i64.wrap ((y.toNat:Nat):Int)=((y.toNat:Nat):Int):=q00 (by omega) (by omega)
    have wz:IntKind.i64.wrap (48+((y.toNat:Nat):Int))=((Sort.bitsLen x:Nat):Int):=by rw [q00 (by omega) (by omega)]; omega
    refine q02 10 1 il103_eq (Nat.le_of_ble_eq_true rfl) ?_
    (repeat' first|simp only [il103c,go_sem,d32,f32,d16,f16,d8,u8,hy,wy,wz,q18,q17]|with_reducible refine wX fun _=>?_|((with_reducible refine wY ?_ ?_); rfl)|fail)
  ·have d16:decide ((65536:Int)≤((x32:Nat):Int))=false:=decide_eq_false (by omega)
   by_cases c8:256≤x32
   ·have d8:decide ((256:Int)≤((x32:Nat):Int))=true:=decide_eq_true (by omega)
    have e8:=q1r (x:=x32) (k:=8) (by omega)
    have f8:Int.fdiv ((x32:Nat):Int) 256=((x32 / 2 ^ 8:Nat):Int):=by rw [Int.fdiv_eq_ediv_of_nonneg _ (by omega)]; omega
    obtain ⟨x8,hx8⟩:∃ z,z=x32 / 2 ^ 8:=⟨_,rfl⟩
    rw [← hx8] at e8 f8
    have b8:x8 < 256:=by omega
    have hlt:x8 < 256:=by omega
    have u8:IntKind.u8.wrap ((x8:Nat):Int)=((x8:Nat):Int):=q1a (by omega) (by omega)
    obtain ⟨y,hy,hz⟩:=q19 hlt
    have hb:Sort.bitsLen (x8)≤8:=(Sort.bitsLen_le_iff _ 8).2 (by omega)
    have wy:IntKind.i64.wrap ((y.toNat:Nat):Int)=((y.toNat:Nat):Int):=q00 (by omega) (by omega)
    have wz:IntKind.i64.wrap (40+((y.toNat:Nat):Int))=((Sort.bitsLen x:Nat):Int):=by rw [q00 (by omega) (by omega)]; omega
    refine q02 10 1 il103_eq (Nat.le_of_ble_eq_true rfl) ?_
    (repeat' first|simp only [il103c,go_sem,d32,f32,d16,d8,f8,u8,hy,wy,wz,q18,q17]|with_reducible refine wX fun _=>?_|((with_reducible refine wY ?_ ?_); rfl)|fail)
   ·have d8:decide ((256:Int)≤((x32:Nat):Int))=false:=decide_eq_false (by omega)
    have hlt:x32 < 256:=by omega
    have u8:IntKind.u8.wrap ((x32:Nat):Int)=((x32:Nat):Int):=q1a (by omega) (by omega)
    obtain ⟨y,hy,hz⟩:=q19 hlt
    have hb:Sort.bitsLen (x32)≤8:=(Sort.bitsLen_le_iff _ 8).2 (by omega)
    have wy:IntKind.i64.wrap ((y.toNat:Nat):Int)=((y.toNat:Nat):Int):=q00 (by omega) (by omega)
    have wz:IntKind.i64.wrap (32+((y.toNat:Nat):Int))=((Sort.bitsLen x:Nat):Int):=by rw [q00 (by omega) (by omega)]; omega
    refine q02 10 1 il103_eq (Nat.le_of_ble_eq_true rfl) ?_
    (repeat' first|simp only [il103c,go_sem,d32,f32,d16,d8,u8,hy,wy,wz,q18,q17]|with_reducible refine wX fun _=>?_|((with_reducible refine wY ?_ ?_); rfl)|fail)
 ·have d32:decide ((4294967296:Int)≤((x:Nat):Int))=false:=decide_eq_false (by omega)
  by_cases c16:65536≤x
  ·have d16:decide ((65536:Int)≤((x:Nat):Int))=true:=decide_eq_true (by omega)
   have e16:=q1r (x:=x) (k:=16) (by omega)
   have f16:Int.fdiv ((x:Nat):Int) 65536=((x / 2 ^ 16:Nat):Int):=by rw [Int.fdiv_eq_ediv_of_nonneg _ (by omega)]; omega
   obtain ⟨x16,hx16⟩:∃ z,z=x / 2 ^ 16:=⟨_,rfl⟩
   rw [← hx16] at e16 f16
   have b16:x16 < 65536:=by omega
   by_cases c8:256≤x16
   ·have d8:decide ((256:Int)≤((x16:Nat):Int))=true:=decide_eq_true (by omega)
    have e8:=q1r (x:=x16) (k:=8) (by omega)
    have f8:Int.fdiv ((x16:Nat):Int) 256=((x16 / 2 ^ 8:Nat):Int):=by rw [Int.fdiv_eq_ediv_of_nonneg _ (by omega)]; omega
    obtain ⟨x8,hx8⟩:∃ z,z=x16 / 2 ^ 8:=⟨_,rfl⟩
    rw [← hx8] at e8 f8
    have b8:x8 < 256:=by omega
    have hlt:x8 < 256:=by omega
    have u8:IntKind.u8.wrap ((x8:Nat):Int)=((x8:Nat):Int):=q1a (by omega) (by omega)
    obtain ⟨y,hy,hz⟩:=q19 hlt
    have hb:Sort.bitsLen (x8)≤8:=(Sort.bitsLen_le_iff _ 8).2 (by omega)
    have wy:IntKind.i64.wrap ((y.toNat:Nat):Int)=((y.toNat:Nat):Int):=q00 (by omega) (by omega)
    have wz:IntKind.i64.wrap (24+((y.toNat:Nat):Int))=((Sort.bitsLen x:Nat):Int):=by rw [q00 (by omega) (by omega)]; omega
    refine q02 10 1 il103_eq (Nat.le_of_ble_eq_true rfl) ?_
    (repeat' first|simp only [il103c,go_sem,d32,d16,f16,d8,f8,u8,hy,wy,wz,q18,q17]|with_reducible refine wX fun _=>?_|((with_reducible refine wY ?_ ?_); rfl)|fail)
   ·have d8:decide ((256:Int)≤((x16:Nat):Int))=false:=decide_eq_false (by omega)
    have hlt:x16 < 256:=by omega
    have u8:IntKind.u8.wrap ((x16:Nat):Int)=((x16:Nat):Int):=q1a (by omega) (by omega)
    obtain ⟨y,hy,hz⟩:=q19 hlt
    have hb:Sort.bitsLen (x16)≤8:=(Sort.bitsLen_le_iff _ 8).2 (by omega)
    have wy:IntKind.i64.wrap ((y.toNat:Nat):Int)=((y.toNat:Nat):Int):=q00 (by omega) (by omega)
    have wz:IntKind.i64.wrap (16+((y.toNat:Nat):Int))=((Sort.bitsLen x:Nat):Int):=by rw [q00 (by omega) (by omega)]; omega
    refine q02 10 1 il103_eq (Nat.le_of_ble_eq_true rfl) ?_
    (repeat' first|simp only [il103c,go_sem,d32,d16,f16,d8,u8,hy,wy,wz,q18,q17]|with_reducible refine wX fun _=>?_|((with_reducible refine wY ?_ ?_); rfl)|fail)
  ·have d16:decide ((65536:Int)≤((x:Nat):Int))=false:=decide_eq_false (by omega)
   by_cases c8:256≤x
   ·have d8:decide ((256:Int)≤((x:Nat):Int))=true:=decide_eq_true (by omega)
    have e8:=q1r (x:=x) (k:=8) (by omega)
    have f8:Int.fdiv ((x:Nat):Int) 256=((x / 2 ^ 8:Nat):Int):=by rw [Int.fdiv_eq_ediv_of_nonneg _ (by omega)]; omega
    obtain ⟨x8,hx8⟩:∃ z,z=x / 2 ^ 8:=⟨_,rfl⟩
    rw [← hx8] at e8 f8
    have b8:x8 < 256:=by omega
    have hlt:x8 < 256:=by omega
    have u8:IntKind.u8.wrap ((x8:Nat):Int)=((x8:Nat):Int):=q1a (by omega) (by omega)
    obtain ⟨y,hy,hz⟩:=q19 hlt
    have hb:Sort.bitsLen (x8)≤8:=(Sort.bitsLen_le_iff _ 8).2 (by omega)
    have wy:IntKind.i64.wrap ((y.toNat:Nat):Int)=((y.toNat:Nat):Int):=q00 (by omega) (by omega)
    have wz:IntKind.i64.wrap (8+((y.toNat:Nat):Int))=((Sort.bitsLen x:Nat):Int):=by rw [q00 (by omega) (by omega)]; omega
    refine q02 10 1 il103_eq (Nat.le_of_ble_eq_true rfl) ?_
    (repeat' first|simp only [il103c,go_sem,d32,d16,d8,f8,u8,hy,wy,wz,q18,q17]|with_reducible refine wX fun _=>?_|((with_reducible refine wY ?_ ?_); rfl)|fail)
   ·have d8:decide ((256:Int)≤((x:Nat):Int))=false:=decide_eq_false (by omega)
    have hlt:x < 256:=by omega
    have u8:IntKind.u8.wrap ((x:Nat):Int)=((x:Nat):Int):=q1a (by omega) (by omega)
    obtain ⟨y,hy,hz⟩:=q19 hlt
    have hb:Sort.bitsLen (x)≤8:=(Sort.bitsLen_le_iff _ 8).2 (by omega)
    have wy:IntKind.i64.wrap ((y.toNat:Nat):Int)=((y.toNat:Nat):Int):=q00 (by omega) (by omega)
    have wz:IntKind.i64.wrap (0+((y.toNat:Nat):Int))=((Sort.bitsLen x:Nat):Int):=by rw [q00 (by omega) (by omega)]; omega
    refine q02 10 1 il103_eq (Nat.le_of_ble_eq_true rfl) ?_
    (repeat' first|simp only [il103c,go_sem,d32,d16,d8,u8,hy,wy,wz,q18,q17]|with_reducible refine wX fun _=>?_|((with_reducible refine wY ?_ ?_); rfl)|fail)
theorem q72 (x:Nat) (hx:x < 2 ^ 64):ans Try.prog pol 87 [.sc (.int .u64 (x:Nat))]=some (I (Sort.bitsLen x:Nat)):=by
 have k:=qhT x hx
 have w:IntKind.u64.wrap ((x:Nat):Int)=((x:Nat):Int):=wrap_u64 (by omega) (by omega)
 refine q02 10 1 il87_eq (Nat.le_of_ble_eq_true rfl) ?_
 (repeat' first|simp only [il87c,go_sem,k,w]|with_reducible refine wX fun _=>?_|((with_reducible refine wY ?_ ?_); rfl)|fail)
theorem qhU (l:Nat) (hl:l < 2 ^ 62):ans Try.prog pol 111 [I (l:Nat)]=some (.sc (.int .u64 ((2 ^ Sort.bitsLen l:Nat):Int))):=by
 have w:IntKind.u64.wrap ((l:Nat):Int)=((l:Nat):Int):=wrap_u64 (by omega) (by omega)
 have k:=q72 l (by omega)
 have hb:Sort.bitsLen l≤62:=(Sort.bitsLen_le_iff _ 62).2 hl
 generalize Sort.bitsLen l=j at *
 have d:decide (((j:Nat):Int) < 0)=false:=decide_eq_false (by omega)
 have d2:¬ ((j:Nat):Int) < 0:=by omega
 have hj:min j 64=j:=by omega
 have hp:(2:Nat) ^ j≤2 ^ 62:=Nat.pow_le_pow_right (by omega) hb
 have w2:IntKind.u64.wrap (1*2 ^ j)=((2 ^ j:Nat):Int):=by
  have e:((1:Int)*2 ^ j)=((2 ^ j:Nat):Int):=by simp
  rw [e]
  have hp2:(2 ^ j:Nat)≤4611686018427387904:=hp
  clear e hp d d2 k w
  generalize (2 ^ j:Nat)=M at *
  exact wrap_u64 (by omega) (by omega)
 refine q02 10 1 il111_eq (Nat.le_of_ble_eq_true rfl) ?_
 (repeat' first|simp only [il111c,go_sem,k,w,d2,hj,w2]|with_reducible refine wX fun _=>?_|((with_reducible refine wY ?_ ?_); rfl)|fail)
end Go.Proofs.Ytnjaokhdeaeegaa
namespace Go.Proofs.Ytnjaokhdeaeegaa
open Go Go.Abs
abbrev xrJ (J:List (Value × Nat)) (z:Int) (k:Nat):List (Value × Nat):=J++[(.int .u64 z,k)]
theorem q73 (d:Rts) (m:Nat) (J:List (Value × Nat)) (kk:IntKind) (z z':Int) (k k':Nat):(hS d m (J++[(.int kk z,k)])).set (J.length+1) (.row 1 [.t (.sc (.int kk z'))] k')=hS d m (J++[(.int kk z',k')]):=by
 show rowS d m::(jX (J++[(.int kk z,k)])).set J.length _=_
 rw [qhO]; rfl
theorem qhV (J:List (Value × Nat)) (nn dd:Nat) (d:Rts) (m:Nat) (z:Int) (k:Nat) (hk:k≤1) (Q:AV→Heap→Prop)
  (hQ:∀ z',Q (.t (.sc (.int .u64 z'))) (hS d m (xrJ J z' 1))) :
  oB (inl Try.prog pol (ans Try.prog pol) nn (dd+1) (.fn 112) [.ref (J.length+1) 1 0 0] (hS d m (xrJ J z k))) Q:=by
 have g:=fun z k=>hS_sw d m J .u64 z k
 have s:=fun z z' k k'=>q73 d m J .u64 z z' k k'
 with_reducible refine q0e il112_eq ?_ ?_
 ·exact Nat.le_of_ble_eq_true rfl
 (repeat' first|simp only [il112c,go_sem,g,s,hk,q01]|with_reducible refine wX fun _=>?_|((with_reducible refine wY ?_ ?_); rfl)|fail)
 all_goals exact hQ _
theorem qhW {x y:Int} (h0:0≤y) (h1:y < 18446744073709551616):0≤u64and x y∧u64and x y≤y:=by
 have e:∀ b:BitVec 64,(BitVec.ofInt 64 y).toNat=y.toNat:=fun _=>by
  rw [BitVec.toNat_ofInt]; omega
 have h2:(BitVec.ofInt 64 x &&& BitVec.ofInt 64 y).toNat≤y.toNat:=by
  rw [BitVec.toNat_and,e 0]
  exact Nat.and_le_right
 unfold u64and
 rw [wrap_u64 (by omega) (by omega)]
 omega
section
variable (c1 c2:Bool) (t:Tpo) (h:okT t=true)
theorem qhX (n a l q M:Nat) (d0:Rts) (J:List (Value × Nat)) (nn dd:Nat) (hn:n≤4000000000000000000) (hal:a+l≤n) (hq:q*2+1 < l) (hq1:1≤q) (hM:1≤M) (hM2:M≤2*l)
  (wq1:IntKind.i64.wrap (Int.tdiv ((l:Nat):Int) 4)=((q:Nat):Int)) (hd0:d0.size=n):∀ (r i:Nat) (d:Rts) (m k:Nat) (z:Int) (kz:Nat),i+r=a+q*2+2→a≤i→d.size=n→okD t d→m≤n→kz≤1→Sort.PermIn a (a+l) d0 d→r < k→∀ (R:Xit→FEnv→Heap→Prop) (e:FEnv),
  (e 0=.ms 0 n 0 n 1 false∧e 1=.t (I (a:Nat))∧e 8=.t (I (l:Nat))∧e 9=.ref (J.length+1) 1 0 0∧e 10=.t (.sc (.int .u64 ((M:Nat):Int)))∧e 11=.t (I (i:Nat))) →
  (∀ e d' m' z' k',m'≤n→okD t d'→Sort.PermIn a (a+l) d0 d'→R (.exit 0) e (hS d' m' (xrJ J z' k'))) →
  wpIter (J.length+2) (some [0,1,8,9,10,11]) (wc Try.prog pol (ans Try.prog pol) (inl Try.prog pol (ans Try.prog pol) nn (dd+1)) nn 96 il96l0) R k e (hS d m (xrJ J z kz)):=by
 have w2:IntKind.i64.wrap (((q:Nat):Int)*2)=((q*2:Nat):Int):=by rw [q00 (by omega) (by omega)]; omega
 have w3:IntKind.i64.wrap (((a:Nat):Int)+((q*2:Nat):Int))=((a+q*2:Nat):Int):=q00 (by omega) (by omega)
 have w4:IntKind.i64.wrap (((a+q*2:Nat):Int)+1)=((a+q*2+1:Nat):Int):=q00 (by omega) (by omega)
 intro r
 induction r with
 | zero =>
  intro i d m k z kz hi hai hd ho hm hkz hp hk R e hs hR
  obtain ⟨k,rfl⟩:∃ q,k=q+1:=⟨k - 1,by omega⟩
  have d1:decide (((i:Nat):Int)≤((a+q*2+1:Nat):Int))=false:=decide_eq_false (by omega)
  rw [q06]
  (repeat' first|simp only [il96l0_go,il96l0b,go_sem,hs,d1,wq1,w2,w3,w4]|with_reducible refine wX fun _=>?_|((with_reducible refine wY ?_ ?_); rfl)|fail)
  all_goals exact hR _ d m z kz hm ho hp
 | succ r ih =>
  intro i d m k z kz hi hai hd ho hm hkz hp hk R e hs hR
  obtain ⟨k,rfl⟩:∃ q,k=q+1:=⟨k - 1,by omega⟩
  have d1:decide (((i:Nat):Int)≤((a+q*2+1:Nat):Int))=true:=decide_eq_true (by omega)
  have w5:IntKind.i64.wrap (((i:Nat):Int)+1)=((i+1:Nat):Int):=q00 (by omega) (by omega)
  have w6:IntKind.u64.wrap (((M:Nat):Int) - 1)=((M:Nat):Int) - 1:=wrap_u64 (by omega) (by omega)
  have e2:(xrJ J z kz).length+1=J.length+2:=by simp
  rw [q06]
  (repeat' first|simp only [il96l0_go,il96l0b,go_sem,hs,d1,wq1,w2,w3,w4,q01,List.length_append]|with_reducible refine wX fun _=>?_|((with_reducible refine wY ?_ ?_); rfl)|fail)
  with_reducible refine @qhV J nn dd d m z kz hkz _ ?_
  intro z'
  have hle:=@qhW z' (((M:Nat):Int) - 1) (by omega) (by omega)
  obtain ⟨y,hy⟩:∃ y:Nat,u64and z' (((M:Nat):Int) - 1)=((y:Nat):Int):=⟨(u64and z' (((M:Nat):Int) - 1)).toNat,by omega⟩
  rw [hy] at hle
  have w7:IntKind.i64.wrap ((y:Nat):Int)=((y:Nat):Int):=q00 (by omega) (by omega)
  have gL:=fun z k=>hS_sw d m J .u64 z k
  by_cases hyl:l≤y
  ·have d2:decide (((l:Nat):Int)≤((y:Nat):Int))=true:=decide_eq_true (by omega)
   have w8:IntKind.i64.wrap (((y:Nat):Int) - ((l:Nat):Int))=((y - l:Nat):Int):=by rw [q00 (by omega) (by omega)]; omega
   have w9:IntKind.i64.wrap (((a:Nat):Int)+((y - l:Nat):Int))=((a+(y - l):Nat):Int):=q00 (by omega) (by omega)
   have b1:i < n:=by omega
   have b2:a+(y - l) < n:=by omega
   have sf:=q0u hd b1 b2
   have p2:=Sort.swp_permIn d a (a+l) i (a+(y - l)) (by omega) (by omega) (by omega) (by omega) (by omega)
   rw [hS_eq d m (xrJ J z' 1)]
   (repeat' first|simp only [il96l0_go,il96l0b,go_sem,hs,hy,w5,w6,w7,w8,w9,d2,sf,hm,b1,b2,q0p,q07]|with_reducible refine wX fun _=>?_|((with_reducible refine wY ?_ ?_); rfl)|fail)
   all_goals (rw [q0q]; refine ih (i+1) (Sort.swp d i (a+(y - l))) n k z' 1 (by omega) (by omega) (by rw [q0n]; exact hd) (q0s ho (by omega) (by omega)) (Nat.le_refl n) (Nat.le_refl 1) (Sort.permIn_trans _ _ _ _ _ hp p2) (by omega) R _ ?_ hR; simp only [go_sem,hs,w5])
  ·have d2:decide (((l:Nat):Int)≤((y:Nat):Int))=false:=decide_eq_false (by omega)
   have w9:IntKind.i64.wrap (((a:Nat):Int)+((y:Nat):Int))=((a+y:Nat):Int):=q00 (by omega) (by omega)
   have b1:i < n:=by omega
   have b2:a+y < n:=by omega
   have sf:=q0u hd b1 b2
   have p2:=Sort.swp_permIn d a (a+l) i (a+y) (by omega) (by omega) (by omega) (by omega) (by omega)
   rw [hS_eq d m (xrJ J z' 1)]
   (repeat' first|simp only [il96l0_go,il96l0b,go_sem,hs,hy,w5,w6,w7,w9,d2,sf,hm,b1,b2,q0p,q07]|with_reducible refine wX fun _=>?_|((with_reducible refine wY ?_ ?_); rfl)|fail)
   all_goals (rw [q0q]; refine ih (i+1) (Sort.swp d i (a+y)) n k z' 1 (by omega) (by omega) (by rw [q0n]; exact hd) (q0s ho (by omega) (by omega)) (Nat.le_refl n) (Nat.le_refl 1) (Sort.permIn_trans _ _ _ _ _ hp p2) (by omega) R _ ?_ hR; simp only [go_sem,hs,w5])
theorem qhY (n a b:Nat) (J:List (Value × Nat)) (nn dd:Nat) (hn:n≤4000000000000000000) (hnn:5 < nn) (hab:12 < b - a) (hb:b≤n) (d:Rts) (m:Nat) (hd:d.size=n) (ho:okD t d) (hm:m≤n) (Q:AV→Heap→Prop)
  (hQ:∀ d' m' z k',m'≤n→okD t d'→Sort.PermIn a b d d'→Q (.t (.tup [])) (hS d' m' (xrJ J z k'))) :
  oB (inl Try.prog pol (ans Try.prog pol) nn (dd+2) (.fn 96) [.ms 0 n 0 n 1 false,.t (I (a:Nat)),.t (I (b:Nat)),.t (cmF c1 c2 t)] (hS d m J)) Q:=by
 have w0:IntKind.i64.wrap (((b:Nat):Int) - ((a:Nat):Int))=((b - a:Nat):Int):=by rw [q00 (by omega) (by omega)]; omega
 obtain ⟨l,hl⟩:∃ l,l=b - a:=⟨_,rfl⟩
 obtain rfl:b=a+l:=by omega
 have hl2:a+l - a=l:=by omega
 rw [hl2] at w0 hab
 have w1:IntKind.i64.wrap (Int.tdiv ((l:Nat):Int) 4)=((l / 4:Nat):Int):=by rw [show Int.tdiv ((l:Nat):Int) 4=((l / 4:Nat):Int) from (Int.ofNat_tdiv l 4).symm]; exact q00 (by omega) (by omega)
 have hq:4*(l / 4)≤l∧l < 4*(l / 4)+4:=by omega
 generalize l / 4=q at *
 have w2:IntKind.i64.wrap (((q:Nat):Int)*2)=((q*2:Nat):Int):=by rw [q00 (by omega) (by omega)]; omega
 have w3:IntKind.i64.wrap (((a:Nat):Int)+((q*2:Nat):Int))=((a+q*2:Nat):Int):=q00 (by omega) (by omega)
 have w4:IntKind.i64.wrap (((a+q*2:Nat):Int) - 1)=((a+q*2 - 1:Nat):Int):=by rw [q00 (by omega) (by omega)]; omega
 have d1:decide ((8:Int)≤((l:Nat):Int))=true:=decide_eq_true (by omega)
 have kp:=qhU l (by omega)
 have hM2:=Sort.two_pow_bitsLen_le (n:=l) (by omega)
 have hM:=Nat.two_pow_pos (Sort.bitsLen l)
 generalize 2 ^ Sort.bitsLen l=M at *
 have wu:IntKind.u64.wrap ((l:Nat):Int)=((l:Nat):Int):=wrap_u64 (by omega) (by omega)
 have g:=fun z k=>hS_sw d m J .u64 z k
 have s:=fun z z' k k'=>q73 d m J .u64 z z' k k'
 with_reducible refine q0e il96_eq ?_ ?_
 ·exact Nat.le_of_ble_eq_true rfl
 (repeat' first|simp only [il96c,go_sem,w0,w1,w2,w3,w4,d1,kp,wu,g,s,q01,qhP,List.length_append]|with_reducible refine wX fun _=>?_|((with_reducible refine wY ?_ ?_); rfl)|fail)
 refine qhX t n a l q M d J nn dd hn (by omega) (by omega) (by omega) (by omega) (by omega) w1 hd 3 (a+q*2 - 1) d m nn ((l:Nat):Int) 1 (by omega) (by omega) hd ho hm (Nat.le_refl 1) (Sort.permIn_refl _ _ _) (by omega) _ _ (by simp only [go_sem,w0,w4]) ?_
 intro e1 d' m' z' k' hm' ho' hp
 (repeat' first|simp only [il96c,go_sem,q01]|with_reducible refine wX fun _=>?_|((with_reducible refine wY ?_ ?_); rfl)|fail)
 all_goals exact hQ d' m' z' k' hm' ho' hp
end
end Go.Proofs.Ytnjaokhdeaeegaa
namespace Go.Proofs.Ytnjaokhdeaeegaa
open Go Go.Abs
theorem q0c {t:Tpo} {a b:Nat} {d d':Rts} (hb:b≤d.size) (hp:Sort.PermIn a b d d') (ho:okD t d):okD t d':=by
 intro i hi
 by_cases h1:i < a∨b≤i
 ·rw [hp.2.1 i h1]; exact ho i (by rw [← hp.1]; exact hi)
 ·exact Sort.permIn_all d d' a b (fun r=>ptP t r∧r.length≤1000) hb hp (fun k _ hk=>ho k (by omega)) i (by omega) (by omega)
def shG (J J2:List (Value × Nat)) (d:Rts) (m:Nat) (v:AV):AV:=if J.length < J2.length then frV (frz (hS d m J2) (fromB (J.length+1)) v) else v
theorem shG_t {J J2:List (Value × Nat)} {d:Rts} {m:Nat} {x:T}:shG J J2 d m (.t x)=.t x:=by
 unfold shG
 split
 ·rw [frz_t]; rfl
 ·rfl
theorem q03 {J J2:List (Value × Nat)} {d:Rts} {m q i l k:Nat} {c:Bool}:shG J J2 d m (.ms 0 q i l k c)=.ms 0 q i l k c:=by
 unfold shG
 split
 ·rw [q5S (by simp [fromB])]; rfl
 ·rfl
theorem q0b {J J2:List (Value × Nat)} (h2:J2.take J.length=J):∀ (e:FEnv) (d:Rts) (m:Nat),shrinkF (J.length+1) e (hS d m J2)=some (fun t=>shG J J2 d m (e t),hS d m J):=by
 intro e d m
 have hle:=congrArg List.length h2
 rw [List.length_take] at hle
 have ht:(hS d m J2).take (J.length+1)=hS d m J:=by
  rw [hS,List.take_succ_cons,jX,← List.map_take,h2]; rfl
 have hz:∀ h,mapO (frzObj h (fromB (J.length+1))) (hS d m J)=some (hS d m J):=fun h=>by
  show mapO _ (rowS d m::jX J)=_
  rw [q5Q,qh3,qh2 _ _ (by simp [fromB])]; rfl
 unfold shG
 by_cases h1:J.length < J2.length
 ·rw [q3u (by rw [q01]; omega),ht,hz,q5N]
  simp only [if_pos h1]
  congr 2
 ·rw [q5H (by rw [q01]; omega)]
  simp only [if_neg h1]
  have:J2=J:=by rw [← h2,List.take_of_length_le (by omega)]
  rw [this]
theorem q0h {J J2:List (Value × Nat)} (K:List (Value × Nat)) (h2:J2.take J.length=J):(J2++K).take J.length=J:=by
 have hle:=congrArg List.length h2
 rw [List.length_take] at hle
 rw [List.take_append_of_le_length (by omega),h2]
theorem q3U (s:Nat):hintI s=0∨hintI s=1∨hintI s=2:=by
 unfold hintI
 split
 ·exact .inr (.inl rfl)
 ·split
  ·exact .inr (.inr rfl)
  ·exact .inl rfl
section
variable (c1 c2:Bool) (t:Tpo) (h:okT t=true)
def PdqIH (nn D n N:Nat):Prop:=∀ (a b lim:Nat) (J:List (Value × Nat)) (d:Rts) (m:Nat) (Q:AV→Heap→Prop),b - a < N→a≤b→b≤n→lim≤1000→d.size=n→okD t d→m≤n→Sort.Below (ltR t) a b d →
 (∀ d' m' K,m'≤n→okD t d'→Sort.PermIn a b d d'→Sort.SortedIn (ltR t) a b d'→Q (.t (.tup [])) (hS d' m' (J++K))) →
 oB (inl Try.prog pol (ans Try.prog pol) nn D (.fn 86) [.ms 0 n 0 n 1 false,.t (I (a:Nat)),.t (I (b:Nat)),.t (I (lim:Nat)),.t (cmF c1 c2 t)] (hS d m J)) Q
include h
theorem qhZ (n N x nn:Nat) (J:List (Value × Nat)) (hn:n≤4000000000000000000) (hnn:n < nn) (hnn5:5 < nn) (hIH:PdqIH c1 c2 t nn (x+4) n N):∀ (r a b lim:Nat) (wb wp:Bool) (d:Rts) (m k:Nat),b - a≤r→r≤N→a≤b→b≤n→lim≤1000→d.size=n→okD t d→m≤n→Sort.Below (ltR t) a b d→r < k→∀ (R:Xit→FEnv→Heap→Prop) (e:FEnv),
  (e 0=.ms 0 n 0 n 1 false∧e 1=.t (I (a:Nat))∧e 2=.t (I (b:Nat))∧e 3=.t (I (lim:Nat))∧e 4=.t (cmF c1 c2 t)∧e 10=.t (B wb)∧e 11=.t (B wp)) →
  (∀ e d' m' K,m'≤n→okD t d'→Sort.PermIn a b d d'→Sort.SortedIn (ltR t) a b d'→R .ret e (hS d' m' (J++K))) →
  wpIter (J.length+1) (some [0,1,2,3,4,10,11]) (wc Try.prog pol (ans Try.prog pol) (inl Try.prog pol (ans Try.prog pol) nn (x+4)) nn 86 il86l0) R k e (hS d m J):=by
 unfold PdqIH at hIH
 have swo:=q6t t
 intro r
 induction r with
 | zero =>
  intro a b lim wb wp d m k hr hrN hab hb hlim hd ho hm hB hk R e hs hR
  obtain ⟨k,rfl⟩:∃ q,k=q+1:=⟨k - 1,by omega⟩
  have hR0:∀ e d' m',m'≤n→okD t d'→Sort.PermIn a b d d'→Sort.SortedIn (ltR t) a b d'→R .ret e (hS d' m' J):=fun e d' m' q1 q2 q3 q4=>by
   have:=hR e d' m' [] q1 q2 q3 q4
   rwa [List.append_nil] at this
  have w0:IntKind.i64.wrap (((b:Nat):Int) - ((a:Nat):Int))=((b - a:Nat):Int):=by rw [q00 (by omega) (by omega)]; omega
  have d1:decide (((b - a:Nat):Int)≤12)=true:=decide_eq_true (by omega)
  rw [q06]
  (repeat' first|simp only [il86l0_go,il86l0b,go_sem,hs,w0,d1,q01]|with_reducible refine wX fun _=>?_|((with_reducible refine wY ?_ ?_); rfl)|fail)
  with_reducible refine @q6u c1 c2 t h n a b J nn (x+3) ?_ hnn hab hb d m hd ho hm _ ?_
  ·omega
  intro m' hm'
  have hi:=Sort.insertionSort_holds swo d a b hab (by omega)
  (repeat' first|simp only [il86l0_go,il86l0b,go_sem,hs,q01]|with_reducible refine wX fun _=>?_|((with_reducible refine wY ?_ ?_); rfl)|fail)
  all_goals exact hR0 _ _ m' hm' (q0c (by omega) hi.1 ho) hi.1 hi.2
 | succ r ih =>
  intro a b lim wb wp d m k hr hrN hab hb hlim hd ho hm hB hk R e hs hR
  obtain ⟨k,rfl⟩:∃ q,k=q+1:=⟨k - 1,by omega⟩
  have hR0:∀ e d' m',m'≤n→okD t d'→Sort.PermIn a b d d'→Sort.SortedIn (ltR t) a b d'→R .ret e (hS d' m' J):=fun e d' m' q1 q2 q3 q4=>by
   have:=hR e d' m' [] q1 q2 q3 q4
   rwa [List.append_nil] at this
  have w0:IntKind.i64.wrap (((b:Nat):Int) - ((a:Nat):Int))=((b - a:Nat):Int):=by rw [q00 (by omega) (by omega)]; omega
  have hbd:b≤d.size:=by omega
  rw [q06]
  by_cases h12:b - a≤12
  ·have d1:decide (((b - a:Nat):Int)≤12)=true:=decide_eq_true (by omega)
   (repeat' first|simp only [il86l0_go,il86l0b,go_sem,hs,w0,d1,q01]|with_reducible refine wX fun _=>?_|((with_reducible refine wY ?_ ?_); rfl)|fail)
   with_reducible refine @q6u c1 c2 t h n a b J nn (x+3) ?_ hnn hab hb d m hd ho hm _ ?_
   ·omega
   intro m' hm'
   have hi:=Sort.insertionSort_holds swo d a b hab (by omega)
   (repeat' first|simp only [il86l0_go,il86l0b,go_sem,hs,q01]|with_reducible refine wX fun _=>?_|((with_reducible refine wY ?_ ?_); rfl)|fail)
   all_goals exact hR0 _ _ m' hm' (q0c (by omega) hi.1 ho) hi.1 hi.2
  have d1:decide (((b - a:Nat):Int)≤12)=false:=decide_eq_false (by omega)
  have h12':12 < b - a:=by omega
  have hlt:a < b:=by omega
  by_cases hl0:lim=0
  ·have d2:decide (((lim:Nat):Int)=0)=true:=decide_eq_true (by omega)
   (repeat' first|simp only [il86l0_go,il86l0b,go_sem,hs,w0,d1,d2,q01]|with_reducible refine wX fun _=>?_|((with_reducible refine wY ?_ ?_); rfl)|fail)
   with_reducible refine @qhE c1 c2 t h n a b J nn (x+2) hn hnn hlt hb d m hd ho hm _ ?_
   intro m' hm'
   have hi:=Sort.heapSort_holds swo d a b hab (by omega)
   (repeat' first|simp only [il86l0_go,il86l0b,go_sem,hs,q01]|with_reducible refine wX fun _=>?_|((with_reducible refine wY ?_ ?_); rfl)|fail)
   all_goals exact hR0 _ _ m' hm' (q0c (by omega) hi.1 ho) hi.1 hi.2
  have d2:decide (((lim:Nat):Int)=0)=false:=decide_eq_false (by omega)
  have w1:IntKind.i64.wrap (((lim:Nat):Int) - 1)=((lim - 1:Nat):Int):=by rw [q00 (by omega) (by omega)]; omega
  have w8:IntKind.i64.wrap (Int.tdiv ((b - a:Nat):Int) 8)=(((b - a) / 8:Nat):Int):=by rw [show Int.tdiv ((b - a:Nat):Int) 8=(((b - a) / 8:Nat):Int) from (Int.ofNat_tdiv (b - a) 8).symm]; exact q00 (by omega) (by omega)
  have wa:IntKind.i64.wrap (((a:Nat):Int) - 1)=((a:Nat):Int) - 1:=q00 (by omega) (by omega)
  have wb1:IntKind.i64.wrap (((b:Nat):Int) - 1)=((b - 1:Nat):Int):=by rw [q00 (by omega) (by omega)]; omega
  cases wb with
  | false =>
   (repeat' first|simp only [il86l0_go,il86l0b,go_sem,hs,w0,d1,d2,w1,q01]|with_reducible refine wX fun _=>?_|((with_reducible refine wY ?_ ?_); rfl)|fail)
   with_reducible refine @qhY c1 c2 t n a b J nn (x+2) hn hnn5 h12' hb d m hd ho hm _ ?_
   intro D1 M1 z1 k1 hM1 hoD1 hP1
   have hJ2:(xrJ J z1 k1).take J.length=J:=by simp
   generalize xrJ J z1 k1=J2 at *
   obtain ⟨p,s,hp1,hp2,kp⟩:=q3T c1 c2 t h n a b hn h12' hb D1 (hP1.1.trans hd) (q0c hbd hP1 ho)
   have hhv:=q3U s
   generalize hintI s=hv at *
   have sn:snL (hS D1 M1 J2) 19 false 1 (elemsOf (hS D1 M1 J2) 1 (.ms 0 n 0 n 1 false))=some (rtsT D1):=q2D D1 M1 n J2 (hP1.1.trans hd) hM1 18
   by_cases h2:hv=2
   ·have e2:decide (hv=2)=true:=decide_eq_true h2
    have v5:IntKind.i64.wrap (((p:Nat):Int) - ((a:Nat):Int))=((p - a:Nat):Int):=by rw [q00 (by omega) (by omega)]; omega
    have v6:IntKind.i64.wrap (((b - 1:Nat):Int) - ((p - a:Nat):Int))=((b - 1 - (p - a):Nat):Int):=by rw [q00 (by omega) (by omega)]; omega
    (repeat' first|simp only [il86l0_go,il86l0b,go_sem,hs,w1,sn,kp,e2,q01]|with_reducible refine wX fun _=>?_|((with_reducible refine wY ?_ ?_); rfl)|fail)
    with_reducible refine @q3O c1 c2 t n a b J2 nn (x+3) hn hnn hlt hb D1 M1 ?_ (q0c hbd hP1 ho) hM1 _ ?_
    ·exact hP1.1.trans hd
    intro M hM
    have hpr:=Sort.reverseRange_holds D1 a b hab (by rw [hP1.1]; exact hbd)
    have hP:Sort.PermIn a b d (Sort.reverseRange D1 a b):=Sort.permIn_trans _ _ _ _ _ hP1 hpr
    generalize Sort.reverseRange D1 a b=D at *
    -- behind the preparations
    have hD:D.size=n:=hP.1.trans hd
    have hoD:=q0c hbd hP ho
    have hBD:=hB.perm hbd hP
    have hbD:b≤D.size:=by omega
    have hpn:b - 1 - (p - a) < n:=by omega
    by_cases hc:0 < a∧ltR t D[a - 1]! D[b - 1 - (p - a)]! = false
    ·obtain ⟨ha0,hlf⟩:=hc
     have d3:decide ((0:Int) < ((a:Nat):Int))=true:=decide_eq_true (by omega)
     have wa1:IntKind.i64.wrap (((a:Nat):Int) - 1)=((a - 1:Nat):Int):=by rw [wa]; omega
     have ha1:a - 1 < n:=by omega
     have gl:=q0j D
     rw [hD] at gl
     have g1:=q05 (d:=D) (i:=a - 1) (by omega)
     have g2:=q05 (d:=D) (i:=b - 1 - (p - a)) (by omega)
     have kc:=q0f c1 c2 t h hoD (i:=a - 1) (j:=b - 1 - (p - a)) (by omega) (by omega)
     have dl:=@q0d t D[a - 1]! D[b - 1 - (p - a)]!
     rw [hlf] at dl
     rw [hS_eq D M J2]
     (repeat' first|simp only [il86l0_go,il86l0b,go_sem,hs,v5,v6,wb1,d3,wa1,gl,g1,g2,kc,dl,ha1,hpn,hM,q07]|with_reducible refine wX fun _=>?_|((with_reducible refine wY ?_ ?_); rfl)|fail)
     rw [← hS_eq D M J2]
     with_reducible refine @q1q c1 c2 t h n a b (b - 1 - (p - a)) J2 nn (x+3) hn hnn ?_ ?_ hb D M hD hoD hM _ ?_
     ·omega
     ·omega
     intro M4 hM4
     obtain ⟨D4,mid,hx⟩:∃ D4 mid,Sort.partitionEqual (ltR t) D a b (b - 1 - (p - a))=(mid,D4):=⟨_,_,rfl⟩
     obtain ⟨q1,q2,q3,q4,q5⟩:=Sort.round_eq swo (Sort.partitionEqual_holds (ltR t)) ha0 (by omega) (by omega) hbD hBD hlf hx
     have hpe:=Sort.partitionEqual_holds (ltR t) swo D a b (b - 1 - (p - a)) (by omega) (by omega) hbD (fun i hi hi'=>by
      rcases hBD with h0|hBD
      ·omega
      ·exact swo.ntrans _ _ _ (hBD i hi hi') hlf)
     rw [hx] at hpe ⊢
     obtain ⟨_,_,hP4,_,_⟩:=hpe
     dsimp only at hP4 ⊢
     have hsh:=q0b hJ2
     (repeat' first|simp only [il86l0_go,il86l0b,go_sem,hs,v5,v6,wb1,hsh,shG_t,q03,q01]|with_reducible refine wX fun _=>?_|((with_reducible refine wY ?_ ?_); rfl)|fail)
     all_goals (refine ih mid b (lim - 1) false wp D4 M4 k (by omega) (by omega) q2 hb (by omega) (q3.trans hD) (q0c hbD hP4 hoD) hM4 q4 (by omega) R _ ?_ (fun e d' m' K r1 r2 r3 r4=>hR e d' m' K r1 r2 (Sort.permIn_trans _ _ _ _ _ hP (q5 d' r3 r4).1) (q5 d' r3 r4).2); simp only [go_sem,hs,v5,v6,wb1,shG_t,q03])
    · -- the partition
     have hD4:∃ mid ap D4,Sort.partition (ltR t) D a b (b - 1 - (p - a))=(mid,ap,D4):=⟨_,_,_,rfl⟩
     obtain ⟨mid,ap,D4,hx⟩:=hD4
     obtain ⟨q1,q2,q3,q4,q5,q6,q7⟩:=Sort.round_part swo (Sort.partition_holds (ltR t)) (by omega) (by omega) hbD hBD hx
     have hpt:=Sort.partition_holds (ltR t) swo D a b (b - 1 - (p - a)) (by omega) (by omega) hbD
     rw [hx] at hpt
     obtain ⟨_,_,hP4,_,_⟩:=hpt
     dsimp only at hP4
     have hoD4:=q0c hbD hP4 hoD
     have hD4:D4.size=n:=q3.trans hD
     have v1:IntKind.i64.wrap (((mid:Nat):Int) - ((a:Nat):Int))=((mid - a:Nat):Int):=by rw [q00 (by omega) (by omega)]; omega
     have v2:IntKind.i64.wrap (((b:Nat):Int) - ((mid:Nat):Int))=((b - mid:Nat):Int):=by rw [q00 (by omega) (by omega)]; omega
     have v3:IntKind.i64.wrap (((mid:Nat):Int)+1)=((mid+1:Nat):Int):=q00 (by omega) (by omega)
     by_cases ha0:0 < a
     ·have hlf:ltR t D[a - 1]! D[b - 1 - (p - a)]! = true:=by
       cases hz:ltR t D[a - 1]! D[b - 1 - (p - a)]! with
       | true=>rfl
       | false=>exact absurd ⟨ha0,hz⟩ hc
      have d3:decide ((0:Int) < ((a:Nat):Int))=true:=decide_eq_true (by omega)
      have wa1:IntKind.i64.wrap (((a:Nat):Int) - 1)=((a - 1:Nat):Int):=by rw [wa]; omega
      have ha1:a - 1 < n:=by omega
      have gl:=q0j D
      rw [hD] at gl
      have g1:=q05 (d:=D) (i:=a - 1) (by omega)
      have g2:=q05 (d:=D) (i:=b - 1 - (p - a)) (by omega)
      have kc:=q0f c1 c2 t h hoD (i:=a - 1) (j:=b - 1 - (p - a)) (by omega) (by omega)
      have dl:=@q0d t D[a - 1]! D[b - 1 - (p - a)]!
      rw [hlf] at dl
      rw [hS_eq D M J2]
      (repeat' first|simp only [il86l0_go,il86l0b,go_sem,hs,v5,v6,wb1,d3,wa1,gl,g1,g2,kc,dl,ha1,hpn,hM,q07]|with_reducible refine wX fun _=>?_|((with_reducible refine wY ?_ ?_); rfl)|fail)
      rw [← hS_eq D M J2]
      with_reducible refine @q0H c1 c2 t h n a b (b - 1 - (p - a)) J2 nn (x+3) hn hnn ?_ ?_ hb D M hD hoD hM _ ?_
      ·omega
      ·omega
      intro M4 hM4
      rw [hx]
      dsimp only
      by_cases hlr:mid - a < b - mid
      ·have d5:decide (((mid - a:Nat):Int) < ((b - mid:Nat):Int))=true:=decide_eq_true (by omega)
       (repeat' first|simp only [il86l0_go,il86l0b,go_sem,hs,v5,v6,wb1,v1,v2,v3,w8,d5,q01]|with_reducible refine wX fun _=>?_|((with_reducible refine wY ?_ ?_); rfl)|fail)
       with_reducible refine @hIH a mid ((lim - 1)) J2 D4 M4 _ ?_ q1 ?_ ?_ hD4 hoD4 hM4 q4 ?_
       ·omega
       ·omega
       ·omega
       intro L m' K hm' hoL hPL hSL
       obtain ⟨u1,u2⟩:=q6 L hPL hSL
       have t2:=q0h K hJ2
       have hsh:=q0b t2
       (repeat' first|simp only [il86l0_go,il86l0b,go_sem,hs,v5,v6,wb1,v1,v2,v3,hsh,shG_t,q03,q01]|with_reducible refine wX fun _=>?_|((with_reducible refine wY ?_ ?_); rfl)|fail)
       all_goals (refine ih (mid+1) b ((lim - 1)) (decide ((((b - a) / 8:Nat):Int)≤((mid - a:Nat):Int))) ap L m' k (by omega) (by omega) (by omega) hb (by omega) (hPL.1.trans hD4) hoL hm' u1 (by omega) R _ ?_ (fun e d' m' K r1 r2 r3 r4=>hR e d' m' K r1 r2 (Sort.permIn_trans _ _ _ _ _ hP (u2 d' r3 r4).1) (u2 d' r3 r4).2); simp only [go_sem,hs,v5,v6,wb1,shG_t,q03,v3]; try rfl)
      ·have d5:decide (((mid - a:Nat):Int) < ((b - mid:Nat):Int))=false:=decide_eq_false (by omega)
       (repeat' first|simp only [il86l0_go,il86l0b,go_sem,hs,v5,v6,wb1,v1,v2,v3,w8,d5,q01]|with_reducible refine wX fun _=>?_|((with_reducible refine wY ?_ ?_); rfl)|fail)
       with_reducible refine @hIH (mid+1) b ((lim - 1)) J2 D4 M4 _ ?_ ?_ hb ?_ hD4 hoD4 hM4 q5 ?_
       ·omega
       ·omega
       ·omega
       intro L m' K hm' hoL hPL hSL
       obtain ⟨u1,u2⟩:=q7 L hPL hSL
       have t2:=q0h K hJ2
       have hsh:=q0b t2
       (repeat' first|simp only [il86l0_go,il86l0b,go_sem,hs,v5,v6,wb1,v1,v2,v3,hsh,shG_t,q03,q01]|with_reducible refine wX fun _=>?_|((with_reducible refine wY ?_ ?_); rfl)|fail)
       all_goals (refine ih a mid ((lim - 1)) (decide ((((b - a) / 8:Nat):Int)≤((b - mid:Nat):Int))) ap L m' k (by omega) (by omega) q1 (by omega) (by omega) (hPL.1.trans hD4) hoL hm' u1 (by omega) R _ ?_ (fun e d' m' K r1 r2 r3 r4=>hR e d' m' K r1 r2 (Sort.permIn_trans _ _ _ _ _ hP (u2 d' r3 r4).1) (u2 d' r3 r4).2); simp only [go_sem,hs,v5,v6,wb1,shG_t,q03]; try rfl)
     ·have d3:decide ((0:Int) < ((a:Nat):Int))=false:=decide_eq_false (by omega)
      (repeat' first|simp only [il86l0_go,il86l0b,go_sem,hs,v5,v6,wb1,d3,q01]|with_reducible refine wX fun _=>?_|((with_reducible refine wY ?_ ?_); rfl)|fail)
      with_reducible refine @q0H c1 c2 t h n a b (b - 1 - (p - a)) J2 nn (x+3) hn hnn ?_ ?_ hb D M hD hoD hM _ ?_
      ·omega
      ·omega
      intro M4 hM4
      rw [hx]
      dsimp only
      by_cases hlr:mid - a < b - mid
      ·have d5:decide (((mid - a:Nat):Int) < ((b - mid:Nat):Int))=true:=decide_eq_true (by omega)
       (repeat' first|simp only [il86l0_go,il86l0b,go_sem,hs,v5,v6,wb1,v1,v2,v3,w8,d5,q01]|with_reducible refine wX fun _=>?_|((with_reducible refine wY ?_ ?_); rfl)|fail)
       with_reducible refine @hIH a mid ((lim - 1)) J2 D4 M4 _ ?_ q1 ?_ ?_ hD4 hoD4 hM4 q4 ?_
       ·omega
       ·omega
       ·omega
       intro L m' K hm' hoL hPL hSL
       obtain ⟨u1,u2⟩:=q6 L hPL hSL
       have t2:=q0h K hJ2
       have hsh:=q0b t2
       (repeat' first|simp only [il86l0_go,il86l0b,go_sem,hs,v5,v6,wb1,v1,v2,v3,hsh,shG_t,q03,q01]|with_reducible refine wX fun _=>?_|((with_reducible refine wY ?_ ?_); rfl)|fail)
       all_goals (refine ih (mid+1) b ((lim - 1)) (decide ((((b - a) / 8:Nat):Int)≤((mid - a:Nat):Int))) ap L m' k (by omega) (by omega) (by omega) hb (by omega) (hPL.1.trans hD4) hoL hm' u1 (by omega) R _ ?_ (fun e d' m' K r1 r2 r3 r4=>hR e d' m' K r1 r2 (Sort.permIn_trans _ _ _ _ _ hP (u2 d' r3 r4).1) (u2 d' r3 r4).2); simp only [go_sem,hs,v5,v6,wb1,shG_t,q03,v3]; try rfl)
      ·have d5:decide (((mid - a:Nat):Int) < ((b - mid:Nat):Int))=false:=decide_eq_false (by omega)
       (repeat' first|simp only [il86l0_go,il86l0b,go_sem,hs,v5,v6,wb1,v1,v2,v3,w8,d5,q01]|with_reducible refine wX fun _=>?_|((with_reducible refine wY ?_ ?_); rfl)|fail)
       with_reducible refine @hIH (mid+1) b ((lim - 1)) J2 D4 M4 _ ?_ ?_ hb ?_ hD4 hoD4 hM4 q5 ?_
       ·omega
       ·omega
       ·omega
       intro L m' K hm' hoL hPL hSL
       obtain ⟨u1,u2⟩:=q7 L hPL hSL
       have t2:=q0h K hJ2
       have hsh:=q0b t2
       (repeat' first|simp only [il86l0_go,il86l0b,go_sem,hs,v5,v6,wb1,v1,v2,v3,hsh,shG_t,q03,q01]|with_reducible refine wX fun _=>?_|((with_reducible refine wY ?_ ?_); rfl)|fail)
       all_goals (refine ih a mid ((lim - 1)) (decide ((((b - a) / 8:Nat):Int)≤((b - mid:Nat):Int))) ap L m' k (by omega) (by omega) q1 (by omega) (by omega) (hPL.1.trans hD4) hoL hm' u1 (by omega) R _ ?_ (fun e d' m' K r1 r2 r3 r4=>hR e d' m' K r1 r2 (Sort.permIn_trans _ _ _ _ _ hP (u2 d' r3 r4).1) (u2 d' r3 r4).2); simp only [go_sem,hs,v5,v6,wb1,shG_t,q03]; try rfl)
   ·have e2:decide (hv=2)=false:=decide_eq_false h2
    have hP:=hP1
    have hM:=hM1
    generalize D1=D at *
    generalize M1=M at *
    -- behind the preparations
    have hD:D.size=n:=hP.1.trans hd
    have hoD:=q0c hbd hP ho
    have hBD:=hB.perm hbd hP
    have hbD:b≤D.size:=by omega
    have hpn:p < n:=by omega
    by_cases hc:0 < a∧ltR t D[a - 1]! D[p]! = false
    ·obtain ⟨ha0,hlf⟩:=hc
     have d3:decide ((0:Int) < ((a:Nat):Int))=true:=decide_eq_true (by omega)
     have wa1:IntKind.i64.wrap (((a:Nat):Int) - 1)=((a - 1:Nat):Int):=by rw [wa]; omega
     have ha1:a - 1 < n:=by omega
     have gl:=q0j D
     rw [hD] at gl
     have g1:=q05 (d:=D) (i:=a - 1) (by omega)
     have g2:=q05 (d:=D) (i:=p) (by omega)
     have kc:=q0f c1 c2 t h hoD (i:=a - 1) (j:=p) (by omega) (by omega)
     have dl:=@q0d t D[a - 1]! D[p]!
     rw [hlf] at dl
     rw [hS_eq D M J2]
     (repeat' first|simp only [il86l0_go,il86l0b,go_sem,hs,e2,w1,sn,kp,d3,wa1,gl,g1,g2,kc,dl,ha1,hpn,hM,q07]|with_reducible refine wX fun _=>?_|((with_reducible refine wY ?_ ?_); rfl)|fail)
     rw [← hS_eq D M J2]
     with_reducible refine @q1q c1 c2 t h n a b (p) J2 nn (x+3) hn hnn ?_ ?_ hb D M hD hoD hM _ ?_
     ·omega
     ·omega
     intro M4 hM4
     obtain ⟨D4,mid,hx⟩:∃ D4 mid,Sort.partitionEqual (ltR t) D a b (p)=(mid,D4):=⟨_,_,rfl⟩
     obtain ⟨q1,q2,q3,q4,q5⟩:=Sort.round_eq swo (Sort.partitionEqual_holds (ltR t)) ha0 (by omega) (by omega) hbD hBD hlf hx
     have hpe:=Sort.partitionEqual_holds (ltR t) swo D a b (p) (by omega) (by omega) hbD (fun i hi hi'=>by
      rcases hBD with h0|hBD
      ·omega
      ·exact swo.ntrans _ _ _ (hBD i hi hi') hlf)
     rw [hx] at hpe ⊢
     obtain ⟨_,_,hP4,_,_⟩:=hpe
     dsimp only at hP4 ⊢
     have hsh:=q0b hJ2
     (repeat' first|simp only [il86l0_go,il86l0b,go_sem,hs,e2,w1,sn,kp,hsh,shG_t,q03,q01]|with_reducible refine wX fun _=>?_|((with_reducible refine wY ?_ ?_); rfl)|fail)
     all_goals (refine ih mid b (lim - 1) false wp D4 M4 k (by omega) (by omega) q2 hb (by omega) (q3.trans hD) (q0c hbD hP4 hoD) hM4 q4 (by omega) R _ ?_ (fun e d' m' K r1 r2 r3 r4=>hR e d' m' K r1 r2 (Sort.permIn_trans _ _ _ _ _ hP (q5 d' r3 r4).1) (q5 d' r3 r4).2); simp only [go_sem,hs,e2,w1,sn,kp,shG_t,q03])
    · -- the partition
     have hD4:∃ mid ap D4,Sort.partition (ltR t) D a b (p)=(mid,ap,D4):=⟨_,_,_,rfl⟩
     obtain ⟨mid,ap,D4,hx⟩:=hD4
     obtain ⟨q1,q2,q3,q4,q5,q6,q7⟩:=Sort.round_part swo (Sort.partition_holds (ltR t)) (by omega) (by omega) hbD hBD hx
     have hpt:=Sort.partition_holds (ltR t) swo D a b (p) (by omega) (by omega) hbD
     rw [hx] at hpt
     obtain ⟨_,_,hP4,_,_⟩:=hpt
     dsimp only at hP4
     have hoD4:=q0c hbD hP4 hoD
     have hD4:D4.size=n:=q3.trans hD
     have v1:IntKind.i64.wrap (((mid:Nat):Int) - ((a:Nat):Int))=((mid - a:Nat):Int):=by rw [q00 (by omega) (by omega)]; omega
     have v2:IntKind.i64.wrap (((b:Nat):Int) - ((mid:Nat):Int))=((b - mid:Nat):Int):=by rw [q00 (by omega) (by omega)]; omega
     have v3:IntKind.i64.wrap (((mid:Nat):Int)+1)=((mid+1:Nat):Int):=q00 (by omega) (by omega)
     by_cases ha0:0 < a
     ·have hlf:ltR t D[a - 1]! D[p]! = true:=by
       cases hz:ltR t D[a - 1]! D[p]! with
       | true=>rfl
       | false=>exact absurd ⟨ha0,hz⟩ hc
      have d3:decide ((0:Int) < ((a:Nat):Int))=true:=decide_eq_true (by omega)
      have wa1:IntKind.i64.wrap (((a:Nat):Int) - 1)=((a - 1:Nat):Int):=by rw [wa]; omega
      have ha1:a - 1 < n:=by omega
      have gl:=q0j D
      rw [hD] at gl
      have g1:=q05 (d:=D) (i:=a - 1) (by omega)
      have g2:=q05 (d:=D) (i:=p) (by omega)
      have kc:=q0f c1 c2 t h hoD (i:=a - 1) (j:=p) (by omega) (by omega)
      have dl:=@q0d t D[a - 1]! D[p]!
      rw [hlf] at dl
      rw [hS_eq D M J2]
      (repeat' first|simp only [il86l0_go,il86l0b,go_sem,hs,e2,w1,sn,kp,d3,wa1,gl,g1,g2,kc,dl,ha1,hpn,hM,q07]|with_reducible refine wX fun _=>?_|((with_reducible refine wY ?_ ?_); rfl)|fail)
      rw [← hS_eq D M J2]
      with_reducible refine @q0H c1 c2 t h n a b (p) J2 nn (x+3) hn hnn ?_ ?_ hb D M hD hoD hM _ ?_
      ·omega
      ·omega
      intro M4 hM4
      rw [hx]
      dsimp only
      by_cases hlr:mid - a < b - mid
      ·have d5:decide (((mid - a:Nat):Int) < ((b - mid:Nat):Int))=true:=decide_eq_true (by omega)
       (repeat' first|simp only [il86l0_go,il86l0b,go_sem,hs,e2,w1,sn,kp,v1,v2,v3,w8,d5,q01]|with_reducible refine wX fun _=>?_|((with_reducible refine wY ?_ ?_); rfl)|fail)
       with_reducible refine @hIH a mid ((lim - 1)) J2 D4 M4 _ ?_ q1 ?_ ?_ hD4 hoD4 hM4 q4 ?_
       ·omega
       ·omega
       ·omega
       intro L m' K hm' hoL hPL hSL
       obtain ⟨u1,u2⟩:=q6 L hPL hSL
       have t2:=q0h K hJ2
       have hsh:=q0b t2
       (repeat' first|simp only [il86l0_go,il86l0b,go_sem,hs,e2,w1,sn,kp,v1,v2,v3,hsh,shG_t,q03,q01]|with_reducible refine wX fun _=>?_|((with_reducible refine wY ?_ ?_); rfl)|fail)
       all_goals (refine ih (mid+1) b ((lim - 1)) (decide ((((b - a) / 8:Nat):Int)≤((mid - a:Nat):Int))) ap L m' k (by omega) (by omega) (by omega) hb (by omega) (hPL.1.trans hD4) hoL hm' u1 (by omega) R _ ?_ (fun e d' m' K r1 r2 r3 r4=>hR e d' m' K r1 r2 (Sort.permIn_trans _ _ _ _ _ hP (u2 d' r3 r4).1) (u2 d' r3 r4).2); simp only [go_sem,hs,e2,w1,sn,kp,shG_t,q03,v3]; try rfl)
      ·have d5:decide (((mid - a:Nat):Int) < ((b - mid:Nat):Int))=false:=decide_eq_false (by omega)
       (repeat' first|simp only [il86l0_go,il86l0b,go_sem,hs,e2,w1,sn,kp,v1,v2,v3,w8,d5,q01]|with_reducible refine wX fun _=>?_|((with_reducible refine wY ?_ ?_); rfl)|fail)
       with_reducible refine @hIH (mid+1) b ((lim - 1)) J2 D4 M4 _ ?_ ?_ hb ?_ hD4 hoD4 hM4 q5 ?_
       ·omega
       ·omega
       ·omega
       intro L m' K hm' hoL hPL hSL
       obtain ⟨u1,u2⟩:=q7 L hPL hSL
       have t2:=q0h K hJ2
       have hsh:=q0b t2
       (repeat' first|simp only [il86l0_go,il86l0b,go_sem,hs,e2,w1,sn,kp,v1,v2,v3,hsh,shG_t,q03,q01]|with_reducible refine wX fun _=>?_|((with_reducible refine wY ?_ ?_); rfl)|fail)
       all_goals (refine ih a mid ((lim - 1)) (decide ((((b - a) / 8:Nat):Int)≤((b - mid:Nat):Int))) ap L m' k (by omega) (by omega) q1 (by omega) (by omega) (hPL.1.trans hD4) hoL hm' u1 (by omega) R _ ?_ (fun e d' m' K r1 r2 r3 r4=>hR e d' m' K r1 r2 (Sort.permIn_trans _ _ _ _ _ hP (u2 d' r3 r4).1) (u2 d' r3 r4).2); simp only [go_sem,hs,e2,w1,sn,kp,shG_t,q03]; try rfl)
     ·have d3:decide ((0:Int) < ((a:Nat):Int))=false:=decide_eq_false (by omega)
      (repeat' first|simp only [il86l0_go,il86l0b,go_sem,hs,e2,w1,sn,kp,d3,q01]|with_reducible refine wX fun _=>?_|((with_reducible refine wY ?_ ?_); rfl)|fail)
      with_reducible refine @q0H c1 c2 t h n a b (p) J2 nn (x+3) hn hnn ?_ ?_ hb D M hD hoD hM _ ?_
      ·omega
      ·omega
      intro M4 hM4
      rw [hx]
      dsimp only
      by_cases hlr:mid - a < b - mid
      ·have d5:decide (((mid - a:Nat):Int) < ((b - mid:Nat):Int))=true:=decide_eq_true (by omega)
       (repeat' first|simp only [il86l0_go,il86l0b,go_sem,hs,e2,w1,sn,kp,v1,v2,v3,w8,d5,q01]|with_reducible refine wX fun _=>?_|((with_reducible refine wY ?_ ?_); rfl)|fail)
       with_reducible refine @hIH a mid ((lim - 1)) J2 D4 M4 _ ?_ q1 ?_ ?_ hD4 hoD4 hM4 q4 ?_
       ·omega
       ·omega
       ·omega
       intro L m' K hm' hoL hPL hSL
       obtain ⟨u1,u2⟩:=q6 L hPL hSL
       have t2:=q0h K hJ2
       have hsh:=q0b t2
       (repeat' first|simp only [il86l0_go,il86l0b,go_sem,hs,e2,w1,sn,kp,v1,v2,v3,hsh,shG_t,q03,q01]|with_reducible refine wX fun _=>?_|((with_reducible refine wY ?_ ?_); rfl)|fail)
       all_goals (refine ih (mid+1) b ((lim - 1)) (decide ((((b - a) / 8:Nat):Int)≤((mid - a:Nat):Int))) ap L m' k (by omega) (by omega) (by omega) hb (by omega) (hPL.1.trans hD4) hoL hm' u1 (by omega) R _ ?_ (fun e d' m' K r1 r2 r3 r4=>hR e d' m' K r1 r2 (Sort.permIn_trans _ _ _ _ _ hP (u2 d' r3 r4).1) (u2 d' r3 r4).2); simp only [go_sem,hs,e2,w1,sn,kp,shG_t,q03,v3]; try rfl)
      ·have d5:decide (((mid - a:Nat):Int) < ((b - mid:Nat):Int))=false:=decide_eq_false (by omega)
       (repeat' first|simp only [il86l0_go,il86l0b,go_sem,hs,e2,w1,sn,kp,v1,v2,v3,w8,d5,q01]|with_reducible refine wX fun _=>?_|((with_reducible refine wY ?_ ?_); rfl)|fail)
       with_reducible refine @hIH (mid+1) b ((lim - 1)) J2 D4 M4 _ ?_ ?_ hb ?_ hD4 hoD4 hM4 q5 ?_
       ·omega
       ·omega
       ·omega
       intro L m' K hm' hoL hPL hSL
       obtain ⟨u1,u2⟩:=q7 L hPL hSL
       have t2:=q0h K hJ2
       have hsh:=q0b t2
       (repeat' first|simp only [il86l0_go,il86l0b,go_sem,hs,e2,w1,sn,kp,v1,v2,v3,hsh,shG_t,q03,q01]|with_reducible refine wX fun _=>?_|((with_reducible refine wY ?_ ?_); rfl)|fail)
       all_goals (refine ih a mid ((lim - 1)) (decide ((((b - a) / 8:Nat):Int)≤((b - mid:Nat):Int))) ap L m' k (by omega) (by omega) q1 (by omega) (by omega) (hPL.1.trans hD4) hoL hm' u1 (by omega) R _ ?_ (fun e d' m' K r1 r2 r3 r4=>hR e d' m' K r1 r2 (Sort.permIn_trans _ _ _ _ _ hP (u2 d' r3 r4).1) (u2 d' r3 r4).2); simp only [go_sem,hs,e2,w1,sn,kp,shG_t,q03]; try rfl)
  | true =>
   have hP1:Sort.PermIn a b d d:=Sort.permIn_refl _ _ _
   have hM1:=hm
   have hJ2:J.take J.length=J:=List.take_length
   obtain ⟨D1,hD1⟩:∃ D1,D1=d:=⟨_,rfl⟩
   obtain ⟨M1,hM1e⟩:∃ M1,M1=m:=⟨_,rfl⟩
   obtain ⟨J2,hJ2e⟩:∃ J2,J2=J:=⟨_,rfl⟩
   have hn0:J.length+1=J2.length+1:=by rw [hJ2e]
   rw [show hS d m J=hS D1 M1 J2 from by rw [hD1,hM1e,hJ2e]]
   have hP1:Sort.PermIn a b d D1:=by rw [hD1]; exact hP1
   have hM1:M1≤n:=by rw [hM1e]; exact hM1
   have hJ2:J2.take J.length=J:=by rw [hJ2e]; exact hJ2
   clear hD1 hM1e hJ2e
   cases wp with
   | false =>
    obtain ⟨p,s,hp1,hp2,kp⟩:=q3T c1 c2 t h n a b hn h12' hb D1 (hP1.1.trans hd) (q0c hbd hP1 ho)
    have hhv:=q3U s
    generalize hintI s=hv at *
    have sn:snL (hS D1 M1 J2) 19 false 1 (elemsOf (hS D1 M1 J2) 1 (.ms 0 n 0 n 1 false))=some (rtsT D1):=q2D D1 M1 n J2 (hP1.1.trans hd) hM1 18
    by_cases h2:hv=2
    ·have e2:decide (hv=2)=true:=decide_eq_true h2
     have v5:IntKind.i64.wrap (((p:Nat):Int) - ((a:Nat):Int))=((p - a:Nat):Int):=by rw [q00 (by omega) (by omega)]; omega
     have v6:IntKind.i64.wrap (((b - 1:Nat):Int) - ((p - a:Nat):Int))=((b - 1 - (p - a):Nat):Int):=by rw [q00 (by omega) (by omega)]; omega
     (repeat' first|simp only [il86l0_go,il86l0b,go_sem,hs,w0,d1,d2,sn,kp,e2,q01]|with_reducible refine wX fun _=>?_|((with_reducible refine wY ?_ ?_); rfl)|fail)
     with_reducible refine @q3O c1 c2 t n a b J2 nn (x+3) hn hnn hlt hb D1 M1 ?_ (q0c hbd hP1 ho) hM1 _ ?_
     ·exact hP1.1.trans hd
     intro M hM
     have hpr:=Sort.reverseRange_holds D1 a b hab (by rw [hP1.1]; exact hbd)
     have hP:Sort.PermIn a b d (Sort.reverseRange D1 a b):=Sort.permIn_trans _ _ _ _ _ hP1 hpr
     generalize Sort.reverseRange D1 a b=D at *
     -- behind the preparations
     have hD:D.size=n:=hP.1.trans hd
     have hoD:=q0c hbd hP ho
     have hBD:=hB.perm hbd hP
     have hbD:b≤D.size:=by omega
     have hpn:b - 1 - (p - a) < n:=by omega
     by_cases hc:0 < a∧ltR t D[a - 1]! D[b - 1 - (p - a)]! = false
     ·obtain ⟨ha0,hlf⟩:=hc
      have d3:decide ((0:Int) < ((a:Nat):Int))=true:=decide_eq_true (by omega)
      have wa1:IntKind.i64.wrap (((a:Nat):Int) - 1)=((a - 1:Nat):Int):=by rw [wa]; omega
      have ha1:a - 1 < n:=by omega
      have gl:=q0j D
      rw [hD] at gl
      have g1:=q05 (d:=D) (i:=a - 1) (by omega)
      have g2:=q05 (d:=D) (i:=b - 1 - (p - a)) (by omega)
      have kc:=q0f c1 c2 t h hoD (i:=a - 1) (j:=b - 1 - (p - a)) (by omega) (by omega)
      have dl:=@q0d t D[a - 1]! D[b - 1 - (p - a)]!
      rw [hlf] at dl
      rw [hS_eq D M J2]
      (repeat' first|simp only [il86l0_go,il86l0b,go_sem,hs,v5,v6,wb1,d3,wa1,gl,g1,g2,kc,dl,ha1,hpn,hM,q07]|with_reducible refine wX fun _=>?_|((with_reducible refine wY ?_ ?_); rfl)|fail)
      rw [← hS_eq D M J2]
      with_reducible refine @q1q c1 c2 t h n a b (b - 1 - (p - a)) J2 nn (x+3) hn hnn ?_ ?_ hb D M hD hoD hM _ ?_
      ·omega
      ·omega
      intro M4 hM4
      obtain ⟨D4,mid,hx⟩:∃ D4 mid,Sort.partitionEqual (ltR t) D a b (b - 1 - (p - a))=(mid,D4):=⟨_,_,rfl⟩
      obtain ⟨q1,q2,q3,q4,q5⟩:=Sort.round_eq swo (Sort.partitionEqual_holds (ltR t)) ha0 (by omega) (by omega) hbD hBD hlf hx
      have hpe:=Sort.partitionEqual_holds (ltR t) swo D a b (b - 1 - (p - a)) (by omega) (by omega) hbD (fun i hi hi'=>by
       rcases hBD with h0|hBD
       ·omega
       ·exact swo.ntrans _ _ _ (hBD i hi hi') hlf)
      rw [hx] at hpe ⊢
      obtain ⟨_,_,hP4,_,_⟩:=hpe
      dsimp only at hP4 ⊢
      have hsh:=q0b hJ2
      (repeat' first|simp only [il86l0_go,il86l0b,go_sem,hs,v5,v6,wb1,hsh,shG_t,q03,q01]|with_reducible refine wX fun _=>?_|((with_reducible refine wY ?_ ?_); rfl)|fail)
      all_goals (refine ih mid b lim true false D4 M4 k (by omega) (by omega) q2 hb (by omega) (q3.trans hD) (q0c hbD hP4 hoD) hM4 q4 (by omega) R _ ?_ (fun e d' m' K r1 r2 r3 r4=>hR e d' m' K r1 r2 (Sort.permIn_trans _ _ _ _ _ hP (q5 d' r3 r4).1) (q5 d' r3 r4).2); simp only [go_sem,hs,v5,v6,wb1,shG_t,q03])
     · -- the partition
      have hD4:∃ mid ap D4,Sort.partition (ltR t) D a b (b - 1 - (p - a))=(mid,ap,D4):=⟨_,_,_,rfl⟩
      obtain ⟨mid,ap,D4,hx⟩:=hD4
      obtain ⟨q1,q2,q3,q4,q5,q6,q7⟩:=Sort.round_part swo (Sort.partition_holds (ltR t)) (by omega) (by omega) hbD hBD hx
      have hpt:=Sort.partition_holds (ltR t) swo D a b (b - 1 - (p - a)) (by omega) (by omega) hbD
      rw [hx] at hpt
      obtain ⟨_,_,hP4,_,_⟩:=hpt
      dsimp only at hP4
      have hoD4:=q0c hbD hP4 hoD
      have hD4:D4.size=n:=q3.trans hD
      have v1:IntKind.i64.wrap (((mid:Nat):Int) - ((a:Nat):Int))=((mid - a:Nat):Int):=by rw [q00 (by omega) (by omega)]; omega
      have v2:IntKind.i64.wrap (((b:Nat):Int) - ((mid:Nat):Int))=((b - mid:Nat):Int):=by rw [q00 (by omega) (by omega)]; omega
      have v3:IntKind.i64.wrap (((mid:Nat):Int)+1)=((mid+1:Nat):Int):=q00 (by omega) (by omega)
      by_cases ha0:0 < a
      ·have hlf:ltR t D[a - 1]! D[b - 1 - (p - a)]! = true:=by
        cases hz:ltR t D[a - 1]! D[b - 1 - (p - a)]! with
        | true=>rfl
        | false=>exact absurd ⟨ha0,hz⟩ hc
       have d3:decide ((0:Int) < ((a:Nat):Int))=true:=decide_eq_true (by omega)
       have wa1:IntKind.i64.wrap (((a:Nat):Int) - 1)=((a - 1:Nat):Int):=by rw [wa]; omega
       have ha1:a - 1 < n:=by omega
       have gl:=q0j D
       rw [hD] at gl
       have g1:=q05 (d:=D) (i:=a - 1) (by omega)
       have g2:=q05 (d:=D) (i:=b - 1 - (p - a)) (by omega)
       have kc:=q0f c1 c2 t h hoD (i:=a - 1) (j:=b - 1 - (p - a)) (by omega) (by omega)
       have dl:=@q0d t D[a - 1]! D[b - 1 - (p - a)]!
       rw [hlf] at dl
       rw [hS_eq D M J2]
       (repeat' first|simp only [il86l0_go,il86l0b,go_sem,hs,v5,v6,wb1,d3,wa1,gl,g1,g2,kc,dl,ha1,hpn,hM,q07]|with_reducible refine wX fun _=>?_|((with_reducible refine wY ?_ ?_); rfl)|fail)
       rw [← hS_eq D M J2]
       with_reducible refine @q0H c1 c2 t h n a b (b - 1 - (p - a)) J2 nn (x+3) hn hnn ?_ ?_ hb D M hD hoD hM _ ?_
       ·omega
       ·omega
       intro M4 hM4
       rw [hx]
       dsimp only
       by_cases hlr:mid - a < b - mid
       ·have d5:decide (((mid - a:Nat):Int) < ((b - mid:Nat):Int))=true:=decide_eq_true (by omega)
        (repeat' first|simp only [il86l0_go,il86l0b,go_sem,hs,v5,v6,wb1,v1,v2,v3,w8,d5,q01]|with_reducible refine wX fun _=>?_|((with_reducible refine wY ?_ ?_); rfl)|fail)
        with_reducible refine @hIH a mid (lim) J2 D4 M4 _ ?_ q1 ?_ ?_ hD4 hoD4 hM4 q4 ?_
        ·omega
        ·omega
        ·omega
        intro L m' K hm' hoL hPL hSL
        obtain ⟨u1,u2⟩:=q6 L hPL hSL
        have t2:=q0h K hJ2
        have hsh:=q0b t2
        (repeat' first|simp only [il86l0_go,il86l0b,go_sem,hs,v5,v6,wb1,v1,v2,v3,hsh,shG_t,q03,q01]|with_reducible refine wX fun _=>?_|((with_reducible refine wY ?_ ?_); rfl)|fail)
        all_goals (refine ih (mid+1) b (lim) (decide ((((b - a) / 8:Nat):Int)≤((mid - a:Nat):Int))) ap L m' k (by omega) (by omega) (by omega) hb (by omega) (hPL.1.trans hD4) hoL hm' u1 (by omega) R _ ?_ (fun e d' m' K r1 r2 r3 r4=>hR e d' m' K r1 r2 (Sort.permIn_trans _ _ _ _ _ hP (u2 d' r3 r4).1) (u2 d' r3 r4).2); simp only [go_sem,hs,v5,v6,wb1,shG_t,q03,v3]; try rfl)
       ·have d5:decide (((mid - a:Nat):Int) < ((b - mid:Nat):Int))=false:=decide_eq_false (by omega)
        (repeat' first|simp only [il86l0_go,il86l0b,go_sem,hs,v5,v6,wb1,v1,v2,v3,w8,d5,q01]|with_reducible refine wX fun _=>?_|((with_reducible refine wY ?_ ?_); rfl)|fail)
        with_reducible refine @hIH (mid+1) b (lim) J2 D4 M4 _ ?_ ?_ hb ?_ hD4 hoD4 hM4 q5 ?_
        ·omega
        ·omega
        ·omega
        intro L m' K hm' hoL hPL hSL
        obtain ⟨u1,u2⟩:=q7 L hPL hSL
        have t2:=q0h K hJ2
        have hsh:=q0b t2
        (repeat' first|simp only [il86l0_go,il86l0b,go_sem,hs,v5,v6,wb1,v1,v2,v3,hsh,shG_t,q03,q01]|with_reducible refine wX fun _=>?_|((with_reducible refine wY ?_ ?_); rfl)|fail)
        all_goals (refine ih a mid (lim) (decide ((((b - a) / 8:Nat):Int)≤((b - mid:Nat):Int))) ap L m' k (by omega) (by omega) q1 (by omega) (by omega) (hPL.1.trans hD4) hoL hm' u1 (by omega) R _ ?_ (fun e d' m' K r1 r2 r3 r4=>hR e d' m' K r1 r2 (Sort.permIn_trans _ _ _ _ _ hP (u2 d' r3 r4).1) (u2 d' r3 r4).2); simp only [go_sem,hs,v5,v6,wb1,shG_t,q03]; try rfl)
      ·have d3:decide ((0:Int) < ((a:Nat):Int))=false:=decide_eq_false (by omega)
       (repeat' first|simp only [il86l0_go,il86l0b,go_sem,hs,v5,v6,wb1,d3,q01]|with_reducible refine wX fun _=>?_|((with_reducible refine wY ?_ ?_); rfl)|fail)
       with_reducible refine @q0H c1 c2 t h n a b (b - 1 - (p - a)) J2 nn (x+3) hn hnn ?_ ?_ hb D M hD hoD hM _ ?_
       ·omega
       ·omega
       intro M4 hM4
       rw [hx]
       dsimp only
       by_cases hlr:mid - a < b - mid
       ·have d5:decide (((mid - a:Nat):Int) < ((b - mid:Nat):Int))=true:=decide_eq_true (by omega)
        (repeat' first|simp only [il86l0_go,il86l0b,go_sem,hs,v5,v6,wb1,v1,v2,v3,w8,d5,q01]|with_reducible refine wX fun _=>?_|((with_reducible refine wY ?_ ?_); rfl)|fail)
        with_reducible refine @hIH a mid (lim) J2 D4 M4 _ ?_ q1 ?_ ?_ hD4 hoD4 hM4 q4 ?_
        ·omega
        ·omega
        ·omega
        intro L m' K hm' hoL hPL hSL
        obtain ⟨u1,u2⟩:=q6 L hPL hSL
        have t2:=q0h K hJ2
        have hsh:=q0b t2
        (repeat' first|simp only [il86l0_go,il86l0b,go_sem,hs,v5,v6,wb1,v1,v2,v3,hsh,shG_t,q03,q01]|with_reducible refine wX fun _=>?_|((with_reducible refine wY ?_ ?_); rfl)|fail)
        all_goals (refine ih (mid+1) b (lim) (decide ((((b - a) / 8:Nat):Int)≤((mid - a:Nat):Int))) ap L m' k (by omega) (by omega) (by omega) hb (by omega) (hPL.1.trans hD4) hoL hm' u1 (by omega) R _ ?_ (fun e d' m' K r1 r2 r3 r4=>hR e d' m' K r1 r2 (Sort.permIn_trans _ _ _ _ _ hP (u2 d' r3 r4).1) (u2 d' r3 r4).2); simp only [go_sem,hs,v5,v6,wb1,shG_t,q03,v3]; try rfl)
       ·have d5:decide (((mid - a:Nat):Int) < ((b - mid:Nat):Int))=false:=decide_eq_false (by omega)
        (repeat' first|simp only [il86l0_go,il86l0b,go_sem,hs,v5,v6,wb1,v1,v2,v3,w8,d5,q01]|with_reducible refine wX fun _=>?_|((with_reducible refine wY ?_ ?_); rfl)|fail)
        with_reducible refine @hIH (mid+1) b (lim) J2 D4 M4 _ ?_ ?_ hb ?_ hD4 hoD4 hM4 q5 ?_
        ·omega
        ·omega
        ·omega
        intro L m' K hm' hoL hPL hSL
        obtain ⟨u1,u2⟩:=q7 L hPL hSL
        have t2:=q0h K hJ2
        have hsh:=q0b t2
        (repeat' first|simp only [il86l0_go,il86l0b,go_sem,hs,v5,v6,wb1,v1,v2,v3,hsh,shG_t,q03,q01]|with_reducible refine wX fun _=>?_|((with_reducible refine wY ?_ ?_); rfl)|fail)
        all_goals (refine ih a mid (lim) (decide ((((b - a) / 8:Nat):Int)≤((b - mid:Nat):Int))) ap L m' k (by omega) (by omega) q1 (by omega) (by omega) (hPL.1.trans hD4) hoL hm' u1 (by omega) R _ ?_ (fun e d' m' K r1 r2 r3 r4=>hR e d' m' K r1 r2 (Sort.permIn_trans _ _ _ _ _ hP (u2 d' r3 r4).1) (u2 d' r3 r4).2); simp only [go_sem,hs,v5,v6,wb1,shG_t,q03]; try rfl)
    ·have e2:decide (hv=2)=false:=decide_eq_false h2
     have hP:=hP1
     have hM:=hM1
     generalize D1=D at *
     generalize M1=M at *
     -- behind the preparations
     have hD:D.size=n:=hP.1.trans hd
     have hoD:=q0c hbd hP ho
     have hBD:=hB.perm hbd hP
     have hbD:b≤D.size:=by omega
     have hpn:p < n:=by omega
     by_cases hc:0 < a∧ltR t D[a - 1]! D[p]! = false
     ·obtain ⟨ha0,hlf⟩:=hc
      have d3:decide ((0:Int) < ((a:Nat):Int))=true:=decide_eq_true (by omega)
      have wa1:IntKind.i64.wrap (((a:Nat):Int) - 1)=((a - 1:Nat):Int):=by rw [wa]; omega
      have ha1:a - 1 < n:=by omega
      have gl:=q0j D
      rw [hD] at gl
      have g1:=q05 (d:=D) (i:=a - 1) (by omega)
      have g2:=q05 (d:=D) (i:=p) (by omega)
      have kc:=q0f c1 c2 t h hoD (i:=a - 1) (j:=p) (by omega) (by omega)
      have dl:=@q0d t D[a - 1]! D[p]!
      rw [hlf] at dl
      rw [hS_eq D M J2]
      (repeat' first|simp only [il86l0_go,il86l0b,go_sem,hs,e2,w0,d1,d2,sn,kp,d3,wa1,gl,g1,g2,kc,dl,ha1,hpn,hM,q07]|with_reducible refine wX fun _=>?_|((with_reducible refine wY ?_ ?_); rfl)|fail)
      rw [← hS_eq D M J2]
      with_reducible refine @q1q c1 c2 t h n a b (p) J2 nn (x+3) hn hnn ?_ ?_ hb D M hD hoD hM _ ?_
      ·omega
      ·omega
      intro M4 hM4
      obtain ⟨D4,mid,hx⟩:∃ D4 mid,Sort.partitionEqual (ltR t) D a b (p)=(mid,D4):=⟨_,_,rfl⟩
      obtain ⟨q1,q2,q3,q4,q5⟩:=Sort.round_eq swo (Sort.partitionEqual_holds (ltR t)) ha0 (by omega) (by omega) hbD hBD hlf hx
      have hpe:=Sort.partitionEqual_holds (ltR t) swo D a b (p) (by omega) (by omega) hbD (fun i hi hi'=>by
       rcases hBD with h0|hBD
       ·omega
       ·exact swo.ntrans _ _ _ (hBD i hi hi') hlf)
      rw [hx] at hpe ⊢
      obtain ⟨_,_,hP4,_,_⟩:=hpe
      dsimp only at hP4 ⊢
      have hsh:=q0b hJ2
      (repeat' first|simp only [il86l0_go,il86l0b,go_sem,hs,e2,w0,d1,d2,sn,kp,hsh,shG_t,q03,q01]|with_reducible refine wX fun _=>?_|((with_reducible refine wY ?_ ?_); rfl)|fail)
      all_goals (refine ih mid b lim true false D4 M4 k (by omega) (by omega) q2 hb (by omega) (q3.trans hD) (q0c hbD hP4 hoD) hM4 q4 (by omega) R _ ?_ (fun e d' m' K r1 r2 r3 r4=>hR e d' m' K r1 r2 (Sort.permIn_trans _ _ _ _ _ hP (q5 d' r3 r4).1) (q5 d' r3 r4).2); simp only [go_sem,hs,e2,w0,d1,d2,sn,kp,shG_t,q03])
     · -- the partition
      have hD4:∃ mid ap D4,Sort.partition (ltR t) D a b (p)=(mid,ap,D4):=⟨_,_,_,rfl⟩
      obtain ⟨mid,ap,D4,hx⟩:=hD4
      obtain ⟨q1,q2,q3,q4,q5,q6,q7⟩:=Sort.round_part swo (Sort.partition_holds (ltR t)) (by omega) (by omega) hbD hBD hx
      have hpt:=Sort.partition_holds (ltR t) swo D a b (p) (by omega) (by omega) hbD
      rw [hx] at hpt
      obtain ⟨_,_,hP4,_,_⟩:=hpt
      dsimp only at hP4
      have hoD4:=q0c hbD hP4 hoD
      have hD4:D4.size=n:=q3.trans hD
      have v1:IntKind.i64.wrap (((mid:Nat):Int) - ((a:Nat):Int))=((mid - a:Nat):Int):=by rw [q00 (by omega) (by omega)]; omega
      have v2:IntKind.i64.wrap (((b:Nat):Int) - ((mid:Nat):Int))=((b - mid:Nat):Int):=by rw [q00 (by omega) (by omega)]; omega
      have v3:IntKind.i64.wrap (((mid:Nat):Int)+1)=((mid+1:Nat):Int):=q00 (by omega) (by omega)
      by_cases ha0:0 < a
      ·have hlf:ltR t D[a - 1]! D[p]! = true:=by
        cases hz:ltR t D[a - 1]! D[p]! with
        | true=>rfl
        | false=>exact absurd ⟨ha0,hz⟩ hc
       have d3:decide ((0:Int) < ((a:Nat):Int))=true:=decide_eq_true (by omega)
       have wa1:IntKind.i64.wrap (((a:Nat):Int) - 1)=((a - 1:Nat):Int):=by rw [wa]; omega
       have ha1:a - 1 < n:=by omega
       have gl:=q0j D
       rw [hD] at gl
       have g1:=q05 (d:=D) (i:=a - 1) (by omega)
       have g2:=q05 (d:=D) (i:=p) (by omega)
       have kc:=q0f c1 c2 t h hoD (i:=a - 1) (j:=p) (by omega) (by omega)
       have dl:=@q0d t D[a - 1]! D[p]!
       rw [hlf] at dl
       rw [hS_eq D M J2]
       (repeat' first|simp only [il86l0_go,il86l0b,go_sem,hs,e2,w0,d1,d2,sn,kp,d3,wa1,gl,g1,g2,kc,dl,ha1,hpn,hM,q07]|with_reducible refine wX fun _=>?_|((with_reducible refine wY ?_ ?_); rfl)|fail)
       rw [← hS_eq D M J2]
       with_reducible refine @q0H c1 c2 t h n a b (p) J2 nn (x+3) hn hnn ?_ ?_ hb D M hD hoD hM _ ?_
       ·omega
       ·omega
       intro M4 hM4
       rw [hx]
       dsimp only
       by_cases hlr:mid - a < b - mid
       ·have d5:decide (((mid - a:Nat):Int) < ((b - mid:Nat):Int))=true:=decide_eq_true (by omega)
        (repeat' first|simp only [il86l0_go,il86l0b,go_sem,hs,e2,w0,d1,d2,sn,kp,v1,v2,v3,w8,d5,q01]|with_reducible refine wX fun _=>?_|((with_reducible refine wY ?_ ?_); rfl)|fail)
        with_reducible refine @hIH a mid (lim) J2 D4 M4 _ ?_ q1 ?_ ?_ hD4 hoD4 hM4 q4 ?_
        ·omega
        ·omega
        ·omega
        intro L m' K hm' hoL hPL hSL
        obtain ⟨u1,u2⟩:=q6 L hPL hSL
        have t2:=q0h K hJ2
        have hsh:=q0b t2
        (repeat' first|simp only [il86l0_go,il86l0b,go_sem,hs,e2,w0,d1,d2,sn,kp,v1,v2,v3,hsh,shG_t,q03,q01]|with_reducible refine wX fun _=>?_|((with_reducible refine wY ?_ ?_); rfl)|fail)
        all_goals (refine ih (mid+1) b (lim) (decide ((((b - a) / 8:Nat):Int)≤((mid - a:Nat):Int))) ap L m' k (by omega) (by omega) (by omega) hb (by omega) (hPL.1.trans hD4) hoL hm' u1 (by omega) R _ ?_ (fun e d' m' K r1 r2 r3 r4=>hR e d' m' K r1 r2 (Sort.permIn_trans _ _ _ _ _ hP (u2 d' r3 r4).1) (u2 d' r3 r4).2); simp only [go_sem,hs,e2,w0,d1,d2,sn,kp,shG_t,q03,v3]; try rfl)
       ·have d5:decide (((mid - a:Nat):Int) < ((b - mid:Nat):Int))=false:=decide_eq_false (by omega)
        (repeat' first|simp only [il86l0_go,il86l0b,go_sem,hs,e2,w0,d1,d2,sn,kp,v1,v2,v3,w8,d5,q01]|with_reducible refine wX fun _=>?_|((with_reducible refine wY ?_ ?_); rfl)|fail)
        with_reducible refine @hIH (mid+1) b (lim) J2 D4 M4 _ ?_ ?_ hb ?_ hD4 hoD4 hM4 q5 ?_
        ·omega
        ·omega
        ·omega
        intro L m' K hm' hoL hPL hSL
        obtain ⟨u1,u2⟩:=q7 L hPL hSL
        have t2:=q0h K hJ2
        have hsh:=q0b t2
        (repeat' first|simp only [il86l0_go,il86l0b,go_sem,hs,e2,w0,d1,d2,sn,kp,v1,v2,v3,hsh,shG_t,q03,q01]|with_reducible refine wX fun _=>?_|((with_reducible refine wY ?_ ?_); rfl)|fail)
        all_goals (refine ih a mid (lim) (decide ((((b - a) / 8:Nat):Int)≤((b - mid:Nat):Int))) ap L m' k (by omega) (by omega) q1 (by omega) (by omega) (hPL.1.trans hD4) hoL hm' u1 (by omega) R _ ?_ (fun e d' m' K r1 r2 r3 r4=>hR e d' m' K r1 r2 (Sort.permIn_trans _ _ _ _ _ hP (u2 d' r3 r4).1) (u2 d' r3 r4).2); simp only [go_sem,hs,e2,w0,d1,d2,sn,kp,shG_t,q03]; try rfl)
      ·have d3:decide ((0:Int) < ((a:Nat):Int))=false:=decide_eq_false (by omega)
       (repeat' first|simp only [il86l0_go,il86l0b,go_sem,hs,e2,w0,d1,d2,sn,kp,d3,q01]|with_reducible refine wX fun _=>?_|((with_reducible refine wY ?_ ?_); rfl)|fail)
       with_reducible refine @q0H c1 c2 t h n a b (p) J2 nn (x+3) hn hnn ?_ ?_ hb D M hD hoD hM _ ?_
       ·omega
       ·omega
       intro M4 hM4
       rw [hx]
       dsimp only
       by_cases hlr:mid - a < b - mid
       ·have d5:decide (((mid - a:Nat):Int) < ((b - mid:Nat):Int))=true:=decide_eq_true (by omega)
        (repeat' first|simp only [il86l0_go,il86l0b,go_sem,hs,e2,w0,d1,d2,sn,kp,v1,v2,v3,w8,d5,q01]|with_reducible refine wX fun _=>?_|((with_reducible refine wY ?_ ?_); rfl)|fail)
        with_reducible refine @hIH a mid (lim) J2 D4 M4 _ ?_ q1 ?_ ?_ hD4 hoD4 hM4 q4 ?_
        ·omega
        ·omega
        ·omega
        intro L m' K hm' hoL hPL hSL
        obtain ⟨u1,u2⟩:=q6 L hPL hSL
        have t2:=q0h K hJ2
        have hsh:=q0b t2
        (repeat' first|simp only [il86l0_go,il86l0b,go_sem,hs,e2,w0,d1,d2,sn,kp,v1,v2,v3,hsh,shG_t,q03,q01]|with_reducible refine wX fun _=>?_|((with_reducible refine wY ?_ ?_); rfl)|fail)
        all_goals (refine ih (mid+1) b (lim) (decide ((((b - a) / 8:Nat):Int)≤((mid - a:Nat):Int))) ap L m' k (by omega) (by omega) (by omega) hb (by omega) (hPL.1.trans hD4) hoL hm' u1 (by omega) R _ ?_ (fun e d' m' K r1 r2 r3 r4=>hR e d' m' K r1 r2 (Sort.permIn_trans _ _ _ _ _ hP (u2 d' r3 r4).1) (u2 d' r3 r4).2); simp only [go_sem,hs,e2,w0,d1,d2,sn,kp,shG_t,q03,v3]; try rfl)
       ·have d5:decide (((mid - a:Nat):Int) < ((b - mid:Nat):Int))=false:=decide_eq_false (by omega)
        (repeat' first|simp only [il86l0_go,il86l0b,go_sem,hs,e2,w0,d1,d2,sn,kp,v1,v2,v3,w8,d5,q01]|with_reducible refine wX fun _=>?_|((with_reducible refine wY ?_ ?_); rfl)|fail)
        with_reducible refine @hIH (mid+1) b (lim) J2 D4 M4 _ ?_ ?_ hb ?_ hD4 hoD4 hM4 q5 ?_
        ·omega
        ·omega
        ·omega
        intro L m' K hm' hoL hPL hSL
        obtain ⟨u1,u2⟩:=q7 L hPL hSL
        have t2:=q0h K hJ2
        have hsh:=q0b t2
        (repeat' first|simp only [il86l0_go,il86l0b,go_sem,hs,e2,w0,d1,d2,sn,kp,v1,v2,v3,hsh,shG_t,q03,q01]|with_reducible refine wX fun _=>?_|((with_reducible refine wY ?_ ?_); rfl)|fail)
        all_goals (refine ih a mid (lim) (decide ((((b - a) / 8:Nat):Int)≤((b - mid:Nat):Int))) ap L m' k (by omega) (by omega) q1 (by omega) (by omega) (hPL.1.trans hD4) hoL hm' u1 (by omega) R _ ?_ (fun e d' m' K r1 r2 r3 r4=>hR e d' m' K r1 r2 (Sort.permIn_trans _ _ _ _ _ hP (u2 d' r3 r4).1) (u2 d' r3 r4).2); simp only [go_sem,hs,e2,w0,d1,d2,sn,kp,shG_t,q03]; try rfl)
   | true =>
    obtain ⟨p,s,hp1,hp2,kp⟩:=q3T c1 c2 t h n a b hn h12' hb D1 (hP1.1.trans hd) (q0c hbd hP1 ho)
    have hhv:=q3U s
    generalize hintI s=hv at *
    have sn:snL (hS D1 M1 J2) 19 false 1 (elemsOf (hS D1 M1 J2) 1 (.ms 0 n 0 n 1 false))=some (rtsT D1):=q2D D1 M1 n J2 (hP1.1.trans hd) hM1 18
    by_cases h2:hv=2
    ·have e2:decide (hv=2)=true:=decide_eq_true h2
     have v5:IntKind.i64.wrap (((p:Nat):Int) - ((a:Nat):Int))=((p - a:Nat):Int):=by rw [q00 (by omega) (by omega)]; omega
     have v6:IntKind.i64.wrap (((b - 1:Nat):Int) - ((p - a:Nat):Int))=((b - 1 - (p - a):Nat):Int):=by rw [q00 (by omega) (by omega)]; omega
     (repeat' first|simp only [il86l0_go,il86l0b,go_sem,hs,w0,d1,d2,sn,kp,e2,q01]|with_reducible refine wX fun _=>?_|((with_reducible refine wY ?_ ?_); rfl)|fail)
     with_reducible refine @q3O c1 c2 t n a b J2 nn (x+3) hn hnn hlt hb D1 M1 ?_ (q0c hbd hP1 ho) hM1 _ ?_
     ·exact hP1.1.trans hd
     intro M hM
     have hpr:=Sort.reverseRange_holds D1 a b hab (by rw [hP1.1]; exact hbd)
     have hP:Sort.PermIn a b d (Sort.reverseRange D1 a b):=Sort.permIn_trans _ _ _ _ _ hP1 hpr
     generalize Sort.reverseRange D1 a b=D at *
     (repeat' first|simp only [il86l0_go,il86l0b,go_sem,hs,v5,v6,wb1,q01]|with_reducible refine wX fun _=>?_|((with_reducible refine wY ?_ ?_); rfl)|fail)
     with_reducible refine @q6Z c1 c2 t h n a b J2 nn (x+3) hn hnn hnn5 hlt hb D M ?_ (q0c hbd hP ho) hM _ ?_
     ·exact hP.1.trans hd
     intro M0 hM0
     obtain ⟨E,v,hE⟩:∃ E v,Sort.partialInsertionSort (ltR t) D a b=(E,v):=⟨_,_,rfl⟩
     have hpi:=Sort.partialInsertionSort_holds swo D a b hlt (by rw [hP.1]; exact hbd) (hB.perm hbd hP)
     have hR2:∀ e d' m',m'≤n→okD t d'→Sort.PermIn a b d d'→Sort.SortedIn (ltR t) a b d'→R .ret e (hS d' m' J2):=fun e d' m' q1 q2 q3 q4=>by
      have:=hR e d' m' (J2.drop J.length) q1 q2 q3 q4
      have e1:=List.take_append_drop J.length J2
      rw [hJ2] at e1
      rwa [e1] at this
     rw [hE] at hpi ⊢
     obtain ⟨i1,i2⟩:=hpi
     dsimp only at i1 i2 ⊢
     have hPE:Sort.PermIn a b d E:=Sort.permIn_trans _ _ _ _ _ hP i1
     cases v with
     | true =>
      (repeat' first|simp only [il86l0_go,il86l0b,go_sem,hs,v5,v6,wb1,q01]|with_reducible refine wX fun _=>?_|((with_reducible refine wY ?_ ?_); rfl)|fail)
      all_goals exact hR2 _ E M0 hM0 (q0c hbd hPE ho) hPE (i2 rfl)
     | false =>
      clear hP hM hE i2 i1
      have hP:=hPE
      have hM:=hM0
      clear hPE hM0
      generalize E=D at *
      generalize M0=M at *
      (repeat' first|simp only [il86l0_go,il86l0b,go_sem,hs,v5,v6,wb1,q01]|with_reducible refine wX fun _=>?_|((with_reducible refine wY ?_ ?_); rfl)|fail)
      -- behind the preparations
      have hD:D.size=n:=hP.1.trans hd
      have hoD:=q0c hbd hP ho
      have hBD:=hB.perm hbd hP
      have hbD:b≤D.size:=by omega
      have hpn:b - 1 - (p - a) < n:=by omega
      by_cases hc:0 < a∧ltR t D[a - 1]! D[b - 1 - (p - a)]! = false
      ·obtain ⟨ha0,hlf⟩:=hc
       have d3:decide ((0:Int) < ((a:Nat):Int))=true:=decide_eq_true (by omega)
       have wa1:IntKind.i64.wrap (((a:Nat):Int) - 1)=((a - 1:Nat):Int):=by rw [wa]; omega
       have ha1:a - 1 < n:=by omega
       have gl:=q0j D
       rw [hD] at gl
       have g1:=q05 (d:=D) (i:=a - 1) (by omega)
       have g2:=q05 (d:=D) (i:=b - 1 - (p - a)) (by omega)
       have kc:=q0f c1 c2 t h hoD (i:=a - 1) (j:=b - 1 - (p - a)) (by omega) (by omega)
       have dl:=@q0d t D[a - 1]! D[b - 1 - (p - a)]!
       rw [hlf] at dl
       rw [hS_eq D M J2]
       (repeat' first|simp only [il86l0_go,il86l0b,go_sem,hs,v5,v6,wb1,d3,wa1,gl,g1,g2,kc,dl,ha1,hpn,hM,q07]|with_reducible refine wX fun _=>?_|((with_reducible refine wY ?_ ?_); rfl)|fail)
       rw [← hS_eq D M J2]
       with_reducible refine @q1q c1 c2 t h n a b (b - 1 - (p - a)) J2 nn (x+3) hn hnn ?_ ?_ hb D M hD hoD hM _ ?_
       ·omega
       ·omega
       intro M4 hM4
       obtain ⟨D4,mid,hx⟩:∃ D4 mid,Sort.partitionEqual (ltR t) D a b (b - 1 - (p - a))=(mid,D4):=⟨_,_,rfl⟩
       obtain ⟨q1,q2,q3,q4,q5⟩:=Sort.round_eq swo (Sort.partitionEqual_holds (ltR t)) ha0 (by omega) (by omega) hbD hBD hlf hx
       have hpe:=Sort.partitionEqual_holds (ltR t) swo D a b (b - 1 - (p - a)) (by omega) (by omega) hbD (fun i hi hi'=>by
        rcases hBD with h0|hBD
        ·omega
        ·exact swo.ntrans _ _ _ (hBD i hi hi') hlf)
       rw [hx] at hpe ⊢
       obtain ⟨_,_,hP4,_,_⟩:=hpe
       dsimp only at hP4 ⊢
       have hsh:=q0b hJ2
       (repeat' first|simp only [il86l0_go,il86l0b,go_sem,hs,v5,v6,wb1,hsh,shG_t,q03,q01]|with_reducible refine wX fun _=>?_|((with_reducible refine wY ?_ ?_); rfl)|fail)
       all_goals (refine ih mid b lim true true D4 M4 k (by omega) (by omega) q2 hb (by omega) (q3.trans hD) (q0c hbD hP4 hoD) hM4 q4 (by omega) R _ ?_ (fun e d' m' K r1 r2 r3 r4=>hR e d' m' K r1 r2 (Sort.permIn_trans _ _ _ _ _ hP (q5 d' r3 r4).1) (q5 d' r3 r4).2); simp only [go_sem,hs,v5,v6,wb1,shG_t,q03])
      · -- the partition
       have hD4:∃ mid ap D4,Sort.partition (ltR t) D a b (b - 1 - (p - a))=(mid,ap,D4):=⟨_,_,_,rfl⟩
       obtain ⟨mid,ap,D4,hx⟩:=hD4
       obtain ⟨q1,q2,q3,q4,q5,q6,q7⟩:=Sort.round_part swo (Sort.partition_holds (ltR t)) (by omega) (by omega) hbD hBD hx
       have hpt:=Sort.partition_holds (ltR t) swo D a b (b - 1 - (p - a)) (by omega) (by omega) hbD
       rw [hx] at hpt
       obtain ⟨_,_,hP4,_,_⟩:=hpt
       dsimp only at hP4
       have hoD4:=q0c hbD hP4 hoD
       have hD4:D4.size=n:=q3.trans hD
       have v1:IntKind.i64.wrap (((mid:Nat):Int) - ((a:Nat):Int))=((mid - a:Nat):Int):=by rw [q00 (by omega) (by omega)]; omega
       have v2:IntKind.i64.wrap (((b:Nat):Int) - ((mid:Nat):Int))=((b - mid:Nat):Int):=by rw [q00 (by omega) (by omega)]; omega
       have v3:IntKind.i64.wrap (((mid:Nat):Int)+1)=((mid+1:Nat):Int):=q00 (by omega) (by omega)
       by_cases ha0:0 < a
       ·have hlf:ltR t D[a - 1]! D[b - 1 - (p - a)]! = true:=by
         cases hz:ltR t D[a - 1]! D[b - 1 - (p - a)]! with
         | true=>rfl
         | false=>exact absurd ⟨ha0,hz⟩ hc
        have d3:decide ((0:Int) < ((a:Nat):Int))=true:=decide_eq_true (by omega)
        have wa1:IntKind.i64.wrap (((a:Nat):Int) - 1)=((a - 1:Nat):Int):=by rw [wa]; omega
        have ha1:a - 1 < n:=by omega
        have gl:=q0j D
        rw [hD] at gl
        have g1:=q05 (d:=D) (i:=a - 1) (by omega)
        have g2:=q05 (d:=D) (i:=b - 1 - (p - a)) (by omega)
        have kc:=q0f c1 c2 t h hoD (i:=a - 1) (j:=b - 1 - (p - a)) (by omega) (by omega)
        have dl:=@q0d t D[a - 1]! D[b - 1 - (p - a)]!
        rw [hlf] at dl
        rw [hS_eq D M J2]
        (repeat' first|simp only [il86l0_go,il86l0b,go_sem,hs,v5,v6,wb1,d3,wa1,gl,g1,g2,kc,dl,ha1,hpn,hM,q07]|with_reducible refine wX fun _=>?_|((with_reducible refine wY ?_ ?_); rfl)|fail)
        rw [← hS_eq D M J2]
        with_reducible refine @q0H c1 c2 t h n a b (b - 1 - (p - a)) J2 nn (x+3) hn hnn ?_ ?_ hb D M hD hoD hM _ ?_
        ·omega
        ·omega
        intro M4 hM4
        rw [hx]
        dsimp only
        by_cases hlr:mid - a < b - mid
        ·have d5:decide (((mid - a:Nat):Int) < ((b - mid:Nat):Int))=true:=decide_eq_true (by omega)
         (repeat' first|simp only [il86l0_go,il86l0b,go_sem,hs,v5,v6,wb1,v1,v2,v3,w8,d5,q01]|with_reducible refine wX fun _=>?_|((with_reducible refine wY ?_ ?_); rfl)|fail)
         with_reducible refine @hIH a mid (lim) J2 D4 M4 _ ?_ q1 ?_ ?_ hD4 hoD4 hM4 q4 ?_
         ·omega
         ·omega
         ·omega
         intro L m' K hm' hoL hPL hSL
         obtain ⟨u1,u2⟩:=q6 L hPL hSL
         have t2:=q0h K hJ2
         have hsh:=q0b t2
         (repeat' first|simp only [il86l0_go,il86l0b,go_sem,hs,v5,v6,wb1,v1,v2,v3,hsh,shG_t,q03,q01]|with_reducible refine wX fun _=>?_|((with_reducible refine wY ?_ ?_); rfl)|fail)
         all_goals (refine ih (mid+1) b (lim) (decide ((((b - a) / 8:Nat):Int)≤((mid - a:Nat):Int))) ap L m' k (by omega) (by omega) (by omega) hb (by omega) (hPL.1.trans hD4) hoL hm' u1 (by omega) R _ ?_ (fun e d' m' K r1 r2 r3 r4=>hR e d' m' K r1 r2 (Sort.permIn_trans _ _ _ _ _ hP (u2 d' r3 r4).1) (u2 d' r3 r4).2); simp only [go_sem,hs,v5,v6,wb1,shG_t,q03,v3]; try rfl)
        ·have d5:decide (((mid - a:Nat):Int) < ((b - mid:Nat):Int))=false:=decide_eq_false (by omega)
         (repeat' first|simp only [il86l0_go,il86l0b,go_sem,hs,v5,v6,wb1,v1,v2,v3,w8,d5,q01]|with_reducible refine wX fun _=>?_|((with_reducible refine wY ?_ ?_); rfl)|fail)
         with_reducible refine @hIH (mid+1) b (lim) J2 D4 M4 _ ?_ ?_ hb ?_ hD4 hoD4 hM4 q5 ?_
         ·omega
         ·omega
         ·omega
         intro L m' K hm' hoL hPL hSL
         obtain ⟨u1,u2⟩:=q7 L hPL hSL
         have t2:=q0h K hJ2
         have hsh:=q0b t2
         (repeat' first|simp only [il86l0_go,il86l0b,go_sem,hs,v5,v6,wb1,v1,v2,v3,hsh,shG_t,q03,q01]|with_reducible refine wX fun _=>?_|((with_reducible refine wY ?_ ?_); rfl)|fail)
         all_goals (refine ih a mid (lim) (decide ((((b - a) / 8:Nat):Int)≤((b - mid:Nat):Int))) ap L m' k (by omega) (by omega) q1 (by omega) (by omega) (hPL.1.trans hD4) hoL hm' u1 (by omega) R _ ?_ (fun e d' m' K r1 r2 r3 r4=>hR e d' m' K r1 r2 (Sort.permIn_trans _ _ _ _ _ hP (u2 d' r3 r4).1) (u2 d' r3 r4).2); simp only [go_sem,hs,v5,v6,wb1,shG_t,q03]; try rfl)
       ·have d3:decide ((0:Int) < ((a:Nat):Int))=false:=decide_eq_false (by omega)
        (repeat' first|simp only [il86l0_go,il86l0b,go_sem,hs,v5,v6,wb1,d3,q01]|with_reducible refine wX fun _=>?_|((with_reducible refine wY ?_ ?_); rfl)|fail)
        with_reducible refine @q0H c1 c2 t h n a b (b - 1 - (p - a)) J2 nn (x+3) hn hnn ?_ ?_ hb D M hD hoD hM _ ?_
        ·omega
        ·omega
        intro M4 hM4
        rw [hx]
        dsimp only
        by_cases hlr:mid - a < b - mid
        ·have d5:decide (((mid - a:Nat):Int) < ((b - mid:Nat):Int))=true:=decide_eq_true (by omega)
         (repeat' first|simp only [il86l0_go,il86l0b,go_sem,hs,v5,v6,wb1,v1,v2,v3,w8,d5,q01]|with_reducible refine wX fun _=>?_|((with_reducible refine wY ?_ ?_); rfl)|fail)
         with_reducible refine @hIH a mid (lim) J2 D4 M4 _ ?_ q1 ?_ ?_ hD4 hoD4 hM4 q4 ?_
         ·omega
         ·omega
         ·omega
         intro L m' K hm' hoL hPL hSL
         obtain ⟨u1,u2⟩:=q6 L hPL hSL
         have t2:=q0h K hJ2
         have hsh:=q0b t2
         (repeat' first|simp only [il86l0_go,il86l0b,go_sem,hs,v5,v6,wb1,v1,v2,v3,hsh,shG_t,q03,q01]|with_reducible refine wX fun _=>?_|((with_reducible refine wY ?_ ?_); rfl)|fail)
         all_goals (refine ih (mid+1) b (lim) (decide ((((b - a) / 8:Nat):Int)≤((mid - a:Nat):Int))) ap L m' k (by omega) (by omega) (by omega) hb (by omega) (hPL.1.trans hD4) hoL hm' u1 (by omega) R _ ?_ (fun e d' m' K r1 r2 r3 r4=>hR e d' m' K r1 r2 (Sort.permIn_trans _ _ _ _ _ hP (u2 d' r3 r4).1) (u2 d' r3 r4).2); simp only [go_sem,hs,v5,v6,wb1,shG_t,q03,v3]; try rfl)
        ·have d5:decide (((mid - a:Nat):Int) < ((b - mid:Nat):Int))=false:=decide_eq_false (by omega)
         (repeat' first|simp only [il86l0_go,il86l0b,go_sem,hs,v5,v6,wb1,v1,v2,v3,w8,d5,q01]|with_reducible refine wX fun _=>?_|((with_reducible refine wY ?_ ?_); rfl)|fail)
         with_reducible refine @hIH (mid+1) b (lim) J2 D4 M4 _ ?_ ?_ hb ?_ hD4 hoD4 hM4 q5 ?_
         ·omega
         ·omega
         ·omega
         intro L m' K hm' hoL hPL hSL
         obtain ⟨u1,u2⟩:=q7 L hPL hSL
         have t2:=q0h K hJ2
         have hsh:=q0b t2
         (repeat' first|simp only [il86l0_go,il86l0b,go_sem,hs,v5,v6,wb1,v1,v2,v3,hsh,shG_t,q03,q01]|with_reducible refine wX fun _=>?_|((with_reducible refine wY ?_ ?_); rfl)|fail)
         all_goals (refine ih a mid (lim) (decide ((((b - a) / 8:Nat):Int)≤((b - mid:Nat):Int))) ap L m' k (by omega) (by omega) q1 (by omega) (by omega) (hPL.1.trans hD4) hoL hm' u1 (by omega) R _ ?_ (fun e d' m' K r1 r2 r3 r4=>hR e d' m' K r1 r2 (Sort.permIn_trans _ _ _ _ _ hP (u2 d' r3 r4).1) (u2 d' r3 r4).2); simp only [go_sem,hs,v5,v6,wb1,shG_t,q03]; try rfl)
    ·have e2:decide (hv=2)=false:=decide_eq_false h2
     have hP:=hP1
     have hM:=hM1
     generalize D1=D at *
     generalize M1=M at *
     by_cases h1:hv=1
     ·have e1:decide (hv=1)=true:=decide_eq_true h1
      (repeat' first|simp only [il86l0_go,il86l0b,go_sem,hs,e2,w0,d1,d2,sn,kp,e1,q01]|with_reducible refine wX fun _=>?_|((with_reducible refine wY ?_ ?_); rfl)|fail)
      with_reducible refine @q6Z c1 c2 t h n a b J2 nn (x+3) hn hnn hnn5 hlt hb D M ?_ (q0c hbd hP ho) hM _ ?_
      ·exact hP.1.trans hd
      intro M0 hM0
      obtain ⟨E,v,hE⟩:∃ E v,Sort.partialInsertionSort (ltR t) D a b=(E,v):=⟨_,_,rfl⟩
      have hpi:=Sort.partialInsertionSort_holds swo D a b hlt (by rw [hP.1]; exact hbd) (hB.perm hbd hP)
      have hR2:∀ e d' m',m'≤n→okD t d'→Sort.PermIn a b d d'→Sort.SortedIn (ltR t) a b d'→R .ret e (hS d' m' J2):=fun e d' m' q1 q2 q3 q4=>by
       have:=hR e d' m' (J2.drop J.length) q1 q2 q3 q4
       have e1:=List.take_append_drop J.length J2
       rw [hJ2] at e1
       rwa [e1] at this
      rw [hE] at hpi ⊢
      obtain ⟨i1,i2⟩:=hpi
      dsimp only at i1 i2 ⊢
      have hPE:Sort.PermIn a b d E:=Sort.permIn_trans _ _ _ _ _ hP i1
      cases v with
      | true =>
       (repeat' first|simp only [il86l0_go,il86l0b,go_sem,hs,e2,w0,d1,d2,sn,kp,e1,q01]|with_reducible refine wX fun _=>?_|((with_reducible refine wY ?_ ?_); rfl)|fail)
       all_goals exact hR2 _ E M0 hM0 (q0c hbd hPE ho) hPE (i2 rfl)
      | false =>
       clear hP hM hE i2 i1
       have hP:=hPE
       have hM:=hM0
       clear hPE hM0
       generalize E=D at *
       generalize M0=M at *
       (repeat' first|simp only [il86l0_go,il86l0b,go_sem,hs,e2,w0,d1,d2,sn,kp,e1,q01]|with_reducible refine wX fun _=>?_|((with_reducible refine wY ?_ ?_); rfl)|fail)
       -- behind the preparations
       have hD:D.size=n:=hP.1.trans hd
       have hoD:=q0c hbd hP ho
       have hBD:=hB.perm hbd hP
       have hbD:b≤D.size:=by omega
       have hpn:p < n:=by omega
       by_cases hc:0 < a∧ltR t D[a - 1]! D[p]! = false
       ·obtain ⟨ha0,hlf⟩:=hc
        have d3:decide ((0:Int) < ((a:Nat):Int))=true:=decide_eq_true (by omega)
        have wa1:IntKind.i64.wrap (((a:Nat):Int) - 1)=((a - 1:Nat):Int):=by rw [wa]; omega
        have ha1:a - 1 < n:=by omega
        have gl:=q0j D
        rw [hD] at gl
        have g1:=q05 (d:=D) (i:=a - 1) (by omega)
        have g2:=q05 (d:=D) (i:=p) (by omega)
        have kc:=q0f c1 c2 t h hoD (i:=a - 1) (j:=p) (by omega) (by omega)
        have dl:=@q0d t D[a - 1]! D[p]!
        rw [hlf] at dl
        rw [hS_eq D M J2]
        (repeat' first|simp only [il86l0_go,il86l0b,go_sem,hs,e2,w0,d1,d2,sn,kp,d3,wa1,gl,g1,g2,kc,dl,ha1,hpn,hM,q07]|with_reducible refine wX fun _=>?_|((with_reducible refine wY ?_ ?_); rfl)|fail)
        rw [← hS_eq D M J2]
        with_reducible refine @q1q c1 c2 t h n a b (p) J2 nn (x+3) hn hnn ?_ ?_ hb D M hD hoD hM _ ?_
        ·omega
        ·omega
        intro M4 hM4
        obtain ⟨D4,mid,hx⟩:∃ D4 mid,Sort.partitionEqual (ltR t) D a b (p)=(mid,D4):=⟨_,_,rfl⟩
        obtain ⟨q1,q2,q3,q4,q5⟩:=Sort.round_eq swo (Sort.partitionEqual_holds (ltR t)) ha0 (by omega) (by omega) hbD hBD hlf hx
        have hpe:=Sort.partitionEqual_holds (ltR t) swo D a b (p) (by omega) (by omega) hbD (fun i hi hi'=>by
         rcases hBD with h0|hBD
         ·omega
         ·exact swo.ntrans _ _ _ (hBD i hi hi') hlf)
        rw [hx] at hpe ⊢
        obtain ⟨_,_,hP4,_,_⟩:=hpe
        dsimp only at hP4 ⊢
        have hsh:=q0b hJ2
        (repeat' first|simp only [il86l0_go,il86l0b,go_sem,hs,e2,w0,d1,d2,sn,kp,hsh,shG_t,q03,q01]|with_reducible refine wX fun _=>?_|((with_reducible refine wY ?_ ?_); rfl)|fail)
        all_goals (refine ih mid b lim true true D4 M4 k (by omega) (by omega) q2 hb (by omega) (q3.trans hD) (q0c hbD hP4 hoD) hM4 q4 (by omega) R _ ?_ (fun e d' m' K r1 r2 r3 r4=>hR e d' m' K r1 r2 (Sort.permIn_trans _ _ _ _ _ hP (q5 d' r3 r4).1) (q5 d' r3 r4).2); simp only [go_sem,hs,e2,w0,d1,d2,sn,kp,shG_t,q03])
       · -- the partition
        have hD4:∃ mid ap D4,Sort.partition (ltR t) D a b (p)=(mid,ap,D4):=⟨_,_,_,rfl⟩
        obtain ⟨mid,ap,D4,hx⟩:=hD4
        obtain ⟨q1,q2,q3,q4,q5,q6,q7⟩:=Sort.round_part swo (Sort.partition_holds (ltR t)) (by omega) (by omega) hbD hBD hx
        have hpt:=Sort.partition_holds (ltR t) swo D a b (p) (by omega) (by omega) hbD
        rw [hx] at hpt
        obtain ⟨_,_,hP4,_,_⟩:=hpt
        dsimp only at hP4
        have hoD4:=q0c hbD hP4 hoD
        have hD4:D4.size=n:=q3.trans hD
        have v1:IntKind.i64.wrap (((mid:Nat):Int) - ((a:Nat):Int))=((mid - a:Nat):Int):=by rw [q00 (by omega) (by omega)]; omega
        have v2:IntKind.i64.wrap (((b:Nat):Int) - ((mid:Nat):Int))=((b - mid:Nat):Int):=by rw [q00 (by omega) (by omega)]; omega
        have v3:IntKind.i64.wrap (((mid:Nat):Int)+1)=((mid+1:Nat):Int):=q00 (by omega) (by omega)
        by_cases ha0:0 < a
        ·have hlf:ltR t D[a - 1]! D[p]! = true:=by
          cases hz:ltR t D[a - 1]! D[p]! with
          | true=>rfl
          | false=>exact absurd ⟨ha0,hz⟩ hc
         have d3:decide ((0:Int) < ((a:Nat):Int))=true:=decide_eq_true (by omega)
         have wa1:IntKind.i64.wrap (((a:Nat):Int) - 1)=((a - 1:Nat):Int):=by rw [wa]; omega
         have ha1:a - 1 < n:=by omega
         have gl:=q0j D
         rw [hD] at gl
         have g1:=q05 (d:=D) (i:=a - 1) (by omega)
         have g2:=q05 (d:=D) (i:=p) (by omega)
         have kc:=q0f c1 c2 t h hoD (i:=a - 1) (j:=p) (by omega) (by omega)
         have dl:=@q0d t D[a - 1]! D[p]!
         rw [hlf] at dl
         rw [hS_eq D M J2]
         (repeat' first|simp only [il86l0_go,il86l0b,go_sem,hs,e2,w0,d1,d2,sn,kp,d3,wa1,gl,g1,g2,kc,dl,ha1,hpn,hM,q07]|with_reducible refine wX fun _=>?_|((with_reducible refine wY ?_ ?_); rfl)|fail)
         rw [← hS_eq D M J2]
         with_reducible refine @q0H c1 c2 t h n a b (p) J2 nn (x+3) hn hnn ?_ ?_ hb D M hD hoD hM _ ?_
         ·omega
         ·omega
         intro M4 hM4
         rw [hx]
         dsimp only
         by_cases hlr:mid - a < b - mid
         ·have d5:decide (((mid - a:Nat):Int) < ((b - mid:Nat):Int))=true:=decide_eq_true (by omega)
          (repeat' first|simp only [il86l0_go,il86l0b,go_sem,hs,e2,w0,d1,d2,sn,kp,v1,v2,v3,w8,d5,q01]|with_reducible refine wX fun _=>?_|((with_reducible refine wY ?_ ?_); rfl)|fail)
          with_reducible refine @hIH a mid (lim) J2 D4 M4 _ ?_ q1 ?_ ?_ hD4 hoD4 hM4 q4 ?_
          ·omega
          ·omega
          ·omega
          intro L m' K hm' hoL hPL hSL
          obtain ⟨u1,u2⟩:=q6 L hPL hSL
          have t2:=q0h K hJ2
          have hsh:=q0b t2
          (repeat' first|simp only [il86l0_go,il86l0b,go_sem,hs,e2,w0,d1,d2,sn,kp,v1,v2,v3,hsh,shG_t,q03,q01]|with_reducible refine wX fun _=>?_|((with_reducible refine wY ?_ ?_); rfl)|fail)
          all_goals (refine ih (mid+1) b (lim) (decide ((((b - a) / 8:Nat):Int)≤((mid - a:Nat):Int))) ap L m' k (by omega) (by omega) (by omega) hb (by omega) (hPL.1.trans hD4) hoL hm' u1 (by omega) R _ ?_ (fun e d' m' K r1 r2 r3 r4=>hR e d' m' K r1 r2 (Sort.permIn_trans _ _ _ _ _ hP (u2 d' r3 r4).1) (u2 d' r3 r4).2); simp only [go_sem,hs,e2,w0,d1,d2,sn,kp,shG_t,q03,v3]; try rfl)
         ·have d5:decide (((mid - a:Nat):Int) < ((b - mid:Nat):Int))=false:=decide_eq_false (by omega)
          (repeat' first|simp only [il86l0_go,il86l0b,go_sem,hs,e2,w0,d1,d2,sn,kp,v1,v2,v3,w8,d5,q01]|with_reducible refine wX fun _=>?_|((with_reducible refine wY ?_ ?_); rfl)|fail)
          with_reducible refine @hIH (mid+1) b (lim) J2 D4 M4 _ ?_ ?_ hb ?_ hD4 hoD4 hM4 q5 ?_
          ·omega
          ·omega
          ·omega
          intro L m' K hm' hoL hPL hSL
          obtain ⟨u1,u2⟩:=q7 L hPL hSL
          have t2:=q0h K hJ2
          have hsh:=q0b t2
          (repeat' first|simp only [il86l0_go,il86l0b,go_sem,hs,e2,w0,d1,d2,sn,kp,v1,v2,v3,hsh,shG_t,q03,q01]|with_reducible refine wX fun _=>?_|((with_reducible refine wY ?_ ?_); rfl)|fail)
          all_goals (refine ih a mid (lim) (decide ((((b - a) / 8:Nat):Int)≤((b - mid:Nat):Int))) ap L m' k (by omega) (by omega) q1 (by omega) (by omega) (hPL.1.trans hD4) hoL hm' u1 (by omega) R _ ?_ (fun e d' m' K r1 r2 r3 r4=>hR e d' m' K r1 r2 (Sort.permIn_trans _ _ _ _ _ hP (u2 d' r3 r4).1) (u2 d' r3 r4).2); simp only [go_sem,hs,e2,w0,d1,d2,sn,kp,shG_t,q03]; try rfl)
        ·have d3:decide ((0:Int) < ((a:Nat):Int))=false:=decide_eq_false (by omega)
         (repeat' first|simp only [il86l0_go,il86l0b,go_sem,hs,e2,w0,d1,d2,sn,kp,d3,q01]|with_reducible refine wX fun _=>?_|((with_reducible refine wY ?_ ?_); rfl)|fail)
         with_reducible refine @q0H c1 c2 t h n a b (p) J2 nn (x+3) hn hnn ?_ ?_ hb D M hD hoD hM _ ?_
         ·omega
         ·omega
         intro M4 hM4
         rw [hx]
         dsimp only
         by_cases hlr:mid - a < b - mid
         ·have d5:decide (((mid - a:Nat):Int) < ((b - mid:Nat):Int))=true:=decide_eq_true (by omega)
          (repeat' first|simp only [il86l0_go,il86l0b,go_sem,hs,e2,w0,d1,d2,sn,kp,v1,v2,v3,w8,d5,q01]|with_reducible refine wX fun _=>?_|((with_reducible refine wY ?_ ?_); rfl)|fail)
          with_reducible refine @hIH a mid (lim) J2 D4 M4 _ ?_ q1 ?_ ?_ hD4 hoD4 hM4 q4 ?_
          ·omega
          ·omega
          ·omega
          intro L m' K hm' hoL hPL hSL
          obtain ⟨u1,u2⟩:=q6 L hPL hSL
          have t2:=q0h K hJ2
          have hsh:=q0b t2
          (repeat' first|simp only [il86l0_go,il86l0b,go_sem,hs,e2,w0,d1,d2,sn,kp,v1,v2,v3,hsh,shG_t,q03,q01]|with_reducible refine wX fun _=>?_|((with_reducible refine wY ?_ ?_); rfl)|fail)
          all_goals (refine ih (mid+1) b (lim) (decide ((((b - a) / 8:Nat):Int)≤((mid - a:Nat):Int))) ap L m' k (by omega) (by omega) (by omega) hb (by omega) (hPL.1.trans hD4) hoL hm' u1 (by omega) R _ ?_ (fun e d' m' K r1 r2 r3 r4=>hR e d' m' K r1 r2 (Sort.permIn_trans _ _ _ _ _ hP (u2 d' r3 r4).1) (u2 d' r3 r4).2); simp only [go_sem,hs,e2,w0,d1,d2,sn,kp,shG_t,q03,v3]; try rfl)
         ·have d5:decide (((mid - a:Nat):Int) < ((b - mid:Nat):Int))=false:=decide_eq_false (by omega)
          (repeat' first|simp only [il86l0_go,il86l0b,go_sem,hs,e2,w0,d1,d2,sn,kp,v1,v2,v3,w8,d5,q01]|with_reducible refine wX fun _=>?_|((with_reducible refine wY ?_ ?_); rfl)|fail)
          with_reducible refine @hIH (mid+1) b (lim) J2 D4 M4 _ ?_ ?_ hb ?_ hD4 hoD4 hM4 q5 ?_
          ·omega
          ·omega
          ·omega
          intro L m' K hm' hoL hPL hSL
          obtain ⟨u1,u2⟩:=q7 L hPL hSL
          have t2:=q0h K hJ2
          have hsh:=q0b t2
          (repeat' first|simp only [il86l0_go,il86l0b,go_sem,hs,e2,w0,d1,d2,sn,kp,v1,v2,v3,hsh,shG_t,q03,q01]|with_reducible refine wX fun _=>?_|((with_reducible refine wY ?_ ?_); rfl)|fail)
          all_goals (refine ih a mid (lim) (decide ((((b - a) / 8:Nat):Int)≤((b - mid:Nat):Int))) ap L m' k (by omega) (by omega) q1 (by omega) (by omega) (hPL.1.trans hD4) hoL hm' u1 (by omega) R _ ?_ (fun e d' m' K r1 r2 r3 r4=>hR e d' m' K r1 r2 (Sort.permIn_trans _ _ _ _ _ hP (u2 d' r3 r4).1) (u2 d' r3 r4).2); simp only [go_sem,hs,e2,w0,d1,d2,sn,kp,shG_t,q03]; try rfl)
     ·have e1:decide (hv=1)=false:=decide_eq_false h1
      -- behind the preparations
      have hD:D.size=n:=hP.1.trans hd
      have hoD:=q0c hbd hP ho
      have hBD:=hB.perm hbd hP
      have hbD:b≤D.size:=by omega
      have hpn:p < n:=by omega
      by_cases hc:0 < a∧ltR t D[a - 1]! D[p]! = false
      ·obtain ⟨ha0,hlf⟩:=hc
       have d3:decide ((0:Int) < ((a:Nat):Int))=true:=decide_eq_true (by omega)
       have wa1:IntKind.i64.wrap (((a:Nat):Int) - 1)=((a - 1:Nat):Int):=by rw [wa]; omega
       have ha1:a - 1 < n:=by omega
       have gl:=q0j D
       rw [hD] at gl
       have g1:=q05 (d:=D) (i:=a - 1) (by omega)
       have g2:=q05 (d:=D) (i:=p) (by omega)
       have kc:=q0f c1 c2 t h hoD (i:=a - 1) (j:=p) (by omega) (by omega)
       have dl:=@q0d t D[a - 1]! D[p]!
       rw [hlf] at dl
       rw [hS_eq D M J2]
       (repeat' first|simp only [il86l0_go,il86l0b,go_sem,hs,e1,e2,w0,d1,d2,sn,kp,d3,wa1,gl,g1,g2,kc,dl,ha1,hpn,hM,q07]|with_reducible refine wX fun _=>?_|((with_reducible refine wY ?_ ?_); rfl)|fail)
       rw [← hS_eq D M J2]
       with_reducible refine @q1q c1 c2 t h n a b (p) J2 nn (x+3) hn hnn ?_ ?_ hb D M hD hoD hM _ ?_
       ·omega
       ·omega
       intro M4 hM4
       obtain ⟨D4,mid,hx⟩:∃ D4 mid,Sort.partitionEqual (ltR t) D a b (p)=(mid,D4):=⟨_,_,rfl⟩
       obtain ⟨q1,q2,q3,q4,q5⟩:=Sort.round_eq swo (Sort.partitionEqual_holds (ltR t)) ha0 (by omega) (by omega) hbD hBD hlf hx
       have hpe:=Sort.partitionEqual_holds (ltR t) swo D a b (p) (by omega) (by omega) hbD (fun i hi hi'=>by
        rcases hBD with h0|hBD
        ·omega
        ·exact swo.ntrans _ _ _ (hBD i hi hi') hlf)
       rw [hx] at hpe ⊢
       obtain ⟨_,_,hP4,_,_⟩:=hpe
       dsimp only at hP4 ⊢
       have hsh:=q0b hJ2
       (repeat' first|simp only [il86l0_go,il86l0b,go_sem,hs,e1,e2,w0,d1,d2,sn,kp,hsh,shG_t,q03,q01]|with_reducible refine wX fun _=>?_|((with_reducible refine wY ?_ ?_); rfl)|fail)
       all_goals (refine ih mid b lim true true D4 M4 k (by omega) (by omega) q2 hb (by omega) (q3.trans hD) (q0c hbD hP4 hoD) hM4 q4 (by omega) R _ ?_ (fun e d' m' K r1 r2 r3 r4=>hR e d' m' K r1 r2 (Sort.permIn_trans _ _ _ _ _ hP (q5 d' r3 r4).1) (q5 d' r3 r4).2); simp only [go_sem,hs,e1,e2,w0,d1,d2,sn,kp,shG_t,q03])
      · -- the partition
       have hD4:∃ mid ap D4,Sort.partition (ltR t) D a b (p)=(mid,ap,D4):=⟨_,_,_,rfl⟩
       obtain ⟨mid,ap,D4,hx⟩:=hD4
       obtain ⟨q1,q2,q3,q4,q5,q6,q7⟩:=Sort.round_part swo (Sort.partition_holds (ltR t)) (by omega) (by omega) hbD hBD hx
       have hpt:=Sort.partition_holds (ltR t) swo D a b (p) (by omega) (by omega) hbD
       rw [hx] at hpt
       obtain ⟨_,_,hP4,_,_⟩:=hpt
       dsimp only at hP4
       have hoD4:=q0c hbD hP4 hoD
       have hD4:D4.size=n:=q3.trans hD
       have v1:IntKind.i64.wrap (((mid:Nat):Int) - ((a:Nat):Int))=((mid - a:Nat):Int):=by rw [q00 (by omega) (by omega)]; omega
       have v2:IntKind.i64.wrap (((b:Nat):Int) - ((mid:Nat):Int))=((b - mid:Nat):Int):=by rw [q00 (by omega) (by omega)]; omega
       have v3:IntKind.i64.wrap (((mid:Nat):Int)+1)=((mid+1:Nat):Int):=q00 (by omega) (by omega)
       by_cases ha0:0 < a
       ·have hlf:ltR t D[a - 1]! D[p]! = true:=by
         cases hz:ltR t D[a - 1]! D[p]! with
         | true=>rfl
         | false=>exact absurd ⟨ha0,hz⟩ hc
        have d3:decide ((0:Int) < ((a:Nat):Int))=true:=decide_eq_true (by omega)
        have wa1:IntKind.i64.wrap (((a:Nat):Int) - 1)=((a - 1:Nat):Int):=by rw [wa]; omega
        have ha1:a - 1 < n:=by omega
        have gl:=q0j D
        rw [hD] at gl
        have g1:=q05 (d:=D) (i:=a - 1) (by omega)
        have g2:=q05 (d:=D) (i:=p) (by omega)
        have kc:=q0f c1 c2 t h hoD (i:=a - 1) (j:=p) (by omega) (by omega)
        have dl:=@q0d t D[a - 1]! D[p]!
        rw [hlf] at dl
        rw [hS_eq D M J2]
        (repeat' first|simp only [il86l0_go,il86l0b,go_sem,hs,e1,e2,w0,d1,d2,sn,kp,d3,wa1,gl,g1,g2,kc,dl,ha1,hpn,hM,q07]|with_reducible refine wX fun _=>?_|((with_reducible refine wY ?_ ?_); rfl)|fail)
        rw [← hS_eq D M J2]
        with_reducible refine @q0H c1 c2 t h n a b (p) J2 nn (x+3) hn hnn ?_ ?_ hb D M hD hoD hM _ ?_
        ·omega
        ·omega
        intro M4 hM4
        rw [hx]
        dsimp only
        by_cases hlr:mid - a < b - mid
        ·have d5:decide (((mid - a:Nat):Int) < ((b - mid:Nat):Int))=true:=decide_eq_true (by omega)
         (repeat' first|simp only [il86l0_go,il86l0b,go_sem,hs,e1,e2,w0,d1,d2,sn,kp,v1,v2,v3,w8,d5,q01]|with_reducible refine wX fun _=>?_|((with_reducible refine wY ?_ ?_); rfl)|fail)
         with_reducible refine @hIH a mid (lim) J2 D4 M4 _ ?_ q1 ?_ ?_ hD4 hoD4 hM4 q4 ?_
         ·omega
         ·omega
         ·omega
         intro L m' K hm' hoL hPL hSL
         obtain ⟨u1,u2⟩:=q6 L hPL hSL
         have t2:=q0h K hJ2
         have hsh:=q0b t2
         (repeat' first|simp only [il86l0_go,il86l0b,go_sem,hs,e1,e2,w0,d1,d2,sn,kp,v1,v2,v3,hsh,shG_t,q03,q01]|with_reducible refine wX fun _=>?_|((with_reducible refine wY ?_ ?_); rfl)|fail)
         all_goals (refine ih (mid+1) b (lim) (decide ((((b - a) / 8:Nat):Int)≤((mid - a:Nat):Int))) ap L m' k (by omega) (by omega) (by omega) hb (by omega) (hPL.1.trans hD4) hoL hm' u1 (by omega) R _ ?_ (fun e d' m' K r1 r2 r3 r4=>hR e d' m' K r1 r2 (Sort.permIn_trans _ _ _ _ _ hP (u2 d' r3 r4).1) (u2 d' r3 r4).2); simp only [go_sem,hs,e1,e2,w0,d1,d2,sn,kp,shG_t,q03,v3]; try rfl)
        ·have d5:decide (((mid - a:Nat):Int) < ((b - mid:Nat):Int))=false:=decide_eq_false (by omega)
         (repeat' first|simp only [il86l0_go,il86l0b,go_sem,hs,e1,e2,w0,d1,d2,sn,kp,v1,v2,v3,w8,d5,q01]|with_reducible refine wX fun _=>?_|((with_reducible refine wY ?_ ?_); rfl)|fail)
         with_reducible refine @hIH (mid+1) b (lim) J2 D4 M4 _ ?_ ?_ hb ?_ hD4 hoD4 hM4 q5 ?_
         ·omega
         ·omega
         ·omega
         intro L m' K hm' hoL hPL hSL
         obtain ⟨u1,u2⟩:=q7 L hPL hSL
         have t2:=q0h K hJ2
         have hsh:=q0b t2
         (repeat' first|simp only [il86l0_go,il86l0b,go_sem,hs,e1,e2,w0,d1,d2,sn,kp,v1,v2,v3,hsh,shG_t,q03,q01]|with_reducible refine wX fun _=>?_|((with_reducible refine wY ?_ ?_); rfl)|fail)
         all_goals (refine ih a mid (lim) (decide ((((b - a) / 8:Nat):Int)≤((b - mid:Nat):Int))) ap L m' k (by omega) (by omega) q1 (by omega) (by omega) (hPL.1.trans hD4) hoL hm' u1 (by omega) R _ ?_ (fun e d' m' K r1 r2 r3 r4=>hR e d' m' K r1 r2 (Sort.permIn_trans _ _ _ _ _ hP (u2 d' r3 r4).1) (u2 d' r3 r4).2); simp only [go_sem,hs,e1,e2,w0,d1,d2,sn,kp,shG_t,q03]; try rfl)
       ·have d3:decide ((0:Int) < ((a:Nat):Int))=false:=decide_eq_false (by omega)
        (repeat' first|simp only [il86l0_go,il86l0b,go_sem,hs,e1,e2,w0,d1,d2,sn,kp,d3,q01]|with_reducible refine wX fun _=>?_|((with_reducible refine wY ?_ ?_); rfl)|fail)
        with_reducible refine @q0H c1 c2 t h n a b (p) J2 nn (x+3) hn hnn ?_ ?_ hb D M hD hoD hM _ ?_
        ·omega
        ·omega
        intro M4 hM4
        rw [hx]
        dsimp only
        by_cases hlr:mid - a < b - mid
        ·have d5:decide (((mid - a:Nat):Int) < ((b - mid:Nat):Int))=true:=decide_eq_true (by omega)
         (repeat' first|simp only [il86l0_go,il86l0b,go_sem,hs,e1,e2,w0,d1,d2,sn,kp,v1,v2,v3,w8,d5,q01]|with_reducible refine wX fun _=>?_|((with_reducible refine wY ?_ ?_); rfl)|fail)
         with_reducible refine @hIH a mid (lim) J2 D4 M4 _ ?_ q1 ?_ ?_ hD4 hoD4 hM4 q4 ?_
         ·omega
         ·omega
         ·omega
         intro L m' K hm' hoL hPL hSL
         obtain ⟨u1,u2⟩:=q6 L hPL hSL
         have t2:=q0h K hJ2
         have hsh:=q0b t2
         (repeat' first|simp only [il86l0_go,il86l0b,go_sem,hs,e1,e2,w0,d1,d2,sn,kp,v1,v2,v3,hsh,shG_t,q03,q01]|with_reducible refine wX fun _=>?_|((with_reducible refine wY ?_ ?_); rfl)|fail)
         all_goals (refine ih (mid+1) b (lim) (decide ((((b - a) / 8:Nat):Int)≤((mid - a:Nat):Int))) ap L m' k (by omega) (by omega) (by omega) hb (by omega) (hPL.1.trans hD4) hoL hm' u1 (by omega) R _ ?_ (fun e d' m' K r1 r2 r3 r4=>hR e d' m' K r1 r2 (Sort.permIn_trans _ _ _ _ _ hP (u2 d' r3 r4).1) (u2 d' r3 r4).2); simp only [go_sem,hs,e1,e2,w0,d1,d2,sn,kp,shG_t,q03,v3]; try rfl)
        ·have d5:decide (((mid - a:Nat):Int) < ((b - mid:Nat):Int))=false:=decide_eq_false (by omega)
         (repeat' first|simp only [il86l0_go,il86l0b,go_sem,hs,e1,e2,w0,d1,d2,sn,kp,v1,v2,v3,w8,d5,q01]|with_reducible refine wX fun _=>?_|((with_reducible refine wY ?_ ?_); rfl)|fail)
         with_reducible refine @hIH (mid+1) b (lim) J2 D4 M4 _ ?_ ?_ hb ?_ hD4 hoD4 hM4 q5 ?_
         ·omega
         ·omega
         ·omega
         intro L m' K hm' hoL hPL hSL
         obtain ⟨u1,u2⟩:=q7 L hPL hSL
         have t2:=q0h K hJ2
         have hsh:=q0b t2
         (repeat' first|simp only [il86l0_go,il86l0b,go_sem,hs,e1,e2,w0,d1,d2,sn,kp,v1,v2,v3,hsh,shG_t,q03,q01]|with_reducible refine wX fun _=>?_|((with_reducible refine wY ?_ ?_); rfl)|fail)
         all_goals (refine ih a mid (lim) (decide ((((b - a) / 8:Nat):Int)≤((b - mid:Nat):Int))) ap L m' k (by omega) (by omega) q1 (by omega) (by omega) (hPL.1.trans hD4) hoL hm' u1 (by omega) R _ ?_ (fun e d' m' K r1 r2 r3 r4=>hR e d' m' K r1 r2 (Sort.permIn_trans _ _ _ _ _ hP (u2 d' r3 r4).1) (u2 d' r3 r4).2); simp only [go_sem,hs,e1,e2,w0,d1,d2,sn,kp,shG_t,q03]; try rfl)
theorem qi0 (n nn:Nat) (hn:n≤4000000000000000000) (hnn:n < nn) (hnn5:5 < nn):∀ N D,N+5≤D→PdqIH c1 c2 t nn D n N:=by
 intro N
 induction N with
 | zero=>intro D _ a b lim J d m Q hN; omega
 | succ N ih =>
  intro D hND
  obtain ⟨x,rfl⟩:∃ x,D=x+4+1:=⟨D - 5,by omega⟩
  have hIH:=ih (x+4) (by omega)
  intro a b lim J d m Q hN hab hb hlim hd ho hm hB hQ
  with_reducible refine q0e il86_eq ?_ ?_
  ·exact Nat.le_of_ble_eq_true rfl
  (repeat' first|simp only [il86c,go_sem,q01]|with_reducible refine wX fun _=>?_|((with_reducible refine wY ?_ ?_); rfl)|fail)
  refine qhZ c1 c2 t h n N x nn J hn hnn hnn5 hIH (b - a) a b lim true true d m nn (Nat.le_refl _) (by omega) hab hb hlim hd ho hm hB (by omega) _ _ (by simp only [go_sem]) ?_
  intro e d' m' K hm' ho' hp hs
  (repeat' first|simp only [il86c,go_sem,q01]|with_reducible refine wX fun _=>?_|((with_reducible refine wY ?_ ?_); rfl)|fail)
  all_goals exact hQ d' m' K hm' ho' hp hs
end
end Go.Proofs.Ytnjaokhdeaeegaa
namespace Go.Proofs.Ytnjaokhdeaeegaa
open Go Go.Abs
end Go.Proofs.Ytnjaokhdeaeegaa
namespace Go.Proofs.Ytnjaokhdeaeegaa
open Go Go.Abs
end Go.Proofs.Ytnjaokhdeaeegaa
namespace Go.Proofs.Ytnjaokhdeaeegaa
open Go Go.Abs
section
variable {t:Tpo} (h:okT t=true) {a b:Nat} {r s:List Nat} {x y:Nat}
include h
end
end Go.Proofs.Ytnjaokhdeaeegaa
namespace Go.Proofs.Ytnjaokhdeaeegaa
open Go Go.Abs
def rtQ (t:Tpo) (a b:Nat) (r:List Nat):Prop:=r≠[]∧ptP t r∧frN t (r[0]?.getD 0)=a∧(a::r.map (toN t)).Nodup∧atE (grT t) a r=b
theorem wk_fr {G:Gr} {A:Av} {n:Nat} {r:List Nat} (w:Wk G A n r):G.fr (r[0]?.getD 0)=A.from_∧(∀ p∈r,p < G.P∧G.to p≠A.from_):=by
 induction w with
 | one g1 g2=>exact ⟨g2,fun p hp=>by rw [List.mem_singleton.1 hp]; exact ⟨g1.1,g1.2.2⟩⟩
 | snoc g0 g1 g2 g3 ih =>
  obtain ⟨i1,i2⟩:=ih
  refine ⟨?_,fun p hp=>?_⟩
  ·rw [List.getElem?_append_left (List.length_pos_iff.2 g0.nil)]; exact i1
  ·rcases List.mem_append.1 hp with hp|hp
   ·exact i2 p hp
   ·rw [List.mem_singleton.1 hp]; exact ⟨g3.1,g3.2.2⟩
theorem q23 {t:Tpo} (h:okT t=true) {a b:Nat} {r:List Nat} (hr:r∈routesL (grT t) (stA t) a b):rtQ t a b r∧r.length≤8:=by
 obtain ⟨w,n,l⟩:=(q1j (G:=grT t) (sta:=stA t) (frm:=a) (tgt:=b) (gr_x h)).1 hr
 obtain ⟨w1,w2⟩:=wk_fr w
 refine ⟨⟨w.nil,fun p hp=>(w2 p hp).1,w1,?_,q3q w⟩,l⟩
 rw [List.nodup_cons]
 refine ⟨fun k=>?_,n⟩
 obtain ⟨q,q1,q2⟩:=List.mem_map.1 k
 exact (w2 q q1).2 q2
end Go.Proofs.Ytnjaokhdeaeegaa
namespace Go.Proofs.Ytnjaokhdeaeegaa
open Go Go.Abs
section
variable (c1 c2:Bool) (t:Tpo) (h:okT t=true) (frm tgt:Nat)
theorem qi1:∀ (k:Nat) (r:List Nat),r≠[]→extL t frm tgt k r=grownL (grT t) (stA t) frm tgt k r:=by
 intro k
 induction k with
 | zero=>intro r hne; rfl
 | succ k ih =>
  intro r hne
  rw [extL,grownL]
  congr 1
  by_cases hs:stA t (atE (grT t) frm r)=true
  ·rw [if_pos ⟨hne,hs⟩,if_pos hs]
  ·rw [if_neg (fun k=>hs k.2),if_neg hs]
   congr 1
   funext p
   show (if frN t p=atE (grT t) frm r∧toN t p ∉ frm::r.map (toN t) then _ else _)=if frN t p=atE (grT t) frm r∧toN t p ∉ frm::r.map (toN t) then _ else _
   rw [ih _ (by simp)]
theorem qi2 {α β:Type} {q:α→Bool} {g:α→List β}:∀ l:List α,(l.filter q).flatMap g=l.flatMap fun x=>if q x=true then g x else []:=by
 intro l
 induction l with
 | nil=>rfl
 | cons x l ih =>
  rw [List.flatMap_cons,List.filter_cons]
  split
  ·rw [List.flatMap_cons,ih]
  ·rw [ih]; rfl
theorem qi3 {α β:Type} {f g:α→List β}:∀ {l:List α},(∀ x∈l,f x=g x)→l.flatMap f=l.flatMap g:=by
 intro l
 induction l with
 | nil=>intro _; rfl
 | cons x l ih=>intro hx; rw [List.flatMap_cons,List.flatMap_cons,hx x (by simp),ih (fun y hy=>hx y (List.mem_cons_of_mem _ hy))]
include h
theorem q74 (hft:frm≠tgt):extL t frm tgt 8 []=routesL (grT t) (stA t) frm tgt:=by
 have e0:atE (grT t) frm []=frm:=rfl
 rw [extL,e0,if_neg hft,if_neg (fun k=>k.1 rfl),routesL,qi2]
 refine qi3 fun p hp=>?_
 have hp:p < 2*t.links.length:=List.mem_range.1 hp
 obtain ⟨p1,p2,n1,n2,n3⟩:=q0B h hp
 rw [List.nil_append,qi1 _ _ _ _ _ (by simp)]
 by_cases q1:frN t p=frm
 ·have q2:toN t p ∉ frm::List.map (toN t) []:=by simp; omega
  rw [if_pos ⟨q1,q2⟩,if_pos (decide_eq_true (show (grT t).fr p=frm from q1))]
 ·rw [if_neg (fun k=>q1 k.1),if_neg (by simp; exact q1)]
theorem qi4 (E:FEnv) (hE2:E 2=.ref 1 1 0 0) (nn dd:Nat) (hnn:100 < nn) (hdd:9≤dd) (hf0:frm < t.nodes.toNat) (hft:frm≠tgt) (Q:AV→Heap→Prop)
  (hQ:∀ m1' m4',m1'≤1→m4'≤1→Q (.t (B true)) (hE E (exF c1 c2 t frm tgt) (routesL (grT t) (stA t) frm tgt) (mkS []) m1' m4' (gO 0))) :
  oB (inl Try.prog pol (ans Try.prog pol) nn (dd+1) (.fn 75) (.t (.sc (.slice none 0 0))::.t (I (frm:Nat))::exC c1 c2 t frm tgt) (hE E (exF c1 c2 t frm tgt) [] (mkS []) 0 0 (gO 0))) Q:=by
 obtain ⟨z1,z2,z3⟩:=q0k h
 rw [← q74 t h frm tgt hft] at hQ
 have hlen:=q3M h (stA t) frm tgt
 rw [← q74 t h frm tgt hft] at hlen
 have e0:atE (grT t) frm []=frm:=rfl
 rw [extL,e0,if_neg hft,if_neg (fun k=>k.1 rfl)] at hQ hlen
 obtain ⟨f,hfd⟩:∃ f:Nat→List (List Nat),f=fun p=>if frN t p=frm∧toN t p ∉ frm::([]:List Nat).map (toN t) then extL t frm tgt 7 ([]++[p]) else []:=⟨_,rfl⟩
 rw [← hfd] at hQ hlen
 have fz:∀ e,freezeF [] e (hE E (exF c1 c2 t frm tgt) [] (mkS []) 0 0 (gO 0))=some (frzF (hE E (exF c1 c2 t frm tgt) [] (mkS []) 0 0 (gO 0)) (fun o=>([]:List Nat).contains o) e,hE E (exF c1 c2 t frm tgt) [] (mkS []) 0 0 (gO 0)):=by
  intro e
  rw [q3A,q6N (L:=gO 0) (L':=gO 0) hE2 (q22 c1 c2 t frm tgt) (hE E (exF c1 c2 t frm tgt) [] (mkS []) 0 0 (gO 0)) (fun o=>([]:List Nat).contains o) (fun i hi=>rfl) rfl,q3z]
 have n12:frm < 12:=by omega
 have d1:decide (((frm:Nat):Int)=((tgt:Nat):Int))=false:=decide_eq_false (by omega)
 have d9:decide (((frm:Nat):Int)=((frm:Nat):Int))=true:=decide_eq_true rfl
 have gS:=q21 [] n12
 have gS2:=q21 ([]++[frm]) n12
 have tk:=fun V:List Nat=>@tkdr (((mkS V).map B).map AV.t) frm (.t (B true)) (by simp [q16]; omega)
 have tk2:=fun V:List Nat=>@tkdr (((mkS V).map B).map AV.t) frm (.t (B false)) (by simp [q16]; omega)
 have hset:=fun V:List Nat=>map_set (enc:=B) (l:=mkS V) (i:=frm) (x:=true)
 have hset2:=fun V:List Nat=>map_set (enc:=B) (l:=mkS V) (i:=frm) (x:=false)
 have hmt:(mkS []).set frm true=mkS [frm]:=@q6K [] frm
 have hmf:(mkS [frm]).set frm false=mkS []:=@q6L [] frm (by simp)
 have hmS:=fun V:List Nat=>q16 V
 have b12:frm+1≤12:=by omega
 have hsr:=q0z (c1:=c1) (c2:=c2) (t:=t) (F:=endsL t (frP t)) (G:=endsL t (toP t))
 have hl:=q0C (c1:=c1) (c2:=c2) (t:=t) (q09 t (frP t)) (q09 t (toP t))
 have htk:List.take 99 (srS c1 c2 t)=srS c1 c2 t:=List.take_of_length_le (by rw [hl]; exact Nat.le_refl _)
 have kP:=q1E c1 c2 t (endsL t (frP t)) (endsL t (toP t)) h
 with_reducible refine q0e il75_eq ?_ ?_
 ·exact Nat.le_of_ble_eq_true rfl
 simp only [exC]
 (repeat' first|simp only [il75c,go_sem,hE_3,hE_4,hE_5,q0G,fz,q0v,d1,d9,q0a,srC_1,List.drop_drop,gS,tk,hset,hmt,hmS,b12,n12,q2B,hsr,hl,htk,kP,Nat.mul_one,List.length_map]|with_reducible refine wX fun _=>?_|((with_reducible refine wY ?_ ?_); rfl)|fail)
 refine q6R c1 c2 t h frm tgt E hE2 nn 7 hnn (qhz c1 c2 t h frm tgt E hE2 nn hnn hf0 7) [] rfl (fun p hp=>by cases hp) (by simp) hf0 (.sc (.slice none 0 0)) (.inr ⟨rfl,rfl⟩) frm rfl [frm] rfl f hfd 0 dd (by omega) [] (by simp only [List.length_nil]; omega) 0 1 (Nat.zero_le _) (Nat.le_refl 1) _ _ (by simp only [go_sem]) ?_
 intro e1 m1' m4' hm1' hm4' he1
 rw [List.nil_append]
 (repeat' first|simp only [il75c,go_sem,he1,hE_4,q0G,q0v,gS2,tk2,hset2,hmf,hmS,b12,n12,hm4',q2B,Nat.mul_one,List.length_map]|with_reducible refine wX fun _=>?_|((with_reducible refine wY ?_ ?_); rfl)|fail)
 all_goals exact hQ m1' 1 hm1' (Nat.le_refl 1)
end
end Go.Proofs.Ytnjaokhdeaeegaa
namespace Go.Proofs.Ytnjaokhdeaeegaa
open Go Go.Abs
theorem q1G {g:Fn} {a b:List AV}:(AV.fn g a b).cells=[.fn g a b]:=(fun x=>x) rfl
theorem q1H {g:Fn} {a b:List AV}:storable (.fn g a b)=true:=(fun x=>x) rfl
section
variable (c1 c2:Bool) (t:Tpo) (h:okT t=true)
include h
theorem qi5 (n nn D:Nat) (hn:n≤4000000000000000000) (hnn:n < nn) (hnn5:5 < nn) (hD:n+6≤D) (J:List (Value × Nat)) (d:Rts) (m:Nat) (hd:d.size=n) (ho:okD t d) (hm:m≤n) (Q:AV→Heap→Prop)
  (hQ:∀ d' m' K,m'≤n→Sort.PermIn 0 n d d'→Sort.SortedIn (ltR t) 0 n d'→Q (.t (.tup [])) (hS d' m' (J++K))) :
  oB (inl Try.prog pol (ans Try.prog pol) nn (D+1) (.fn 73) [.ms 0 n 0 n 1 false,.t (cmF c1 c2 t)] (hS d m J)) Q:=by
 have kl:=q72 n (by omega)
 have wu:IntKind.u64.wrap ((n:Nat):Int)=((n:Nat):Int):=wrap_u64 (by omega) (by omega)
 have hb:Sort.bitsLen n≤1000:=Nat.le_trans ((Sort.bitsLen_le_iff n 64).2 (by omega)) (by omega)
 generalize Sort.bitsLen n=lim at *
 have kp:=qi0 c1 c2 t h n nn hn hnn hnn5 (n+1) D (by omega)
 unfold PdqIH at kp
 have e0:((0:Nat):Int)=0:=rfl
 have kp0:=fun b=>@kp 0 b
 rw [e0] at kp0
 with_reducible refine q0e il73_eq ?_ ?_
 ·exact Nat.le_of_ble_eq_true rfl
 (repeat' first|simp only [il73c,go_sem,kl,wu,q01]|with_reducible refine wX fun _=>?_|((with_reducible refine wY ?_ ?_); rfl)|fail)
 have hbl:Sort.Below (ltR t) 0 n d:=Or.inl rfl
 with_reducible refine @kp0 n lim J d m _ ?_ (Nat.zero_le _) (Nat.le_refl _) hb hd ho hm hbl ?_
 ·omega
 intro d' m' K hm' ho' hp hs
 (repeat' first|simp only [il73c,go_sem,q01]|with_reducible refine wX fun _=>?_|((with_reducible refine wY ?_ ?_); rfl)|fail)
 all_goals exact hQ d' m' K hm' hp hs
omit h in
theorem qi6 (frm tgt:Nat):ans Try.prog pol 41 [srT c1 c2 t,I (frm:Nat),I (tgt:Nat)]=some (.fn (.func 74) [] [.ip [I (tgt:Nat)],.ip [I (frm:Nat)],.ip (srS c1 c2 t)]):=by
 have hsr:=q0z (c1:=c1) (c2:=c2) (t:=t) (F:=endsL t (frP t)) (G:=endsL t (toP t))
 refine q02 1 1 il41_eq (Nat.le_of_ble_eq_true rfl) ?_
 (repeat' first|simp only [il41c,go_sem,hsr]|with_reducible refine wX fun _=>?_|((with_reducible refine wY ?_ ?_); rfl)|fail)
def srtL (t:Tpo) (l:List (List Nat)):List (List Nat):=l.mergeSort (fun x y=>!befB (grT t) y x)
theorem qi7 (frm tgt:Nat) (hf0:frm < t.nodes.toNat) (hft:frm≠tgt):ans Try.prog pol 40 [.fn (.func 74) [] [.ip [I (tgt:Nat)],.ip [I (frm:Nat)],.ip (srS c1 c2 t)],cmF c1 c2 t]=some (.sl false 1 ((srtL t (routesL (grT t) (stA t) frm tgt)).map rgT)):=by
 have hfew:=q3M h (stA t) frm tgt
 have h24:(24:Nat) ^ 8=110075314176:=by decide
 have hrt:∀ r∈routesL (grT t) (stA t) frm tgt,ptP t r∧r.length≤8:=fun r hr=>⟨(q23 h hr).1.2.1,(q23 h hr).2⟩
 obtain ⟨nn,hnn⟩:∃ nn,110075314300 < nn:=⟨110075314301,by omega⟩
 obtain ⟨D,hD⟩:∃ D,110075314300 < D:=⟨110075314301,by omega⟩
 refine q02 nn (D+4) il40_eq (Nat.le_of_ble_eq_true rfl) ?_
 generalize hrf:rfOf Try.prog 85 0=rf
 (repeat' first|simp only [il40c,il72c,go_sem,hrf]|with_reducible refine wX fun _=>?_|((with_reducible refine wY ?_ ?_); rfl)|((with_reducible refine q0e il72_eq ?_ ?_); exact Nat.le_of_ble_eq_true rfl; simp only [il72c])|fail)
 with_reducible refine q0e il85_eq ?_ ?_
 ·exact Nat.le_of_ble_eq_true rfl
 simp only [il85c,hrf]
 (repeat' first|simp only [List.cons_append,List.nil_append,go_sem]|with_reducible refine wX fun _=>?_|((with_reducible refine wY ?_ ?_); rfl)|fail)
 subst hrf
 with_reducible refine q0e il74_eq ?_ ?_
 ·exact Nat.le_of_ble_eq_true rfl
 (repeat' first|simp only [il74c,go_sem,List.cons_append,List.nil_append,q1G,q1H]|with_reducible refine wX fun _=>?_|((with_reducible refine wY ?_ ?_); rfl)|fail)
 have key:∀ E:FEnv,([.row 1 [] 0,.row 1 [.ms 0 0 0 0 1 false] 0,.loop 85 (lpEnv 13 (tidyF (some [2]) E)) [7] (rfOf Try.prog 85 0).1 (rfOf Try.prog 85 0).2 false none,.row 1 [.yl 2] 0,.row 12 [.t (.agg zB12)] 0,.row 1 [exF c1 c2 t frm tgt] 1]:Heap)=hE E (exF c1 c2 t frm tgt) [] (mkS []) 0 0 (gO 0):=fun E=>rfl
 rw [key]
 with_reducible refine @qi4 c1 c2 t h frm tgt _ ?_ nn D ?_ ?_ hf0 hft _ ?_
 ·simp only [go_sem]
 ·omega
 ·omega
 intro m1 m4 hm1 hm4
 generalize routesL (grT t) (stA t) frm tgt=l at *
 have hl:(⟨l⟩:Rts).size=l.length:=rfl
 have f01:decide (2≤0)=false:=rfl
 simp only [hE,lpR,gO,List.replicate_zero,List.append_nil]
 (repeat' first|simp only [List.cons_append,List.nil_append,go_sem,q1G,q1H,fzG,hm1]|with_reducible refine wX fun _=>?_|((with_reducible refine wY ?_ ?_); rfl)|fail)
 have key2:([rowG 1 rgT l,.row 1 [.ms 0 l.length 0 l.length 1 false] m1]:Heap)=hS ⟨l⟩ 0 [(.slice none l.length 1,m1)]:=rfl
 rw [key2]
 have hok:okD t (⟨l⟩:Rts):=fun i hi=>by
  have hi:i < l.length:=hi
  have e:(⟨l⟩:Rts)[i]! = l[i]:=by simp [hi]
  rw [e]
  obtain ⟨q1,q2⟩:=hrt l[i] (List.getElem_mem hi)
  exact ⟨q1,by omega⟩
 with_reducible refine @qi5 c1 c2 t h l.length nn (D+3) ?_ ?_ ?_ ?_ [(.slice none l.length 1,m1)] ⟨l⟩ 0 rfl hok (Nat.zero_le _) _ ?_
 ·omega
 ·omega
 ·omega
 ·omega
 intro d' m' K hm' hp hs
 have hu:=Sort.sorted_unique_holds (lt:=ltR t) (q6t t) (fun x y h1 h2=>q1S h1 h2) ⟨l⟩ d' hp hs
 have hsz:d'.size=l.length:=hp.1
 have hu:d'.toList=srtL t l:=hu
 rw [← hu]
 (repeat' first|simp only [il40c,go_sem,q01]|with_reducible refine wX fun _=>?_|((with_reducible refine wY ?_ ?_); rfl)|fail)
 all_goals exact q2D d' m' _ _ hsz hm' 18
end
end Go.Proofs.Ytnjaokhdeaeegaa
namespace Go.Proofs.Ytnjaokhdeaeegaa
open Go Go.Abs
theorem qi8 (L:List (List Nat)):ans Try.prog pol 44 [.sl false 1 (L.map rgT)]=some (.fn (.func 77) [] [.ip [.sl false 1 (L.map rgT)]]):=by
 refine q02 1 1 il44_eq (Nat.le_of_ble_eq_true rfl) ?_
 (repeat' first|simp only [il44c,go_sem]|with_reducible refine wX fun _=>?_|((with_reducible refine wY ?_ ?_); rfl)|fail)
section
variable (hp:Option (List Nat)→Heap) (N:Nat) (hN:∀ s,(hp s).length=N) (dd nn o:Nat)
 (hfz:∀ (s:Option (List Nat)) (h:Heap) (q:Nat),N≤q→mapO (frzObj h (fromB q)) (hp s)=some (hp s)) (hoN:o < N) (q:List Nat→Bool) (L:List (List Nat))
include hN hfz hoN
theorem qi9 (hy1:∀ (r:List Nat) (Q:AV→Heap→Prop),r∈L→q r=false→(∀ X',Q (.t (B true)) (hp none++X'))→oB (inl Try.prog pol (ans Try.prog pol) nn dd (.yl o) [.t (rgT r)] (hp none)) Q)
  (hy2:∀ (r:List Nat) (Q:AV→Heap→Prop),r∈L→q r=true→(∀ X',Q (.t (B false)) (hp (some r)++X'))→oB (inl Try.prog pol (ans Try.prog pol) nn dd (.yl o) [.t (rgT r)] (hp none)) Q)
  (Q:AV→Heap→Prop) (hn:L.length < nn) (hn2:L.length≤1000000000000) (hQ:∀ v X',Q v (hp (L.find? q)++X')) :
  oB (inl Try.prog pol (ans Try.prog pol) nn (dd+1) (.fn 77) [.yl o,.t (.ip [.sl false 1 (L.map rgT)])] (hp none)) Q:=by
 with_reducible refine q0e il77_eq ?_ ?_
 ·exact Nat.le_of_ble_eq_true rfl
 have g5:∀ (s:Option (List Nat)) (Y:Heap),(hp s++Y).take N=hp s:=fun s Y=>by rw [List.take_append,hN,List.take_of_length_le (by rw [hN]; omega)]; simp
 have g6:∀ (s:Option (List Nat)) (hx:Heap),mapO (frzObj hx (fromB N)) (hp s)=some (hp s):=fun s hx=>hfz s hx N (Nat.le_refl _)
 have hlen:∀ (s:Option (List Nat)) (Y:Heap),(hp s++Y).length=N+Y.length:=fun s Y=>by simp [hN]
 have f2:decide (N≤o)=false:=decide_eq_false (by omega)
 have l1:(L.map rgT).length=L.length:=List.length_map _
 (repeat' first|simp only [il77c,go_sem,hN]|with_reducible refine wX fun _=>?_|((with_reducible refine wY ?_ ?_); rfl)|fail)
 refine q0r L rgT (step:=fun _ r (_:Unit)=>if q r=true then Ctl.out (some r) else Ctl.go ()) (fin:=fun _=>none)
  (St:=fun i _ e h=>(e 0=.yl o∧e 5=.t (.sl false 1 (L.map rgT))∧e 6=.t (I (L.length:Nat))∧e 7=.t (I (i:Nat)))∧h=hp none)
  (Ex:=fun s x e h=>(x=.exit 0∧s=none∧h=hp none)∨(x=.ret∧∃ X',h=hp s++X')) (s:=()) (by omega) ?_ ?_ (by omega) ?_ ?_
 ·intro i r _ e h Y R hm hi hx hget hlt hw ⟨hs,hh⟩ hk
  subst hh
  cases hq:q r with
  | false =>
   rw [hq,if_neg (by simp),q08] at hk
   (repeat' first|simp only [il77l0_go,il77l0b,go_sem,hs,hlt,hN,hlen,hget,l1,hi]|with_reducible refine wX fun _=>?_|((with_reducible refine wY ?_ ?_); rfl)|fail)
   with_reducible refine @hy1 r _ hm hq ?_
   intro X'
   cases X' with
   | nil =>
    rw [List.append_nil]
    (repeat' first|simp only [il77l0_go,il77l0b,go_sem,hs,hw,hN,f2,q0Y]|with_reducible refine wX fun _=>?_|((with_reducible refine wY ?_ ?_); rfl)|fail)
    all_goals (refine hk _ _ ⟨?_,rfl⟩; simp only [go_sem,hs,hw])
   | cons x Y =>
    have f4:N < N+(Y.length+1):=by omega
    (repeat' first|simp only [il77l0_go,il77l0b,go_sem,hs,hw,hN,hlen,f4,g5,g6,f2,q0Y]|with_reducible refine wX fun _=>?_|((with_reducible refine wY ?_ ?_); rfl)|fail)
    all_goals (refine hk _ _ ⟨?_,rfl⟩; simp only [go_sem,hs,hw,f2,q0Y])
  | true =>
   rw [hq,if_pos rfl,q0g] at hk
   (repeat' first|simp only [il77l0_go,il77l0b,go_sem,hs,hlt,hN,hlen,hget,l1,hi]|with_reducible refine wX fun _=>?_|((with_reducible refine wY ?_ ?_); rfl)|fail)
   with_reducible refine @hy2 r _ hm hq ?_
   intro X'
   (repeat' first|simp only [il77l0_go,il77l0b,go_sem,hs,hw,hN,hlen,g5,g6,f2,q0Y]|with_reducible refine wX fun _=>?_|((with_reducible refine wY ?_ ?_); rfl)|fail)
   all_goals exact hk _ _ _ (.inr ⟨rfl,X',rfl⟩)
 ·intro _ e h Y R hlt ⟨hs,hh⟩ hk
  subst hh
  (repeat' first|simp only [il77l0_go,il77l0b,go_sem,hs,hlt]|with_reducible refine wX fun _=>?_|((with_reducible refine wY ?_ ?_); rfl)|fail)
  all_goals exact hk _ _ _ (.inl ⟨rfl,rfl,rfl⟩)
 ·refine ⟨?_,rfl⟩
  simp only [go_sem,l1]
 ·intro x e h hx
  have hf:∀ (l:List (List Nat)) (i:Nat),foldC (fun _ r (_:Unit)=>if q r=true then Ctl.out (some r) else Ctl.go ()) (fun _=>none) i l ()=l.find? q:=by
   intro l
   induction l with
   | nil=>intro i; rfl
   | cons r l ih =>
    intro i
    rw [List.find?_cons]
    cases hq:q r with
    | true=>rw [q0y (r:=some r) (by rw [hq,if_pos rfl])]
    | false=>rw [q0m (s':=()) (by rw [hq,if_neg (by simp)]),ih]
  rw [hf] at hx
  rcases hx with ⟨rfl,h1,rfl⟩|⟨rfl,X',rfl⟩
  ·have:=hQ (.t (.tup [])) []
   rw [h1,List.append_nil] at this
   (repeat' first|simp only [il77c,go_sem]|with_reducible refine wX fun _=>?_|((with_reducible refine wY ?_ ?_); rfl)|fail)
   all_goals exact this
  ·have:=hQ (.t (.tup [])) X'
   (repeat' first|simp only [il77c,go_sem]|with_reducible refine wX fun _=>?_|((with_reducible refine wY ?_ ?_); rfl)|fail)
   all_goals exact this
end
def rgO (s:Option (List Nat)):T:=match s with|none=>.sc (.slice none 0 0)|some r=>rgT r
noncomputable def lpFr (rf:Code × Code) (E:FEnv) (s:Option (List Nat)):AObj:=.loop 43 (lpEnv 15 (tidyF (some [3,4,5]) E)) [9] rf.1 rf.2 false (if s.isSome=true then some .ret else none)
noncomputable def hpFr (rf:Code × Code) (E:FEnv) (s:Option (List Nat)):Heap :=
 [.row 1 [.t (rgO s)] (if s.isSome=true then 1 else 0),.row 1 [.t (B s.isSome)] (if s.isSome=true then 1 else 0),lpFr rf E s]
def frE (hf:T) (E:FEnv):Prop:=E 3=.t (.ip [hf])∧E 4=.ref 0 1 0 0∧E 5=.ref 1 1 0 0
theorem qia (rf:Code × Code) (hf:T) (E:FEnv) (hE:frE hf E) (s:Option (List Nat)) (h:Heap) (q:Nat) (hq:3≤q):frzObj h (fromB q) (lpFr rf E s)=some (lpFr rf E s):=by
 obtain ⟨h3,h4,h5⟩:=hE
 have f0:decide (q≤0)=false:=decide_eq_false (by omega)
 have f1:decide (q≤1)=false:=decide_eq_false (by omega)
 rw [lpFr,q2x]
 simp only [go_sem,h3,h4,h5,f0,f1]
theorem qib (rf:Code × Code) (hf:T) (E:FEnv) (hE:frE hf E) (s:Option (List Nat)) (h:Heap) (q:Nat) (hq:3≤q):mapO (frzObj h (fromB q)) (hpFr rf E s)=some (hpFr rf E s):=by
 have a2:∀ x:T,avoidAll (fromB q) [.t x]=true:=fun x=>by simp [avoidAll,avoid]
 simp only [hpFr,mapO,qia rf hf E hE s h q hq,q6o (a2 _)]
theorem q75 (rf:Code × Code) (hrf:rfOf Try.prog 43 0=rf) (caps:List T) (E:FEnv) (hE:frE (.fn (.func 45) [] caps) E) (r:List Nat) (b:Bool) (kq:ans Try.prog pol 45 (rgT r::caps)=some (B b)) (dd nn:Nat) (Q:AV→Heap→Prop)
  (hQ:∀ X',Q (.t (B (!b))) (hpFr rf E (if b=true then some r else none)++X')) :
  oB (inl Try.prog pol (ans Try.prog pol) nn (dd+1) (.yl 2) [.t (rgT r)] (hpFr rf E none)) Q:=by
 subst hrf
 obtain ⟨h3,h4,h5⟩:=hE
 have hq:=hQ
 simp only [hpFr,lpFr,rgO,List.cons_append,List.nil_append,Option.isSome_none,Bool.false_eq_true,if_false] at hq ⊢
 cases b with
 | false =>
  simp only [Bool.false_eq_true,if_false,Bool.not_false,Option.isSome_none] at hq
  with_reducible refine oB_yl (E:=tidyF (some [3,4,5]) E) rfl rfl rfl il43r0a_eq il43r0b_eq ?_
  (repeat' first|simp only [il43r0a,il43r0b,go_sem,h3,h4,h5,kq]|with_reducible refine wX fun _=>?_|((with_reducible refine wY ?_ ?_); rfl)|fail)
  all_goals exact hq []
 | true =>
  simp only [if_true,Bool.not_true,Option.isSome_some] at hq
  with_reducible refine oB_yl (E:=tidyF (some [3,4,5]) E) rfl rfl rfl il43r0a_eq il43r0b_eq ?_
  (repeat' first|simp only [il43r0a,il43r0b,go_sem,h3,h4,h5,kq]|with_reducible refine wX fun _=>?_|((with_reducible refine wY ?_ ?_); rfl)|fail)
  all_goals exact hq []
theorem qic (caps:List T) (L:List (List Nat)) (hn2:L.length≤1000000000000) (q:List Nat→Bool) (kq:∀ r∈L,ans Try.prog pol 45 (rgT r::caps)=some (B (q r))) :
  ans Try.prog pol 43 [.fn (.func 77) [] [.ip [.sl false 1 (L.map rgT)]],.fn (.func 45) [] caps]=some (.tup [rgO (L.find? q),B (L.find? q).isSome]):=by
 obtain ⟨nn,hnn⟩:∃ nn,L.length+10 < nn:=⟨L.length+11,by omega⟩
 refine q02 nn 5 il43_eq (Nat.le_of_ble_eq_true rfl) ?_
 generalize hrf:rfOf Try.prog 43 0=rf
 simp only [il43c,hrf]
 have hfc:(T.fn (Fn.func 45) [] caps).cells=[T.fn (Fn.func 45) [] caps]:=rfl
 (repeat' first|simp only [List.cons_append,List.nil_append,go_sem,hfc]|with_reducible refine wX fun _=>?_|((with_reducible refine wY ?_ ?_); rfl)|fail)
 have key:∀ E:FEnv,([.row 1 [.t (.sc (.slice none 0 0))] 0,.row 1 [.t (B false)] 0,.loop 43 (lpEnv 15 (tidyF (some [3,4,5]) E)) [9] rf.1 rf.2 false none]:Heap)=hpFr rf E none:=fun E=>rfl
 rw [key]
 have h23:2 < 3:=by omega
 have hn1:L.length < nn:=by omega
 with_reducible refine @qi9 (hpFr rf _) 3 (fun s=>rfl) 4 nn 2 ?_ h23 q L ?_ ?_ _ hn1 hn2 ?_
 ·intro s h q' hq'
  exact qib rf (.fn (.func 45) [] caps) _ (by simp only [frE,go_sem]) s h q' hq'
 ·intro r Q hm hqr hQ
  have k:=kq r hm
  rw [hqr] at k
  have hy:=fun E hE=>@q75 rf hrf caps E hE r false k 3 nn Q
  simp only [Bool.not_false,Bool.false_eq_true,if_false] at hy
  with_reducible exact hy _ (by simp only [frE,go_sem]) hQ
 ·intro r Q hm hqr hQ
  have k:=kq r hm
  rw [hqr] at k
  have hy:=fun E hE=>@q75 rf hrf caps E hE r true k 3 nn Q
  simp only [Bool.not_true,if_true] at hy
  with_reducible exact hy _ (by simp only [frE,go_sem]) hQ
 ·intro v X'
  have f4:2 < X'.length+1+1+1:=by omega
  cases hs:L.find? q with
  | none =>
   simp only [hpFr,lpFr,rgO,Option.isSome_none,Bool.false_eq_true,if_false,List.cons_append,List.nil_append]
   (repeat' first|simp only [List.cons_append,List.nil_append,go_sem,f4]|with_reducible refine wX fun _=>?_|((with_reducible refine wY ?_ ?_); rfl)|fail)
  | some r =>
   simp only [hpFr,lpFr,rgO,Option.isSome_some,if_true,List.cons_append,List.nil_append]
   (repeat' first|simp only [List.cons_append,List.nil_append,go_sem,f4]|with_reducible refine wX fun _=>?_|((with_reducible refine wY ?_ ?_); rfl)|fail)
end Go.Proofs.Ytnjaokhdeaeegaa
namespace Go.Proofs.Ytnjaokhdeaeegaa
open Go Go.Abs
abbrev nilT:T:=.sc (.slice none 0 0)
theorem qid (c1 c2:Bool) (t:Tpo) (h:okT t=true) (a b:List Nat) (ha:ptP t a) (hb:ptP t b) (hla:a.length≤1000) (hlb:b.length≤1000):ans Try.prog pol 45 [rgT b,.ip (srS c1 c2 t),.ip [rgT a]]=some (B (apB (grT t) a b)):=by
 have k1:=qhp c1 c2 false false t h a b ha hb hla hlb
 have hl:=q0C (c1:=c1) (c2:=c2) (t:=t) (q09 t (frP t)) (q09 t (toP t))
 have htk:List.take 99 (srS c1 c2 t)=srS c1 c2 t:=List.take_of_length_le (by rw [hl]; exact Nat.le_refl _)
 refine q02 1 1 il45_eq (Nat.le_of_ble_eq_true rfl) ?_
 (repeat' first|simp only [il45c,go_sem,k1,hl,htk]|with_reducible refine wX fun _=>?_|((with_reducible refine wY ?_ ?_); rfl)|fail)
def pairA (s:List Nat × List Nat):T:=if s.1=[] then .tup [nilT,nilT,I 4] else .tup [rgT s.1,rgT s.2,I 0]
theorem q3V (t:Tpo) (l:List (List Nat)):(srtL t l).Perm l:=List.mergeSort_perm _ _
theorem qie (t:Tpo) (l:List (List Nat)):(srtL t l).Pairwise (fun a b=>befB (grT t) b a=false):=by
 have:=List.pairwise_mergeSort (le:=fun x y=>!befB (grT t) y x) (fun a b c h1 h2=>by
  simp only [Bool.not_eq_true'] at h1 h2 ⊢
  exact q2q h1 h2) (fun a b=>by
  cases h1:befB (grT t) b a with
  | false=>rfl
  | true =>
   cases h2:befB (grT t) a b with
   | false=>rfl
   | true=>have:=q1C h1 h2; rw [q13] at this; cases this) l
 refine List.Pairwise.imp (fun h=>?_) this
 simpa using h
section
variable (G:Gr) (S:List (List Nat))
def paC (_:Nat) (a:List Nat) (_:Unit):Ctl Unit (Option (List Nat × List Nat)):=match S.find? (apB G a) with|some b=>.out (some (a,b))|none=>.go ()
theorem qif:∀ (l:List (List Nat)) (i:Nat),foldC (paC G S) (fun _=>none) i l ()=(l.find? (fun a=>S.any (apB G a))).map (fun a=>(a,(S.find? (apB G a)).getD [])):=by
 intro l
 induction l with
 | nil=>intro i; rfl
 | cons a l ih =>
  intro i
  rw [List.find?_cons]
  cases hf:S.find? (apB G a) with
  | none =>
   have hany:S.any (apB G a)=false:=by
    rw [List.find?_eq_none] at hf
    rw [List.any_eq_false]
    exact fun x hx=>hf x hx
   rw [q0m (s':=()) (by rw [paC,hf]),ih,hany]
  | some b =>
   have hany:S.any (apB G a)=true:=by
    rw [List.any_eq_true]
    exact ⟨b,List.mem_of_find?_eq_some hf,List.find?_some hf⟩
   rw [q0y (r:=some (a,b)) (by rw [paC,hf]),hany]
   simp [hf]
end
theorem q76 {H:Heap} {P:Nat→Bool} {g:Fn} {a b:AV} {x y:T} (h0:avoidAll P [a,b]=false) (h1:snap H P 19 a=some x) (h2:snap H P 19 b=some y):frz H P (.fn g [] [a,b])=some (.t (.fn g [] [x,y])):=by
 have e1:avoid P (.fn g [] [a,b])=false:=by simp only [avoid,h0]; rfl
 simp only [frz,frzCell,e1,Bool.false_eq_true,if_false,snap,mapO,h1,h2]
section
variable (c1 c2:Bool) (t:Tpo) (h:okT t=true)
include h
theorem q77 (a b:Nat) (he:endP t (a:Nat) (b:Nat)):ans Try.prog pol 18 [tpT c1 c2 t,I (a:Nat),I (b:Nat)]=some (pairA (pairR (grT t) (routesL (grT t) (stA t) a b))):=by
 have hab:=he
 obtain ⟨⟨a1,a2⟩,⟨b1,b2⟩,hne⟩:=hab
 have k1:=q3I c1 c2 t a b h he
 have hl:=q0C (c1:=c1) (c2:=c2) (t:=t) (q09 t (frP t)) (q09 t (toP t))
 have ht:=q1F hl
 have htk:List.take 99 (srS c1 c2 t)=srS c1 c2 t:=List.take_of_length_le (by rw [hl]; exact Nat.le_refl _)
 have hs:=q0z (c1:=c1) (c2:=c2) (t:=t) (F:=endsL t (frP t)) (G:=endsL t (toP t))
 have hdr:List.drop 99 (zS99.map AV.t)=[]:=rfl
 have kr:=qi6 c1 c2 t a b
 have ks:=qi7 c1 c2 t h a b (by omega) (by omega)
 have hrt:∀ r∈routesL (grT t) (stA t) a b,r≠[]∧ptP t r∧r.length≤8:=fun r hr=>⟨(q23 h hr).1.1,(q23 h hr).1.2.1,(q23 h hr).2⟩
 have hfew:=q3M h (stA t) a b
 have h24:(24:Nat) ^ 8=110075314176:=by decide
 have hpr:=q9I (G:=grT t) (qie t (routesL (grT t) (stA t) a b)) (fun r=>(q3V t _).mem_iff) (fun r hr=>(hrt r hr).1)
 rw [← hpr]
 have hSl:(srtL t (routesL (grT t) (stA t) a b)).length≤110075314176:=by rw [(q3V t _).length_eq]; omega
 have hSr:∀ r∈srtL t (routesL (grT t) (stA t) a b),r≠[]∧ptP t r∧r.length≤8:=fun r hr=>hrt r ((q3V t _).mem_iff.1 hr)
 generalize srtL t (routesL (grT t) (stA t) a b)=S at *
 clear hpr hfew hrt
 have l1:(S.map rgT).length=S.length:=List.length_map _
 have kv:=qi8 S
 obtain ⟨nn,hnn⟩:∃ nn,S.length+10 < nn:=⟨S.length+11,by omega⟩
 refine q02 nn 1 il18_eq (Nat.le_of_ble_eq_true rfl) ?_
 (repeat' first|simp only [il18c,go_sem,k1,q0T,q0Z,hdr,hl,ht,htk,hs,q15,kr,ks,l1]|with_reducible refine wX fun _=>?_|((with_reducible refine wY ?_ ?_); rfl)|fail)
 refine q0r S rgT (step:=paC (grT t) S) (fin:=fun _=>none)
  (St:=fun i _ e h=>(e 10=.t (.sl false 1 (S.map rgT))∧e 32=.t (.sl false 1 (S.map rgT))∧e 33=.t (I (S.length:Nat))∧e 34=.t (I (i:Nat)))∧(e 9=.ref 0 1 0 0∧h=[.row 99 [.t (.agg (srS c1 c2 t))] 1]∨e 9=.t (.ip (srS c1 c2 t))∧h=[.gone]))
  (Ex:=fun s x e h=>(x=.exit 0∧s=none)∨(x=.ret∧∃ a b,s=some (a,b)∧a≠[]∧e 6=.t (rgT a)∧e 7=.t (rgT b)∧e 8=.t (I 0))) (s:=()) (by omega) ?_ ?_ (by omega) ?_ ?_
 ·intro i r _ e h' Y R hm hi hx hget hlt hw ⟨hs',hh⟩ hk
  obtain ⟨r0,r1,r2⟩:=hSr r hm
  have kf:=qic [.ip (srS c1 c2 t),.ip [rgT r]] S (by omega) (apB (grT t) r) (fun s hs=>qid c1 c2 t h r s r1 (hSr s hs).2.1 (by omega) (by have:=(hSr s hs).2.2; omega))
  unfold paC at hk
  have tk99:List.take 99 ((srS c1 c2 t).map AV.t)=(srS c1 c2 t).map AV.t:=ht
  rcases hh with ⟨h9,hh⟩|⟨h9,hh⟩
  ·subst hh
   have zF:∀ P:Nat→Bool,P 0=true→P 1=true→frz [.row 99 [.t (.agg (srS c1 c2 t))] 1,.row 1 [.t (rgT r)] 1] P (.fn (.func 45) [] [.ref 0 1 0 0,.ref 1 1 0 0])=some (.t (.fn (.func 45) [] [.ip (srS c1 c2 t),.ip [rgT r]])):=by
    intro P h0 h1
    refine q76 (by simp [avoidAll,avoid,h0,h1]) ?_ ?_
    ·simp [snap,h0,Go.Abs.rowAt,AV.cells,q6b]
    ·simp [snap,h1,Go.Abs.rowAt,AV.cells,mapO]
   cases hf:S.find? (apB (grT t) r) with
   | none =>
    rw [hf] at hk kf
    simp only [q08] at hk
    simp only [rgO,Option.isSome_none] at kf
    (repeat' first|simp only [il18l0_go,il18l0b,go_sem,hs',h9,hlt,hw,hget,l1,hi,kv,zF,kf,q1G,q1H]|with_reducible refine wX fun _=>?_|((with_reducible refine wY ?_ ?_); rfl)|fail)
    all_goals (refine hk _ _ ⟨?_,.inr ⟨?_,rfl⟩⟩ <;> simp only [go_sem,hs',h9,hw])
   | some b =>
    rw [hf] at hk kf
    simp only [q0g] at hk
    simp only [rgO,Option.isSome_some] at kf
    (repeat' first|simp only [il18l0_go,il18l0b,go_sem,hs',h9,hlt,hw,hget,l1,hi,kv,zF,kf,q1G,q1H]|with_reducible refine wX fun _=>?_|((with_reducible refine wY ?_ ?_); rfl)|fail)
    all_goals (refine hk _ _ _ (.inr ⟨rfl,r,b,rfl,r0,?_,?_,?_⟩) <;> simp only [go_sem,hs',h9,hw])
  ·subst hh
   have zF:∀ P:Nat→Bool,P 1=true→frz [.gone,.row 1 [.t (rgT r)] 1] P (.fn (.func 45) [] [.t (.ip (srS c1 c2 t)),.ref 1 1 0 0])=some (.t (.fn (.func 45) [] [.ip (srS c1 c2 t),.ip [rgT r]])):=by
    intro P h1
    refine q76 (by simp [avoidAll,avoid,h1]) ?_ ?_
    ·rfl
    ·simp [snap,h1,Go.Abs.rowAt,AV.cells,mapO]
   cases hf:S.find? (apB (grT t) r) with
   | none =>
    rw [hf] at hk kf
    simp only [q08] at hk
    simp only [rgO,Option.isSome_none] at kf
    (repeat' first|simp only [il18l0_go,il18l0b,go_sem,hs',h9,hlt,hw,hget,l1,hi,kv,zF,kf,q1G,q1H]|with_reducible refine wX fun _=>?_|((with_reducible refine wY ?_ ?_); rfl)|fail)
    all_goals (refine hk _ _ ⟨?_,.inr ⟨?_,rfl⟩⟩ <;> simp only [go_sem,hs',h9,hw])
   | some b =>
    rw [hf] at hk kf
    simp only [q0g] at hk
    simp only [rgO,Option.isSome_some] at kf
    (repeat' first|simp only [il18l0_go,il18l0b,go_sem,hs',h9,hlt,hw,hget,l1,hi,kv,zF,kf,q1G,q1H]|with_reducible refine wX fun _=>?_|((with_reducible refine wY ?_ ?_); rfl)|fail)
    all_goals (refine hk _ _ _ (.inr ⟨rfl,r,b,rfl,r0,?_,?_,?_⟩) <;> simp only [go_sem,hs',h9,hw])
 ·intro _ e h' Y R hlt ⟨hs',hh⟩ hk
  (repeat' first|simp only [il18l0_go,il18l0b,go_sem,hs',hlt]|with_reducible refine wX fun _=>?_|((with_reducible refine wY ?_ ?_); rfl)|fail)
  all_goals exact hk _ _ _ (.inl ⟨rfl,rfl⟩)
 ·refine ⟨?_,.inl ⟨?_,rfl⟩⟩
  ·simp only [go_sem]
  ·simp only [go_sem]
 ·intro x e h' hx
  rw [qif] at hx
  unfold pairS
  rcases hx with ⟨rfl,h1⟩|⟨rfl,x,y,h1,h2,h3⟩
  ·rw [Option.map_eq_none_iff] at h1
   rw [h1]
   (repeat' first|simp only [il18c,go_sem,pairA]|with_reducible refine wX fun _=>?_|((with_reducible refine wY ?_ ?_); rfl)|fail)
  ·rw [Option.map_eq_some_iff] at h1
   obtain ⟨z,hz,hxy⟩:=h1
   rw [hz]
   simp only [Prod.mk.injEq] at hxy
   obtain ⟨rfl,rfl⟩:=hxy
   simp only [pairA,if_neg h2]
   (repeat' first|simp only [il18c,go_sem,h3]|with_reducible refine wX fun _=>?_|((with_reducible refine wY ?_ ?_); rfl)|fail)
end
end Go.Proofs.Ytnjaokhdeaeegaa
namespace Go.Proofs.Ytnjaokhdeaeegaa
open Go Go.Abs
def rN (r:List Nat):T:=if r=[] then nilT else rgT r
theorem qig:rN []=nilT:=rfl
theorem rN_ne {r:List Nat} (h:r≠[]):rN r=rgT r:=if_neg h
theorem q2E {r:List Nat} (h:r≠[]) {ox oy:Operand}:binE Try.prog false 31 ox oy (.t (.sl false 1 (ptL r))) (.t (.sc (.slice none 0 0)))=some (.t (B false)):=by
 cases r with
 | nil=>exact absurd rfl h
 | cons x r =>
  show binE Try.prog false 31 ox oy (.t (.sl false 1 (I ((x:Nat):Int)::ptL r))) (.t (.sc (.slice none 0 0)))=_
  rw [q63,eqT31]; rfl
def bC (b:Nat→List Nat):List T:=(List.range 12).map fun n=>rN (b n)
theorem q1I (b:Nat→List Nat):(bC b).length=12:=by simp [bC]
theorem q3W (b:Nat→List Nat) {n:Nat} (hn:n < 12):((bC b).map AV.t)[n]? = some (.t (rN (b n))):=by
 rw [List.getElem?_map,bC,List.getElem?_map,List.getElem?_range hn]; rfl
theorem qih (b:Nat→List Nat) {m:Nat} (r:List Nat):((bC b).map AV.t).set m (.t (rN r))=(bC (setF b m r)).map AV.t:=by
 refine List.ext_getElem (by simp [bC]) fun i h1 h2=>?_
 simp only [List.getElem_set,List.getElem_map,bC,List.getElem_range,setF]
 by_cases e:m=i
 ·rw [if_pos e,if_pos e.symm]
 ·rw [if_neg e,if_neg (fun h=>e h.symm)]
theorem qii:∀ l:List T,(∀ x∈l,storable (.t x)=true)→storableAll (l.map AV.t)=true:=by
 intro l
 induction l with
 | nil=>intro _; rfl
 | cons x l ih=>intro h; simp only [List.map_cons,storableAll,h x (by simp),ih (fun y hy=>h y (List.mem_cons_of_mem _ hy)),Bool.and_self]
theorem bC_ok (b:Nat→List Nat):storableAll ((bC b).map AV.t)=true:=by
 refine qii _ fun x hx=>?_
 obtain ⟨n,_,rfl⟩:=List.mem_map.1 hx
 unfold rN
 split <;> rfl
def bsK (k:Nat) (V:List Nat):List Bool:=(List.range k).map fun n=>decide (n∈V)
theorem q0U (k:Nat) (V:List Nat):(bsK k V).length=k:=by simp [bsK]
theorem q78 {k:Nat} (V:List Nat) {n:Nat} (hn:n < k):((bsK k V).map B)[n]? = some (B (decide (n∈V))):=by
 rw [List.getElem?_map,bsK,List.getElem?_map,List.getElem?_range hn]; rfl
theorem q79 {k:Nat} {V:List Nat} {n:Nat}:(bsK k V).set n true=bsK k (V++[n]):=by
 refine List.ext_getElem (by simp [bsK]) fun i h1 h2=>?_
 simp only [bsK,List.getElem_set,List.getElem_map,List.getElem_range]
 by_cases e:n=i
 ·subst e; simp
 ·rw [if_neg e]
  have:i≠n:=fun h=>e h.symm
  simp [this]
def avA (t:Tpo) (frm:Nat) (V W:List Nat):Av:=⟨frm,stA t,fun n=>decide (n∈V),fun l=>decide (l∈W)⟩
def dpU (t:Tpo) (A:Av) (b s:Nat→List Nat) (p:Nat):Prop:=dpC (grT t) A b p∧(s (toN t p)=[]∨befB (grT t) (b (frN t p)++[p]) (s (toN t p))=true)
instance (t:Tpo) (A:Av) (b s:Nat→List Nat) (p:Nat):Decidable (dpU t A b s p):=inferInstanceAs (Decidable (_∧_))
def dpT (t:Tpo) (A:Av) (b:Nat→List Nat) (s:(Nat→List Nat) × Bool) (p:Nat):(Nat→List Nat) × Bool:=if dpU t A b s.1 p then (setF s.1 (toN t p) (b (frN t p)++[p]),true) else s
def okRB (t:Tpo) (L:Nat) (b:Nat→List Nat):Prop:=∀ n,ptP t (b n)∧(b n).length≤L
theorem qij {t:Tpo} {L:Nat} {s:Nat→List Nat} {m:Nat} {r:List Nat} (hs:okRB t L s) (hr:ptP t r∧r.length≤L):okRB t L (setF s m r):=by
 intro n
 unfold setF
 split
 ·exact hr
 ·exact hs n
theorem dpT_1 (t:Tpo) (A:Av) (b:Nat→List Nat) (s:(Nat→List Nat) × Bool) (p:Nat):(dpT t A b s p).1=dpS (grT t) A b s.1 p:=by
 unfold dpT dpS
 by_cases h:dpU t A b s.1 p
 ·rw [if_pos h]; exact (if_pos h).symm
 ·rw [if_neg h]; exact (if_neg h).symm
section
variable (c1 c2:Bool) (t:Tpo) (h:okT t=true)
include h
theorem qik (frm:Nat) (V W:List Nat) (b:Nat→List Nat) (L:Nat) (hL:L≤100) (hb:okRB t L b) (hb0:b frm=[]) (m0:Nat) (hm0:m0≤1) (x2 x20 x21:T)
  (J:Inl) (nn:Nat) (hnn:100 < nn) (m1:Nat) (hm1:m1≤1) (R:Xit→FEnv→Heap→Prop) (e:FEnv)
  (he:e 1=.t (I (frm:Nat))∧e 2=.t x2∧e 6=.t (.ip (srS c1 c2 t))∧e 9=.t (.ip ((bsK 12 V).map B))∧e 10=.t (.ip ((bsK 24 W).map B))∧e 13=.ref 0 1 0 0∧e 14=.ref 1 1 0 0∧e 15=.t (B false)∧e 20=.t x20∧e 21=.t x21∧e 25=.t (I ((2*t.links.length:Nat):Int))∧e 26=.t (I 0))
  (hR:∀ e m1',m1'≤1→(e 1=.t (I (frm:Nat))∧e 2=.t x2∧e 6=.t (.ip (srS c1 c2 t))∧e 9=.t (.ip ((bsK 12 V).map B))∧e 10=.t (.ip ((bsK 24 W).map B))∧e 13=.ref 0 1 0 0∧e 14=.ref 1 1 0 0∧e 15=.t (B ((List.range (2*t.links.length)).foldl (dpT t (avA t frm V W) b) (b,false)).2)∧e 20=.t x20∧e 21=.t x21) →
   R (.exit 2) e [.row 12 [.t (.agg (bC b))] m0,.row 12 [.t (.agg (bC ((List.range (2*t.links.length)).foldl (dpT t (avA t frm V W) b) (b,false)).1))] m1']) :
  wpIter 2 (some [1,2,6,9,10,13,14,15,20,21,25,26]) (wc Try.prog pol (ans Try.prog pol) J nn 35 il35l0) R nn e [.row 12 [.t (.agg (bC b))] m0,.row 12 [.t (.agg (bC b))] m1]:=by
 obtain ⟨z1,z2,z3⟩:=q0k h
 refine q0D (2*t.links.length) (step:=fun p s=>.go (dpT t (avA t frm V W) b s p)) (fin:=id)
  (St:=fun p s e h=>(e 1=.t (I (frm:Nat))∧e 2=.t x2∧e 6=.t (.ip (srS c1 c2 t))∧e 9=.t (.ip ((bsK 12 V).map B))∧e 10=.t (.ip ((bsK 24 W).map B))∧e 13=.ref 0 1 0 0∧e 14=.ref 1 1 0 0∧e 15=.t (B s.2)∧e 20=.t x20∧e 21=.t x21∧e 25=.t (I ((2*t.links.length:Nat):Int))∧e 26=.t (I (p:Nat)))∧okRB t (L+1) s.1∧∃ m1,m1≤1∧h=[.row 12 [.t (.agg (bC b))] m0,.row 12 [.t (.agg (bC s.1))] m1])
  (Ex:=fun s x e h=>(e 1=.t (I (frm:Nat))∧e 2=.t x2∧e 6=.t (.ip (srS c1 c2 t))∧e 9=.t (.ip ((bsK 12 V).map B))∧e 10=.t (.ip ((bsK 24 W).map B))∧e 13=.ref 0 1 0 0∧e 14=.ref 1 1 0 0∧e 15=.t (B s.2)∧e 20=.t x20∧e 21=.t x21)∧x=.exit 2∧∃ m1,m1≤1∧h=[.row 12 [.t (.agg (bC b))] m0,.row 12 [.t (.agg (bC s.1))] m1]) (s:=(b,false)) (by omega) ?_ ?_ (by omega) ⟨he,fun n=>⟨(hb n).1,Nat.le_succ_of_le (hb n).2⟩,m1,hm1,rfl⟩ ?_
 ·intro p s e h' Y R' hp hlt hw ⟨hs,hS,m1,hm1,hh⟩ hk
  obtain ⟨s,bt⟩:=s
  dsimp only at hs hS hh
  subst hh
  simp only [q08] at hk
  obtain ⟨p1,p2,n1,n2,n3⟩:=q0B h hp
  have gF:=q2z (c1:=c1) (c2:=c2) (t:=t) (G:=endsL t (toP t)) (q0O (f:=frP t) z3 hp)
  have gT:=q1p (c1:=c1) (c2:=c2) (t:=t) (q09 t (frP t)) (q0O (f:=toP t) z3 hp)
  rw [p1] at gF
  rw [p2] at gT
  have h48:p < 48:=by omega
  have f12:frN t p < 12:=by omega
  have t12:toN t p < 12:=by omega
  have h24:p / 2 < 24:=by omega
  have gL:=q78 W h24
  have gN:=q78 V f12
  have gB:=q3W b f12
  have gS:=q3W s t12
  have lB:=q1I b
  have lS:=q1I s
  have gst:(t.station.map B)[frN t p]? = some (B (stA t (frN t p))):=q20 t h n1
  have hst:frN t p < t.station.length:=by omega
  have v:=q1W hp (show t.links.length≤1000 by omega)
  have hmN:((bsK 12 V).map B).length=12:=by rw [List.length_map,q0U]
  have hmL:((bsK 24 W).map B).length=24:=by rw [List.length_map,q0U]
  obtain ⟨bp,bl⟩:=hb (frN t p)
  obtain ⟨sp,sl⟩:=hS (toN t p)
  have hsr:=q0z (c1:=c1) (c2:=c2) (t:=t) (F:=endsL t (frP t)) (G:=endsL t (toP t))
  have hl:=q0C (c1:=c1) (c2:=c2) (t:=t) (q09 t (frP t)) (q09 t (toP t))
  have htk:List.take 99 (srS c1 c2 t)=srS c1 c2 t:=List.take_of_length_le (by rw [hl]; exact Nat.le_refl _)
  have hrp:ptP t (b (frN t p)++[p]):=fun q hq=>(List.mem_append.1 hq).elim (bp q) (fun hq=>by rw [List.mem_singleton.1 hq]; exact hp)
  have hrl:(b (frN t p)++[p]).length≤L+1:=by rw [List.length_append,List.length_cons,List.length_nil]; omega
  have kc:=q6r c1 c2 false false t h (b (frN t p)++[p]) (s (toN t p)) hrp sp (by omega) (by omega)
  have dl:=@q0d t (b (frN t p)++[p]) (s (toN t p))
  have hnx:(b (frN t p)++[p])≠[]:=by simp
  have tk:=@tkdr ((bC s).map AV.t) (toN t p) (.t (rN (b (frN t p)++[p]))) (by rw [List.length_map,lS]; exact t12)
  have hset:=qih s (m:=toN t p) (b (frN t p)++[p])
  rw [rN_ne hnx] at tk hset
  have b12:toN t p+1≤12:=t12
  have lb:=q0J (b (frN t p))
  have ls:=q0J (s (toN t p))
  have tkr:List.take (b (frN t p)).length (ptL (b (frN t p)))=ptL (b (frN t p)):=List.take_of_length_le (by omega)
  have hrow:AObj.row 1 ((ptL (b (frN t p))).map AV.t++[AV.t (I ((p:Nat):Int))]) 0=rowG 1 I ((b (frN t p)++[p]).map ofN):=by simp [rowG,ptL,ofN]
  have hroom2:((b (frN t p)).length+1)*8≤roomB:=q1m (by omega) (by omega)
  have hrm0:8≤roomB:=by rw [q1V]; omega
  have is2:rowIs 1 ((b (frN t p)).length+1) (some (rowG 1 I ((b (frN t p)++[p]).map ofN))):=by have:=q6e (k:=1) (enc:=I) (l:=(b (frN t p)++[p]).map ofN); simpa using this
  have ees:rowEs (some (rowG 1 I ((b (frN t p)++[p]).map ofN)))=(ptL (b (frN t p)++[p])).map .t:=rfl
  have zR:∀ (o1 o2:AObj) (P:Nat→Bool),P 2=true→frz [o1,o2,rowG 1 I ((b (frN t p)++[p]).map ofN)] P (.ms 2 ((b (frN t p)).length+1) 0 ((b (frN t p)).length+1) 1 false)=some (.t (rgT (b (frN t p)++[p]))):=by
   intro o1 o2 P hP
   rw [q2y (enc:=I) (l:=(b (frN t p)++[p]).map ofN) (mr:=0) hP rfl (Nat.zero_le _) (by simp)]
   rfl
  have hUd:dpU t (avA t frm V W) b s p↔((decide (p / 2∈W)=false∧toN t p≠frm)∧(frN t p=frm∨b (frN t p)≠[]∧stA t (frN t p)=false∧decide (frN t p∈V)=false))∧(s (toN t p)=[]∨befB (grT t) (b (frN t p)++[p]) (s (toN t p))=true):=Iff.rfl
  have hgo:¬ dpU t (avA t frm V W) b s p→dpT t (avA t frm V W) b (s,bt) p=(s,bt):=fun k=>if_neg k
  have hup:dpU t (avA t frm V W) b s p→dpT t (avA t frm V W) b (s,bt) p=(setF s (toN t p) (b (frN t p)++[p]),true):=fun k=>if_pos k
  have hS2:=qij (m:=toN t p) hS ⟨hrp,hrl⟩
  cases q1:decide (p / 2∈W) with
  | true =>
   rw [q1] at gL
   rw [hgo (fun k=>by rw [hUd] at k; rw [q1] at k; cases k.1.1.1)] at hk
   (repeat' first|simp only [il35l0_go,il35l0b,go_sem,hs,hlt,hw,gF,gT,h48,v,h24,gL,hmL,q0a,Nat.mul_one,List.drop_drop,List.length_map,q1]|with_reducible refine wX fun _=>?_|((with_reducible refine wY ?_ ?_); rfl)|fail)
   all_goals (refine hk _ _ ⟨?_,hS,m1,hm1,rfl⟩; simp only [go_sem,hs,hw])
  | false =>
   rw [q1] at gL
   by_cases q2:toN t p=frm
   ·have d2:decide (((toN t p:Nat):Int)=((frm:Nat):Int))=true:=decide_eq_true (by omega)
    rw [hgo (fun k=>by rw [hUd] at k; exact k.1.1.2 q2)] at hk
    (repeat' first|simp only [il35l0_go,il35l0b,go_sem,hs,hlt,hw,gF,gT,h48,v,h24,gL,hmL,q0a,Nat.mul_one,List.drop_drop,List.length_map,d2]|with_reducible refine wX fun _=>?_|((with_reducible refine wY ?_ ?_); rfl)|fail)
    all_goals (refine hk _ _ ⟨?_,hS,m1,hm1,rfl⟩; simp only [go_sem,hs,hw])
   ·have d2:decide (((toN t p:Nat):Int)=((frm:Nat):Int))=false:=decide_eq_false (by omega)
    by_cases q3:frN t p=frm
    ·have d3:decide (((frN t p:Nat):Int)=((frm:Nat):Int))=true:=decide_eq_true (by omega)
     have e0:b (frN t p)=[]:=by rw [q3]; exact hb0
     have hrow0:AObj.row 1 [AV.t (I ((p:Nat):Int))] 0=rowG 1 I ((b (frN t p)++[p]).map ofN):=by rw [e0]; rfl
     have gB:((bC b).map AV.t)[frN t p]? = some (.t nilT):=by rw [gB,e0]; rfl
     have is0:rowIs 1 1 (some (rowG 1 I ((b (frN t p)++[p]).map ofN))):=by rw [e0] at is2 ⊢; exact is2
     have zR0:∀ (o1 o2:AObj) (P:Nat→Bool),P 2=true→frz [o1,o2,rowG 1 I ((b (frN t p)++[p]).map ofN)] P (.ms 2 1 0 1 1 false)=some (.t (rgT (b (frN t p)++[p]))):=by
      intro o1 o2 P hP
      have:=zR o1 o2 P hP
      rw [show (b (frN t p)).length+1=1 by rw [e0]; rfl] at this
      exact this
     by_cases q7:s (toN t p)=[]
     ·have hs7:rN (s (toN t p))=nilT:=by rw [q7]; rfl
      rw [hs7] at gS
      rw [hup (hUd.2 ⟨⟨⟨q1,q2⟩,.inl q3⟩,.inl q7⟩)] at hk
      (repeat' first|simp only [il35l0_go,il35l0b,go_sem,hs,hlt,hw,gF,gT,h48,v,h24,gL,hmL,q0a,Nat.mul_one,List.drop_drop,List.length_map,d2,d3,f12,t12,gB,gS,lB,lS,gN,hmN,gst,hst,srC_1,hm0,hm1,hsr,hl,htk,q2C,hrm0,hrow0,is0,zR0,is2,q1k,q1l,ees,zR,nmG,hset,tk,b12]|with_reducible refine wX fun _=>?_|((with_reducible refine wY ?_ ?_); rfl)|fail)
      all_goals (refine hk _ _ ⟨?_,hS2,1,Nat.le_refl 1,rfl⟩; simp only [go_sem,hs,hw,zR])
     ·rw [rN_ne q7] at gS
      have bn7:=@q2E (s (toN t p)) q7
      cases q8:befB (grT t) (b (frN t p)++[p]) (s (toN t p)) with
      | true =>
       have dl:decide (cmpR t (b (frN t p)++[p]) (s (toN t p)) < 0)=true:=dl.trans q8
       rw [hup (hUd.2 ⟨⟨⟨q1,q2⟩,.inl q3⟩,.inr q8⟩)] at hk
       (repeat' first|simp only [il35l0_go,il35l0b,go_sem,hs,hlt,hw,gF,gT,h48,v,h24,gL,hmL,q0a,Nat.mul_one,List.drop_drop,List.length_map,d2,d3,f12,t12,gB,gS,lB,lS,gN,hmN,gst,hst,srC_1,hm0,hm1,hsr,hl,htk,q2C,hrm0,hrow0,is0,zR0,is2,q1k,q1l,ees,zR,nmG,hset,tk,b12,bn7,kc,dl,ls]|with_reducible refine wX fun _=>?_|((with_reducible refine wY ?_ ?_); rfl)|fail)
       all_goals (refine hk _ _ ⟨?_,hS2,1,Nat.le_refl 1,rfl⟩; simp only [go_sem,hs,hw,zR])
      | false =>
       have dl:decide (cmpR t (b (frN t p)++[p]) (s (toN t p)) < 0)=false:=dl.trans q8
       rw [hgo (fun k=>by rw [hUd] at k; rcases k.2 with k|k; exact q7 k; rw [q8] at k; cases k)] at hk
       (repeat' first|simp only [il35l0_go,il35l0b,go_sem,hs,hlt,hw,gF,gT,h48,v,h24,gL,hmL,q0a,Nat.mul_one,List.drop_drop,List.length_map,d2,d3,f12,t12,gB,gS,lB,lS,gN,hmN,gst,hst,srC_1,hm0,hm1,hsr,hl,htk,q2C,hrm0,hrow0,is0,zR0,is2,q1k,q1l,ees,zR,nmG,hset,tk,b12,bn7,kc,dl,ls]|with_reducible refine wX fun _=>?_|((with_reducible refine wY ?_ ?_); rfl)|fail)
       all_goals (refine hk _ _ ⟨?_,hS,m1,hm1,rfl⟩; simp only [go_sem,hs,hw,zR])
    ·have d3:decide (((frN t p:Nat):Int)=((frm:Nat):Int))=false:=decide_eq_false (by omega)
     by_cases q4:b (frN t p)=[]
     ·have gB:((bC b).map AV.t)[frN t p]? = some (.t nilT):=by rw [gB,q4]; rfl
      rw [hgo (fun k=>by rw [hUd] at k; rcases k.1.2 with k|k; exact q3 k; exact k.1 q4)] at hk
      (repeat' first|simp only [il35l0_go,il35l0b,go_sem,hs,hlt,hw,gF,gT,h48,v,h24,gL,hmL,q0a,Nat.mul_one,List.drop_drop,List.length_map,d2,d3,f12,gB,lB,hm0]|with_reducible refine wX fun _=>?_|((with_reducible refine wY ?_ ?_); rfl)|fail)
      all_goals (refine hk _ _ ⟨?_,hS,m1,hm1,rfl⟩; simp only [go_sem,hs,hw])
     ·rw [rN_ne q4] at gB
      have bn4:=@q2E (b (frN t p)) q4
      cases q5:stA t (frN t p) with
      | true =>
       rw [q5] at gst
       rw [hgo (fun k=>by rw [hUd] at k; rcases k.1.2 with k|k; exact q3 k; rw [q5] at k; cases k.2.1)] at hk
       (repeat' first|simp only [il35l0_go,il35l0b,go_sem,hs,hlt,hw,gF,gT,h48,v,h24,gL,hmL,q0a,Nat.mul_one,List.drop_drop,List.length_map,d2,d3,f12,gB,lB,hm0,bn4,gst,hst,srC_1]|with_reducible refine wX fun _=>?_|((with_reducible refine wY ?_ ?_); rfl)|fail)
       all_goals (refine hk _ _ ⟨?_,hS,m1,hm1,rfl⟩; simp only [go_sem,hs,hw])
      | false =>
       rw [q5] at gst
       cases q6:decide (frN t p∈V) with
       | true =>
        rw [q6] at gN
        rw [hgo (fun k=>by rw [hUd] at k; rcases k.1.2 with k|k; exact q3 k; rw [q6] at k; cases k.2.2)] at hk
        (repeat' first|simp only [il35l0_go,il35l0b,go_sem,hs,hlt,hw,gF,gT,h48,v,h24,gL,hmL,q0a,Nat.mul_one,List.drop_drop,List.length_map,d2,d3,f12,gB,lB,hm0,bn4,gst,hst,srC_1,gN,hmN]|with_reducible refine wX fun _=>?_|((with_reducible refine wY ?_ ?_); rfl)|fail)
        all_goals (refine hk _ _ ⟨?_,hS,m1,hm1,rfl⟩; simp only [go_sem,hs,hw])
       | false =>
        rw [q6] at gN
        by_cases q7:s (toN t p)=[]
        ·have hs7:rN (s (toN t p))=nilT:=by rw [q7]; rfl
         rw [hs7] at gS
         rw [hup (hUd.2 ⟨⟨⟨q1,q2⟩,.inr ⟨q4,q5,q6⟩⟩,.inl q7⟩)] at hk
         (repeat' first|simp only [il35l0_go,il35l0b,go_sem,hs,hlt,hw,gF,gT,h48,v,h24,gL,hmL,q0a,Nat.mul_one,List.drop_drop,List.length_map,d2,d3,bn4,f12,t12,gB,gS,lB,lS,gN,hmN,gst,hst,srC_1,hm0,hm1,hsr,hl,htk,lb,tkr,hroom2,hrow,is2,q1k,q1l,ees,zR,nmG,hset,tk,b12]|with_reducible refine wX fun _=>?_|((with_reducible refine wY ?_ ?_); rfl)|fail)
         all_goals (refine hk _ _ ⟨?_,hS2,1,Nat.le_refl 1,rfl⟩; simp only [go_sem,hs,hw,zR])
        ·rw [rN_ne q7] at gS
         have bn7:=@q2E (s (toN t p)) q7
         cases q8:befB (grT t) (b (frN t p)++[p]) (s (toN t p)) with
         | true =>
          have dl:decide (cmpR t (b (frN t p)++[p]) (s (toN t p)) < 0)=true:=dl.trans q8
          rw [hup (hUd.2 ⟨⟨⟨q1,q2⟩,.inr ⟨q4,q5,q6⟩⟩,.inr q8⟩)] at hk
          (repeat' first|simp only [il35l0_go,il35l0b,go_sem,hs,hlt,hw,gF,gT,h48,v,h24,gL,hmL,q0a,Nat.mul_one,List.drop_drop,List.length_map,d2,d3,bn4,f12,t12,gB,gS,lB,lS,gN,hmN,gst,hst,srC_1,hm0,hm1,hsr,hl,htk,lb,tkr,hroom2,hrow,is2,q1k,q1l,ees,zR,nmG,hset,tk,b12,bn7,kc,dl,ls]|with_reducible refine wX fun _=>?_|((with_reducible refine wY ?_ ?_); rfl)|fail)
          all_goals (refine hk _ _ ⟨?_,hS2,1,Nat.le_refl 1,rfl⟩; simp only [go_sem,hs,hw,zR])
         | false =>
          have dl:decide (cmpR t (b (frN t p)++[p]) (s (toN t p)) < 0)=false:=dl.trans q8
          rw [hgo (fun k=>by rw [hUd] at k; rcases k.2 with k|k; exact q7 k; rw [q8] at k; cases k)] at hk
          (repeat' first|simp only [il35l0_go,il35l0b,go_sem,hs,hlt,hw,gF,gT,h48,v,h24,gL,hmL,q0a,Nat.mul_one,List.drop_drop,List.length_map,d2,d3,bn4,f12,t12,gB,gS,lB,lS,gN,hmN,gst,hst,srC_1,hm0,hm1,hsr,hl,htk,lb,tkr,hroom2,hrow,is2,q1k,q1l,ees,zR,nmG,hset,tk,b12,bn7,kc,dl,ls]|with_reducible refine wX fun _=>?_|((with_reducible refine wY ?_ ?_); rfl)|fail)
          all_goals (refine hk _ _ ⟨?_,hS,m1,hm1,rfl⟩; simp only [go_sem,hs,hw,zR])
 ·intro s e h' Y R' hlt ⟨hs,hS,m1,hm1,hh⟩ hk
  subst hh
  (repeat' first|simp only [il35l0_go,il35l0b,go_sem,hs,hlt]|with_reducible refine wX fun _=>?_|((with_reducible refine wY ?_ ?_); rfl)|fail)
  all_goals (refine hk _ _ _ ⟨?_,rfl,m1,hm1,rfl⟩; simp only [go_sem,hs,id])
 ·intro x e h' ⟨h1,h2,m1,hm1,h3⟩
  subst h2 h3
  have hfo:∀ (k i:Nat) (s:(Nat→List Nat) × Bool),foldC (ρ:=(Nat→List Nat) × Bool) (fun p (_:Unit) s=>Ctl.go (dpT t (avA t frm V W) b s p)) id i (List.replicate k ()) s=(List.range' i k).foldl (dpT t (avA t frm V W) b) s:=by
   intro k
   induction k with
   | zero=>intro i s; rfl
   | succ k ih=>intro i s; rw [List.replicate_succ,q0m (s':=dpT t (avA t frm V W) b s i) rfl,ih,List.range'_succ]; rfl
  rw [hfo,← List.range_eq_range'] at *
  exact hR _ m1 hm1 h1
end
end Go.Proofs.Ytnjaokhdeaeegaa
namespace Go.Proofs.Ytnjaokhdeaeegaa
open Go Go.Abs
theorem q7a (t:Tpo) (A:Av) (b:Nat→List Nat):∀ (l:List Nat) (s:(Nat→List Nat) × Bool),(l.foldl (dpT t A b) s).1=l.foldl (dpS (grT t) A b) s.1∧((l.foldl (dpT t A b) s).2=false→(l.foldl (dpT t A b) s).1=s.1∧s.2=false):=by
 intro l
 induction l with
 | nil=>intro s; exact ⟨rfl,fun h=>⟨rfl,h⟩⟩
 | cons p l ih =>
  intro s
  rw [List.foldl_cons,List.foldl_cons]
  obtain ⟨i1,i2⟩:=ih (dpT t A b s p)
  refine ⟨by rw [i1,dpT_1],fun h=>?_⟩
  obtain ⟨j1,j2⟩:=i2 h
  by_cases hu:dpU t A b s.1 p
  ·rw [dpT,if_pos hu] at j2; cases j2
  ·rw [dpT,if_neg hu] at j1 j2; exact ⟨by rw [dpT,if_neg hu]; exact j1,j2⟩
def betB (t:Tpo) (A:Av) (s:Nat→List Nat):Bool:=((List.range (2*t.links.length)).foldl (dpT t A s) (s,false)).2
theorem q7b (t:Tpo) (A:Av) (s:Nat→List Nat):((List.range (2*t.links.length)).foldl (dpT t A s) (s,false)).1=dpR (grT t) A s:=(q7a t A s _ _).1
theorem qil {t:Tpo} {A:Av} {s:Nat→List Nat} (h:betB t A s=false):dpR (grT t) A s=s:=by
 rw [← q7b]
 exact ((q7a t A s _ _).2 h).1
theorem qim {α:Type} {f:α→α} {x:α} (h:f x=x):∀ k,iter f k x=x:=by
 intro k
 induction k with
 | zero=>rfl
 | succ k ih=>rw [iter,ih,h]
theorem qin (t:Tpo) (A:Av):∀ (k i:Nat) (s:Nat→List Nat),foldC (fun _ (_:Unit) s=>if betB t A s=true then Ctl.go (dpR (grT t) A s) else Ctl.out s) id i (List.replicate k ()) s=iter (dpR (grT t) A) k s:=by
 intro k
 induction k with
 | zero=>intro i s; rfl
 | succ k ih =>
  intro i s
  rw [List.replicate_succ]
  cases hb:betB t A s with
  | true =>
   rw [q0m (s':=dpR (grT t) A s) (by simp [hb]),ih]
   have:∀ k s,iter (dpR (grT t) A) k (dpR (grT t) A s)=iter (dpR (grT t) A) (k+1) s:=by
    intro k
    induction k with
    | zero=>intro s; rfl
    | succ k ih=>intro s; rw [iter,ih]; rfl
   exact this k s
  | false =>
   rw [q0y (r:=s) (by simp [hb]),qim (qil hb)]
section
variable (c1 c2:Bool) (t:Tpo) (h:okT t=true)
include h
theorem qio (frm:Nat) (V W:List Nat) (k:Nat):okRB t k (dp (grT t) (avA t frm V W) k)∧dp (grT t) (avA t frm V W) k frm=[]:=by
 obtain ⟨b1,b2,_⟩:=q5D (G:=grT t) (A:=avA t frm V W) (gr_w h) k
 refine ⟨fun n=>?_,b1⟩
 rcases Classical.em (dp (grT t) (avA t frm V W) k n=[]) with e|e
 ·rw [e]; exact ⟨(fun p hp=>by cases hp),Nat.zero_le _⟩
 ·obtain ⟨w,l⟩:=b2 n e
  exact ⟨fun p hp=>((wk_fr w).2 p hp).1,l⟩
theorem qip (frm tgt:Nat) (hf:frm < t.nodes.toNat) (ht:tgt < t.nodes.toNat) (V W:List Nat) (most:Nat) (hm:most≤8) :
  ans Try.prog pol 35 [srT c1 c2 t,I (frm:Nat),I (tgt:Nat),.agg ((bsK 12 V).map B),.agg ((bsK 24 W).map B),I (most:Nat)]=some (rN (dp (grT t) (avA t frm V W) most tgt)):=by
 obtain ⟨z1,z2,z3⟩:=q0k h
 have hsr:=q0z (c1:=c1) (c2:=c2) (t:=t) (F:=endsL t (frP t)) (G:=endsL t (toP t))
 have hl:=q0C (c1:=c1) (c2:=c2) (t:=t) (q09 t (frP t)) (q09 t (toP t))
 have htk:List.take 99 (srS c1 c2 t)=srS c1 c2 t:=List.take_of_length_le (by rw [hl]; exact Nat.le_refl _)
 have kP:=q1E c1 c2 t (endsL t (frP t)) (endsL t (toP t)) h
 have sV:storableAll (((bsK 12 V).map B).map AV.t)=true:=q1Z _
 have sW:storableAll (((bsK 24 W).map B).map AV.t)=true:=q1Z _
 have hmN:((bsK 12 V).map B).length=12:=by rw [List.length_map,q0U]
 have hmL:((bsK 24 W).map B).length=24:=by rw [List.length_map,q0U]
 have hz:zR12=bC (fun _=>[]):=rfl
 have lC:=fun b=>q1I b
 have oC:=fun b=>bC_ok b
 have tC:∀ b,List.take 12 (bC b)=bC b:=fun b=>List.take_of_length_le (by rw [q1I]; exact Nat.le_refl _)
 have tM:∀ b,List.take 12 ((bC b).map AV.t)=(bC b).map AV.t:=fun b=>List.take_of_length_le (by rw [List.length_map,q1I]; exact Nat.le_refl _)
 have dM:∀ b,List.drop 12 ((bC b).map AV.t)=[]:=fun b=>List.drop_eq_nil_of_le (by rw [List.length_map,q1I]; exact Nat.le_refl _)
 have t12:tgt < 12:=by omega
 obtain ⟨nn,hn⟩:∃ nn,1000 < nn:=⟨1001,by omega⟩
 refine q02 nn 1 il35_eq (Nat.le_of_ble_eq_true rfl) ?_
 (repeat' first|simp only [il35c,go_sem,hsr,sV,sW,hz,lC,oC]|with_reducible refine wX fun _=>?_|((with_reducible refine wY ?_ ?_); rfl)|fail)
 refine q0D most (step:=fun _ s=>if betB t (avA t frm V W) s=true then Ctl.go (dpR (grT t) (avA t frm V W) s) else Ctl.out s) (fin:=id)
  (St:=fun i s e h=>(e 1=.t (I (frm:Nat))∧e 2=.t (I (tgt:Nat))∧e 6=.t (.ip (srS c1 c2 t))∧e 9=.t (.ip ((bsK 12 V).map B))∧e 10=.t (.ip ((bsK 24 W).map B))∧e 13=.ref 0 1 0 0∧e 20=.t (I (most:Nat))∧e 21=.t (I (i:Nat)))∧s=dp (grT t) (avA t frm V W) i∧∃ m0,m0≤1∧h=[.row 12 [.t (.agg (bC s))] m0])
  (Ex:=fun s x e h=>x=.exit 0∧(e 2=.t (I (tgt:Nat))∧e 13=.ref 0 1 0 0)∧∃ m0 Y,m0≤1∧h=.row 12 [.t (.agg (bC s))] m0::Y) (s:=fun _=>[]) (by omega) ?_ ?_ (by omega) ?_ ?_
 ·intro i s e h' Y R hi hlt hw ⟨hs,hds,m0,hm0,hh⟩ hk
  subst hh
  obtain ⟨ob,ob0⟩:=qio t h frm V W i
  rw [← hds] at ob ob0
  have hds2:dpR (grT t) (avA t frm V W) s=dp (grT t) (avA t frm V W) (i+1):=by rw [hds]; rfl
  (repeat' first|simp only [il35l1_go,il35l1b,go_sem,hs,hlt,hm0,hl,hsr,htk,kP,hz,lC,oC,tC,tM,dM]|with_reducible refine wX fun _=>?_|((with_reducible refine wY ?_ ?_); rfl)|fail)
  refine qik c1 c2 t h frm V W s i (by omega) ob ob0 m0 hm0 (I (tgt:Nat)) (I (most:Nat)) (I (i:Nat)) _ nn (by omega) 1 (Nat.le_refl 1) _ _ (by simp only [go_sem,hs]) ?_
  intro e1 m1 hm1 he1
  have hbt:((List.range (2*t.links.length)).foldl (dpT t (avA t frm V W) s) (s,false)).2=betB t (avA t frm V W) s:=rfl
  rw [q7b]
  rw [hbt] at he1
  cases hb:betB t (avA t frm V W) s with
  | true =>
   rw [hb] at he1
   simp only [hb,if_true,q08] at hk
   (repeat' first|simp only [il35l1_go,il35l1b,go_sem,he1,hw,hm0,hm1,lC,oC,tC,tM,dM]|with_reducible refine wX fun _=>?_|((with_reducible refine wY ?_ ?_); rfl)|fail)
   all_goals (refine hk _ _ ⟨?_,hds2,1,Nat.le_refl 1,rfl⟩; simp only [go_sem,he1,hw])
  | false =>
   rw [hb] at he1
   simp only [hb,Bool.false_eq_true,if_false,q0g] at hk
   (repeat' first|simp only [il35l1_go,il35l1b,go_sem,he1,hw,hm0,hm1]|with_reducible refine wX fun _=>?_|((with_reducible refine wY ?_ ?_); rfl)|fail)
   all_goals (refine hk _ _ _ ⟨rfl,?_,m0,_,hm0,rfl⟩; simp only [go_sem,he1])
 ·intro s e h' Y R hlt ⟨hs,hds,m0,hm0,hh⟩ hk
  subst hh
  (repeat' first|simp only [il35l1_go,il35l1b,go_sem,hs,hlt]|with_reducible refine wX fun _=>?_|((with_reducible refine wY ?_ ?_); rfl)|fail)
  all_goals (refine hk _ _ _ ⟨rfl,?_,m0,[],hm0,rfl⟩; simp only [go_sem,hs])
 ·refine ⟨?_,rfl,0,Nat.zero_le _,rfl⟩
  simp only [go_sem]
 ·intro x e h' ⟨h1,h2,m0,Y,hm0,h3⟩
  subst h1
  rw [qin] at h3
  have hdp:iter (dpR (grT t) (avA t frm V W)) most (fun _=>[])=dp (grT t) (avA t frm V W) most:=rfl
  rw [hdp] at h3
  subst h3
  have gT:=q3W (dp (grT t) (avA t frm V W) most) t12
  (repeat' first|simp only [il35c,go_sem,h2,t12,hm0,lC,gT,Nat.mul_one,q0a]|with_reducible refine wX fun _=>?_|((with_reducible refine wY ?_ ?_); rfl)|fail)
end
end Go.Proofs.Ytnjaokhdeaeegaa
