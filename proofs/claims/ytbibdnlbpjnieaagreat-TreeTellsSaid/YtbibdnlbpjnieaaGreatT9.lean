/- Part 9 of the proof of TreeTells. -/
import Derived.Test.YtbibdnlbpjnieaaGreatT8
import Derived.Attr
set_option linter.all false
set_option maxRecDepth 100000
set_option maxHeartbeats 4000000
namespace Go.Abs
open Go
attribute [go_sem] c_nop c_ops c_seq qal qam qan qao c_ret q9O q9P q9Q q9R q9S q9U q9V q9W q9X q9Y q9Z qa7 qa8 qa9 qaa qab
 qac qad qae qaf qag qah qai qaj qat qau qav q9B q9C q9D get_v get_c q9E q9F q9G q9H q9I qaw qax qay qaz qaA
 qaB qaC qaD qaE qaF qaG qaH qaI qaJ qaK qaL qaM qaN qaO qaP qaQ     qaR   qaS qaT qaU qaV
 qaW qaX qaY qaZ qb0 fa_ip qb1 qb2 qb3 qb4 qb5 qb6 qb7 qb8  qar List.map_cons List.map_nil Option.getD_some Bool.not_true Bool.not_false
 qbn qba qb9 q5D qbs qbo qbp qbq qbr  q44 qbt qbu qbv qbw qbx qby qbz qbA qbB qbC qbD q5E q5F qbE
 List.nil_append List.append_nil List.cons_append List.getElem?_cons_zero List.getElem?_cons_succ Option.map_some Option.bind_some List.drop_zero List.drop_succ_cons List.take_succ_cons List.take_zero List.head?_cons
 List.length_cons List.length_nil and_true true_and and_self Nat.le_refl Nat.zero_add qbb List.contains_nil List.contains_cons Bool.or_false Bool.false_or Bool.and_false Bool.false_and Bool.and_true Bool.true_and eq_self
 Bool.false_eq_true qas qbG q5G is_mv qbJ is_pk is_nw qbK is_bx is_bd is_bs is_ld is_st is_nc qbL is_nt   is_fn is_sl is_fa  qbM qbN qbO qbP qbQ qbR is_ex qbS
 qbT qbU qbV qbW qbX qbY qbZ qc0 qc1 qc2 qc3 qc4 qc5 qc6 qc7 qc8 qc9 qcb q5I qcc qcd qce qcf q5J
 qcg qch  q5K q5L  qci qcj   qck qcl qcm    qcn   qco qcp  qcq qcr qcs qct
 qcu qcv qcw qcx qcy q5M qcz  qcA q3k av_t av_ms qcB  q5N q0l qcC qcD qcE frz_t q3l q3m  qcF ix_sl ix_ms qcG
 qcH ap_eq   qcI  q5O q5P el_sl  q5Q qcK bx_im qcM bd_eq qcN qcO qcP bs_eq qcQ qcR  qcS qcT qcU qcV fn_eq qcW
  qcX  sl_hi  List.set_cons_zero List.set_cons_succ decide_true decide_false List.isEmpty_cons qcZ qd0 qd1 qd2 qd3  sn_ms sn_t q5R    qd4
 qd5 qd6 qcY  List.length_map Int.natCast_nonneg Int.toNat_natCast q9L q9M q9N q9T sk_p sk_d sk_t qa1 qa2 qa4 qa5 ob_t qa6 ob_ms  List.flatMap_cons List.flatMap_nil
 Nat.sub_self List.range'_zero qd7 q3n q5S qd8 q2n    true_or or_true List.length_append List.length_drop List.length_take Nat.zero_le qcL  q09 qdA qdB
  qdC qdD qdE qdF qdG qdH   qdI qdJ q5Y q5Z              
  qdb qdc Bool.not_not qe1  nm_t qdK nm_ms  qdL  q60 q61 qdM qdN qdO qdP qdQ qdR qdS qdT qdU qdV qdW qdX snp_t
 qdY q62 q63   ncOf       qbm Bool.true_or Bool.or_true Nat.min_eq_left Nat.min_eq_right  qda     
 qd9     qdo qdp qdq qdr qds qdt   qe3   qe4 qe5 qe6 qe7 qe8 q65 qe9 qea
 qed qee  qef qeg qeh qei qej qek qel qem q66 q0y List.zip_cons_cons List.zip_nil_left        q0f qdg
 qdi   qdh  qdf qdd qde  qdj qdl qdm  q5C  qbl     qdy kc_ms kc_t qbd qbc q5w q0M
 q5y q5x q5z plV_t qbf qbg  q5A q5B    qbh qbi qbj  qbk qdk Option.isSome_some List.drop_left qdZ qdw qdx 
 kc_mm qdv  qe0  qa3
attribute [go_sem] reduceIte Nat.reduceEqDiff Nat.reduceAdd Int.reduceEq Nat.reduceLeDiff Nat.reduceLT Nat.reduceBEq Nat.reduceMul Nat.reduceSub Int.reduceToNat Int.reduceLE Int.reduceLT Int.reduceAdd Int.reduceSub Int.reduceMul Int.reduceNeg Int.reduceDiv Int.reduceMod Int.reduceTDiv Int.reduceTMod Int.reducePow
theorem hc0:([]:List Nat).length=0:=rfl
abbrev wG:=@qa0
abbrev wC:=@qak
class WX (G:Prop) (Q:outParam Prop):Prop where
 go:Q→G
theorem wX {G Q:Prop} [w:WX G Q] (h:Q):G:=w.go h
class WY (G:Prop) (b:outParam Bool) (Q:outParam Prop):Prop where
 go:b=true→Q→G
theorem wY {G Q:Prop} {b:Bool} [w:WY G b Q] (hb:b=true) (h:Q):G:=w.go hb h
section
variable {P:Program} {pol:Pol} {K:Oracle} {I:Inl} {n:Nat} {f:FuncId} {e:FEnv} {h:Heap}
instance {l:List I1} {R:Xit→FEnv→Heap→Prop}:WX (wc P pol K I n f (.opsD [] l) R e h) (FEnv→wo P pol K I f .d l (normK R) e h):=⟨fun x=>qap (x e)⟩
instance {c:Nat × Nat} {crit:List (Nat × Nat)} {l:List I1} {R:Xit→FEnv→Heap→Prop}:WX (wc P pol K I n f (.opsD (c::crit) l) R e h) (FEnv→wo P pol K I f (.t (c::crit) []) l (normK R) e h):=⟨fun x=>qaq (x e)⟩
instance {ts:List Nat} {c:C} {R:Xit→FEnv→Heap→Prop}:WX (wc P pol K I n f (mkC ts c) R e h) (∀ e0,wc P pol K I n f c R (updL e e0 ts) h):=⟨qbH⟩
instance {L:Md} {ts:List Nat} {r:List I1} {Q:FEnv→Heap→Prop}:WX (wo P pol K I f L (mkL ts r) Q e h) (∀ e0,wo P pol K I f L r Q (updL e e0 ts) h):=⟨qbI⟩
end
instance {c:List (Nat × Nat)} {ts:List (Option (List Nat))} {Q:Prop}:WY (critOk c ts=true∧Q) (critOk c ts) Q:=⟨qe2⟩
instance {c:List (Nat × Nat)} {ts:List (Option (List Nat))}:WY (critOk c ts=true) (critOk c ts) True:=⟨fun h _=>h⟩
theorem bq1 {b:Bool}:((!b)=true)=(b=false):=by cases b <;> simp
theorem bq2 {b:Bool}:((!b)=false)=(b=true):=by cases b <;> simp
end Go.Abs
