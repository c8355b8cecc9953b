/- Part 10 of the proof of PathCuts. -/
import Derived.Test.YtnjaokhdeaeegaaC9
import Derived.Attr
set_option linter.all false
set_option maxRecDepth 100000
set_option maxHeartbeats 4000000
namespace Go.Abs
open Go
attribute [go_sem] c_nop c_ops c_seq qaD qaE qaF qaG c_ret qa5 qa6 qa7 qa8 qa9 qab qac qad qae qaf qag qap qaq qar qas qat
 qau qav qaw qax qay qaz qaA qaB qaK qaL qaM q9S q9T q9U get_v get_c q9V q9W q9X q9Y q9Z qaN qaO qaP qaQ qaR
 qaS qaT qaU qaV qaW qaX qaY qaZ qb0 qb1 qb2 qb3 qb4 qb5 qb6 qb7 qb8 qb9 qba qbb qbc qbd qbe qbf qbg qbh qbi
 qbj qbk qbl qbm qbn fa_ip qbo qbp qbq qbr qbs qbt qbu qbv qbw qaJ List.map_cons List.map_nil Option.getD_some Bool.not_true Bool.not_false
 qbZ qby qbx q3t qc5 qc0 qc1 qc2 qc3 qc4 q45 qc6 qc7 qc8 qc9 qca qcb qcc qcd qce qcf qcg q5J qch qci
 List.nil_append List.append_nil List.cons_append List.getElem?_cons_zero List.getElem?_cons_succ Option.map_some Option.bind_some List.drop_zero List.drop_succ_cons List.take_succ_cons List.take_zero List.head?_cons
 List.length_cons List.length_nil and_true true_and and_self Nat.le_refl Nat.zero_add qbz List.contains_nil List.contains_cons Bool.or_false Bool.false_or Bool.and_false Bool.false_and Bool.and_true Bool.true_and eq_self
 Bool.false_eq_true q5H qcj q5K is_mv qcm is_pk is_nw qcn is_bx is_bd is_bs is_ld is_st is_nc qco is_nt is_ng is_cv is_fn is_sl is_fa is_fd qcp qcq qcr qcs qct qcu is_ex qcv
 qcw qcx qcy qcz qcA qcB qcC qcD qcE qcF qcG qcH qcI qcJ qcK qcL qcM qcO qcP qcQ qcR qcS qcT q5M
 qcU qcV qcW qcX qcY qcZ qd0 qd1 qd2 qd3 qd4 qd5 qd6 qd7 qd8 qd9 qda qdb qdc qdd qde qdf qdg qdh qdi q5N
 q3u q5O q5P qdj q5Q qdk qdl qdm q5R q3v av_t av_ms qdn av_mp qdo q2v qdp qdq qdr frz_t q5S qds qdt qdu ix_sl ix_ms qdv
 qdw ap_eq qdx qdy qdz qdA q5T q5U el_sl qdC q5V qdD bx_im qdG bd_eq qdH qdI qdJ bs_eq qdK qdL qdM qdN qdO qdP qdQ fn_eq qdR
 qdS qdT sl_lo sl_hi qdW List.set_cons_zero List.set_cons_succ decide_true decide_false List.isEmpty_cons qdX qdY qdZ q5W qe0 qe1 sn_ms sn_t q3w q5X q2w q5Y qe2
 qe3 qe4 qdU qdV List.length_map Int.natCast_nonneg Int.toNat_natCast qa2 qa3 qa4 qaa sk_p sk_d sk_t qai qaj qam qan ob_t qao ob_ms ob_mp List.flatMap_cons List.flatMap_nil
 Nat.sub_self List.range'_zero qe5 q3x q5Z qe6 q3y qe7 qe8 qe9 true_or or_true List.length_append List.length_drop List.length_take Nat.zero_le qdE qdF q00 qfg qfh
 qfi qfj qfk qfl qfm qfn qfo qfp qfq qfr qfs qft qfu sn_mp qfv qet qeu qev qew qex qey qez qeA qeB qeC qeD qeE
 qeF qeG qeH Bool.not_not qfJ qfK nm_t qfw nm_ms nm_mp qfx nm_fn q66 q67 qfy q68 qfz qfA qfB q3z q3A qfC q69 qfD qfE qfF snp_t
 qfG q6a q6b nc0 nc1 ncOf qeb qec qed qee qef qeg qbX Bool.true_or Bool.or_true Nat.min_eq_left Nat.min_eq_right qeo qep qeq qer qes qeh qei
 qej qek qel qem qen qeY qeZ qf0 qf1 qf2 qf3 qfe qff qfQ qfR qfS qfT qfU qfV qfW qfX q6c qfY qfZ
 qg2 qg3 qg4 qg5 qg6 qg7 qg8 qg9 qga qgb qgc q6d q2x List.zip_cons_cons List.zip_nil_left qfM qfN qfO av_yl ob_yl qfP bx_yl q0Y qeM
 q63 qeP qeQ qeN qeO qeL qeJ qeK qeI qeU qeW qeX qbT qbU qbV qbW qbY qf5 qf9 qfa qfb kc_ms kc_t qbC qbA q5I qbB
 qbE qbD qbF plV_t qbG qbH qbI qbJ qbK qbL qbM qbN qbO qbP qbQ qbR qbS qeV Option.isSome_some List.drop_left qfH qf7 qf8 kc_ml
 kc_mm qf6 qfd qfI qal qak qeR qeS
attribute [go_sem] reduceIte Nat.reduceEqDiff Nat.reduceAdd Int.reduceEq Nat.reduceLeDiff Nat.reduceLT Nat.reduceBEq Nat.reduceMul Nat.reduceSub Int.reduceToNat Int.reduceLE Int.reduceLT Int.reduceAdd Int.reduceSub Int.reduceMul Int.reduceNeg Int.reduceDiv Int.reduceMod Int.reduceTDiv Int.reduceTMod Int.reducePow
theorem hc0:([]:List Nat).length=0:=rfl
abbrev wG:=@qah
abbrev wC:=@qaC
class WX (G:Prop) (Q:outParam Prop):Prop where
 go:Q→G
theorem wX {G Q:Prop} [w:WX G Q] (h:Q):G:=w.go h
class WY (G:Prop) (b:outParam Bool) (Q:outParam Prop):Prop where
 go:b=true→Q→G
theorem wY {G Q:Prop} {b:Bool} [w:WY G b Q] (hb:b=true) (h:Q):G:=w.go hb h
section
variable {P:Program} {pol:Pol} {K:Oracle} {I:Inl} {n:Nat} {f:FuncId} {e:FEnv} {h:Heap}
instance {l:List I1} {R:Xit→FEnv→Heap→Prop}:WX (wc P pol K I n f (.opsD [] l) R e h) (FEnv→wo P pol K I f .d l (normK R) e h):=⟨fun x=>qaH (x e)⟩
instance {c:Nat × Nat} {crit:List (Nat × Nat)} {l:List I1} {R:Xit→FEnv→Heap→Prop}:WX (wc P pol K I n f (.opsD (c::crit) l) R e h) (FEnv→wo P pol K I f (.t (c::crit) []) l (normK R) e h):=⟨fun x=>qaI (x e)⟩
instance {ts:List Nat} {c:C} {R:Xit→FEnv→Heap→Prop}:WX (wc P pol K I n f (mkC ts c) R e h) (∀ e0,wc P pol K I n f c R (updL e e0 ts) h):=⟨qck⟩
instance {L:Md} {ts:List Nat} {r:List I1} {Q:FEnv→Heap→Prop}:WX (wo P pol K I f L (mkL ts r) Q e h) (∀ e0,wo P pol K I f L r Q (updL e e0 ts) h):=⟨qcl⟩
end
instance {c:List (Nat × Nat)} {ts:List (Option (List Nat))} {Q:Prop}:WY (critOk c ts=true∧Q) (critOk c ts) Q:=⟨qfL⟩
instance {c:List (Nat × Nat)} {ts:List (Option (List Nat))}:WY (critOk c ts=true) (critOk c ts) True:=⟨fun h _=>h⟩
theorem bq1 {b:Bool}:((!b)=true)=(b=false):=by cases b <;> simp
theorem bq2 {b:Bool}:((!b)=false)=(b=true):=by cases b <;> simp
end Go.Abs
