/- Part 10 of the proof of PathLeasts. -/
import Derived.Test.YtnjaokhdeaeegaaL9
import Derived.Attr
set_option linter.all false
set_option maxRecDepth 100000
set_option maxHeartbeats 4000000
namespace Go.Abs
open Go
attribute [go_sem] c_nop c_ops c_seq qao qap qaq qar c_ret q9Q q9R q9S q9T q9U q9W q9X q9Y q9Z qa0 qa1 qaa qab qac qad qae
 qaf qag qah qai qaj qak qal qam qav qaw qax q9D q9E q9F get_v get_c q9G q9H q9I q9J q9K qay qaz qaA qaB qaC
 qaD qaE qaF qaG qaH qaI qaJ qaK qaL qaM qaN qaO qaP qaQ qaR qaS qaT qaU qaV qaW qaX qaY qaZ qb0 qb1 qb2 qb3
 qb4 qb5 qb6 qb7 qb8 fa_ip qb9 qba qbb qbc qbd qbe qbf qbg qbh qau List.map_cons List.map_nil Option.getD_some Bool.not_true Bool.not_false
 qbK qbj qbi q3t qbQ qbL qbM qbN qbO qbP q4b qbR qbS qbT qbU qbV qbW qbX qbY qbZ qc0 qc1 q5I qc2 qc3
 List.nil_append List.append_nil List.cons_append List.getElem?_cons_zero List.getElem?_cons_succ Option.map_some Option.bind_some List.drop_zero List.drop_succ_cons List.take_succ_cons List.take_zero List.head?_cons
 List.length_cons List.length_nil and_true true_and and_self Nat.le_refl Nat.zero_add qbk List.contains_nil List.contains_cons Bool.or_false Bool.false_or Bool.and_false Bool.false_and Bool.and_true Bool.true_and eq_self
 Bool.false_eq_true q5G qc4 q5J is_mv qc7 is_pk is_nw qc8 is_bx is_bd is_bs is_ld is_st is_nc qc9 is_nt is_ng is_cv is_fn is_sl is_fa is_fd qca qcb qcc qcd qce qcf is_ex qcg
 qch qci qcj qck qcl qcm qcn qco qcp qcq qcr qcs qct qcu qcv qcw qcx qcz qcA qcB qcC qcD qcE q5L
 qcF qcG qcH qcI qcJ qcK qcL qcM qcN qcO qcP qcQ qcR qcS qcT qcU qcV qcW qcX qcY qcZ qd0 qd1 qd2 qd3 q5M
 q3u q5N q5O qd4 q5P qd5 qd6 qd7 q5Q q3v av_t av_ms qd8 av_mp qd9 q2t qda qdb qdc frz_t q5R qdd qde qdf ix_sl ix_ms qdg
 qdh ap_eq qdi qdj qdk qdl q2v q5S el_sl qdm q5T qdn bx_im qdq bd_eq qdr qds qdt bs_eq qdu qdv qdw qdx qdy qdz qdA fn_eq qdB
 qdC qdD sl_lo sl_hi qdG List.set_cons_zero List.set_cons_succ decide_true decide_false List.isEmpty_cons qdH qdI qdJ q5U qdK qdL sn_ms sn_t q3w q5V q2w q5W qdM
 qdN qdO qdE qdF List.length_map Int.natCast_nonneg Int.toNat_natCast q9N q9O q9P q9V sk_p sk_d sk_t qa3 qa4 qa7 qa8 ob_t qa9 ob_ms ob_mp List.flatMap_cons List.flatMap_nil
 Nat.sub_self List.range'_zero qdP q3x q5X qdQ q3y qdR qdS qdT true_or or_true List.length_append List.length_drop List.length_take Nat.zero_le qdo qdp q00 qeZ qf0
 qf1 qf2 qf3 qf4 qf5 qf6 qf7 qf8 qf9 qfa qfb qfc qfd sn_mp qfe qed qee qef qeg qeh qei qej qek qel qem qen qeo
 qep qeq qer Bool.not_not qfs qft nm_t qff nm_ms nm_mp qfg nm_fn q61 q62 qfh q63 qfi qfj qfk q3A q3B qfl q64 qfm qfn qfo snp_t
 qfp q65 q66 nc0 nc1 ncOf qdV qdW qdX qdY qdZ qe0 qbI Bool.true_or Bool.or_true Nat.min_eq_left Nat.min_eq_right qe8 qe9 qea qeb qec qe1 qe2
 qe3 qe4 qe5 qe6 qe7 qeJ qeK qeL qeM qeN qeO qeX qeY qfz qfA qfB qfC qfD qfE qfF qfG q67 qfH qfI
 qfL qfM qfN qfO qfP qfQ qfR qfS qfT qfU qfV q68 q2A List.zip_cons_cons List.zip_nil_left qfv qfw qfx av_yl ob_yl qfy bx_yl q10 qew
 q5Z qez qeA qex qey qev qet qeu qes qeF qeH qeI qbE qbF qbG qbH qbJ qeP qeT qeU qeV kc_ms kc_t qbn qbl q5H qbm
 qbp qbo qbq plV_t qbr qbs qbt qbu qbv qbw qbx qby qbz qbA qbB qbC qbD qeG Option.isSome_some List.drop_left qfq qeR qeS kc_ml
 kc_mm qeQ qeW qfr qa6 qa5 qeB qeD
attribute [go_sem] reduceIte Nat.reduceEqDiff Nat.reduceAdd Int.reduceEq Nat.reduceLeDiff Nat.reduceLT Nat.reduceBEq Nat.reduceMul Nat.reduceSub Int.reduceToNat Int.reduceLE Int.reduceLT Int.reduceAdd Int.reduceSub Int.reduceMul Int.reduceNeg Int.reduceDiv Int.reduceMod Int.reduceTDiv Int.reduceTMod Int.reducePow
theorem hc0:([]:List Nat).length=0:=rfl
abbrev wG:=@qa2
abbrev wC:=@qan
class WX (G:Prop) (Q:outParam Prop):Prop where
 go:Q→G
theorem wX {G Q:Prop} [w:WX G Q] (h:Q):G:=w.go h
class WY (G:Prop) (b:outParam Bool) (Q:outParam Prop):Prop where
 go:b=true→Q→G
theorem wY {G Q:Prop} {b:Bool} [w:WY G b Q] (hb:b=true) (h:Q):G:=w.go hb h
section
variable {P:Program} {pol:Pol} {K:Oracle} {I:Inl} {n:Nat} {f:FuncId} {e:FEnv} {h:Heap}
instance {l:List I1} {R:Xit→FEnv→Heap→Prop}:WX (wc P pol K I n f (.opsD [] l) R e h) (FEnv→wo P pol K I f .d l (normK R) e h):=⟨fun x=>qas (x e)⟩
instance {c:Nat × Nat} {crit:List (Nat × Nat)} {l:List I1} {R:Xit→FEnv→Heap→Prop}:WX (wc P pol K I n f (.opsD (c::crit) l) R e h) (FEnv→wo P pol K I f (.t (c::crit) []) l (normK R) e h):=⟨fun x=>qat (x e)⟩
instance {ts:List Nat} {c:C} {R:Xit→FEnv→Heap→Prop}:WX (wc P pol K I n f (mkC ts c) R e h) (∀ e0,wc P pol K I n f c R (updL e e0 ts) h):=⟨qc5⟩
instance {L:Md} {ts:List Nat} {r:List I1} {Q:FEnv→Heap→Prop}:WX (wo P pol K I f L (mkL ts r) Q e h) (∀ e0,wo P pol K I f L r Q (updL e e0 ts) h):=⟨qc6⟩
end
instance {c:List (Nat × Nat)} {ts:List (Option (List Nat))} {Q:Prop}:WY (critOk c ts=true∧Q) (critOk c ts) Q:=⟨qfu⟩
instance {c:List (Nat × Nat)} {ts:List (Option (List Nat))}:WY (critOk c ts=true) (critOk c ts) True:=⟨fun h _=>h⟩
theorem bq1 {b:Bool}:((!b)=true)=(b=false):=by cases b <;> simp
theorem bq2 {b:Bool}:((!b)=false)=(b=true):=by cases b <;> simp
end Go.Abs
