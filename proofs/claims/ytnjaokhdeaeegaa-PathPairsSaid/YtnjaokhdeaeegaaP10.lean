/- Part 10 of the proof of PathPairs. -/
import Derived.Test.YtnjaokhdeaeegaaP9
import Derived.Attr
set_option linter.all false
set_option maxRecDepth 100000
set_option maxHeartbeats 4000000
namespace Go.Abs
open Go
attribute [go_sem] c_nop c_ops c_seq qar qas qat qau c_ret q9T q9U q9V q9W q9X q9Z qa0 qa1 qa2 qa3 qa4 qad qae qaf qag qah
 qai qaj qak qal qam qan qao qap qay qaz qaA q9G q9H q9I get_v get_c q9J q9K q9L q9M q9N qaB qaC qaD qaE qaF
 qaG qaH qaI qaJ qaK qaL qaM qaN qaO qaP qaQ qaR qaS qaT qaU qaV qaW qaX qaY qaZ qb0 qb1 qb2 qb3 qb4 qb5 qb6
 qb7 qb8 qb9 qba qbb fa_ip qbc qbd qbe qbf qbg qbh qbi qbj qbk qax List.map_cons List.map_nil Option.getD_some Bool.not_true Bool.not_false
 qbN qbm qbl q3w qbT qbO qbP qbQ qbR qbS q45 qbU qbV qbW qbX qbY qbZ qc0 qc1 qc2 qc3 qc4 q5F qc5 qc6
 List.nil_append List.append_nil List.cons_append List.getElem?_cons_zero List.getElem?_cons_succ Option.map_some Option.bind_some List.drop_zero List.drop_succ_cons List.take_succ_cons List.take_zero List.head?_cons
 List.length_cons List.length_nil and_true true_and and_self Nat.le_refl Nat.zero_add qbn List.contains_nil List.contains_cons Bool.or_false Bool.false_or Bool.and_false Bool.false_and Bool.and_true Bool.true_and eq_self
 Bool.false_eq_true q5D qc7 q5G is_mv qca is_pk is_nw qcb is_bx is_bd is_bs is_ld is_st is_nc qcc is_nt is_ng is_cv is_fn is_sl is_fa is_fd qcd qce qcf qcg qch qci is_ex qcj
 qck qcl qcm qcn qco qcp qcq qcr qcs qct qcu qcv qcw qcx qcy qcz qcA qcC qcD qcE qcF qcG qcH q5I
 qcI qcJ qcK qcL qcM qcN qcO qcP qcQ qcR qcS qcT qcU qcV qcW qcX qcY qcZ qd0 qd1 qd2 qd3 qd4 qd5 qd6 q5J
 q3x q5K q5L qd7 q5M qd8 qd9 qda q5N q3y av_t av_ms qdb av_mp qdc q2t qdd qde qdf frz_t q5O qdg qdh qdi ix_sl ix_ms qdj
 qdk ap_eq qdl qdm qdn qdo q2v q5P el_sl qdp q5Q qdq bx_im qdt bd_eq qdu qdv qdw bs_eq qdx qdy qdz qdA qdB qdC qdD fn_eq qdE
 qdF qdG sl_lo sl_hi qdJ List.set_cons_zero List.set_cons_succ decide_true decide_false List.isEmpty_cons qdK qdL qdM q5R qdN qdO sn_ms sn_t q3z q5S q2w q5T qdP
 qdQ qdR qdH qdI List.length_map Int.natCast_nonneg Int.toNat_natCast q9Q q9R q9S q9Y sk_p sk_d sk_t qa6 qa7 qaa qab ob_t qac ob_ms ob_mp List.flatMap_cons List.flatMap_nil
 Nat.sub_self List.range'_zero qdS q3A q5U qdT q3B qdU qdV qdW true_or or_true List.length_append List.length_drop List.length_take Nat.zero_le qdr qds q00 qf2 qf3
 qf4 qf5 qf6 qf7 qf8 qf9 qfa qfb qfc qfd qfe qff qfg sn_mp qfh qeg qeh qei qej qek qel qem qen qeo qep qeq qer
 qes qet qeu Bool.not_not qfv qfw nm_t qfi nm_ms nm_mp qfj nm_fn q5Z q60 qfk q61 qfl qfm qfn q3C q3D qfo q62 qfp qfq qfr snp_t
 qfs q63 q64 nc0 nc1 ncOf qdY qdZ qe0 qe1 qe2 qe3 qbL Bool.true_or Bool.or_true Nat.min_eq_left Nat.min_eq_right qeb qec qed qee qef qe4 qe5
 qe6 qe7 qe8 qe9 qea qeM qeN qeO qeP qeQ qeR qf0 qf1 qfC qfD qfE qfF qfG qfH qfI qfJ q65 qfK qfL
 qfO qfP qfQ qfR qfS qfT qfU qfV qfW qfX qfY q66 q2z List.zip_cons_cons List.zip_nil_left qfy qfz qfA av_yl ob_yl qfB bx_yl q10 qez
 q5X qeC qeD qeA qeB qey qew qex qev qeI qeK qeL qbH qbI qbJ qbK qbM qeS qeW qeX qeY kc_ms kc_t qbq qbo q5E qbp
 qbs qbr qbt plV_t qbu qbv qbw qbx qby qbz qbA qbB qbC qbD qbE qbF qbG qeJ Option.isSome_some List.drop_left qft qeU qeV kc_ml
 kc_mm qeT qeZ qfu qa9 qa8 qeE qeG
attribute [go_sem] reduceIte Nat.reduceEqDiff Nat.reduceAdd Int.reduceEq Nat.reduceLeDiff Nat.reduceLT Nat.reduceBEq Nat.reduceMul Nat.reduceSub Int.reduceToNat Int.reduceLE Int.reduceLT Int.reduceAdd Int.reduceSub Int.reduceMul Int.reduceNeg Int.reduceDiv Int.reduceMod Int.reduceTDiv Int.reduceTMod Int.reducePow
theorem hc0:([]:List Nat).length=0:=rfl
abbrev wG:=@qa5
abbrev wC:=@qaq
class WX (G:Prop) (Q:outParam Prop):Prop where
 go:Q→G
theorem wX {G Q:Prop} [w:WX G Q] (h:Q):G:=w.go h
class WY (G:Prop) (b:outParam Bool) (Q:outParam Prop):Prop where
 go:b=true→Q→G
theorem wY {G Q:Prop} {b:Bool} [w:WY G b Q] (hb:b=true) (h:Q):G:=w.go hb h
section
variable {P:Program} {pol:Pol} {K:Oracle} {I:Inl} {n:Nat} {f:FuncId} {e:FEnv} {h:Heap}
instance {l:List I1} {R:Xit→FEnv→Heap→Prop}:WX (wc P pol K I n f (.opsD [] l) R e h) (FEnv→wo P pol K I f .d l (normK R) e h):=⟨fun x=>qav (x e)⟩
instance {c:Nat × Nat} {crit:List (Nat × Nat)} {l:List I1} {R:Xit→FEnv→Heap→Prop}:WX (wc P pol K I n f (.opsD (c::crit) l) R e h) (FEnv→wo P pol K I f (.t (c::crit) []) l (normK R) e h):=⟨fun x=>qaw (x e)⟩
instance {ts:List Nat} {c:C} {R:Xit→FEnv→Heap→Prop}:WX (wc P pol K I n f (mkC ts c) R e h) (∀ e0,wc P pol K I n f c R (updL e e0 ts) h):=⟨qc8⟩
instance {L:Md} {ts:List Nat} {r:List I1} {Q:FEnv→Heap→Prop}:WX (wo P pol K I f L (mkL ts r) Q e h) (∀ e0,wo P pol K I f L r Q (updL e e0 ts) h):=⟨qc9⟩
end
instance {c:List (Nat × Nat)} {ts:List (Option (List Nat))} {Q:Prop}:WY (critOk c ts=true∧Q) (critOk c ts) Q:=⟨qfx⟩
instance {c:List (Nat × Nat)} {ts:List (Option (List Nat))}:WY (critOk c ts=true) (critOk c ts) True:=⟨fun h _=>h⟩
theorem bq1 {b:Bool}:((!b)=true)=(b=false):=by cases b <;> simp
theorem bq2 {b:Bool}:((!b)=false)=(b=true):=by cases b <;> simp
end Go.Abs
