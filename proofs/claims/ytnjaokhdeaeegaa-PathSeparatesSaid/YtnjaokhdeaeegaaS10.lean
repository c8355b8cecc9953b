/- Part 10 of the proof of PathSeparates. -/
import Derived.Test.YtnjaokhdeaeegaaS9
import Derived.Attr
set_option linter.all false
set_option maxRecDepth 100000
set_option maxHeartbeats 4000000
namespace Go.Abs
open Go
attribute [go_sem] c_nop c_ops c_seq qas qat qau qav c_ret q9U q9V q9W q9X q9Y qa0 qa1 qa2 qa3 qa4 qa5 qae qaf qag qah qai
 qaj qak qal qam qan qao qap qaq qaz qaA qaB q9H q9I q9J get_v get_c q9K q9L q9M q9N q9O qaC qaD qaE qaF qaG
 qaH qaI qaJ qaK qaL qaM qaN qaO qaP qaQ qaR qaS qaT qaU qaV qaW qaX qaY qaZ qb0 qb1 qb2 qb3 qb4 qb5 qb6 qb7
 qb8 qb9 qba qbb qbc fa_ip qbd qbe qbf qbg qbh qbi qbj qbk qbl qay List.map_cons List.map_nil Option.getD_some Bool.not_true Bool.not_false
 qbO qbn qbm q3q qbU qbP qbQ qbR qbS qbT q49 qbV qbW qbX qbY qbZ qc0 qc1 qc2 qc3 qc4 qc5 q5H qc6 qc7
 List.nil_append List.append_nil List.cons_append List.getElem?_cons_zero List.getElem?_cons_succ Option.map_some Option.bind_some List.drop_zero List.drop_succ_cons List.take_succ_cons List.take_zero List.head?_cons
 List.length_cons List.length_nil and_true true_and and_self Nat.le_refl Nat.zero_add qbo List.contains_nil List.contains_cons Bool.or_false Bool.false_or Bool.and_false Bool.false_and Bool.and_true Bool.true_and eq_self
 Bool.false_eq_true q5F qc8 q5I is_mv qcb is_pk is_nw qcc is_bx is_bd is_bs is_ld is_st is_nc qcd is_nt is_ng is_cv is_fn is_sl is_fa is_fd qce qcf qcg qch qci qcj is_ex qck
 qcl qcm qcn qco qcp qcq qcr qcs qct qcu qcv qcw qcx qcy qcz qcA qcB qcD qcE qcF qcG qcH qcI q5K
 qcJ qcK qcL qcM qcN qcO qcP qcQ qcR qcS qcT qcU qcV qcW qcX qcY qcZ qd0 qd1 qd2 qd3 qd4 qd5 qd6 qd7 q5L
 q3r q5M q5N qd8 q5O qd9 qda qdb q5P q3s av_t av_ms qdc av_mp qdd q2t qde qdf qdg frz_t q5Q qdh qdi qdj ix_sl ix_ms qdk
 qdl ap_eq qdm qdn q5R qdo q5S q5T el_sl qdq q3t qdr bx_im qdu bd_eq qdv qdw qdx bs_eq qdy qdz qdA qdB qdC qdD qdE fn_eq qdF
 qdG qdH sl_lo sl_hi qdK List.set_cons_zero List.set_cons_succ decide_true decide_false List.isEmpty_cons qdL qdM qdN q3u qdO qdP sn_ms sn_t q3v q5U q2u q3w qdQ
 qdR qdS qdI qdJ List.length_map Int.natCast_nonneg Int.toNat_natCast q9R q9S q9T q9Z sk_p sk_d sk_t qa7 qa8 qab qac ob_t qad ob_ms ob_mp List.flatMap_cons List.flatMap_nil
 Nat.sub_self List.range'_zero qdT q3x q5V qdU q3y qdV qdW qdX true_or or_true List.length_append List.length_drop List.length_take Nat.zero_le qds qdt q00 qf3 qf4
 qf5 qf6 qf7 qf8 qf9 qfa qfb qfc qfd qfe qff qfg qfh sn_mp qfi qeh qei qej qek qel qem qen qeo qep qeq qer qes
 qet qeu qev Bool.not_not qfw qfx nm_t qfj nm_ms nm_mp qfk nm_fn q5Z q60 qfl q61 qfm qfn qfo q3B q3C qfp q62 qfq qfr qfs snp_t
 qft q63 q64 nc0 nc1 ncOf qdZ qe0 qe1 qe2 qe3 qe4 qbM Bool.true_or Bool.or_true Nat.min_eq_left Nat.min_eq_right qec qed qee qef qeg qe5 qe6
 qe7 qe8 qe9 qea qeb qeN qeO qeP qeQ qeR qeS qf1 qf2 qfD qfE qfF qfG qfH qfI qfJ qfK q65 qfL qfM
 qfP qfQ qfR qfS qfT qfU qfV qfW qfX qfY qfZ q66 q2v List.zip_cons_cons List.zip_nil_left qfz qfA qfB av_yl ob_yl qfC bx_yl q0X qeA
 q5X qeD qeE qeB qeC qez qex qey qew qeJ qeL qeM qbI qbJ qbK qbL qbN qeT qeX qeY qeZ kc_ms kc_t qbr qbp q5G qbq
 qbt qbs qbu plV_t qbv qbw qbx qby qbz qbA qbB qbC qbD qbE qbF qbG qbH qeK Option.isSome_some List.drop_left qfu qeV qeW kc_ml
 kc_mm qeU qf0 qfv qaa qa9 qeF qeH
attribute [go_sem] reduceIte Nat.reduceEqDiff Nat.reduceAdd Int.reduceEq Nat.reduceLeDiff Nat.reduceLT Nat.reduceBEq Nat.reduceMul Nat.reduceSub Int.reduceToNat Int.reduceLE Int.reduceLT Int.reduceAdd Int.reduceSub Int.reduceMul Int.reduceNeg Int.reduceDiv Int.reduceMod Int.reduceTDiv Int.reduceTMod Int.reducePow
theorem hc0:([]:List Nat).length=0:=rfl
abbrev wG:=@qa6
abbrev wC:=@qar
class WX (G:Prop) (Q:outParam Prop):Prop where
 go:Q→G
theorem wX {G Q:Prop} [w:WX G Q] (h:Q):G:=w.go h
class WY (G:Prop) (b:outParam Bool) (Q:outParam Prop):Prop where
 go:b=true→Q→G
theorem wY {G Q:Prop} {b:Bool} [w:WY G b Q] (hb:b=true) (h:Q):G:=w.go hb h
section
variable {P:Program} {pol:Pol} {K:Oracle} {I:Inl} {n:Nat} {f:FuncId} {e:FEnv} {h:Heap}
instance {l:List I1} {R:Xit→FEnv→Heap→Prop}:WX (wc P pol K I n f (.opsD [] l) R e h) (FEnv→wo P pol K I f .d l (normK R) e h):=⟨fun x=>qaw (x e)⟩
instance {c:Nat × Nat} {crit:List (Nat × Nat)} {l:List I1} {R:Xit→FEnv→Heap→Prop}:WX (wc P pol K I n f (.opsD (c::crit) l) R e h) (FEnv→wo P pol K I f (.t (c::crit) []) l (normK R) e h):=⟨fun x=>qax (x e)⟩
instance {ts:List Nat} {c:C} {R:Xit→FEnv→Heap→Prop}:WX (wc P pol K I n f (mkC ts c) R e h) (∀ e0,wc P pol K I n f c R (updL e e0 ts) h):=⟨qc9⟩
instance {L:Md} {ts:List Nat} {r:List I1} {Q:FEnv→Heap→Prop}:WX (wo P pol K I f L (mkL ts r) Q e h) (∀ e0,wo P pol K I f L r Q (updL e e0 ts) h):=⟨qca⟩
end
instance {c:List (Nat × Nat)} {ts:List (Option (List Nat))} {Q:Prop}:WY (critOk c ts=true∧Q) (critOk c ts) Q:=⟨qfy⟩
instance {c:List (Nat × Nat)} {ts:List (Option (List Nat))}:WY (critOk c ts=true) (critOk c ts) True:=⟨fun h _=>h⟩
theorem bq1 {b:Bool}:((!b)=true)=(b=false):=by cases b <;> simp
theorem bq2 {b:Bool}:((!b)=false)=(b=true):=by cases b <;> simp
end Go.Abs
