/- Part 10 of the proof of PathTwo. -/
import Derived.Test.YtnjaokhdeaeegaaT9
import Derived.Attr
set_option linter.all false
set_option maxRecDepth 100000
set_option maxHeartbeats 4000000
namespace Go.Abs
open Go
attribute [go_sem] c_nop c_ops c_seq qb2 qb3 qb4 qb5 c_ret qau qav qaw qax qay qaA qaB qaC qaD qaE qaF qaO qaP qaQ qaR qaS
 qaT qaU qaV qaW qaX qaY qaZ qb0 qb9 qba qbb qah qai qaj get_v get_c qak qal qam qan qao qbc qbd qbe qbf qbg
 qbh qbi qbj qbk qbl qbm qbn qbo qbp qbq qbr qbs qbt qbu qbv qbw qbx qby qbz qbA qbB qbC qbD qbE qbF qbG qbH
 qbI qbJ qbK qbL qbM fa_ip qbN qbO qbP qbQ qbR qbS qbT qbU qbV qb8 List.map_cons List.map_nil Option.getD_some Bool.not_true Bool.not_false
 qco qbX qbW q3C qcu qcp qcq qcr qcs qct q4j qcv qcw qcx qcy qcz qcA qcB qcC qcD qcE qcF q5X qcG qcH
 List.nil_append List.append_nil List.cons_append List.getElem?_cons_zero List.getElem?_cons_succ Option.map_some Option.bind_some List.drop_zero List.drop_succ_cons List.take_succ_cons List.take_zero List.head?_cons
 List.length_cons List.length_nil and_true true_and and_self Nat.le_refl Nat.zero_add qbY List.contains_nil List.contains_cons Bool.or_false Bool.false_or Bool.and_false Bool.false_and Bool.and_true Bool.true_and eq_self
 Bool.false_eq_true q5V qcI q5Y is_mv qcL is_pk is_nw qcM is_bx is_bd is_bs is_ld is_st is_nc qcN is_nt is_ng is_cv is_fn is_sl is_fa is_fd qcO qcP qcQ qcR qcS qcT is_ex qcU
 qcV qcW qcX qcY qcZ qd0 qd1 qd2 qd3 qd4 qd5 qd6 qd7 qd8 qd9 qda qdb qdd qde qdf qdg qdh qdi q60
 qdj qdk qdl qdm qdn qdo qdp qdq qdr qds qdt qdu qdv qdw qdx qdy qdz qdA qdB qdC qdD qdE qdF qdG qdH q61
 q3D q62 q63 qdI q64 qdJ qdK qdL q65 q3E av_t av_ms qdM av_mp qdN q22 qdO qdP qdQ frz_t q66 qdR qdS qdT ix_sl ix_ms qdU
 qdV ap_eq qdW qdX qdY qdZ q67 q68 el_sl qe1 q69 qe2 bx_im qe5 bd_eq qe6 qe7 qe8 bs_eq qe9 qea qeb qec qed qee qef fn_eq qeg
 qeh qei sl_lo sl_hi qel List.set_cons_zero List.set_cons_succ decide_true decide_false List.isEmpty_cons qem qen qeo q6a qep qeq sn_ms sn_t q3F q6b q2A q6c qer
 qes qet qej qek List.length_map Int.natCast_nonneg Int.toNat_natCast qar qas qat qaz sk_p sk_d sk_t qaH qaI qaL qaM ob_t qaN ob_ms ob_mp List.flatMap_cons List.flatMap_nil
 Nat.sub_self List.range'_zero qeu q3G q6d qev q3H qew qex qey true_or or_true List.length_append List.length_drop List.length_take Nat.zero_le qe3 qe4 q00 qfG qfH
 qfI qfJ qfK qfL qfM qfN qfO qfP qfQ qfR qfS qfT qfU sn_mp qfV qeS qeT qeU qeV qeW qeX qeY qeZ qf0 qf1 qf2 qf3
 qf4 qf5 qf6 Bool.not_not qg9 qga nm_t qfW nm_ms nm_mp qfX nm_fn q6k q6l qfY q6m qfZ qg0 qg1 q3I q3J qg2 q6n qg3 qg4 qg5 snp_t
 qg6 q6o q6p nc0 nc1 ncOf qeA qeB qeC qeD qeE qeF qcm Bool.true_or Bool.or_true Nat.min_eq_left Nat.min_eq_right qeN qeO qeP qeQ qeR qeG qeH
 qeI qeJ qeK qeL qeM qfo qfp qfq qfr qfs qft qfE qfF qgg qgh qgi qgj qgk qgl qgm qgn q6q qgo qgp
 qgs qgt qgu qgv qgw qgx qgy qgz qgA qgB qgC q6r q2C List.zip_cons_cons List.zip_nil_left qgc qgd qge av_yl ob_yl qgf bx_yl q12 qfb
 q6h qfe qff qfc qfd qfa qf8 qf9 qf7 qfk qfm qfn qci qcj qck qcl qcn qfv qfz qfA qfB kc_ms kc_t qc1 qbZ q5W qc0
 qc3 qc2 qc4 plV_t qc5 qc6 qc7 qc8 qc9 qca qcb qcc qcd qce qcf qcg qch qfl Option.isSome_some List.drop_left qg7 qfx qfy kc_ml
 kc_mm qfw qfD qg8 qaK qaJ qfg qfi
attribute [go_sem] reduceIte Nat.reduceEqDiff Nat.reduceAdd Int.reduceEq Nat.reduceLeDiff Nat.reduceLT Nat.reduceBEq Nat.reduceMul Nat.reduceSub Int.reduceToNat Int.reduceLE Int.reduceLT Int.reduceAdd Int.reduceSub Int.reduceMul Int.reduceNeg Int.reduceDiv Int.reduceMod Int.reduceTDiv Int.reduceTMod Int.reducePow
theorem hc0:([]:List Nat).length=0:=rfl
abbrev wG:=@qaG
abbrev wC:=@qb1
class WX (G:Prop) (Q:outParam Prop):Prop where
 go:Q→G
theorem wX {G Q:Prop} [w:WX G Q] (h:Q):G:=w.go h
class WY (G:Prop) (b:outParam Bool) (Q:outParam Prop):Prop where
 go:b=true→Q→G
theorem wY {G Q:Prop} {b:Bool} [w:WY G b Q] (hb:b=true) (h:Q):G:=w.go hb h
section
variable {P:Program} {pol:Pol} {K:Oracle} {I:Inl} {n:Nat} {f:FuncId} {e:FEnv} {h:Heap}
instance {l:List I1} {R:Xit→FEnv→Heap→Prop}:WX (wc P pol K I n f (.opsD [] l) R e h) (FEnv→wo P pol K I f .d l (normK R) e h):=⟨fun x=>qb6 (x e)⟩
instance {c:Nat × Nat} {crit:List (Nat × Nat)} {l:List I1} {R:Xit→FEnv→Heap→Prop}:WX (wc P pol K I n f (.opsD (c::crit) l) R e h) (FEnv→wo P pol K I f (.t (c::crit) []) l (normK R) e h):=⟨fun x=>qb7 (x e)⟩
instance {ts:List Nat} {c:C} {R:Xit→FEnv→Heap→Prop}:WX (wc P pol K I n f (mkC ts c) R e h) (∀ e0,wc P pol K I n f c R (updL e e0 ts) h):=⟨qcJ⟩
instance {L:Md} {ts:List Nat} {r:List I1} {Q:FEnv→Heap→Prop}:WX (wo P pol K I f L (mkL ts r) Q e h) (∀ e0,wo P pol K I f L r Q (updL e e0 ts) h):=⟨qcK⟩
end
instance {c:List (Nat × Nat)} {ts:List (Option (List Nat))} {Q:Prop}:WY (critOk c ts=true∧Q) (critOk c ts) Q:=⟨qgb⟩
instance {c:List (Nat × Nat)} {ts:List (Option (List Nat))}:WY (critOk c ts=true) (critOk c ts) True:=⟨fun h _=>h⟩
theorem bq1 {b:Bool}:((!b)=true)=(b=false):=by cases b <;> simp
theorem bq2 {b:Bool}:((!b)=false)=(b=true):=by cases b <;> simp
end Go.Abs
