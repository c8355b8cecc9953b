/- Part 10 of the proof of PathBest. -/
import Derived.Test.YtnjaokhdeaeegaaB9
import Derived.Attr
set_option linter.all false
set_option maxRecDepth 100000
set_option maxHeartbeats 4000000
namespace Go.Abs
open Go
attribute [go_sem] c_nop c_ops c_seq qb9 qba qbb qbc c_ret qaB qaC qaD qaE qaF qaH qaI qaJ qaK qaL qaM qaV qaW qaX qaY qaZ
 qb0 qb1 qb2 qb3 qb4 qb5 qb6 qb7 qbg qbh qbi qao qap qaq get_v get_c qar qas qat qau qav qbj qbk qbl qbm qbn
 qbo qbp qbq qbr qbs qbt qbu qbv qbw qbx qby qbz qbA qbB qbC qbD qbE qbF qbG qbH qbI qbJ qbK qbL qbM qbN qbO
 qbP qbQ qbR qbS qbT fa_ip qbU qbV qbW qbX qbY qbZ qc0 qc1 qc2 qbf List.map_cons List.map_nil Option.getD_some Bool.not_true Bool.not_false
 qcv qc4 qc3 q3B qcB qcw qcx qcy qcz qcA q4l qcC qcD qcE qcF qcG qcH qcI qcJ qcK qcL qcM q5Y qcN qcO
 List.nil_append List.append_nil List.cons_append List.getElem?_cons_zero List.getElem?_cons_succ Option.map_some Option.bind_some List.drop_zero List.drop_succ_cons List.take_succ_cons List.take_zero List.head?_cons
 List.length_cons List.length_nil and_true true_and and_self Nat.le_refl Nat.zero_add qc5 List.contains_nil List.contains_cons Bool.or_false Bool.false_or Bool.and_false Bool.false_and Bool.and_true Bool.true_and eq_self
 Bool.false_eq_true q5W qcP q5Z is_mv qcS is_pk is_nw qcT is_bx is_bd is_bs is_ld is_st is_nc qcU is_nt is_ng is_cv is_fn is_sl is_fa is_fd qcV qcW qcX qcY qcZ qd0 is_ex qd1
 qd2 qd3 qd4 qd5 qd6 qd7 qd8 qd9 qda qdb qdc qdd qde qdf qdg qdh qdi qdk q61 qdl qdm qdn qdo q62
 qdp qdq qdr qds qdt qdu qdv qdw qdx qdy qdz qdA qdB qdC qdD qdE qdF qdG qdH qdI qdJ qdK qdL qdM qdN q63
 q3C q64 q65 qdO q66 qdP qdQ qdR q67 q3D av_t av_ms qdS av_mp qdT q23 qdU qdV qdW frz_t q68 qdX qdY qdZ ix_sl ix_ms qe0
 qe1 ap_eq qe2 qe3 qe4 qe5 q69 q24 el_sl qe6 q3E qe7 bx_im qea bd_eq qeb qec qed bs_eq qee qef qeg qeh qei qej qek fn_eq qel
 qem qen sl_lo sl_hi qeq List.set_cons_zero List.set_cons_succ decide_true decide_false List.isEmpty_cons qer qes qet q3F qeu qev sn_ms sn_t q3G q6a q2D q3H qew
 qex qey qeo qep List.length_map Int.natCast_nonneg Int.toNat_natCast qay qaz qaA qaG sk_p sk_d sk_t qaO qaP qaS qaT ob_t qaU ob_ms ob_mp List.flatMap_cons List.flatMap_nil
 Nat.sub_self List.range'_zero qez q3I q6b qeA q2E qeB qeC qeD true_or or_true List.length_append List.length_drop List.length_take Nat.zero_le qe8 qe9 q00 qfL qfM
 qfN qfO qfP qfQ qfR qfS qfT qfU qfV qfW qfX qfY qfZ sn_mp qg0 qeZ qf0 qf1 qf2 qf3 qf4 qf5 qf6 qf7 qf8 qf9 qfa
 qfb qfc qfd Bool.not_not qge qgf nm_t qg1 nm_ms nm_mp qg2 nm_fn q6k q6l qg3 q6m qg4 qg5 qg6 q3J q3K qg7 q6n qg8 qg9 qga snp_t
 qgb q6o q6p nc0 nc1 ncOf qeH qeI qeJ qeK qeL qeM qct Bool.true_or Bool.or_true Nat.min_eq_left Nat.min_eq_right qeU qeV qeW qeX qeY qeN qeO
 qeP qeQ qeR qeS qeT qfu qfv qfw qfx qfy qfz qfJ qfK qgl qgm qgn qgo qgp qgq qgr qgs q6q qgt qgu
 qgx qgy qgz qgA qgB qgC qgD qgE qgF qgG qgH q6r q2G List.zip_cons_cons List.zip_nil_left qgh qgi qgj av_yl ob_yl qgk bx_yl q15 qfi
 q6f qfl qfm qfj qfk qfh qff qfg qfe qfq qfs qft qcp qcq qcr qcs qcu qfA qfE qfF qfG kc_ms kc_t qc8 qc6 q5X qc7
 qca qc9 qcb plV_t qcc qcd qce qcf qcg qch qci qcj qck qcl qcm qcn qco qfr Option.isSome_some List.drop_left qgc qfC qfD kc_ml
 kc_mm qfB qfI qgd qaR qaQ qfn qfo
attribute [go_sem] reduceIte Nat.reduceEqDiff Nat.reduceAdd Int.reduceEq Nat.reduceLeDiff Nat.reduceLT Nat.reduceBEq Nat.reduceMul Nat.reduceSub Int.reduceToNat Int.reduceLE Int.reduceLT Int.reduceAdd Int.reduceSub Int.reduceMul Int.reduceNeg Int.reduceDiv Int.reduceMod Int.reduceTDiv Int.reduceTMod Int.reducePow
theorem hc0:([]:List Nat).length=0:=rfl
abbrev wG:=@qaN
abbrev wC:=@qb8
class WX (G:Prop) (Q:outParam Prop):Prop where
 go:Q→G
theorem wX {G Q:Prop} [w:WX G Q] (h:Q):G:=w.go h
class WY (G:Prop) (b:outParam Bool) (Q:outParam Prop):Prop where
 go:b=true→Q→G
theorem wY {G Q:Prop} {b:Bool} [w:WY G b Q] (hb:b=true) (h:Q):G:=w.go hb h
section
variable {P:Program} {pol:Pol} {K:Oracle} {I:Inl} {n:Nat} {f:FuncId} {e:FEnv} {h:Heap}
instance {l:List I1} {R:Xit→FEnv→Heap→Prop}:WX (wc P pol K I n f (.opsD [] l) R e h) (FEnv→wo P pol K I f .d l (normK R) e h):=⟨fun x=>qbd (x e)⟩
instance {c:Nat × Nat} {crit:List (Nat × Nat)} {l:List I1} {R:Xit→FEnv→Heap→Prop}:WX (wc P pol K I n f (.opsD (c::crit) l) R e h) (FEnv→wo P pol K I f (.t (c::crit) []) l (normK R) e h):=⟨fun x=>qbe (x e)⟩
instance {ts:List Nat} {c:C} {R:Xit→FEnv→Heap→Prop}:WX (wc P pol K I n f (mkC ts c) R e h) (∀ e0,wc P pol K I n f c R (updL e e0 ts) h):=⟨qcQ⟩
instance {L:Md} {ts:List Nat} {r:List I1} {Q:FEnv→Heap→Prop}:WX (wo P pol K I f L (mkL ts r) Q e h) (∀ e0,wo P pol K I f L r Q (updL e e0 ts) h):=⟨qcR⟩
end
instance {c:List (Nat × Nat)} {ts:List (Option (List Nat))} {Q:Prop}:WY (critOk c ts=true∧Q) (critOk c ts) Q:=⟨qgg⟩
instance {c:List (Nat × Nat)} {ts:List (Option (List Nat))}:WY (critOk c ts=true) (critOk c ts) True:=⟨fun h _=>h⟩
theorem bq1 {b:Bool}:((!b)=true)=(b=false):=by cases b <;> simp
theorem bq2 {b:Bool}:((!b)=false)=(b=true):=by cases b <;> simp
end Go.Abs
