/- Part 10 of the proof of PathKnown. -/
import Derived.Test.YtnjaokhdeaeegaaK9
import Derived.Attr
set_option linter.all false
set_option maxRecDepth 100000
set_option maxHeartbeats 4000000
namespace Go.Abs
open Go
attribute [go_sem] c_nop c_ops c_seq q9Y q9Z qa0 qa1 c_ret q9q q9r q9s q9t q9u q9w q9x q9y q9z q9A q9B q9K q9L q9M q9N q9O
 q9P q9Q q9R q9S q9T q9U q9V q9W qa5 qa6 qa7 q9d q9e q9f get_v get_c q9g q9h q9i q9j q9k qa8 qa9 qaa qab qac
 qad qae qaf qag qah qai qaj qak qal qam qan qao qap qaq qar qas qat qau qav qaw qax qay qaz qaA qaB qaC qaD
 qaE qaF qaG qaH qaI fa_ip qaJ qaK qaL qaM qaN qaO qaP qaQ qaR qa4 List.map_cons List.map_nil Option.getD_some Bool.not_true Bool.not_false
 qbk qaT qaS q3d qbq qbl qbm qbn qbo qbp q3K qbr qbs qbt qbu qbv qbw qbx qby qbz qbA qbB q5i qbC qbD
 List.nil_append List.append_nil List.cons_append List.getElem?_cons_zero List.getElem?_cons_succ Option.map_some Option.bind_some List.drop_zero List.drop_succ_cons List.take_succ_cons List.take_zero List.head?_cons
 List.length_cons List.length_nil and_true true_and and_self Nat.le_refl Nat.zero_add qaU List.contains_nil List.contains_cons Bool.or_false Bool.false_or Bool.and_false Bool.false_and Bool.and_true Bool.true_and eq_self
 Bool.false_eq_true q5g qbE q5j is_mv qbH is_pk is_nw qbI is_bx is_bd is_bs is_ld is_st is_nc qbJ is_nt is_ng is_cv is_fn is_sl is_fa is_fd qbK qbL qbM qbN qbO qbP is_ex qbQ
 qbR qbS qbT qbU qbV qbW qbX qbY qbZ qc0 qc1 qc2 qc3 qc4 qc5 qc6 qc7 qc9 qca qcb qcc qcd qce q5l
 qcf qcg qch qci qcj qck qcl qcm qcn qco qcp qcq qcr qcs qct qcu qcv qcw qcx qcy qcz qcA qcB qcC qcD q5m
 q3e q5n q5o qcE q5p qcF qcG qcH q5q q3f av_t av_ms qcI av_mp qcJ q3g qcK qcL qcM frz_t q5r qcN qcO qcP ix_sl ix_ms qcQ
 qcR ap_eq qcS qcT qcU qcV q5s q5t el_sl qcX q5u qcY bx_im qd1 bd_eq qd2 qd3 qd4 bs_eq qd5 qd6 qd7 qd8 qd9 qda qdb fn_eq qdc
 qdd qde sl_lo sl_hi qdh List.set_cons_zero List.set_cons_succ decide_true decide_false List.isEmpty_cons qdi qdj qdk q5v qdl qdm sn_ms sn_t q3h q5w q2l q5x qdn
 qdo qdp qdf qdg List.length_map Int.natCast_nonneg Int.toNat_natCast q9n q9o q9p q9v sk_p sk_d sk_t q9D q9E q9H q9I ob_t q9J ob_ms ob_mp List.flatMap_cons List.flatMap_nil
 Nat.sub_self List.range'_zero qdq q3i q5y qdr q3j qds qdt qdu true_or or_true List.length_append List.length_drop List.length_take Nat.zero_le qcZ qd0 q00 qeA qeB
 qeC qeD qeE qeF qeG qeH qeI qeJ qeK qeL qeM qeN qeO sn_mp qeP qdP qdQ qdR qdS qdT qdU qdV qdW qdX qdY qdZ qe0
 qe1 qe2 qe3 Bool.not_not qf3 qf4 nm_t qeQ nm_ms nm_mp qeR nm_fn q5E q5F qeS q5G qeT qeU qeV q3k q3l qeW q5H qeX qeY qeZ snp_t
 qf0 q5I q5J nc0 nc1 ncOf qdx qdy qdz qdA qdB qdC qbi Bool.true_or Bool.or_true Nat.min_eq_left Nat.min_eq_right qdK qdL qdM qdN qdO qdD qdE
 qdF qdG qdH qdI qdJ qek qel qem qen qeo qep qey qez qfa qfb qfc qfd qfe qff qfg qfh q5K qfi qfj
 qfm qfn qfo qfp qfq qfr qfs qft qfu qfv qfw q5L q2m List.zip_cons_cons List.zip_nil_left qf6 qf7 qf8 av_yl ob_yl qf9 bx_yl q0U qe8
 q5B qeb qec qe9 qea qe7 qe5 qe6 qe4 qeg qei qej qbe qbf qbg qbh qbj qeq qeu qev qew kc_ms kc_t qaX qaV q5h qaW
 qaZ qaY qb0 plV_t qb1 qb2 qb3 qb4 qb5 qb6 qb7 qb8 qb9 qba qbb qbc qbd qeh Option.isSome_some List.drop_left qf1 qes qet kc_ml
 kc_mm qer qex qf2 q9G q9F qed qee
attribute [go_sem] reduceIte Nat.reduceEqDiff Nat.reduceAdd Int.reduceEq Nat.reduceLeDiff Nat.reduceLT Nat.reduceBEq Nat.reduceMul Nat.reduceSub Int.reduceToNat Int.reduceLE Int.reduceLT Int.reduceAdd Int.reduceSub Int.reduceMul Int.reduceNeg Int.reduceDiv Int.reduceMod Int.reduceTDiv Int.reduceTMod Int.reducePow
theorem hc0:([]:List Nat).length=0:=rfl
abbrev wG:=@q9C
abbrev wC:=@q9X
class WX (G:Prop) (Q:outParam Prop):Prop where
 go:Q→G
theorem wX {G Q:Prop} [w:WX G Q] (h:Q):G:=w.go h
class WY (G:Prop) (b:outParam Bool) (Q:outParam Prop):Prop where
 go:b=true→Q→G
theorem wY {G Q:Prop} {b:Bool} [w:WY G b Q] (hb:b=true) (h:Q):G:=w.go hb h
section
variable {P:Program} {pol:Pol} {K:Oracle} {I:Inl} {n:Nat} {f:FuncId} {e:FEnv} {h:Heap}
instance {l:List I1} {R:Xit→FEnv→Heap→Prop}:WX (wc P pol K I n f (.opsD [] l) R e h) (FEnv→wo P pol K I f .d l (normK R) e h):=⟨fun x=>qa2 (x e)⟩
instance {c:Nat × Nat} {crit:List (Nat × Nat)} {l:List I1} {R:Xit→FEnv→Heap→Prop}:WX (wc P pol K I n f (.opsD (c::crit) l) R e h) (FEnv→wo P pol K I f (.t (c::crit) []) l (normK R) e h):=⟨fun x=>qa3 (x e)⟩
instance {ts:List Nat} {c:C} {R:Xit→FEnv→Heap→Prop}:WX (wc P pol K I n f (mkC ts c) R e h) (∀ e0,wc P pol K I n f c R (updL e e0 ts) h):=⟨qbF⟩
instance {L:Md} {ts:List Nat} {r:List I1} {Q:FEnv→Heap→Prop}:WX (wo P pol K I f L (mkL ts r) Q e h) (∀ e0,wo P pol K I f L r Q (updL e e0 ts) h):=⟨qbG⟩
end
instance {c:List (Nat × Nat)} {ts:List (Option (List Nat))} {Q:Prop}:WY (critOk c ts=true∧Q) (critOk c ts) Q:=⟨qf5⟩
instance {c:List (Nat × Nat)} {ts:List (Option (List Nat))}:WY (critOk c ts=true) (critOk c ts) True:=⟨fun h _=>h⟩
theorem bq1 {b:Bool}:((!b)=true)=(b=false):=by cases b <;> simp
theorem bq2 {b:Bool}:((!b)=false)=(b=true):=by cases b <;> simp
end Go.Abs
