/- Part 9 of the proof of TreeSteps. -/
import Derived.Test.YtbibdnlbpjnieaaGreatS8
import Derived.Attr
set_option linter.all false
set_option maxRecDepth 100000
set_option maxHeartbeats 4000000
namespace Go.Abs
open Go
attribute [go_sem] c_nop c_ops c_seq q9Q q9R q9S q9T c_ret q9i q9j q9k q9l q9m q9o q9p q9q q9r q9s q9t q9C q9D q9E q9F q9G
 q9H q9I q9J q9K q9L q9M q9N q9O q9Y q9Z qa0 q95 q96 q97 get_v get_c q98 q99 q9a q9b q9c qa1 qa2 qa3 qa4 qa5
 qa6 qa7 qa8 qa9 qaa qab qac qad qae qaf qag qah qai qaj qak qal qam qan qao qap qaq qar qas qat qau qav qaw
 qax qay qaz qaA qaB fa_ip qaC qaD qaE qaF qaG qaH qaI qaJ qaK q9W List.map_cons List.map_nil Option.getD_some Bool.not_true Bool.not_false
 qb7 qaM qaL q3g qbd qb8 qb9 qba qbb qbc q3P qbe qbf qbg qbh qbi qbj qbk qbl qbm qbn qbo q5k q5l qbp
 List.nil_append List.append_nil List.cons_append List.getElem?_cons_zero List.getElem?_cons_succ Option.map_some Option.bind_some List.drop_zero List.drop_succ_cons List.take_succ_cons List.take_zero List.head?_cons
 List.length_cons List.length_nil and_true true_and and_self Nat.le_refl Nat.zero_add qaN List.contains_nil List.contains_cons Bool.or_false Bool.false_or Bool.and_false Bool.false_and Bool.and_true Bool.true_and eq_self
 Bool.false_eq_true q9X qbr q5m is_mv qbu is_pk is_nw qbv is_bx is_bd is_bs is_ld is_st is_nc qbw is_nt is_ng is_cv is_fn is_sl is_fa is_fd qbx qby qbz qbA qbB qbC is_ex qbD
 qbE qbF qbG qbH qbI qbJ qbK qbL qbM qbN qbO qbP qbQ qbR qbS qbT qbU qbW q5o qbX qbY qbZ qc0 q5p
 qc1 qc2 qc3 q5q q5r qc4 qc5 qc6 qc7 qc8 qc9 qca qcb qcc qcd qce qcf qcg qch qci qcj qck qcl qcm qcn qco
 qcp qcq qcr qcs qct q5s qcu qcv q5t q2f av_t av_ms qcw av_mp q5u q0i qcx qcy qcz frz_t q3h q3i qcA qcB ix_sl ix_ms qcC
 qcD ap_eq qcE qcF qcG qcH q5v q5w el_sl qcJ q5x qcK bx_im qcN bd_eq qcO qcP qcQ bs_eq qcR qcS qcT qcU qcV qcW qcX fn_eq qcY
 qcZ qd0 sl_lo sl_hi qd3 List.set_cons_zero List.set_cons_succ decide_true decide_false List.isEmpty_cons qd4 qd5 qd6 qd7 qd8 qd9 sn_ms sn_t q3j q5y q2g qda qdb
 qdc qdd qd1 qd2 List.length_map Int.natCast_nonneg Int.toNat_natCast q9f q9g q9h q9n sk_p sk_d sk_t q9v q9w q9z q9A ob_t q9B ob_ms ob_mp List.flatMap_cons List.flatMap_nil
 Nat.sub_self List.range'_zero qde q3k q5z qdf q2h qdg qdh qdi true_or or_true List.length_append List.length_drop List.length_take Nat.zero_le qcL qcM q09 qeo qep
 qeq qer qes qet qeu qev qew qex qey qez qeA q5F q5G sn_mp qeB qdC qdD qdE qdF qdG qdH qdI qdJ qdK qdL qdM qdN
 qdO qdP qdQ Bool.not_not qeT qeU nm_t qeC nm_ms nm_mp qeD nm_fn q5H q5I qeE qeF qeG qeH qeI qeJ qeK qeL qeM qeN qeO qeP snp_t
 qeQ q5J q5K nc0 nc1 ncOf qdk qdl qdm qdn qdo qdp qb5 Bool.true_or Bool.or_true Nat.min_eq_left Nat.min_eq_right qdx qdy qdz qdA qdB qdq qdr
 qds qdt qdu qdv qdw qe6 qe7 qe8 qe9 qea qeb qem qen qf0 qf1 qf2 qf3 qf4 qf5 qf6 qf7 q5M qf8 qf9
 qfc qfd qfe qff qfg qfh qfi qfj qfk qfl qfm q5N q0y List.zip_cons_cons List.zip_nil_left qeW qeX qeY av_yl ob_yl qeZ bx_yl q0d qdV
 qdY qdZ qe0 qdW qdX qdU qdS qdT qdR qe1 qe3 qe4 qb2 q5j qb3 qb4 qb6 qec qeg qeh qei kc_ms kc_t qaP qaO q5d q0H
 q5f q5e q5g plV_t qaR qaS qaT q5h q5i qaU qaV qaW qaX qaY qaZ qb0 qb1 qe2 Option.isSome_some List.drop_left qeR qee qef kc_ml
 kc_mm qed qel qeS q9y q9x
attribute [go_sem] reduceIte Nat.reduceEqDiff Nat.reduceAdd Int.reduceEq Nat.reduceLeDiff Nat.reduceLT Nat.reduceBEq Nat.reduceMul Nat.reduceSub Int.reduceToNat Int.reduceLE Int.reduceLT Int.reduceAdd Int.reduceSub Int.reduceMul Int.reduceNeg Int.reduceDiv Int.reduceMod Int.reduceTDiv Int.reduceTMod Int.reducePow
theorem hc0:([]:List Nat).length=0:=rfl
abbrev wG:=@q9u
abbrev wC:=@q9P
class WX (G:Prop) (Q:outParam Prop):Prop where
 go:Q→G
theorem wX {G Q:Prop} [w:WX G Q] (h:Q):G:=w.go h
class WY (G:Prop) (b:outParam Bool) (Q:outParam Prop):Prop where
 go:b=true→Q→G
theorem wY {G Q:Prop} {b:Bool} [w:WY G b Q] (hb:b=true) (h:Q):G:=w.go hb h
section
variable {P:Program} {pol:Pol} {K:Oracle} {I:Inl} {n:Nat} {f:FuncId} {e:FEnv} {h:Heap}
instance {l:List I1} {R:Xit→FEnv→Heap→Prop}:WX (wc P pol K I n f (.opsD [] l) R e h) (FEnv→wo P pol K I f .d l (normK R) e h):=⟨fun x=>q9U (x e)⟩
instance {c:Nat × Nat} {crit:List (Nat × Nat)} {l:List I1} {R:Xit→FEnv→Heap→Prop}:WX (wc P pol K I n f (.opsD (c::crit) l) R e h) (FEnv→wo P pol K I f (.t (c::crit) []) l (normK R) e h):=⟨fun x=>q9V (x e)⟩
instance {ts:List Nat} {c:C} {R:Xit→FEnv→Heap→Prop}:WX (wc P pol K I n f (mkC ts c) R e h) (∀ e0,wc P pol K I n f c R (updL e e0 ts) h):=⟨qbs⟩
instance {L:Md} {ts:List Nat} {r:List I1} {Q:FEnv→Heap→Prop}:WX (wo P pol K I f L (mkL ts r) Q e h) (∀ e0,wo P pol K I f L r Q (updL e e0 ts) h):=⟨qbt⟩
end
instance {c:List (Nat × Nat)} {ts:List (Option (List Nat))} {Q:Prop}:WY (critOk c ts=true∧Q) (critOk c ts) Q:=⟨qeV⟩
instance {c:List (Nat × Nat)} {ts:List (Option (List Nat))}:WY (critOk c ts=true) (critOk c ts) True:=⟨fun h _=>h⟩
theorem bq1 {b:Bool}:((!b)=true)=(b=false):=by cases b <;> simp
theorem bq2 {b:Bool}:((!b)=false)=(b=true):=by cases b <;> simp
end Go.Abs
