/- Regions that draw their order: what the evaluator's operations hang on, and what they leave alone. -/
import Derived.Test.YtkamfflnfnjbeaaAbsBody
set_option linter.unusedSimpArgs false
set_option linter.unusedVariables false
namespace Go.Abs
open Go

variable {P : Program} {pol : Pol} {f : FuncId} {h h' : Heap} {ρ ρ' : Operand → AV}

theorem zipT_congr {l : List (Nat × Operand)} (hc : ∀ x ∈ l.map (·.2), ρ x = ρ' x) : zipT ρ l = zipT ρ' l := by
  induction l with
  | nil => rfl
  | cons p r ih =>
    obtain ⟨i, x⟩ := p
    simp only [zipT]
    rw [hc x (by simp), ih (fun y hy => hc y (by simp at hy ⊢; exact .inr hy))]

theorem optMap_congr {x : Option Operand} (hc : ∀ y ∈ x.toArray, ρ y = ρ' y) : x.map ρ = x.map ρ' := by
  cases x with
  | none => rfl
  | some y => simp [hc y (by simp)]

theorem map_congr_ops {l : List Operand} (hc : ∀ y ∈ l, ρ y = ρ' y) : l.map ρ = l.map ρ' := List.map_congr_left hc

theorem aOp_congr {o : Oper} (hc : ∀ x ∈ o.op.operands, ρ x = ρ' x) : aOp P pol f ρ h o = aOp P pol f ρ' h o := by
  cases hop : o.op with
  | call c =>
    rw [hop] at hc
    simp only [aOp, hop]
    have ha : c.args.toList.map ρ = c.args.toList.map ρ' := map_congr_ops fun y hy => hc y (by simp [Op.operands, Call.operands]; exact .inr (by simpa using hy))
    rw [ha]
    split
    · rfl
    · rename_i g hg
      rw [hc g (by simp [Op.operands, Call.operands, hg])]
    · rfl
  | build t parts =>
    rw [hop] at hc
    simp only [aOp, hop]
    rw [zipT_congr (l := parts.toList) (fun x hx => hc x (by simpa [Op.operands] using hx))]
  | buildSlice t len parts =>
    rw [hop] at hc
    simp only [aOp, hop]
    rw [zipT_congr (l := parts.toList) (fun x hx => hc x (by simpa [Op.operands] using hx))]
  | makeFunc fn first captured =>
    rw [hop] at hc
    simp only [aOp, hop]
    have h1 : first.toList.map ρ = first.toList.map ρ' := map_congr_ops fun y hy => hc y (by simp [Op.operands]; exact .inl (by simpa using hy))
    have h2 : captured.toList.map ρ = captured.toList.map ρ' := map_congr_ops fun y hy => hc y (by simp [Op.operands]; exact .inr (by simpa using hy))
    rw [h1, h2]
  | slice t x lo hi mx =>
    rw [hop] at hc
    simp only [aOp, hop]
    rw [hc x (by simp [Op.operands]), optMap_congr (x := lo) (fun y hy => hc y (by simp [Op.operands] at hy ⊢; simp [hy])), optMap_congr (x := hi) (fun y hy => hc y (by simp [Op.operands] at hy ⊢; simp [hy])),
      optMap_congr (x := mx) (fun y hy => hc y (by simp [Op.operands] at hy ⊢; simp [hy]))]
  | makeMap t r => cases r <;> simp only [aOp, hop]
  | alloc t => simp only [aOp, hop]
  | move x => rw [hop] at hc; simp only [aOp, hop, hc x (by simp [Op.operands])]
  | assign x => rw [hop] at hc; simp only [aOp, hop, hc x (by simp [Op.operands])]
  | box t x => rw [hop] at hc; simp only [aOp, hop, hc x (by simp [Op.operands])]
  | load t x => rw [hop] at hc; simp only [aOp, hop, hc x (by simp [Op.operands])]
  | nilCheck x => rw [hop] at hc; simp only [aOp, hop, hc x (by simp [Op.operands])]
  | unOp op t x => rw [hop] at hc; simp only [aOp, hop, hc x (by simp [Op.operands])]
  | convert s t x => rw [hop] at hc; simp only [aOp, hop, hc x (by simp [Op.operands])]
  | fieldAddr s x i => rw [hop] at hc; simp only [aOp, hop, hc x (by simp [Op.operands])]
  | field s x i => rw [hop] at hc; simp only [aOp, hop, hc x (by simp [Op.operands])]
  | extract x i => rw [hop] at hc; simp only [aOp, hop, hc x (by simp [Op.operands])]
  | pick c a b => rw [hop] at hc; simp only [aOp, hop, hc c (by simp [Op.operands]), hc a (by simp [Op.operands]), hc b (by simp [Op.operands])]
  | store t a x => rw [hop] at hc; simp only [aOp, hop, hc a (by simp [Op.operands]), hc x (by simp [Op.operands])]
  | binOp op t x y yt => rw [hop] at hc; simp only [aOp, hop, hc x (by simp [Op.operands]), hc y (by simp [Op.operands])]
  | makeSlice t l c => rw [hop] at hc; simp only [aOp, hop, hc l (by simp [Op.operands]), hc c (by simp [Op.operands])]
  | indexAddr t x i => rw [hop] at hc; simp only [aOp, hop, hc x (by simp [Op.operands]), hc i (by simp [Op.operands])]
  | index t x i => rw [hop] at hc; simp only [aOp, hop, hc x (by simp [Op.operands]), hc i (by simp [Op.operands])]
  | lookup t x i ok => rw [hop] at hc; simp only [aOp, hop, hc x (by simp [Op.operands]), hc i (by simp [Op.operands])]
  | mapUpdate t m k x => rw [hop] at hc; simp only [aOp, hop, hc m (by simp [Op.operands]), hc k (by simp [Op.operands]), hc x (by simp [Op.operands])]
  | insert t m k x => rw [hop] at hc; simp only [aOp, hop, hc m (by simp [Op.operands]), hc k (by simp [Op.operands]), hc x (by simp [Op.operands])]
  | _ => simp only [aOp, hop]

theorem touch0_congr {o : Oper} (hc : ∀ x ∈ o.op.operands, ρ x = ρ' x) : touch0 pol f ρ o = touch0 pol f ρ' o := by
  cases hop : o.op with
  | call c =>
    rw [hop] at hc
    simp only [touch0, hop]
    have ha : ∀ y ∈ c.args.toList, ρ y = ρ' y := fun y hy => hc y (by simp [Op.operands, Call.operands]; exact .inr (by simpa using hy))
    have hf : (c.args.toList.flatMap fun a => objsOf (ρ a)) = c.args.toList.flatMap fun a => objsOf (ρ' a) := by
      simp only [List.flatMap]
      rw [List.map_congr_left (fun y hy => by rw [ha y hy])]
    rw [map_congr_ops ha, hf]
    split
    · rfl
    · rfl
    · rfl
    · rfl
    · rename_i g hg
      rw [hc g (by simp [Op.operands, Call.operands, hg])]
    · rfl
  | load t x => rw [hop] at hc; simp only [touch0, hop, hc x (by simp [Op.operands])]
  | store t a x => rw [hop] at hc; simp only [touch0, hop, hc a (by simp [Op.operands])]
  | lookup t x i ok => rw [hop] at hc; simp only [touch0, hop, hc x (by simp [Op.operands])]
  | mapUpdate t m k x => rw [hop] at hc; simp only [touch0, hop, hc m (by simp [Op.operands])]
  | insert t m k x => rw [hop] at hc; simp only [touch0, hop, hc m (by simp [Op.operands])]
  | _ => simp only [touch0, hop]

/-! ### What an operation leaves alone -/

/-- The objects outside l are as they were; none is gone. -/
def Leaves (l : List Nat) (h h' : Heap) : Prop := h.length ≤ h'.length ∧ ∀ q : Nat, q < h.length → q ∉ l → h'[q]? = h[q]?

theorem leaves_same (l : List Nat) (h : Heap) : Leaves l h h := ⟨Nat.le_refl _, fun _ _ _ => rfl⟩
theorem leaves_append (l : List Nat) (h x : Heap) : Leaves l h (h ++ x) := ⟨by simp, fun q hq _ => List.getElem?_append_left hq⟩
theorem leaves_set {l : List Nat} {o : Nat} (hm : o ∈ l) (h : Heap) (x : AObj) : Leaves l h (h.set o x) := ⟨by simp, fun q _ hn => List.getElem?_set_ne (fun e => hn (by rw [← e]; exact hm))⟩

theorem aAppend_leaves {t : TypeId} {s x v : AV} (ha : aAppend P t s x h = some (v, h')) : Leaves (objsOf s ++ objsOf x) h h' := by
  revert ha
  unfold aAppend
  repeat' split
  all_goals (intro ha; cases ha)
  all_goals first | exact leaves_same _ _ | exact leaves_append _ _ _ | exact leaves_set (by simp [objsOf]) _ _

theorem aCopy_leaves {t : TypeId} {d s v : AV} (ha : aCopy P t d s h = some (v, h')) : Leaves (objsOf d ++ objsOf s) h h' := by
  revert ha
  unfold aCopy
  repeat' split
  all_goals (intro ha; cases ha)
  all_goals first | exact leaves_same _ _ | exact leaves_set (by simp [objsOf]) _ _

theorem aStore_leaves {t : TypeId} {a v : AV} (ha : aStore P t a v h = some h') : Leaves (objsOf a) h h' := by
  revert ha
  unfold aStore
  repeat' split
  all_goals (intro ha; cases ha)
  all_goals exact leaves_set (by simp [objsOf]) _ _

theorem aMapSet_leaves {t : TypeId} {m k v : AV} (ha : aMapSet P t m k v h = some h') : Leaves (objsOf m) h h' := by
  revert ha
  unfold aMapSet
  repeat' split
  all_goals (intro ha; cases ha)
  all_goals exact leaves_set (by simp [objsOf]) _ _

inductive Kind where
  | n | r | a | w

/-- What an operation may do to the objects, by its text: nothing, read, make new ones, anything. -/
def kindOf (o : Op) : Kind :=
  match o with
  | .load .. => .r
  | .lookup .. => .r
  | .assign _ => .a
  | .alloc _ => .a
  | .box .. => .a
  | .buildSlice .. => .a
  | .makeMap .. => .a
  | .makeSlice .. => .a
  | .store .. => .w
  | .insert .. => .w
  | .mapUpdate .. => .w
  | .call c => match c.callee with
    | .builtin .len => .r
    | .builtin .min => .n
    | .builtin .max => .n
    | _ => .w
  | _ => .n

def Kind.quiet : Kind → Bool
  | .n => true
  | .r => true
  | _ => false

theorem aOp_frame {o : Oper} {r : Res} {v : AV} (ha : aOp P pol f ρ h o = some r) (hv : resVal r = some (v, h')) :
    ∃ l, touch0 pol f ρ o = some l ∧ Leaves l h h' ∧ ((kindOf o.op).quiet = true → h' = h) ∧ (kindOf o.op = .n → l = []) ∧ (kindOf o.op = .a → l = []) := by
  obtain ⟨G, hG⟩ : ∃ G : Prop, G = (∃ l, touch0 pol f ρ o = some l ∧ Leaves l h h' ∧ ((kindOf o.op).quiet = true → h' = h) ∧ (kindOf o.op = .n → l = []) ∧ (kindOf o.op = .a → l = [])) := ⟨_, rfl⟩
  rw [← hG]
  have flag : ∀ {x : Option AV}, (match x with | some v => some (Res.val v h) | none => none) = some r → h' = h := by
    intro x hx
    cases x with
    | none => simp at hx
    | some y => simp at hx; subst hx; simp [resVal] at hv; exact hv.2.symm
  have same : h' = h → ∀ l, touch0 pol f ρ o = some l → (kindOf o.op = .n → l = []) → (kindOf o.op = .a → l = []) → G := by
    intro e l hl h1 h2
    subst e
    rw [hG]
    exact ⟨l, hl, leaves_same _ _, fun _ => rfl, h1, h2⟩
  have mk : ∀ {x : Heap}, h' = h ++ x → touch0 pol f ρ o = some [] → kindOf o.op = .a → G := by
    intro x e ht hk
    subst e
    rw [hG]
    exact ⟨[], ht, leaves_append _ _ _, fun hq => by rw [hk] at hq; simp [Kind.quiet] at hq, fun _ => rfl, fun _ => rfl⟩
  have wr : ∀ {l : List Nat}, touch0 pol f ρ o = some l → Leaves l h h' → kindOf o.op = .w → G := by
    intro l ht hl hk
    rw [hG]
    exact ⟨l, ht, hl, fun hq => (by rw [hk] at hq; simp [Kind.quiet] at hq), fun e => (by rw [hk] at e; cases e), fun e => (by rw [hk] at e; cases e)⟩
  clear hG
  cases hop : o.op with
  | move x => simp only [aOp, hop] at ha; cases ha; cases hv; exact same rfl [] (by simp [touch0, hop]) (fun _ => rfl) (fun _ => rfl)
  | assign x =>
    revert ha
    simp only [aOp, hop]
    repeat' split
    all_goals (intro ha; cases ha)
    all_goals cases hv
    all_goals first | exact same rfl [] (by simp [touch0, hop]) (fun _ => rfl) (fun _ => rfl) | exact mk rfl (by simp [touch0, hop]) (by simp [kindOf, hop])
  | pick c a b =>
    revert ha
    simp only [aOp, hop]
    repeat' split
    all_goals (intro ha; cases ha)
    all_goals cases hv
    all_goals exact same rfl [] (by simp [touch0, hop]) (fun _ => rfl) (fun _ => rfl)
  | alloc t =>
    revert ha
    simp only [aOp, hop]
    repeat' split
    all_goals (intro ha; cases ha)
    all_goals cases hv
    all_goals exact mk rfl (by simp [touch0, hop]) (by simp [kindOf, hop])
  | box t x =>
    revert ha
    simp only [aOp, hop]
    repeat' split
    all_goals (intro ha; cases ha)
    all_goals cases hv
    all_goals first | exact same rfl [] (by simp [touch0, hop]) (fun _ => rfl) (fun _ => rfl) | exact mk rfl (by simp [touch0, hop]) (by simp [kindOf, hop])
  | build t parts => simp only [aOp, hop] at ha; exact same (flag ha) [] (by simp [touch0, hop]) (fun _ => rfl) (fun _ => rfl)
  | buildSlice t len parts =>
    revert ha
    simp only [aOp, hop]
    repeat' split
    all_goals (intro ha; cases ha)
    all_goals cases hv
    all_goals first | exact same rfl [] (by simp [touch0, hop]) (fun _ => rfl) (fun _ => rfl) | exact mk rfl (by simp [touch0, hop]) (by simp [kindOf, hop])
  | load t a => simp only [aOp, hop] at ha; exact same (flag ha) (objsOf (ρ a)) (by simp [touch0, hop]) (by simp [kindOf, hop]) (by simp [kindOf, hop])
  | store t a x =>
    simp only [aOp, hop] at ha
    split at ha
    · rename_i h2 hs
      cases ha; cases hv
      exact wr (by simp [touch0, hop]) (aStore_leaves hs) (by simp [kindOf, hop])
    · simp at ha
  | nilCheck x =>
    revert ha
    simp only [aOp, hop]
    repeat' split
    all_goals (intro ha; cases ha)
    all_goals cases hv
    all_goals exact same rfl [] (by simp [touch0, hop]) (fun _ => rfl) (fun _ => rfl)
  | binOp op t x y yt => simp only [aOp, hop] at ha; exact same (flag ha) [] (by simp [touch0, hop]) (fun _ => rfl) (fun _ => rfl)
  | unOp op t x =>
    revert ha
    simp only [aOp, hop]
    repeat' split
    all_goals (intro ha; cases ha)
    all_goals cases hv
    all_goals exact same rfl [] (by simp [touch0, hop]) (fun _ => rfl) (fun _ => rfl)
  | convert s t x =>
    revert ha
    simp only [aOp, hop]
    repeat' split
    all_goals (intro ha; cases ha)
    all_goals cases hv
    all_goals exact same rfl [] (by simp [touch0, hop]) (fun _ => rfl) (fun _ => rfl)
  | makeFunc fn first captured =>
    revert ha
    simp only [aOp, hop]
    repeat' split
    all_goals (intro ha; cases ha)
    all_goals cases hv
    all_goals exact same rfl [] (by simp [touch0, hop]) (fun _ => rfl) (fun _ => rfl)
  | makeMap t r' =>
    cases r' with
    | none => simp only [aOp, hop] at ha; cases ha; cases hv; exact mk rfl (by simp [touch0, hop]) (by simp [kindOf, hop])
    | some _ => simp [aOp, hop] at ha
  | makeSlice t l c =>
    revert ha
    simp only [aOp, hop]
    repeat' split
    all_goals (intro ha; cases ha)
    all_goals cases hv
    all_goals exact mk rfl (by simp [touch0, hop]) (by simp [kindOf, hop])
  | slice t x lo hi mx => simp only [aOp, hop] at ha; exact same (flag ha) [] (by simp [touch0, hop]) (fun _ => rfl) (fun _ => rfl)
  | fieldAddr s x fi => simp only [aOp, hop] at ha; exact same (flag ha) [] (by simp [touch0, hop]) (fun _ => rfl) (fun _ => rfl)
  | field s x fi =>
    simp only [aOp, hop] at ha
    split at ha
    · exact same (flag ha) [] (by simp [touch0, hop]) (fun _ => rfl) (fun _ => rfl)
    · simp at ha
  | indexAddr t x ix => simp only [aOp, hop] at ha; exact same (flag ha) [] (by simp [touch0, hop]) (fun _ => rfl) (fun _ => rfl)
  | index t x ix => simp only [aOp, hop] at ha; exact same (flag ha) [] (by simp [touch0, hop]) (fun _ => rfl) (fun _ => rfl)
  | lookup t x ix ok => simp only [aOp, hop] at ha; exact same (flag ha) (objsOf (ρ x)) (by simp [touch0, hop]) (by simp [kindOf, hop]) (by simp [kindOf, hop])
  | mapUpdate t m k x =>
    simp only [aOp, hop] at ha
    split at ha
    · rename_i h2 hs
      cases ha; cases hv
      exact wr (by simp [touch0, hop]) (aMapSet_leaves hs) (by simp [kindOf, hop])
    · simp at ha
  | insert t m k x =>
    simp only [aOp, hop] at ha
    split at ha
    · rename_i h2 hs
      cases ha; cases hv
      exact wr (by simp [touch0, hop]) (aMapSet_leaves hs) (by simp [kindOf, hop])
    · simp at ha
  | extract x i =>
    simp only [aOp, hop] at ha
    split at ha
    · split at ha
      · cases ha; cases hv; exact same rfl [] (by simp [touch0, hop]) (fun _ => rfl) (fun _ => rfl)
      · simp at ha
    · exact same (flag ha) [] (by simp [touch0, hop]) (fun _ => rfl) (fun _ => rfl)
    · simp at ha
  | call c =>
    simp only [aOp, hop] at ha
    split at ha
    · rename_i b hb
      revert ha
      unfold aBuiltin
      split
      · repeat' split
        all_goals (intro ha; cases ha)
        all_goals cases hv
        all_goals exact same rfl (c.args.toList.flatMap fun a => objsOf (ρ a)) (by simp [touch0, hop, hb]) (by simp [kindOf, hop, hb]) (by simp [kindOf, hop, hb])
      · rename_i s x hargs
        repeat' split
        all_goals (intro ha; cases ha)
        all_goals cases hv
        rename_i ht
        refine wr (l := c.args.toList.flatMap fun a => objsOf (ρ a)) (by simp [touch0, hop, hb]) ?_ (by simp [kindOf, hop, hb])
        have e : (c.args.toList.flatMap fun a => objsOf (ρ a)) = objsOf s ++ objsOf x := by
          have : (c.args.toList.flatMap fun a => objsOf (ρ a)) = (c.args.toList.map ρ).flatMap objsOf := by simp [List.flatMap_map]
          rw [this, hargs]; simp
        rw [e]
        exact aAppend_leaves ht
      · rename_i s x hargs
        repeat' split
        all_goals (intro ha; cases ha)
        all_goals cases hv
        rename_i ht
        refine wr (l := c.args.toList.flatMap fun a => objsOf (ρ a)) (by simp [touch0, hop, hb]) ?_ (by simp [kindOf, hop, hb])
        have e : (c.args.toList.flatMap fun a => objsOf (ρ a)) = objsOf s ++ objsOf x := by
          have : (c.args.toList.flatMap fun a => objsOf (ρ a)) = (c.args.toList.map ρ).flatMap objsOf := by simp [List.flatMap_map]
          rw [this, hargs]; simp
        rw [e]
        exact aCopy_leaves ht
      · intro ha; cases ha; cases hv; exact same rfl [] (by simp [touch0, hop, hb]) (fun _ => rfl) (fun _ => rfl)
      · intro ha; cases ha; cases hv; exact same rfl [] (by simp [touch0, hop, hb]) (fun _ => rfl) (fun _ => rfl)
      · intro ha; cases ha
    · rename_i x hx
      exfalso
      revert ha
      unfold aCallee callOf
      repeat' split
      all_goals (intro ha; cases ha)
      all_goals cases hv
    · simp at ha
  | _ => simp [aOp, hop] at ha

end Go.Abs
