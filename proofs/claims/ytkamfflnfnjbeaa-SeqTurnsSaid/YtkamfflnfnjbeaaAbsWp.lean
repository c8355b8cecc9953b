/- The rules by which code worked out ahead is walked: rewriting, one operation at a time, stopping at every open question. -/
import Derived.Test.YtkamfflnfnjbeaaAbsILW
import Derived.Test.YtkamfflnfnjbeaaAbsNum
set_option linter.unusedSimpArgs false
set_option linter.unusedVariables false
namespace Go.Abs
open Go

variable {P : Program} {pol : Pol} {K : Oracle} {I : Inl} {f : FuncId} {n m : Nat} {e : FEnv} {h : Heap} {d : Option Tmp} {tk : TK} {op : IOp} {r : List I1} {Q : FEnv → Heap → Prop}

/-- Go on with what came. -/
def oB (x : Option (AV × Heap)) (k : AV → Heap → Prop) : Prop := match x with | some (v, h) => k v h | none => False
def hB (x : Option (FEnv × Heap)) (k : FEnv → Heap → Prop) : Prop := match x with | some (v, h) => k v h | none => False
def vB (x : Option (List AV)) (k : List AV → Prop) : Prop := match x with | some v => k v | none => False

theorem oB_some (v : AV) (h : Heap) (k : AV → Heap → Prop) : oB (some (v, h)) k = k v h := (fun x => x) rfl
theorem hB_some (v : FEnv) (h : Heap) (k : FEnv → Heap → Prop) : hB (some (v, h)) k = k v h := (fun x => x) rfl
theorem vB_some (v : List AV) (k : List AV → Prop) : vB (some v) k = k v := (fun x => x) rfl

theorem get_v (t : Nat) : Src.get e (.v t) = e t := (fun x => x) rfl
theorem get_c (x : T) : Src.get e (.c x) = .t x := (fun x => x) rfl
theorem upd_app (t : Nat) (v : AV) (s : Nat) : upd e (some t) v s = if s = t then v else e s := (fun x => x) rfl
theorem upd_none (v : AV) : upd e none v = e := (fun x => x) rfl
theorem envOf_nil (t : Nat) : envOf [] t = .dead := by simp [envOf]
theorem envOf_zero (x : AV) (l : List AV) : envOf (x :: l) 0 = x := (fun x => x) rfl
theorem envOf_succ (x : AV) (l : List AV) (t : Nat) : envOf (x :: l) (t + 1) = envOf l t := by simp [envOf]

/-- Operations, one behind the other; L: the heap may not shrink. -/
def wo (P : Program) (pol : Pol) (K : Oracle) (I : Inl) (f : FuncId) (L : Bool) : List I1 → (FEnv → Heap → Prop) → FEnv → Heap → Prop
  | [], Q, e, h => Q e h
  | i :: r, Q, e, h =>
    match gOk e i.g with
    | some true => match i.fz with
      | none => match resStep pol K I f i.dst h (iStep P pol f e h i.op) with
        | some (v, h') => (L = true → h.length ≤ h'.length) ∧ wo P pol K I f L r Q (upd e i.dst v) h'
        | none => False
      | some os => L = false ∧ match freezeF (reach h 20 (namesAll (srcs e os))) e h with
        | some (e1, h1) => match resStep pol K I f i.dst h1 (iStep P pol f e1 h1 i.op) with
          | some (v, h') => wo P pol K I f L r Q (upd e1 i.dst v) h'
          | none => False
        | none => False
    | some false => wo P pol K I f L r Q (upd e i.dst (.t (.sc undef))) h
    | none => False

theorem wo_plain : ∀ (l : List I1) {Q : FEnv → Heap → Prop} {e : FEnv} {h : Heap}, wo P pol K I f false l Q e h → Go.Abs.wpOps P pol K I f l Q e h := by
  intro l
  induction l with
  | nil => intro Q e h hw; exact hw
  | cons i r ih =>
    intro Q e h hw
    simp only [wo] at hw
    simp only [Go.Abs.wpOps]
    split at hw
    · rename_i hg
      simp only [hg]
      split at hw
      · rename_i hz
        simp only [hz]
        split at hw
        · rename_i v h' hr
          simp only [hr]
          exact ih hw.2
        · exact hw.elim
      · rename_i os hz
        simp only [hz]
        have hw := hw.2
        split at hw
        · rename_i e1 h1 hf
          simp only [hf]
          split at hw
          · rename_i v h' hr
            simp only [hr]
            exact ih hw
          · exact hw.elim
        · exact hw.elim
    · rename_i hg
      simp only [hg]
      exact ih hw
    · exact hw.elim

theorem wo_eq : ∀ (l : List I1) {Q : FEnv → Heap → Prop} {e : FEnv} {h : Heap}, wo P pol K I f false l Q e h = Go.Abs.wpOps P pol K I f l Q e h := by
  intro l
  induction l with
  | nil => intro Q e h; rfl
  | cons i r ih =>
    intro Q e h
    simp only [wo, Go.Abs.wpOps, ih, Bool.false_eq_true, false_implies, true_and]
    rfl

theorem wo_draw : ∀ (l : List I1) {Q : FEnv → Heap → Prop} {X : FEnv → Heap → List (Option (List Nat)) → Prop} {e : FEnv} {h : Heap}, (∀ e h ts, Q e h → X e h ts) → wo P pol K I f true l Q e h → wpOpsD P pol K I f l X e h := by
  intro l
  induction l with
  | nil => intro Q X e h hq hw; exact hq _ _ _ hw
  | cons i r ih =>
    intro Q X e h hq hw
    simp only [wo] at hw
    simp only [wpOpsD]
    split at hw
    · rename_i hg
      simp only [hg]
      split at hw
      · split at hw
        · rename_i v h' hr
          simp only [hr]
          have := hw.1 trivial
          rw [if_neg (by omega)]
          exact ih (fun e h ts hh => hq _ _ _ hh) hw.2
        · exact hw.elim
      · exact absurd hw.1 (by simp)
    · rename_i hg
      simp only [hg]
      exact ih (fun e h ts hh => hq _ _ _ hh) hw
    · exact hw.elim

/-- Behind an operation. -/
def opsK (P : Program) (pol : Pol) (K : Oracle) (I : Inl) (f : FuncId) (L : Bool) (d : Option Tmp) (r : List I1) (Q : FEnv → Heap → Prop) (e : FEnv) (h : Heap) (v : AV) (h' : Heap) : Prop :=
  (L = true → h.length ≤ h'.length) ∧ wo P pol K I f L r Q (upd e d v) h'
def fzK (P : Program) (pol : Pol) (K : Oracle) (I : Inl) (f : FuncId) (d : Option Tmp) (op : IOp) (r : List I1) (Q : FEnv → Heap → Prop) (e1 : FEnv) (h1 : Heap) : Prop :=
  oB (resStep pol K I f d h1 (iStep P pol f e1 h1 op)) (opsK P pol K I f false d r Q e1 h1)
/-- A guarded operation, its guard c. -/
def brG (c : Bool) (P : Program) (pol : Pol) (K : Oracle) (I : Inl) (f : FuncId) (L : Bool) (d : Option Tmp) (op : IOp) (r : List I1) (Q : FEnv → Heap → Prop) (e : FEnv) (h : Heap) : Prop :=
  if c then oB (resStep pol K I f d h (iStep P pol f e h op)) (opsK P pol K I f L d r Q e h) else wo P pol K I f L r Q (upd e d (.t (.sc undef))) h
def gB (v : AV) (w : Bool) (P : Program) (pol : Pol) (K : Oracle) (I : Inl) (f : FuncId) (L : Bool) (d : Option Tmp) (op : IOp) (r : List I1) (Q : FEnv → Heap → Prop) (e : FEnv) (h : Heap) : Prop :=
  match v with
  | .t (.sc (.bool b)) => brG (b == w) P pol K I f L d op r Q e h
  | .t (.sc _) => brG false P pol K I f L d op r Q e h
  | _ => False

theorem wo_nil {L : Bool} : wo P pol K I f L [] Q e h = Q e h := (fun x => x) rfl
theorem wo_cons {L : Bool} : wo P pol K I f L (⟨d, none, none, tk, op⟩ :: r) Q e h = oB (resStep pol K I f d h (iStep P pol f e h op)) (opsK P pol K I f L d r Q e h) := by
  simp only [wo, gOk, oB, opsK]
theorem wo_guard {L : Bool} {t : Nat} {w : Bool} : wo P pol K I f L (⟨d, some (t, w), none, tk, op⟩ :: r) Q e h = gB (e t) w P pol K I f L d op r Q e h := by
  simp only [wo, gOk, gB, brG]
  cases e t with
  | t x => cases x with
    | sc v => cases v with
      | bool b => cases b <;> cases w <;> simp [oB, opsK]
      | _ => rfl
    | _ => rfl
  | _ => rfl
theorem wo_freeze {os : List Src} : wo P pol K I f false (⟨d, none, some os, tk, op⟩ :: r) Q e h = hB (freezeF (reach h 20 (namesAll (srcs e os))) e h) (fzK P pol K I f d op r Q) := by
  simp only [wo, gOk, hB, oB, fzK, opsK, true_and]
  split
  · split <;> simp_all
  · rfl
theorem opsK_plain {v : AV} {h' : Heap} : opsK P pol K I f false d r Q e h v h' = wo P pol K I f false r Q (upd e d v) h' := by simp [opsK]
theorem opsK_draw {v : AV} {h' : Heap} : opsK P pol K I f true d r Q e h v h' = (h.length ≤ h'.length ∧ wo P pol K I f true r Q (upd e d v) h') := by simp [opsK]
theorem fzK_app {e1 : FEnv} {h1 : Heap} : fzK P pol K I f d op r Q e1 h1 = oB (resStep pol K I f d h1 (iStep P pol f e1 h1 op)) (opsK P pol K I f false d r Q e1 h1) := (fun x => x) rfl
theorem brG_true {L : Bool} : brG true P pol K I f L d op r Q e h = oB (resStep pol K I f d h (iStep P pol f e h op)) (opsK P pol K I f L d r Q e h) := (fun x => x) rfl
theorem brG_false {L : Bool} : brG false P pol K I f L d op r Q e h = wo P pol K I f L r Q (upd e d (.t (.sc undef))) h := (fun x => x) rfl
theorem gB_true {L : Bool} {b : Bool} : gB (.t (.sc (.bool b))) true P pol K I f L d op r Q e h = brG b P pol K I f L d op r Q e h := by simp [gB]
theorem gB_false {L : Bool} {b : Bool} : gB (.t (.sc (.bool b))) false P pol K I f L d op r Q e h = brG (!b) P pol K I f L d op r Q e h := by cases b <;> simp [gB]
theorem gB_undef {L : Bool} {w : Bool} : gB (.t (.sc undef)) w P pol K I f L d op r Q e h = wo P pol K I f L r Q (upd e d (.t (.sc undef))) h := (fun x => x) rfl
theorem brG_intro {L : Bool} {c : Bool} (h1 : c = true → oB (resStep pol K I f d h (iStep P pol f e h op)) (opsK P pol K I f L d r Q e h)) (h2 : c = false → wo P pol K I f L r Q (upd e d (.t (.sc undef))) h) : brG c P pol K I f L d op r Q e h := by
  cases c with
  | true => exact h1 rfl
  | false => exact h2 rfl

section
variable {R : Xit → FEnv → Heap → Prop} {a b c : C}

def normK (R : Xit → FEnv → Heap → Prop) (e : FEnv) (h : Heap) : Prop := R .normal e h
theorem normK_app : normK R e h = R .normal e h := (fun x => x) rfl

/-- Code, in the form that is walked. -/
def wc (P : Program) (pol : Pol) (K : Oracle) (I : Inl) (n : Nat) (f : FuncId) (c : C) (R : Xit → FEnv → Heap → Prop) (e : FEnv) (h : Heap) : Prop := wpC P pol K I n f c R e h

/-- What comes behind a first part. -/
def seqK (Y : FEnv → Heap → Prop) (R : Xit → FEnv → Heap → Prop) : Xit → FEnv → Heap → Prop := fun x e h => match x with
  | .normal => Y e h
  | .exit id => R (.exit id) e h
  | .ret => R .ret e h
theorem seqK_normal {Y : FEnv → Heap → Prop} : seqK Y R .normal e h = Y e h := (fun x => x) rfl
theorem seqK_exit {Y : FEnv → Heap → Prop} {id : Nat} : seqK Y R (.exit id) e h = R (.exit id) e h := (fun x => x) rfl
theorem seqK_ret {Y : FEnv → Heap → Prop} : seqK Y R .ret e h = R .ret e h := (fun x => x) rfl

/-- What comes behind a block. -/
def blkK (id : Nat) (R : Xit → FEnv → Heap → Prop) : Xit → FEnv → Heap → Prop := fun x e h => match x with
  | .exit j => if j = id then R .normal e h else R (.exit j) e h
  | .normal => R .normal e h
  | .ret => R .ret e h
theorem blkK_normal {id : Nat} : blkK id R .normal e h = R .normal e h := (fun x => x) rfl
theorem blkK_ret {id : Nat} : blkK id R .ret e h = R .ret e h := (fun x => x) rfl
theorem blkK_exit {id j : Nat} : blkK id R (.exit j) e h = if j = id then R .normal e h else R (.exit j) e h := (fun x => x) rfl

/-- What comes behind a round. -/
def itK (n0 : Nat) (Y : FEnv → Heap → Prop) (R : Xit → FEnv → Heap → Prop) : Xit → FEnv → Heap → Prop := fun x e h => match x with
  | .normal => hB (shrinkF n0 e h) Y
  | .exit id => R (.exit id) e h
  | .ret => R .ret e h
theorem itK_normal {n0 : Nat} {Y : FEnv → Heap → Prop} : itK n0 Y R .normal e h = hB (shrinkF n0 e h) Y := (fun x => x) rfl
theorem itK_exit {n0 : Nat} {Y : FEnv → Heap → Prop} {id : Nat} : itK n0 Y R (.exit id) e h = R (.exit id) e h := (fun x => x) rfl
theorem itK_ret {n0 : Nat} {Y : FEnv → Heap → Prop} : itK n0 Y R .ret e h = R .ret e h := (fun x => x) rfl

/-- A branch, its condition c. -/
def brC (c : Bool) (P : Program) (pol : Pol) (K : Oracle) (I : Inl) (n : Nat) (f : FuncId) (a b : C) (R : Xit → FEnv → Heap → Prop) (e : FEnv) (h : Heap) : Prop :=
  if c then wc P pol K I n f a R e h else wc P pol K I n f b R e h
def cB (v : AV) (P : Program) (pol : Pol) (K : Oracle) (I : Inl) (n : Nat) (f : FuncId) (a b : C) (R : Xit → FEnv → Heap → Prop) (e : FEnv) (h : Heap) : Prop :=
  match v with
  | .t (.sc (.bool c)) => brC c P pol K I n f a b R e h
  | _ => False
theorem cB_bool {t : Bool} : cB (.t (.sc (.bool t))) P pol K I n f a b R e h = brC t P pol K I n f a b R e h := (fun x => x) rfl
theorem brC_true : brC true P pol K I n f a b R e h = wc P pol K I n f a R e h := (fun x => x) rfl
theorem brC_false : brC false P pol K I n f a b R e h = wc P pol K I n f b R e h := (fun x => x) rfl
theorem brC_intro {t : Bool} (h1 : t = true → wc P pol K I n f a R e h) (h2 : t = false → wc P pol K I n f b R e h) : brC t P pol K I n f a b R e h := by
  cases t with
  | true => exact h1 rfl
  | false => exact h2 rfl

theorem c_nop : wc P pol K I n f .nop R e h = R .normal e h := (fun x => x) rfl
theorem c_seq : wc P pol K I n f (.seq a b) R e h = wc P pol K I n f a (seqK (wc P pol K I n f b R) R) e h := (fun x => x) rfl
theorem c_cond {x : Src} : wc P pol K I n f (.cond x a b) R e h = cB (x.get e) P pol K I n f a b R e h := by
  simp only [wc, wpC, cB, brC]
  cases x.get e with
  | t x => cases x with
    | sc v => cases v <;> rfl
    | _ => rfl
  | _ => rfl
theorem c_block {id : Nat} : wc P pol K I n f (.block id c) R e h = wc P pol K I n f c (blkK id R) e h := (fun x => x) rfl
theorem c_loop {live : Option (List Tmp)} : wc P pol K I n f (.loop live c) R e h = wpIter h.length live (wc P pol K I n f c) R n e h := (fun x => x) rfl
theorem c_exit {id : Nat} : wc P pol K I n f (.exit id) R e h = R (.exit id) e h := (fun x => x) rfl
theorem c_ret : wc P pol K I n f .ret R e h = R .ret e h := (fun x => x) rfl

/-- A region: go on in its operations. -/
theorem c_ops {l : List I1} : wc P pol K I n f (.ops l) R e h = wo P pol K I f false l (normK R) e h := (wo_eq l).symm
theorem c_opsD {l : List I1} (hw : wo P pol K I f true l (normK R) e h) : wc P pol K I n f (.opsD [] l) R e h := wo_draw l (fun e h ts hh => ⟨rfl, hh⟩) hw

theorem iter_succ {n0 : Nat} {live : Option (List Tmp)} {body : (Xit → FEnv → Heap → Prop) → FEnv → Heap → Prop} {k : Nat} :
    wpIter n0 live body R (k + 1) e h = body (itK n0 (wpIter n0 live body R k) R) (tidyF live e) h := by
  simp only [wpIter]
  congr 1

/-- One round: what comes behind it is named Y. -/
theorem iter_go {n0 : Nat} {live : Option (List Tmp)} {body : (Xit → FEnv → Heap → Prop) → FEnv → Heap → Prop} {k : Nat} (hk : 0 < k)
    (hb : ∀ Y, Y = wpIter n0 live body R (k - 1) → body (itK n0 Y R) (tidyF live e) h) : wpIter n0 live body R k e h := by
  obtain ⟨m, rfl⟩ : ∃ m, k = m + 1 := ⟨k - 1, by omega⟩
  rw [iter_succ]
  exact hb _ rfl

theorem tidy_some {ts : List Tmp} {t : Nat} : tidyF (some ts) e t = if ts.contains t then e t else .dead := (fun x => x) rfl
theorem shrink_same {n0 : Nat} (hl : h.length ≤ n0) : shrinkF n0 e h = some (e, h) := by simp [shrinkF, hl]

end

/-- The end of a function. -/
def rsK (Q : AV → Heap → Prop) (h : Heap) (vs : List AV) : Prop := Q (one vs) h
theorem rsK_app {Q : AV → Heap → Prop} {vs : List AV} : rsK Q h vs = Q (one vs) h := (fun x => x) rfl
def endK (rs : List (Nat × Option (Bool × Nat))) (Q : AV → Heap → Prop) : Xit → FEnv → Heap → Prop := fun x e h => match x with
  | .exit _ => False
  | _ => match resF e h rs with
    | some vs => Q (one vs) h
    | none => False
theorem endK_ret {rs : List (Nat × Option (Bool × Nat))} {Q : AV → Heap → Prop} : endK rs Q .ret e h = vB (resF e h rs) (rsK Q h) := by simp only [endK, vB, rsK]
theorem endK_normal {rs : List (Nat × Option (Bool × Nat))} {Q : AV → Heap → Prop} : endK rs Q .normal e h = vB (resF e h rs) (rsK Q h) := by simp only [endK, vB, rsK]
theorem fn_wp {F : FnIL} {args : List AV} {Q : AV → Heap → Prop} : wpFn P pol K I m f F args h Q = wc P pol K I m f F.code (endK F.results Q) (envOf args) h := (fun x => x) rfl

theorem res_nil : resF e h [] = some [] := (fun x => x) rfl
theorem res_tmp {t : Nat} {l : List (Nat × Option (Bool × Nat))} {vs : List AV} (hl : resF e h l = some vs) : resF e h ((t, none) :: l) = some (e t :: vs) := by simp [resF, hl]
theorem res_cell {t k : Nat} {b : Bool} {v : AV} {l : List (Nat × Option (Bool × Nat))} {vs : List AV} (hv : iLoad b k (e t) h = some v) (hl : resF e h l = some vs) : resF e h ((t, some (b, k)) :: l) = some (v :: vs) := by simp [resF, hl, hv]
theorem one_one (v : AV) : one [v] = v := (fun x => x) rfl
theorem one_two (v w : AV) (l : List AV) : one (v :: w :: l) = mkTup (v :: w :: l) := (fun x => x) rfl
theorem snap_tree (x : T) : snap h allObj 20 (.t x) = some x := (fun x => x) rfl

theorem rs_val (v : AV) (h' : Heap) : resStep pol K I f d h (some (.val v h')) = some (v, h') := (fun x => x) rfl
theorem rs_skip (h' : Heap) : resStep pol K I f d h (some (.skip h')) = some (.t (.sc undef), h') := (fun x => x) rfl
theorem rs_call (g : Tgt) (args : List AV) : resStep pol K I f d h (some (.call g args)) = aCall pol K I f (d.getD 0) g args h := (fun x => x) rfl

theorem v_some (v : AV) : vOf h (some v) = some (.val v h) := (fun x => x) rfl
theorem h_some (h' : Heap) : hOf (some h') = some (.skip h') := (fun x => x) rfl
theorem vh_some (v : AV) (h' : Heap) : vhOf (some (v, h')) = some (.val v h') := (fun x => x) rfl

theorem bin_add {bl : Bool} {k : IntKind} {x y : Int} : iBin .add bl (.t (.sc (.int k x))) (.t (.sc (.int k y))) = some (.t (.sc (.int k (k.wrap (x + y))))) := by simp [iBin]
theorem bin_sub {bl : Bool} {k : IntKind} {x y : Int} : iBin .sub bl (.t (.sc (.int k x))) (.t (.sc (.int k y))) = some (.t (.sc (.int k (k.wrap (x - y))))) := by simp [iBin]
theorem bin_mul {bl : Bool} {k : IntKind} {x y : Int} : iBin .mul bl (.t (.sc (.int k x))) (.t (.sc (.int k y))) = some (.t (.sc (.int k (k.wrap (x * y))))) := by simp [iBin]
theorem bin_eql {bl : Bool} {k : IntKind} {x y : Int} : iBin .eql bl (.t (.sc (.int k x))) (.t (.sc (.int k y))) = some (.t (.sc (.bool (decide (x = y))))) := by simp [iBin, bo]
theorem bin_neq {bl : Bool} {k : IntKind} {x y : Int} : iBin .neq bl (.t (.sc (.int k x))) (.t (.sc (.int k y))) = some (.t (.sc (.bool (!decide (x = y))))) := by simp [iBin, bo]
theorem bin_lss {bl : Bool} {k : IntKind} {x y : Int} : iBin .lss bl (.t (.sc (.int k x))) (.t (.sc (.int k y))) = some (.t (.sc (.bool (decide (x < y))))) := by simp [iBin, bo]
theorem bin_leq {bl : Bool} {k : IntKind} {x y : Int} : iBin .leq bl (.t (.sc (.int k x))) (.t (.sc (.int k y))) = some (.t (.sc (.bool (decide (x ≤ y))))) := by simp [iBin, bo]
theorem bin_gtr {bl : Bool} {k : IntKind} {x y : Int} : iBin .gtr bl (.t (.sc (.int k x))) (.t (.sc (.int k y))) = some (.t (.sc (.bool (decide (y < x))))) := by simp [iBin, bo]
theorem bin_geq {bl : Bool} {k : IntKind} {x y : Int} : iBin .geq bl (.t (.sc (.int k x))) (.t (.sc (.int k y))) = some (.t (.sc (.bool (decide (y ≤ x))))) := by simp [iBin, bo]
theorem bin_beq {x y : Bool} : iBin .eql true (.t (.sc (.bool x))) (.t (.sc (.bool y))) = some (.t (.sc (.bool (x == y)))) := by simp [iBin, bo]
theorem bin_bne {x y : Bool} : iBin .neq true (.t (.sc (.bool x))) (.t (.sc (.bool y))) = some (.t (.sc (.bool (x != y)))) := by simp [iBin, bo]
theorem bin_rem {bl : Bool} {k : IntKind} {x y : Int} : iBin .rem bl (.t (.sc (.int k x))) (.t (.sc (.int k y))) = if y = 0 then none else some (.t (.sc (.int k (x.tmod y)))) := by simp [iBin]
theorem bin_quo {bl : Bool} {k : IntKind} {x y : Int} : iBin .quo bl (.t (.sc (.int k x))) (.t (.sc (.int k y))) = if y = 0 then none else some (.t (.sc (.int k (k.wrap (x.tdiv y))))) := by simp [iBin]
theorem bin_shl {bl : Bool} {k k' : IntKind} {x y : Int} : iBin .shl bl (.t (.sc (.int k x))) (.t (.sc (.int k' y))) = if y < 0 then none else some (.t (.sc (.int k (k.wrap (x * 2 ^ (min y.toNat k.bits)))))) := by simp [iBin]
theorem bin_shr {bl : Bool} {k k' : IntKind} {x y : Int} : iBin .shr bl (.t (.sc (.int k x))) (.t (.sc (.int k' y))) = if y < 0 then none else some (.t (.sc (.int k (x.fdiv (2 ^ (min y.toNat k.bits)))))) := by simp [iBin]
theorem bin_and {bl : Bool} {k : IntKind} {x y : Int} : iBin .and bl (.t (.sc (.int k x))) (.t (.sc (.int k y))) = some (.t (.sc (.int k (k.wrap (BitVec.ofInt k.bits x &&& BitVec.ofInt k.bits y).toNat)))) := by simp [iBin]
theorem bin_or {bl : Bool} {k : IntKind} {x y : Int} : iBin .or bl (.t (.sc (.int k x))) (.t (.sc (.int k y))) = some (.t (.sc (.int k (k.wrap (BitVec.ofInt k.bits x ||| BitVec.ofInt k.bits y).toNat)))) := by simp [iBin]
theorem bin_xor {bl : Bool} {k : IntKind} {x y : Int} : iBin .xor bl (.t (.sc (.int k x))) (.t (.sc (.int k y))) = some (.t (.sc (.int k (k.wrap (BitVec.ofInt k.bits x ^^^ BitVec.ofInt k.bits y).toNat)))) := by simp [iBin]
theorem bin_andNot {bl : Bool} {k : IntKind} {x y : Int} : iBin .andNot bl (.t (.sc (.int k x))) (.t (.sc (.int k y))) = some (.t (.sc (.int k (k.wrap (BitVec.ofInt k.bits x &&& ~~~ BitVec.ofInt k.bits y).toNat)))) := by simp [iBin]
theorem bin_seq {bl : Bool} {x y : ByteArray} : iBin .eql bl (.t (.sc (.string x))) (.t (.sc (.string y))) = some (.t (.sc (.bool (x.toList == y.toList)))) := by simp [iBin, bo]
theorem bin_sne {bl : Bool} {x y : ByteArray} : iBin .neq bl (.t (.sc (.string x))) (.t (.sc (.string y))) = some (.t (.sc (.bool (!(x.toList == y.toList))))) := by simp [iBin, bo]

theorem not_bool (b : Bool) : iNot (.t (.sc (.bool b))) = some (.t (.sc (.bool !b))) := (fun x => x) rfl
theorem neg_int {k : IntKind} {x : Int} : iNeg (.t (.sc (.int k x))) = some (.t (.sc (.int k (k.wrap (0 - x))))) := (fun x => x) rfl
theorem conv_int {k k' : IntKind} {x : Int} : iConv k (.t (.sc (.int k' x))) = some (.t (.sc (.int k (k.wrap x)))) := (fun x => x) rfl
theorem pick_bool {c x y : Bool} : iPick (.t (.sc (.bool c))) (.t (.sc (.bool x))) (.t (.sc (.bool y))) = some (.t (.sc (.bool (if c then x else y)))) := (fun x => x) rfl
theorem pick_true {x y : AV} : iPick (.t (.sc (.bool true))) x y = some x := by simp only [iPick]; split <;> simp_all [bo]
theorem pick_false {x y : AV} : iPick (.t (.sc (.bool false))) x y = some y := by simp only [iPick]; split <;> simp_all [bo]

theorem load_ip {b : Bool} {k : Nat} {cs : List T} : iLoad b k (.t (.ip cs)) h = (takeRT b k cs).map .t := by simp only [iLoad]; cases takeRT b k cs <;> rfl
theorem load_ref {b : Bool} {k o i off q : Nat} : iLoad b k (.ref o q i off) h = (rowAt h o q i).bind (fun v => takeR b k (v.cells.drop off)) := by simp only [iLoad]; cases rowAt h o q i <;> rfl
theorem takeRT_agg {k : Nat} {cs : List T} : takeRT true k cs = if k ≤ cs.length then some (.agg (cs.take k)) else none := (fun x => x) rfl
theorem takeRT_one {k : Nat} {cs : List T} : takeRT false k cs = cs.head? := (fun x => x) rfl
theorem takeR_agg {k : Nat} {cs : List AV} : takeR true k cs = if k ≤ cs.length then some (mkAgg (cs.take k)) else none := (fun x => x) rfl
theorem takeR_one {k : Nat} {cs : List AV} : takeR false k cs = cs.head? := (fun x => x) rfl
theorem fa_ip {off : Nat} {cs : List T} : iFieldAddr off (.t (.ip cs)) = some (.t (.ip (cs.drop off))) := (fun x => x) rfl
theorem fa_ref {off o q i k : Nat} : iFieldAddr off (.ref o q i k) = some (.ref o q i (k + off)) := (fun x => x) rfl
theorem cells_agg (cs : List T) : (AV.t (.agg cs)).cells = cs.map .t := (fun x => x) rfl
theorem cells_sc (v : Value) : (AV.t (.sc v)).cells = [.t (.sc v)] := (fun x => x) rfl
theorem cells_sl (c : Bool) (k : Nat) (xs : List T) : (AV.t (.sl c k xs)).cells = [.t (.sl c k xs)] := (fun x => x) rfl
theorem cells_ms {o q i l k : Nat} {c : Bool} : (AV.ms o q i l k c).cells = [.ms o q i l k c] := (fun x => x) rfl
theorem cells_agg' (cs : List AV) : (AV.agg cs).cells = cs := (fun x => x) rfl
theorem tcells_agg (cs : List T) : (T.agg cs).cells = cs := (fun x => x) rfl
theorem tcells_sc (v : Value) : (T.sc v).cells = [.sc v] := (fun x => x) rfl
theorem tcells_sl (c : Bool) (k : Nat) (xs : List T) : (T.sl c k xs).cells = [.sl c k xs] := (fun x => x) rfl


/-! ### Calls -/

def kB (h : Heap) : Option T → Option (AV × Heap)
  | some r => some (.t r, h)
  | none => none
theorem kB_some (r : T) : kB h (some r) = some (.t r, h) := (fun x => x) rfl

/-- A call whose arguments are trees, or are read as trees. -/
def callT (K : Oracle) (I : Inl) (g : FuncId) (args : List AV) (h : Heap) : Option (List T) → Option (AV × Heap)
  | some ts => kB h (K g ts)
  | none => match mapO (snap h allObj 20) args with
    | some ts => match K g ts with | some r => if r.plain then some (.t r, h) else none | none => none
    | none => I (.fn g) args h
theorem callT_some {g : FuncId} {args : List AV} {ts : List T} : callT K I g args h (some ts) = kB h (K g ts) := (fun x => x) rfl
theorem call_fn {g at_ : FuncId} {t : Tmp} {args : List AV} (hi : pol.inl g at_ t = false) : aCall pol K I at_ t (.fn g) args h = callT K I g args h (allT args) := by
  unfold aCall callT
  simp only [hi, Bool.false_eq_true, if_false]
  cases allT args with
  | none => rfl
  | some ts => cases K g ts <;> rfl
theorem call_inl {g at_ : FuncId} {t : Tmp} {args : List AV} (hi : pol.inl g at_ t = true) : aCall pol K I at_ t (.fn g) args h = I (.fn g) args h := by
  unfold aCall
  simp only [hi, if_true]
theorem call_yl {o : Nat} {at_ : FuncId} {t : Tmp} {args : List AV} : aCall pol K I at_ t (.yl o) args h = I (.yl o) args h := (fun x => x) rfl

def consO (x : T) : Option (List T) → Option (List T)
  | some xs => some (x :: xs)
  | none => none
theorem consO_some (x : T) (xs : List T) : consO x (some xs) = some (x :: xs) := (fun x => x) rfl
theorem allT_nil : allT [] = some [] := (fun x => x) rfl
theorem allT_t (x : T) (r : List AV) : allT (.t x :: r) = consO x (allT r) := by simp only [allT]; cases allT r <;> rfl
theorem allT_ref {o q i k : Nat} {r : List AV} : allT (.ref o q i k :: r) = none := (fun x => x) rfl
theorem allT_ms {o q i l k : Nat} {c : Bool} {r : List AV} : allT (.ms o q i l k c :: r) = none := (fun x => x) rfl
theorem allT_mp {o : Nat} {r : List AV} : allT (.mp o :: r) = none := (fun x => x) rfl
theorem consO_none (x : T) : consO x none = none := (fun x => x) rfl
theorem callee_fn {k : FuncId} {a b : List T} {args : List AV} : aCallee (.t (.fn (.func k) a b)) args = some (.call (.fn k) (a.map .t ++ args ++ b.map .t)) := (fun x => x) rfl
theorem callee_fn' {k : FuncId} {a b : List AV} {args : List AV} : aCallee (.fn (.func k) a b) args = some (.call (.fn k) (a ++ args ++ b)) := (fun x => x) rfl
theorem callee_yl {o : Nat} {args : List AV} : aCallee (.yl o) args = some (.call (.yl o) args) := (fun x => x) rfl

def aggO (cs : List AV) : Option (List T) → AV
  | some ts => .t (.agg ts)
  | none => .agg cs
theorem mkAgg_eq (cs : List AV) : mkAgg cs = aggO cs (allT cs) := by unfold mkAgg aggO; cases allT cs <;> rfl
theorem aggO_some (cs : List AV) (ts : List T) : aggO cs (some ts) = .t (.agg ts) := (fun x => x) rfl
theorem aggO_none (cs : List AV) : aggO cs none = .agg cs := (fun x => x) rfl
def tupO (cs : List AV) : Option (List T) → AV
  | some ts => .t (.tup ts)
  | none => .tup cs
theorem mkTup_eq (cs : List AV) : mkTup cs = tupO cs (allT cs) := by unfold mkTup tupO; cases allT cs <;> rfl
theorem tupO_some (cs : List AV) (ts : List T) : tupO cs (some ts) = .t (.tup ts) := (fun x => x) rfl
theorem tupO_none (cs : List AV) : tupO cs none = .tup cs := (fun x => x) rfl
theorem ext_tup (vs : List T) (i : Nat) : iExt (.t (.tup vs)) i = (vs[i]?).map .t := by simp only [iExt]; cases vs[i]? <;> rfl
theorem ext_tup' (vs : List AV) (i : Nat) : iExt (.tup vs) i = vs[i]? := (fun x => x) rfl

/-! ### Slices and cells -/

theorem len_sl {c : Bool} {k : Nat} {xs : List T} : iLen (.t (.sl c k xs)) = some (.t (.sc (.int .i64 xs.length))) := (fun x => x) rfl
theorem len_nil : iLen (.t (.sc (.slice none 0 0))) = some (.t (.sc (.int .i64 0))) := (fun x => x) rfl
theorem len_ms {o q i l k : Nat} {c : Bool} : iLen (.ms o q i l k c) = some (.t (.sc (.int .i64 l))) := (fun x => x) rfl
theorem asNat_int {k : IntKind} {n : Int} (hn : 0 ≤ n) : asNat (.t (.sc (.int k n))) = some n.toNat := by simp [asNat, hn]
theorem asNat_cast {k : IntKind} {n : Nat} : asNat (.t (.sc (.int k n))) = some n := by simp [asNat]
theorem idx_sl {size : Nat} {c : Bool} {xs : List T} {j : Nat} {v : T} (hv : xs[j]? = some v) : iIdxS size (.t (.sl c size xs)) j = some (.t (.ip v.cells)) := by simp [iIdxS, hv]
theorem idx_ms {o q i l k j : Nat} {c : Bool} (hj : j < l) : iIdxS k (.ms o q i l k c) j = some (.ref o q (i + j) 0) := by simp [iIdxS, hj]
theorem row_at {o q i k mr : Nat} {es : List AV} (ho : h[o]? = some (.row k es mr)) (h1 : mr ≤ q) (h2 : i < q) (h3 : q ≤ es.length) : rowAt h o q i = es[i]? := by simp [rowAt, ho, h1, h2, h3]


/-! ### Marks: where the walk forgets what is not read any more -/

def mkC (_ : List Nat) (c : C) : C := c
def mkL (_ : List Nat) (l : List I1) : List I1 := l

def updL (e e0 : FEnv) : List Nat → FEnv
  | [] => e0
  | t :: ts => upd (updL e e0 ts) (some t) (e t)
theorem updL_nil {e0 : FEnv} : updL e e0 [] = e0 := (fun x => x) rfl
theorem updL_cons {e0 : FEnv} {t : Nat} {ts : List Nat} : updL e e0 (t :: ts) = upd (updL e e0 ts) (some t) (e t) := (fun x => x) rfl
theorem updL_self (ts : List Nat) : updL e e ts = e := by
  induction ts with
  | nil => rfl
  | cons t ts ih =>
    rw [updL_cons, ih]
    funext s
    simp only [upd]
    split
    · rename_i h; rw [h]
    · rfl
theorem mkC_go {ts : List Nat} {c : C} {R : Xit → FEnv → Heap → Prop} (hw : ∀ e0, wc P pol K I n f c R (updL e e0 ts) h) : wc P pol K I n f (mkC ts c) R e h := by
  have := hw e
  rwa [updL_self] at this
theorem mkL_go {L : Bool} {ts : List Nat} (hw : ∀ e0, wo P pol K I f L r Q (updL e e0 ts) h) : wo P pol K I f L (mkL ts r) Q e h := by
  have := hw e
  rwa [updL_self] at this


/-! ### The operations, one rule each -/

theorem is_mv {x : Src} : iStep P pol f e h (.mv x) = some (.val (x.get e) h) := (fun x => x) rfl
theorem is_gmv {size : Nat} {x : Src} : iStep P pol f e h (.gmv size x) = some (iGrow size (x.get e) h) := (fun x => x) rfl
theorem is_pk {c a b : Src} : iStep P pol f e h (.pk c a b) = vOf h (iPick (c.get e) (a.get e) (b.get e)) := (fun x => x) rfl
theorem is_nw {k : Nat} {z : T} : iStep P pol f e h (.nw k z) = some (.val (.ref h.length 1 0 0) (h ++ [.row k [.t z] 0])) := (fun x => x) rfl
theorem is_nwG {size : Nat} : iStep P pol f e h (.nwG size) = some (.val (.ref (h.length + 1) 1 0 0) (h ++ [.row size [] 0, .row 1 [.ms h.length 0 0 0 size false] 0])) := (fun x => x) rfl
theorem is_bx {m : Bool} {x : Src} : iStep P pol f e h (.bx m x) = iBox m (x.get e) h := (fun x => x) rfl
theorem is_bd {cs : List T} {parts : List (Nat × Nat × Src)} : iStep P pol f e h (.bd cs parts) = vOf h (iBuild cs (parts3 e parts)) := (fun x => x) rfl
theorem is_bs {m : Bool} {size len : Nat} {z : T} {parts : List (Nat × Src)} : iStep P pol f e h (.bs m size z len parts) = iBuildS m size z len (parts2 e parts) h := (fun x => x) rfl
theorem is_ld {agg : Bool} {k : Nat} {a : Src} : iStep P pol f e h (.ld agg k a) = vOf h (iLoad agg k (a.get e) h) := (fun x => x) rfl
theorem is_st {k : Nat} {a x : Src} : iStep P pol f e h (.st k a x) = hOf (iStore k (a.get e) (x.get e) h) := (fun x => x) rfl
theorem is_nc {x : Src} : iStep P pol f e h (.nc x) = vOf h (iNil (x.get e)) := (fun x => x) rfl
theorem is_bin {o : BinOp} {bl : Bool} {x y : Src} : iStep P pol f e h (.bin o bl x y) = vOf h (iBin o bl (x.get e) (y.get e)) := (fun x => x) rfl
theorem is_nt {x : Src} : iStep P pol f e h (.nt x) = vOf h (iNot (x.get e)) := (fun x => x) rfl
theorem is_ng {x : Src} : iStep P pol f e h (.ng x) = vOf h (iNeg (x.get e)) := (fun x => x) rfl
theorem is_cv {k : IntKind} {x : Src} : iStep P pol f e h (.cv k x) = vOf h (iConv k (x.get e)) := (fun x => x) rfl
theorem is_fn {g : FuncId} {a b : List Src} : iStep P pol f e h (.fn g a b) = some (.val (iFn g (srcs e a) (srcs e b)) h) := (fun x => x) rfl
theorem is_sl {size : Nat} {x : Src} {lo hi mx : Option Src} : iStep P pol f e h (.sl size x lo hi mx) = vOf h (iSlice size (x.get e) (optSrc e lo) (optSrc e hi) (optSrc e mx)) := (fun x => x) rfl
theorem is_fa {off : Nat} {x : Src} : iStep P pol f e h (.fa off x) = vOf h (iFieldAddr off (x.get e)) := (fun x => x) rfl
theorem is_fd {agg : Bool} {k off : Nat} {x : Src} : iStep P pol f e h (.fd agg k off x) = vOf h (iFld agg k off (x.get e)) := (fun x => x) rfl
def idxS (size : Nat) (x : AV) (h : Heap) : Option Nat → Option Res
  | some j => vOf h (iIdxS size x j)
  | none => none
theorem idxS_some {size : Nat} {x : AV} {j : Nat} : idxS size x h (some j) = vOf h (iIdxS size x j) := (fun x => x) rfl
theorem is_iaS {size : Nat} {x i : Src} : iStep P pol f e h (.iaS size x i) = idxS size (x.get e) h (asNat (i.get e)) := by
  simp only [iStep, idxS]
  cases asNat (i.get e) <;> rfl
def idxA (len size : Nat) (x : AV) (h : Heap) : Option Nat → Option Res
  | some j => vOf h (iIdxA len size x j)
  | none => none
theorem idxA_some {len size : Nat} {x : AV} {j : Nat} : idxA len size x h (some j) = vOf h (iIdxA len size x j) := (fun x => x) rfl
theorem is_iaA {len size : Nat} {x i : Src} : iStep P pol f e h (.iaA len size x i) = idxA len size (x.get e) h (asNat (i.get e)) := by
  simp only [iStep, idxA]
  cases asNat (i.get e) <;> rfl
def ixA (agg : Bool) (k len size : Nat) (x : AV) (h : Heap) : Option Nat → Option Res
  | some j => if x.isAgg then (if j < len then vOf h (takeR agg k (x.cells.drop (j * size))) else none) else none
  | none => none
theorem ixA_some {agg : Bool} {k len size : Nat} {x : AV} {j : Nat} : ixA agg k len size x h (some j) = if x.isAgg then (if j < len then vOf h (takeR agg k (x.cells.drop (j * size))) else none) else none := (fun x => x) rfl
theorem is_ixA {agg : Bool} {k len size : Nat} {x i : Src} : iStep P pol f e h (.ixA agg k len size x i) = ixA agg k len size (x.get e) h (asNat (i.get e)) := by
  simp only [iStep, ixA]
  cases asNat (i.get e) <;> rfl
theorem is_ex {x : Src} {i : Nat} : iStep P pol f e h (.ex x i) = vOf h (iExt (x.get e) i) := (fun x => x) rfl
theorem is_len {x : Src} : iStep P pol f e h (.lenS x) = vOf h (iLen (x.get e)) := (fun x => x) rfl
theorem is_app {size bytes : Nat} {s x : Src} : iStep P pol f e h (.app size bytes s x) = vhOf (iAppend size bytes (s.get e) (x.get e) h) := (fun x => x) rfl
theorem is_mnx {mx : Bool} {x y : Src} : iStep P pol f e h (.mnx mx x y) = vOf h (iMnx mx (x.get e) (y.get e)) := (fun x => x) rfl
theorem is_call {g : Src} {args : List Src} : iStep P pol f e h (.call g args) = aCallee (g.get e) (srcs e args) := (fun x => x) rfl
theorem is_raw {o : Oper} : iStep P pol f e h (.raw o) = aOp P pol f (rhoF pol e) h o := (fun x => x) rfl

theorem srcs_nil : srcs e [] = [] := (fun x => x) rfl
theorem srcs_cons {x : Src} {l : List Src} : srcs e (x :: l) = x.get e :: srcs e l := (fun x => x) rfl
theorem parts2_nil : parts2 e [] = [] := (fun x => x) rfl
theorem parts2_cons {i : Nat} {x : Src} {l : List (Nat × Src)} : parts2 e ((i, x) :: l) = (i, x.get e) :: parts2 e l := (fun x => x) rfl
theorem parts3_nil : parts3 e [] = [] := (fun x => x) rfl
theorem parts3_cons {i k : Nat} {x : Src} {l : List (Nat × Nat × Src)} : parts3 e ((i, k, x) :: l) = (i, k, x.get e) :: parts3 e l := (fun x => x) rfl
theorem optSrc_none : optSrc e none = none := (fun x => x) rfl
theorem optSrc_some {x : Src} : optSrc e (some x) = some (x.get e) := (fun x => x) rfl
def consA (v : AV) : Option (List AV) → Option (List AV)
  | some l => some (v :: l)
  | none => none
theorem consA_some {v : AV} {l : List AV} : consA v (some l) = some (v :: l) := (fun x => x) rfl
def consR (rest : Option (List AV)) : Option AV → Option (List AV)
  | some v => consA v rest
  | none => none
theorem consR_some {v : AV} {l : Option (List AV)} : consR l (some v) = consA v l := (fun x => x) rfl
theorem resF_nil : resF e h [] = some [] := (fun x => x) rfl
theorem resF_tmp {t : Nat} {l : List (Nat × Option (Bool × Nat))} : resF e h ((t, none) :: l) = consA (e t) (resF e h l) := by
  simp only [resF]
  cases resF e h l <;> rfl
theorem resF_cell {t k : Nat} {b : Bool} {l : List (Nat × Option (Bool × Nat))} : resF e h ((t, some (b, k)) :: l) = consR (resF e h l) (iLoad b k (e t) h) := by
  simp only [resF]
  cases iLoad b k (e t) h <;> cases resF e h l <;> rfl

/-- What a contract asks of the value that comes back. -/
def retQ (r : T) (v : AV) (h : Heap) : Prop := snap h allObj 20 v = some r
theorem retQ_t {r x : T} : retQ r (.t x) h = (x = r) := by simp [retQ, snap]
theorem retQ_app {r : T} {v : AV} : retQ r v h = (snap h allObj 20 v = some r) := (fun x => x) rfl

/-- A contract, by the states of the body. -/
theorem ans_go {nt : Nat} {c : C} {rs : List (Nat × Option (Bool × Nat))} {args : List T} {r : T} (n d : Nat) (hF : cFn P pol f = some ⟨nt, c, rs⟩) (hl : args.length ≤ nt)
    (hw : wc P pol (ans P pol) (inl P pol (ans P pol) n d) n f c (endK rs (retQ r)) (envOf (args.map .t)) []) : ans P pol f args = some r :=
  ans_wp n d hF hl hw

theorem inl_go {nt : Nat} {c : C} {rs : List (Nat × Option (Bool × Nat))} {args : List AV} {h : Heap} {n d : Nat} {Q : AV → Heap → Prop} (hF : cFn P pol f = some ⟨nt, c, rs⟩) (hl : args.length ≤ nt)
    (hw : wc P pol K (inl P pol K n d) n f c (endK rs Q) (envOf args) h) : ∃ v h', inl P pol K n (d + 1) (.fn f) args h = some (v, h') ∧ Q v h' := inl_wp hF hl hw

end Go.Abs
