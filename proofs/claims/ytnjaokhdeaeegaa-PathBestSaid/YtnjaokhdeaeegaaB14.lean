/- Part 14 of the proof of PathBest. -/
import Derived.Test.YtnjaokhdeaeegaaB13
set_option linter.all false
set_option maxRecDepth 100000
set_option maxHeartbeats 4000000
namespace Go.Abs
open Go
variable {α σ ρ:Type}
theorem q25:roomB=140737488355328:=(fun x=>x) rfl
def rowG (k:Nat) (enc:α→T) (l:List α):AObj:=.row k ((l.map enc).map .t) 0
theorem q26 {k:Nat} {enc:α→T} {l:List α}:rowIs k l.length (some (rowG k enc l)):=⟨rfl,by simp,by simp⟩
theorem q0V {k:Nat} {enc:α→T} {l:List α}:rowEs (some (rowG k enc l))=(l.map enc).map .t:=(fun x=>x) rfl
theorem q0W {k:Nat} {enc:α→T} {l:List α}:rowMr (some (rowG k enc l))=0:=(fun x=>x) rfl
theorem q6s {k:Nat} {enc:α→T} {l:List α} {x:α}:AObj.row k ((l.map enc).map .t++[.t (enc x)]) 0=rowG k enc (l++[x]):=by simp [rowG]
theorem q6t {k:Nat} {enc:α→T} {l:List α}:rowG k enc l=.row k ((l.map enc).map .t) 0:=(fun x=>x) rfl
theorem q0I {n k:Nat} (h:n≤1000000) (hk:k≤1000):n*k≤roomB:=by
 rw [q25]
 exact Nat.le_trans (Nat.mul_le_mul h hk) (by omega)
theorem qgJ [DecidableEq α] (a:List α):∀ (r:List α) (i:Nat) (b:List α),(∀ k,a[i+k]? = b[k]?)→r.length=b.length →
  foldC (fun i x (_:Unit)=>if a[i]? = some x then Ctl.go () else Ctl.out false) (fun _=>true) i r ()=decide (r=b):=by
 intro r
 induction r with
 | nil=>intro i b _ hl; cases b with
  | nil=>rfl
  | cons y b=>simp at hl
 | cons x r ih =>
  intro i b hk hl
  cases b with
  | nil=>simp at hl
  | cons y b =>
   have h0:=hk 0
   simp only [Nat.add_zero,List.getElem?_cons_zero] at h0
   by_cases hxy:x=y
   ·rw [q0f (s':=()) (by simp [h0,hxy]),ih (i+1) b (fun k=>by have:=hk (k+1); simp only [List.getElem?_cons_succ] at this; rw [← this]; congr 1; omega) (by simpa using hl)]
    simp [hxy]
   ·rw [q0q (r:=false) (by simp [h0]; exact fun h=>hxy h.symm)]
    simp [hxy]
end Go.Abs
