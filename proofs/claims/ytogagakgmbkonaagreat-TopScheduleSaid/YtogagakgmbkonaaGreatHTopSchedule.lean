/- TopSchedule answers true for all arguments: there is a schedule, and gate lists that serve it; or a proof that there is none, which is valid, and then no offsets at all fit; fewer streams have a schedule too. No conditions. -/
import Derived.Test.YtogagakgmbkonaaGreatS23
namespace Go.Proofs.YtogagakgmbkonaaGreat
open Go Go.Abs Go.RowKit

theorem ET{n : Nat}(h : n≤maxLen) : n<9223372036854775808 := Nat.lt_of_le_of_lt h (by decide)
theorem afd{x : T}(f : yT Tryz.prog 5 x) : ∃ a, x=gi a∧(fun a : Int => 0≤a∧a<256) a := by
  obtain⟨cF, rfl, w0⟩ := Qh (l := .int .u8) (by kernel_rfl) (by kernel_rfl) f
  exact⟨cF, rfl, vl w0⟩
theorem Oc{xs : List T}(h : ∀ y∈xs, yT Tryz.prog 5 y) : ∃ l, xs=List.map gi l∧∀ a∈l, (fun a : Int => 0≤a∧a<256) a := UO (fun y ar => afd (h y ar))
theorem dp{n m : Int}(h : 0≤n∧n<m) : ∃ k : Nat, n=(k : Nat)∧(k : Int)<m := ⟨n.toNat, by omega, by omega⟩
theorem atT{xs : List T}(h : ∀ y∈xs, yT Tryz.prog 5 y) : ∃ l : List Nat, xs=List.map (fun n => gi (n : Nat)) l∧∀ a∈l, a<256 := UO (fun y ar => by
  obtain⟨a, rfl, ae⟩ := afd (h y ar)
  obtain⟨k, rfl, an⟩ := dp ae
  exact⟨k, rfl, by omega⟩)
theorem ajA{xs : List T}(h : ∀ y∈xs, yT Tryz.prog 71 y) : ∃ l, xs=List.map zp l∧∀ a∈l, GN a := UO (fun y ar => by
  obtain⟨c, rfl, g⟩ := Qf (ls := [.bool, .bool, .int .u8, .int .u8, .int .u8, .int .u8, .int .u8, .int .u16]) (by kernel_rfl) (by kernel_rfl) (h y ar)
  obtain⟨dJ, hC, rfl, v0, g⟩ := oA g
  obtain⟨m7, a3, rfl, v1, g⟩ := oA g
  obtain⟨Oq, a7, rfl, v2, g⟩ := oA g
  obtain⟨cv, cz, rfl, iZ, g⟩ := oA g
  obtain⟨yP, eJ, rfl, v4, g⟩ := oA g
  obtain⟨c0, gD, rfl, vh, g⟩ := oA g
  obtain⟨hZ, wC, rfl, v6, g⟩ := oA g
  obtain⟨ia, wD, rfl, Wb, g⟩ := oA g
  obtain rfl := M6 g
  obtain⟨j0, rfl⟩ := v0
  obtain⟨cN, rfl⟩ := v1
  obtain⟨pb, rfl, dZ⟩ := v2
  obtain⟨aO, rfl, ag⟩ := dp (vl dZ)
  obtain⟨yf, rfl, hE⟩ := iZ
  obtain⟨ed, rfl, aJ⟩ := dp (vl hE)
  obtain⟨adt, rfl, la⟩ := v4
  obtain⟨gb, rfl, bL⟩ := dp (vl la)
  obtain⟨lV, rfl, vi⟩ := vh
  obtain⟨lT, rfl, dC⟩ := dp (vl vi)
  obtain⟨aCS, rfl, yL⟩ := v6
  obtain⟨qv, rfl, fQ⟩ := dp (vl yL)
  obtain⟨aCT, rfl, JF⟩ := Wb
  obtain⟨qw, rfl, hP⟩ := dp (aAR JF)
  exact⟨⟨j0, cN, aO, ed, gb, lT, qv, qw⟩, rfl, ⟨by simp only;omega, by simp only;omega, by simp only;omega, by simp only;omega, by simp only;omega, by simp only;omega⟩⟩)
theorem azG(xs : List T)(h : yS Tryz.prog 20 Tryz.f3.params.toList xs) : a0 Tryz.prog cX 3 xs=some (.aA (.bool true)) := by
  have av : Tryz.f3.params.toList=[24, 25, 26, 22] := by kernel_rfl
  rw[av]at h
  obtain⟨p6, nq, rfl, f0, h⟩ := KW h
  obtain⟨dW, b9, rfl, f1, h⟩ := KW h
  obtain⟨fo, b3, rfl, f2, h⟩ := KW h
  obtain⟨ps, cG, rfl, f3, h⟩ := KW h
  obtain rfl := akV h
  obtain⟨xg, rfl, gV⟩ := Qf (ls := [.int .u8, .int .u8, .aP 1 5, .aP 1 5, .aP 1 5, .aP 1 5]) (by kernel_rfl) (by kernel_rfl) f0
  obtain⟨aDp, aC1, rfl, aAg, gV⟩ := oA gV
  obtain⟨aDq, aC2, rfl, aAh, gV⟩ := oA gV
  obtain⟨aDr, aC3, rfl, aAi, gV⟩ := oA gV
  obtain⟨aDs, aC4, rfl, aAj, gV⟩ := oA gV
  obtain⟨aDt, aC5, rfl, aAk, gV⟩ := oA gV
  obtain⟨aDu, aC6, rfl, aAl, gV⟩ := oA gV
  obtain rfl := M6 gV
  obtain⟨atP, rfl, aAF⟩ := aAg
  obtain⟨atQ, rfl, aAG⟩ := aAh
  obtain⟨aCC, rfl, aso, ajO⟩ := aAi
  obtain⟨aCD, rfl, asp, ajP⟩ := aAj
  obtain⟨aCE, rfl, asq, ajQ⟩ := aAk
  obtain⟨aCF, rfl, asr, ajR⟩ := aAl
  obtain⟨cx, rfl, bB, aT⟩ := Qh (l := .aP 8 71) (by kernel_rfl) (by kernel_rfl) f1
  obtain⟨c2, rfl, c5⟩ := Qf (ls := [.int .u8, .int .u8, .int .u8]) (by kernel_rfl) (by kernel_rfl) f2
  obtain⟨aDv, aC7, rfl, aAn, c5⟩ := oA c5
  obtain⟨aDw, aC8, rfl, aAo, c5⟩ := oA c5
  obtain⟨aDx, aC9, rfl, aAp, c5⟩ := oA c5
  obtain rfl := M6 c5
  obtain⟨aCP, rfl, aAI⟩ := aAn
  obtain⟨aCQ, rfl, aAJ⟩ := aAo
  obtain⟨aCR, rfl, aAK⟩ := aAp
  obtain⟨aCG, rfl, ed, bw⟩ := Qh (l := .aP 1 5) (by kernel_rfl) (by kernel_rfl) f3
  obtain⟨cU, rfl, ag⟩ := Oc ajO
  obtain⟨dU, rfl, aJ⟩ := Oc ajP
  obtain⟨gA, rfl, bL⟩ := Oc ajQ
  obtain⟨lI, rfl, dC⟩ := Oc ajR
  obtain⟨l, rfl, ao⟩ := ajA aT
  obtain⟨a, rfl, ae⟩ := dp (vl aAI)
  obtain⟨b, rfl, ab⟩ := dp (vl aAJ)
  obtain⟨c, rfl, af⟩ := dp (vl aAK)
  obtain⟨CK, rfl, BO⟩ := atT bw
  exact azI ajG false false false false false false ⟨atP, atQ, cU, dU, gA, lI⟩ ⟨vl aAF, vl aAG, ⟨ag, ET (by simpa using(aso).1)⟩, ⟨aJ, ET (by simpa using(asp).1)⟩, ⟨bL, ET (by simpa using(asq).1)⟩, ⟨dC, ET (by simpa using(asr).1)⟩⟩ l ao (ET (by simpa using(bB).1)) a b c (by omega) (by omega) (by omega) CK BO (ET (by simpa using(ed).1))

set_option maxRecDepth 100000 in
theorem azH(os : Os)(started : os.Started)(H : Type)(enc : TypeId × Value→H) :
    ReturnsInHanded {} Tryz.checked os 3 .any (Rows.topScheduleSpec.pre6 enc Tryz.prog Tryz.f3 Rows.topScheduleRow.domain false) (Rows.topScheduleSpec.post enc Tryz.prog Tryz.f3 false true false false) := by
  refine returnsInHanded_of_change_sized (C := Tryz.checked) own started (by kernel_rfl) Tryz.func3
    (ChangeSpec.witness6 (enc := enc) (C := Tryz.checked) false ⟨#[], #[.agg #[.int .u8 0, .int .u8 0, .slice none 0 0, .slice none 0 0, .slice none 0 0, .slice none 0 0], .slice none 0 0, .agg #[.int .u8 0, .int .u8 0, .int .u8 0], .slice none 0 0], []⟩ 8 (by kernel_rfl) (by kernel_rfl) (by kernel_rfl) (by kernel_rfl)) ?_
  intro W base args ds gs before HJ hQ _ Em _
  refine asO (P := Tryz.prog) (d := 20) ayL (fun _ => rfl) laidOut (by kernel_rfl) (tb := 4) (by kernel_rfl) (by kernel_rfl) rfl (fun ds ra => ?_) azG HJ hQ Em
  have aw : Tryz.f3.params.size=4 := by kernel_rfl
  rw[aw]at ra
  match ds, ra with
  | [d0, d1, d2, d3], _ => rfl

theorem topSchedule_holds : Rows.TopScheduleSaid :=
  OpenClaim.holds_of_wide 3 Tryz.f3 rfl rfl rfl rfl rfl rfl rfl ⟨rfl, rfl, rfl, rfl, rfl⟩ rfl rfl rfl rfl rfl (by kernel_rfl) Tryz.func3 (by kernel_rfl)
    (ka (by kernel_rfl)) (by unfold Func.isWrapper;first | (rw[a6 (by decide +kernel)];kernel_rfl) | (rw[a2 (by decide +kernel)];exact⟨rfl, rfl⟩))
    (fun os started H enc _ => azH os started H enc)

end Go.Proofs.YtogagakgmbkonaaGreat
