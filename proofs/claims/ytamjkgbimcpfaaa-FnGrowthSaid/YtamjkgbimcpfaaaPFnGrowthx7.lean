/- Written by a program (a session's own form of the print): plain functions with the answers of the Go functions, and the walks that show it. Lean checks it. -/
import Derived.Test.YtamjkgbimcpfaaaPFnGrowthx0
import Derived.Test.YtamjkgbimcpfaaaPFnGrowthx1
namespace Go.Proofs.Ytamjkgbimcpfaaa.PFnGrowth
open Go.RowKit Go.Proofs.YtamjkgbimcpfaaaW.PrintWords Go.Proofs.YtamjkgbimcpfaaaW.PrintLast Go.Proofs.YtamjkgbimcpfaaaW.PrintMore
attribute [local go_sem] max2_int min2_int max_two min_two max_three min_three max_four min_four   -- for this text's walks alone
set_option linter.unusedVariables false
set_option linter.unusedSimpArgs false

/-! ### spec_l06Both: function 80 -/
def spec_l06Both.f : Nat → Int → Int → ByteArray → List ByteArray → Bool → Option (ByteArray × ByteArray × Bool)
  | 0, _, _, _, _, _ => none
  | k + 1, a0, a1, a2, l3, a4 => if a0 = a1 then (if a4 = true then (some (a2, a2, ((l3.length : Int) == 0))) else (if (l3.length : Int) = 1 then (if 0 < (l3.length : Int) then (some (rdOf ByteArray.empty l3 0, rdOf ByteArray.empty l3 0, true)) else (none)) else (some ((⟨#[]⟩ : ByteArray), (⟨#[]⟩ : ByteArray), false)))) else (if (l3.length : Int) = 0 then (some ((⟨#[]⟩ : ByteArray), (⟨#[]⟩ : ByteArray), false)) else ((spec_l06Half.f k a1).bind fun t314 => (if 0 ≤ (wrap64 ((l3.length : Int) - 1)) then (if (wrap64 ((l3.length : Int) - 1)) < (l3.length : Int) then (if (wrap64 ((l3.length : Int) - 1)) ≤ (l3.length : Int) then (if a0 ≤ t314 then ((spec_l06Both.f k a0 t314 a2 (l3.take ((wrap64 ((l3.length : Int) - 1)) : Int).toNat) a4).bind fun bt317 => ((spec_l06Node.f bt317.2.1 (rdOf ByteArray.empty l3 (wrap64 ((l3.length : Int) - 1)))).bind fun t320 => (some (bt317.1, t320, bt317.2.2)))) else ((spec_l06Both.f k (wrap64 (a0 - t314)) (wrap64 (a1 - t314)) a2 (l3.take ((wrap64 ((l3.length : Int) - 1)) : Int).toNat) false).bind fun bt321 => ((spec_l06Node.f (rdOf ByteArray.empty l3 (wrap64 ((l3.length : Int) - 1))) bt321.1).bind fun t324 => ((spec_l06Node.f (rdOf ByteArray.empty l3 (wrap64 ((l3.length : Int) - 1))) bt321.2.1).bind fun t325 => (some (t324, t325, bt321.2.2)))))) else (none)) else (none)) else (none))))
theorem spec_l06Both.mono_l : ∀ k, (∀ y0 y1 y2 y3 y4, LeO (spec_l06Both.f k y0 y1 y2 y3 y4) (spec_l06Both.f (k + 1) y0 y1 y2 y3 y4))
  | 0 => fun _ _ _ _ _ r h => by simp [spec_l06Both.f] at h
  | k + 1 => by
    have ih0 := spec_l06Both.mono_l k
    · intro y0 y1 y2 y3 y4
      unfold spec_l06Both.f
      repeat' first
      | (with_reducible exact ih0 _ _ _ _ _)
      | (with_reducible exact spec_l06Half.mono _ _)
      | (with_reducible exact LeO.refl _)
      | (with_reducible exact LeO.none _)
      | (with_reducible refine LeO.ite ?_ ?_)
      | (with_reducible refine LeO.bind ?_ (fun _ => ?_))
      | exact ih0 _ _ _ _ _
      | exact spec_l06Half.mono _ _
      | exact LeO.none _
      | refine LeO.ite ?_ ?_
      | refine LeO.bind ?_ (fun _ => ?_)
theorem spec_l06Both.mono : ∀ a0 a1 a2 a3 a4 k, LeO (spec_l06Both.f k a0 a1 a2 a3 a4) (spec_l06Both.f (k + 1) a0 a1 a2 a3 a4) := by
  intro a0 a1 a2 a3 a4 k
  have ih0 := spec_l06Both.mono_l k
  exact ih0 a0 a1 a2 a3 a4
set_option maxHeartbeats 8000000 in
set_option maxRecDepth 100000 in
theorem spec_l06Both.calls (k : Nat) : ∀ (a0 : Int) (a1 : Int) (a2 : ByteArray) (A3 : Option Addr) (c3 : Nat) (l3 : List ByteArray) (a4 : Bool) (r1 : ByteArray) (r2 : ByteArray) (r3 : Bool) (w : World) (hr3 : Kd.C Kd.string w A3 l3.length l3) (hc3 : l3.length ≤ c3) (h : spec_l06Both.f k a0 a1 a2 l3 a4 = some (r1, r2, r3)),
    Calls Try.prog 80 #[.int .i64 a0, .int .i64 a1, .string a2, .slice A3 l3.length c3, .bool a4] w fun e w' => e = .returned (.tuple #[.string r1, .string r2, .bool r3]) ∧ Below w.heap.size w w' := by
  induction k using Nat.strongRecOn with
  | _ k ih =>
  intro a0 a1 a2 A3 c3 l3 a4 r1 r2 r3 w hr3 hc3 h
  cases k with
  | zero => exact absurd h (by simp [spec_l06Both.f])
  | succ k =>
  simp only [spec_l06Both.f] at h
  have HR3 := Aside0.mk hr3
  have HC3 := Aside0.mk hc3
  clear hr3 hc3
  have HB := Aside0.mk (Below.refl w.heap.size w)
  have H : (if a0 = a1 then (if a4 = true then (some (a2, a2, ((l3.length : Int) == 0))) else (if (l3.length : Int) = 1 then (if 0 < (l3.length : Int) then (some (rdOf ByteArray.empty l3 0, rdOf ByteArray.empty l3 0, true)) else (none)) else (some ((⟨#[]⟩ : ByteArray), (⟨#[]⟩ : ByteArray), false)))) else (if (l3.length : Int) = 0 then (some ((⟨#[]⟩ : ByteArray), (⟨#[]⟩ : ByteArray), false)) else ((spec_l06Half.f k a1).bind fun t314 => (if 0 ≤ (wrap64 ((l3.length : Int) - 1)) then (if (wrap64 ((l3.length : Int) - 1)) < (l3.length : Int) then (if (wrap64 ((l3.length : Int) - 1)) ≤ (l3.length : Int) then (if a0 ≤ t314 then ((spec_l06Both.f k a0 t314 a2 (l3.take ((wrap64 ((l3.length : Int) - 1)) : Int).toNat) a4).bind fun bt317 => ((spec_l06Node.f bt317.2.1 (rdOf ByteArray.empty l3 (wrap64 ((l3.length : Int) - 1)))).bind fun t320 => (some (bt317.1, t320, bt317.2.2)))) else ((spec_l06Both.f k (wrap64 (a0 - t314)) (wrap64 (a1 - t314)) a2 (l3.take ((wrap64 ((l3.length : Int) - 1)) : Int).toNat) false).bind fun bt321 => ((spec_l06Node.f (rdOf ByteArray.empty l3 (wrap64 ((l3.length : Int) - 1))) bt321.1).bind fun t324 => ((spec_l06Node.f (rdOf ByteArray.empty l3 (wrap64 ((l3.length : Int) - 1))) bt321.2.1).bind fun t325 => (some (t324, t325, bt321.2.2)))))) else (none)) else (none)) else (none))))) = some (r1, r2, r3) := h
  clear h
  by_cases c6 : a0 = a1
  · rw [if_pos c6] at H
    have c6b0 : (a0 == a1) = true := beq_iff_eq.mpr c6
    have c6b1 : (a0 != a1) = false := bne_eq_false_iff_eq.mpr c6
    clear c6
    by_cases c7 : a4 = true
    · subst c7
      have H1 : (some (a2, a2, ((l3.length : Int) == 0))) = some (r1, r2, r3) := by rw [if_pos rfl] at H; exact H
      clear H
      have H := H1
      clear H1
      simp only [Option.some.injEq, Prod.mk.injEq] at H
      obtain ⟨rfl, rfl, rfl⟩ := H
      go_enter Try.func80, Try.ntmps80
      go_wp2
      repeat (go_quiet (fail); try go_wp2)
      go_ret3
      exact ⟨by first | rfl | (simp [errW_none, errW_some] <;> rfl) | (simp [*, errW_none, errW_some] <;> rfl), by repeat (first | (with_reducible first | exact HB.out | apply below_alloc | apply pw_below_drewN | apply below_drew1) | exact HB.out)⟩
    · replace c7 := Bool.eq_false_iff.mpr c7
      subst c7
      have H1 : (if (l3.length : Int) = 1 then (if 0 < (l3.length : Int) then (some (rdOf ByteArray.empty l3 0, rdOf ByteArray.empty l3 0, true)) else (none)) else (some ((⟨#[]⟩ : ByteArray), (⟨#[]⟩ : ByteArray), false))) = some (r1, r2, r3) := by rw [if_neg (show ¬ (false = true) by decide)] at H; exact H
      clear H
      have H := H1
      clear H1
      by_cases c8 : (l3.length : Int) = 1
      · rw [if_pos c8] at H
        have c8b0 : ((l3.length : Int) == 1) = true := beq_iff_eq.mpr c8
        have c8b1 : ((l3.length : Int) != 1) = false := bne_eq_false_iff_eq.mpr c8
        clear c8
        by_cases c9 : 0 < (l3.length : Int)
        · rw [if_pos c9] at H
          have c9b0 : decide (0 < (l3.length : Int)) = true := decide_eq_true c9
          have c9b1 : decide (0 < l3.length) = true := decide_eq_true (by omega)
          clear c9
          simp only [Option.some.injEq, Prod.mk.injEq] at H
          obtain ⟨rfl, rfl, rfl⟩ := H
          have p312 : 0 ≤ (0 : Int) := (by omega)
          have q312 : 0 < (l3.length : Int) := of_decide_eq_true (by assumption)
          obtain ⟨ad312, e312, hx312_0⟩ := Kd.at_string HR3.out 0 p312 q312
          cases e312
          have qi312 : (0 < l3.length) = True := eq_true (by omega)
          (try rw [show ((0 : Int)).toNat = 0 from rfl] at hx312_0)
          (try rw [Addr.add_zero'] at hx312_0)
          replace p312 := eq_true p312
          replace q312 := eq_true q312
          have p313 : 0 ≤ (0 : Int) := (by omega)
          have q313 : 0 < (l3.length : Int) := of_decide_eq_true (by assumption)
          obtain ⟨ad313, e313, hx313_0⟩ := Kd.at_string HR3.out 0 p313 q313
          obtain rfl : ad312 = ad313 := (by injection e313)
          have qi313 : (0 < l3.length) = True := eq_true (by omega)
          (try rw [show ((0 : Int)).toNat = 0 from rfl] at hx313_0)
          (try rw [Addr.add_zero'] at hx313_0)
          replace p313 := eq_true p313
          replace q313 := eq_true q313
          go_enter Try.func80, Try.ntmps80
          go_wp2
          repeat (go_quiet (fail); try go_wp2)
          go_ret3
          exact ⟨by first | rfl | (simp [errW_none, errW_some] <;> rfl) | (simp [*, errW_none, errW_some] <;> rfl), by repeat (first | (with_reducible first | exact HB.out | apply below_alloc | apply pw_below_drewN | apply below_drew1) | exact HB.out)⟩
        · rw [if_neg c9] at H
          exact absurd H (by simp)
      · rw [if_neg c8] at H
        have c8b0 : ((l3.length : Int) == 1) = false := beq_eq_false_iff_ne.mpr c8
        have c8b1 : ((l3.length : Int) != 1) = true := bne_iff_ne.mpr c8
        simp only [Option.some.injEq, Prod.mk.injEq] at H
        obtain ⟨rfl, rfl, rfl⟩ := H
        go_enter Try.func80, Try.ntmps80
        go_wp2
        repeat (go_quiet (fail); try go_wp2)
        go_ret3
        exact ⟨by first | rfl | (simp [errW_none, errW_some] <;> rfl) | (simp [*, errW_none, errW_some] <;> rfl), by repeat (first | (with_reducible first | exact HB.out | apply below_alloc | apply pw_below_drewN | apply below_drew1) | exact HB.out)⟩
  · rw [if_neg c6] at H
    have c6b0 : (a0 == a1) = false := beq_eq_false_iff_ne.mpr c6
    have c6b1 : (a0 != a1) = true := bne_iff_ne.mpr c6
    by_cases c10 : (l3.length : Int) = 0
    · rw [if_pos c10] at H
      have c10b0 : ((l3.length : Int) == 0) = true := beq_iff_eq.mpr c10
      have c10b1 : ((l3.length : Int) != 0) = false := bne_eq_false_iff_eq.mpr c10
      clear c10
      simp only [Option.some.injEq, Prod.mk.injEq] at H
      obtain ⟨rfl, rfl, rfl⟩ := H
      go_enter Try.func80, Try.ntmps80
      go_wp2
      repeat (go_quiet (fail); try go_wp2)
      go_ret3
      exact ⟨by first | rfl | (simp [errW_none, errW_some] <;> rfl) | (simp [*, errW_none, errW_some] <;> rfl), by repeat (first | (with_reducible first | exact HB.out | apply below_alloc | apply pw_below_drewN | apply below_drew1) | exact HB.out)⟩
    · rw [if_neg c10] at H
      have c10b0 : ((l3.length : Int) == 0) = false := beq_eq_false_iff_ne.mpr c10
      have c10b1 : ((l3.length : Int) != 0) = true := bne_iff_ne.mpr c10
      have c10b2 : ¬ (l3 = []) := fun h_ => c10 (by rw [h_]; rfl)
      replace H := Option.bind_eq_some_iff.mp H
      obtain ⟨t314, A110, H⟩ := H
      replace H : (if 0 ≤ (wrap64 ((l3.length : Int) - 1)) then (if (wrap64 ((l3.length : Int) - 1)) < (l3.length : Int) then (if (wrap64 ((l3.length : Int) - 1)) ≤ (l3.length : Int) then (if a0 ≤ t314 then ((spec_l06Both.f k a0 t314 a2 (l3.take ((wrap64 ((l3.length : Int) - 1)) : Int).toNat) a4).bind fun bt317 => ((spec_l06Node.f bt317.2.1 (rdOf ByteArray.empty l3 (wrap64 ((l3.length : Int) - 1)))).bind fun t320 => (some (bt317.1, t320, bt317.2.2)))) else ((spec_l06Both.f k (wrap64 (a0 - t314)) (wrap64 (a1 - t314)) a2 (l3.take ((wrap64 ((l3.length : Int) - 1)) : Int).toNat) false).bind fun bt321 => ((spec_l06Node.f (rdOf ByteArray.empty l3 (wrap64 ((l3.length : Int) - 1))) bt321.1).bind fun t324 => ((spec_l06Node.f (rdOf ByteArray.empty l3 (wrap64 ((l3.length : Int) - 1))) bt321.2.1).bind fun t325 => (some (t324, t325, bt321.2.2)))))) else (none)) else (none)) else (none)) = some (r1, r2, r3) := H
      have A11 := Aside0.mk A110
      clear A110
      obtain ⟨ji12, hji12⟩ : ∃ j_ : Int, (wrap64 ((l3.length : Int) - 1)) = j_ := ⟨_, rfl⟩
      replace H : (if 0 ≤ (ji12) then (if (ji12) < (l3.length : Int) then (if (ji12) ≤ (l3.length : Int) then (if a0 ≤ t314 then ((spec_l06Both.f k a0 t314 a2 (l3.take ((ji12) : Int).toNat) a4).bind fun bt317 => ((spec_l06Node.f bt317.2.1 (rdOf ByteArray.empty l3 (ji12))).bind fun t320 => (some (bt317.1, t320, bt317.2.2)))) else ((spec_l06Both.f k (wrap64 (a0 - t314)) (wrap64 (a1 - t314)) a2 (l3.take ((ji12) : Int).toNat) false).bind fun bt321 => ((spec_l06Node.f (rdOf ByteArray.empty l3 (ji12)) bt321.1).bind fun t324 => ((spec_l06Node.f (rdOf ByteArray.empty l3 (ji12)) bt321.2.1).bind fun t325 => (some (t324, t325, bt321.2.2)))))) else (none)) else (none)) else (none)) = some (r1, r2, r3) := by first | (rw [hji12] at H; exact H) | (simp only [hji12] at H ⊢; exact H)
      (try rw [hji12] at A11)
      have hji12w : (IntKind.i64.wrap ((l3.length : Int) - 1)) = ji12 := (i64_w _).trans hji12
      by_cases c13 : 0 ≤ (ji12)
      · rw [if_pos c13] at H
        have c13b0 : decide (0 ≤ (ji12)) = true := decide_eq_true c13
        clear c13
        by_cases c14 : (ji12) < (l3.length : Int)
        · rw [if_pos c14] at H
          have c14b0 : decide ((ji12) < (l3.length : Int)) = true := decide_eq_true c14
          clear c14
          have c15b0 := eq_true (of_decide_eq_true (by assumption) : 0 ≤ (ji12))
          by_cases c16 : (ji12) ≤ (l3.length : Int)
          · rw [if_pos c16] at H
            have c16b0 := eq_true c16
            have c16b1 : decide ((ji12) ≤ (l3.length : Int)) = true := decide_eq_true c16
            clear c16
            by_cases c17 : a0 ≤ t314
            · rw [if_pos c17] at H
              have c17b0 : decide (a0 ≤ t314) = true := decide_eq_true c17
              clear c17
              replace H := Option.bind_eq_some_iff.mp H
              obtain ⟨⟨t317, t318, t319⟩, A180, H⟩ := H
              replace H : ((spec_l06Node.f t318 (rdOf ByteArray.empty l3 (ji12))).bind fun t320 => (some (t317, t320, t319))) = some (r1, r2, r3) := H
              have A18 := Aside0.mk A180
              clear A180
              replace H := Option.bind_eq_some_iff.mp H
              obtain ⟨t320, A190, H⟩ := H
              replace H : (some (t317, t320, t319)) = some (r1, r2, r3) := H
              have A19 := Aside0.mk A190
              clear A190
              simp only [Option.some.injEq, Prod.mk.injEq] at H
              obtain ⟨rfl, rfl, rfl⟩ := H
              go_enter Try.func80, Try.ntmps80
              have p315 : 0 ≤ ((ji12) : Int) := of_decide_eq_true (by assumption)
              have q315 : (ji12) < (l3.length : Int) := of_decide_eq_true (by assumption)
              obtain ⟨ad315, e315, hx315_0⟩ := Kd.at_string HR3.out (ji12) p315 q315
              cases e315
              replace p315 := eq_true p315
              replace q315 := eq_true q315
              obtain ⟨i020, hi020, _, hsz20, _⟩ := info_parts info9
              obtain ⟨hcut20, hA20, hC20⟩ := print_take_of (P := Try.prog) Value.string (⟨#[]⟩ : ByteArray) 22 9 .i64 Try.underlying22 hi020 hsz20 (some ad315) c3 l3 (ji12) (of_decide_eq_true (by assumption)) (of_decide_eq_true (by assumption)) HC3.out
              have HR316 := Aside0.mk (Kd.C_of_reads (h1 := fun _ => rfl) (hA20 _ (Kd.reads_of_C HR3.out)))
              have HC316 := Aside0.mk hC20
              clear hA20 hC20 hi020 hsz20
              go_wp2_with (first | (go_at_call 113; (with_reducible refine (spec_l06Half.calls k a1 t314 _ A11.out).mono ?_); rintro e w' ⟨rfl, ⟨nd, rfl⟩⟩; (try first | exact ⟨rfl, _, World.drewN_drewN _ _ _⟩ | exact ⟨rfl, _, Eq.trans (World.drewN_drewN _ _ _) (congrArg (World.drewN _) (Nat.add_assoc _ _ _))⟩); (try (have p315 : 0 ≤ ((ji12) : Int) := of_decide_eq_true (by assumption); have q315 : (ji12) < (l3.length : Int) := of_decide_eq_true (by assumption); obtain ⟨ad315, e315, hx315_0⟩ := Kd.at_string HR3.out (ji12) p315 q315; cases e315; replace p315 := eq_true p315; replace q315 := eq_true q315; obtain ⟨i020, hi020, _, hsz20, _⟩ := info_parts info9; obtain ⟨hcut20, hA20, hC20⟩ := print_take_of (P := Try.prog) Value.string (⟨#[]⟩ : ByteArray) 22 9 .i64 Try.underlying22 hi020 hsz20 (some ad315) c3 l3 (ji12) (of_decide_eq_true (by assumption)) (of_decide_eq_true (by assumption)) HC3.out; have HR316 := Aside0.mk (Kd.C_of_reads (h1 := fun _ => rfl) (hA20 _ (Kd.reads_of_C HR3.out))); have HC316 := Aside0.mk hC20; clear hA20 hC20 hi020 hsz20))) | (go_at_call 80; (try rw [show ∀ (A_ : Option Addr) (c_ : Nat), Value.slice A_ (((ji12) : Int)).toNat c_ = Value.slice A_ (l3.take (((ji12) : Int)).toNat).length c_ from fun A_ c_ => by rw [List.length_take, Nat.min_eq_left (Int.toNat_le.2 (of_decide_eq_true (by assumption)))]]); (with_reducible refine (ih k (by omega) a0 t314 a2 _ _ (l3.take ((ji12) : Int).toNat) a4 t317 t318 t319 _ ?side1 ?side2 A18.out).mono ?_); (case side1 => repeat (first | exact HR316.out | (with_reducible refine Kd.C_alloc ?_ _) | (with_reducible refine Kd.C_drewN ?_ _) | (with_reducible refine Kd.C_drew ?_))); (case side2 => exact HC316.out); rintro e w21 ⟨rfl, hb⟩; have n0_ := Aside0.mk (below_step (by repeat (first | (with_reducible first | exact HB.out | apply below_alloc | apply pw_below_drewN | apply below_drew1) | exact HB.out)) hb); clear HB; have HB := n0_; clear n0_; (try clear hb); (try clear hb2); (try clear hk); (try clear hi)) | (go_at_call 75; (with_reducible refine (spec_l06Node.calls t318 (rdOf ByteArray.empty l3 (ji12)) t320 _ A19.out).mono ?_); rintro e w22 ⟨rfl, hb⟩; have n0_ := Aside0.mk (below_step (by repeat (first | (with_reducible first | exact HB.out | apply below_alloc | apply pw_below_drewN | apply below_drew1) | exact HB.out)) hb); clear HB; have HB := n0_; clear n0_; (try clear hb); (try clear hb2); (try clear hk); (try clear hi)))
              repeat (go_quiet (first | (go_at_call 113; (with_reducible refine (spec_l06Half.calls k a1 t314 _ A11.out).mono ?_); rintro e w' ⟨rfl, ⟨nd, rfl⟩⟩; (try first | exact ⟨rfl, _, World.drewN_drewN _ _ _⟩ | exact ⟨rfl, _, Eq.trans (World.drewN_drewN _ _ _) (congrArg (World.drewN _) (Nat.add_assoc _ _ _))⟩); (try (have p315 : 0 ≤ ((ji12) : Int) := of_decide_eq_true (by assumption); have q315 : (ji12) < (l3.length : Int) := of_decide_eq_true (by assumption); obtain ⟨ad315, e315, hx315_0⟩ := Kd.at_string HR3.out (ji12) p315 q315; cases e315; replace p315 := eq_true p315; replace q315 := eq_true q315; obtain ⟨i020, hi020, _, hsz20, _⟩ := info_parts info9; obtain ⟨hcut20, hA20, hC20⟩ := print_take_of (P := Try.prog) Value.string (⟨#[]⟩ : ByteArray) 22 9 .i64 Try.underlying22 hi020 hsz20 (some ad315) c3 l3 (ji12) (of_decide_eq_true (by assumption)) (of_decide_eq_true (by assumption)) HC3.out; have HR316 := Aside0.mk (Kd.C_of_reads (h1 := fun _ => rfl) (hA20 _ (Kd.reads_of_C HR3.out))); have HC316 := Aside0.mk hC20; clear hA20 hC20 hi020 hsz20))) | (go_at_call 80; (try rw [show ∀ (A_ : Option Addr) (c_ : Nat), Value.slice A_ (((ji12) : Int)).toNat c_ = Value.slice A_ (l3.take (((ji12) : Int)).toNat).length c_ from fun A_ c_ => by rw [List.length_take, Nat.min_eq_left (Int.toNat_le.2 (of_decide_eq_true (by assumption)))]]); (with_reducible refine (ih k (by omega) a0 t314 a2 _ _ (l3.take ((ji12) : Int).toNat) a4 t317 t318 t319 _ ?side1 ?side2 A18.out).mono ?_); (case side1 => repeat (first | exact HR316.out | (with_reducible refine Kd.C_alloc ?_ _) | (with_reducible refine Kd.C_drewN ?_ _) | (with_reducible refine Kd.C_drew ?_))); (case side2 => exact HC316.out); rintro e w21 ⟨rfl, hb⟩; have n0_ := Aside0.mk (below_step (by repeat (first | (with_reducible first | exact HB.out | apply below_alloc | apply pw_below_drewN | apply below_drew1) | exact HB.out)) hb); clear HB; have HB := n0_; clear n0_; (try clear hb); (try clear hb2); (try clear hk); (try clear hi)) | (go_at_call 75; (with_reducible refine (spec_l06Node.calls t318 (rdOf ByteArray.empty l3 (ji12)) t320 _ A19.out).mono ?_); rintro e w22 ⟨rfl, hb⟩; have n0_ := Aside0.mk (below_step (by repeat (first | (with_reducible first | exact HB.out | apply below_alloc | apply pw_below_drewN | apply below_drew1) | exact HB.out)) hb); clear HB; have HB := n0_; clear n0_; (try clear hb); (try clear hb2); (try clear hk); (try clear hi))); try go_wp2_with (first | (go_at_call 113; (with_reducible refine (spec_l06Half.calls k a1 t314 _ A11.out).mono ?_); rintro e w' ⟨rfl, ⟨nd, rfl⟩⟩; (try first | exact ⟨rfl, _, World.drewN_drewN _ _ _⟩ | exact ⟨rfl, _, Eq.trans (World.drewN_drewN _ _ _) (congrArg (World.drewN _) (Nat.add_assoc _ _ _))⟩); (try (have p315 : 0 ≤ ((ji12) : Int) := of_decide_eq_true (by assumption); have q315 : (ji12) < (l3.length : Int) := of_decide_eq_true (by assumption); obtain ⟨ad315, e315, hx315_0⟩ := Kd.at_string HR3.out (ji12) p315 q315; cases e315; replace p315 := eq_true p315; replace q315 := eq_true q315; obtain ⟨i020, hi020, _, hsz20, _⟩ := info_parts info9; obtain ⟨hcut20, hA20, hC20⟩ := print_take_of (P := Try.prog) Value.string (⟨#[]⟩ : ByteArray) 22 9 .i64 Try.underlying22 hi020 hsz20 (some ad315) c3 l3 (ji12) (of_decide_eq_true (by assumption)) (of_decide_eq_true (by assumption)) HC3.out; have HR316 := Aside0.mk (Kd.C_of_reads (h1 := fun _ => rfl) (hA20 _ (Kd.reads_of_C HR3.out))); have HC316 := Aside0.mk hC20; clear hA20 hC20 hi020 hsz20))) | (go_at_call 80; (try rw [show ∀ (A_ : Option Addr) (c_ : Nat), Value.slice A_ (((ji12) : Int)).toNat c_ = Value.slice A_ (l3.take (((ji12) : Int)).toNat).length c_ from fun A_ c_ => by rw [List.length_take, Nat.min_eq_left (Int.toNat_le.2 (of_decide_eq_true (by assumption)))]]); (with_reducible refine (ih k (by omega) a0 t314 a2 _ _ (l3.take ((ji12) : Int).toNat) a4 t317 t318 t319 _ ?side1 ?side2 A18.out).mono ?_); (case side1 => repeat (first | exact HR316.out | (with_reducible refine Kd.C_alloc ?_ _) | (with_reducible refine Kd.C_drewN ?_ _) | (with_reducible refine Kd.C_drew ?_))); (case side2 => exact HC316.out); rintro e w21 ⟨rfl, hb⟩; have n0_ := Aside0.mk (below_step (by repeat (first | (with_reducible first | exact HB.out | apply below_alloc | apply pw_below_drewN | apply below_drew1) | exact HB.out)) hb); clear HB; have HB := n0_; clear n0_; (try clear hb); (try clear hb2); (try clear hk); (try clear hi)) | (go_at_call 75; (with_reducible refine (spec_l06Node.calls t318 (rdOf ByteArray.empty l3 (ji12)) t320 _ A19.out).mono ?_); rintro e w22 ⟨rfl, hb⟩; have n0_ := Aside0.mk (below_step (by repeat (first | (with_reducible first | exact HB.out | apply below_alloc | apply pw_below_drewN | apply below_drew1) | exact HB.out)) hb); clear HB; have HB := n0_; clear n0_; (try clear hb); (try clear hb2); (try clear hk); (try clear hi))))
              go_ret3
              exact ⟨by first | rfl | (simp [errW_none, errW_some] <;> rfl) | (simp only [← hji12]; first | rfl | (simp [errW_none, errW_some] <;> rfl)) | (simp [*, errW_none, errW_some] <;> rfl), by repeat (first | (with_reducible first | exact HB.out | apply below_alloc | apply pw_below_drewN | apply below_drew1) | exact HB.out)⟩
            · rw [if_neg c17] at H
              have c17b0 : decide (a0 ≤ t314) = false := decide_eq_false c17
              clear c17
              replace H := Option.bind_eq_some_iff.mp H
              obtain ⟨⟨t321, t322, t323⟩, A230, H⟩ := H
              replace H : ((spec_l06Node.f (rdOf ByteArray.empty l3 (ji12)) t321).bind fun t324 => ((spec_l06Node.f (rdOf ByteArray.empty l3 (ji12)) t322).bind fun t325 => (some (t324, t325, t323)))) = some (r1, r2, r3) := H
              have A23 := Aside0.mk A230
              clear A230
              replace H := Option.bind_eq_some_iff.mp H
              obtain ⟨t324, A240, H⟩ := H
              replace H : ((spec_l06Node.f (rdOf ByteArray.empty l3 (ji12)) t322).bind fun t325 => (some (t324, t325, t323))) = some (r1, r2, r3) := H
              have A24 := Aside0.mk A240
              clear A240
              replace H := Option.bind_eq_some_iff.mp H
              obtain ⟨t325, A250, H⟩ := H
              replace H : (some (t324, t325, t323)) = some (r1, r2, r3) := H
              have A25 := Aside0.mk A250
              clear A250
              simp only [Option.some.injEq, Prod.mk.injEq] at H
              obtain ⟨rfl, rfl, rfl⟩ := H
              go_enter Try.func80, Try.ntmps80
              have p315 : 0 ≤ ((ji12) : Int) := of_decide_eq_true (by assumption)
              have q315 : (ji12) < (l3.length : Int) := of_decide_eq_true (by assumption)
              obtain ⟨ad315, e315, hx315_0⟩ := Kd.at_string HR3.out (ji12) p315 q315
              cases e315
              replace p315 := eq_true p315
              replace q315 := eq_true q315
              obtain ⟨i026, hi026, _, hsz26, _⟩ := info_parts info9
              obtain ⟨hcut26, hA26, hC26⟩ := print_take_of (P := Try.prog) Value.string (⟨#[]⟩ : ByteArray) 22 9 .i64 Try.underlying22 hi026 hsz26 (some ad315) c3 l3 (ji12) (of_decide_eq_true (by assumption)) (of_decide_eq_true (by assumption)) HC3.out
              have HR316 := Aside0.mk (Kd.C_of_reads (h1 := fun _ => rfl) (hA26 _ (Kd.reads_of_C HR3.out)))
              have HC316 := Aside0.mk hC26
              clear hA26 hC26 hi026 hsz26
              go_wp2_with (first | (go_at_call 113; (with_reducible refine (spec_l06Half.calls k a1 t314 _ A11.out).mono ?_); rintro e w' ⟨rfl, ⟨nd, rfl⟩⟩; (try first | exact ⟨rfl, _, World.drewN_drewN _ _ _⟩ | exact ⟨rfl, _, Eq.trans (World.drewN_drewN _ _ _) (congrArg (World.drewN _) (Nat.add_assoc _ _ _))⟩); (try (have p315 : 0 ≤ ((ji12) : Int) := of_decide_eq_true (by assumption); have q315 : (ji12) < (l3.length : Int) := of_decide_eq_true (by assumption); obtain ⟨ad315, e315, hx315_0⟩ := Kd.at_string HR3.out (ji12) p315 q315; cases e315; replace p315 := eq_true p315; replace q315 := eq_true q315; obtain ⟨i026, hi026, _, hsz26, _⟩ := info_parts info9; obtain ⟨hcut26, hA26, hC26⟩ := print_take_of (P := Try.prog) Value.string (⟨#[]⟩ : ByteArray) 22 9 .i64 Try.underlying22 hi026 hsz26 (some ad315) c3 l3 (ji12) (of_decide_eq_true (by assumption)) (of_decide_eq_true (by assumption)) HC3.out; have HR316 := Aside0.mk (Kd.C_of_reads (h1 := fun _ => rfl) (hA26 _ (Kd.reads_of_C HR3.out))); have HC316 := Aside0.mk hC26; clear hA26 hC26 hi026 hsz26))) | (go_at_call 80; (try rw [show ∀ (A_ : Option Addr) (c_ : Nat), Value.slice A_ (((ji12) : Int)).toNat c_ = Value.slice A_ (l3.take (((ji12) : Int)).toNat).length c_ from fun A_ c_ => by rw [List.length_take, Nat.min_eq_left (Int.toNat_le.2 (of_decide_eq_true (by assumption)))]]); (with_reducible refine (ih k (by omega) (wrap64 (a0 - t314)) (wrap64 (a1 - t314)) a2 _ _ (l3.take ((ji12) : Int).toNat) false t321 t322 t323 _ ?side1 ?side2 A23.out).mono ?_); (case side1 => repeat (first | exact HR316.out | (with_reducible refine Kd.C_alloc ?_ _) | (with_reducible refine Kd.C_drewN ?_ _) | (with_reducible refine Kd.C_drew ?_))); (case side2 => exact HC316.out); rintro e w27 ⟨rfl, hb⟩; have n0_ := Aside0.mk (below_step (by repeat (first | (with_reducible first | exact HB.out | apply below_alloc | apply pw_below_drewN | apply below_drew1) | exact HB.out)) hb); clear HB; have HB := n0_; clear n0_; (try clear hb); (try clear hb2); (try clear hk); (try clear hi)) | (go_at_call 75; (with_reducible refine (spec_l06Node.calls (rdOf ByteArray.empty l3 (ji12)) t321 t324 _ A24.out).mono ?_); rintro e w28 ⟨rfl, hb⟩; have n0_ := Aside0.mk (below_step (by repeat (first | (with_reducible first | exact HB.out | apply below_alloc | apply pw_below_drewN | apply below_drew1) | exact HB.out)) hb); clear HB; have HB := n0_; clear n0_; (try clear hb); (try clear hb2); (try clear hk); (try clear hi)) | (go_at_call 75; (with_reducible refine (spec_l06Node.calls (rdOf ByteArray.empty l3 (ji12)) t322 t325 _ A25.out).mono ?_); rintro e w29 ⟨rfl, hb⟩; have n0_ := Aside0.mk (below_step (by repeat (first | (with_reducible first | exact HB.out | apply below_alloc | apply pw_below_drewN | apply below_drew1) | exact HB.out)) hb); clear HB; have HB := n0_; clear n0_; (try clear hb); (try clear hb2); (try clear hk); (try clear hi)))
              repeat (go_quiet (first | (go_at_call 113; (with_reducible refine (spec_l06Half.calls k a1 t314 _ A11.out).mono ?_); rintro e w' ⟨rfl, ⟨nd, rfl⟩⟩; (try first | exact ⟨rfl, _, World.drewN_drewN _ _ _⟩ | exact ⟨rfl, _, Eq.trans (World.drewN_drewN _ _ _) (congrArg (World.drewN _) (Nat.add_assoc _ _ _))⟩); (try (have p315 : 0 ≤ ((ji12) : Int) := of_decide_eq_true (by assumption); have q315 : (ji12) < (l3.length : Int) := of_decide_eq_true (by assumption); obtain ⟨ad315, e315, hx315_0⟩ := Kd.at_string HR3.out (ji12) p315 q315; cases e315; replace p315 := eq_true p315; replace q315 := eq_true q315; obtain ⟨i026, hi026, _, hsz26, _⟩ := info_parts info9; obtain ⟨hcut26, hA26, hC26⟩ := print_take_of (P := Try.prog) Value.string (⟨#[]⟩ : ByteArray) 22 9 .i64 Try.underlying22 hi026 hsz26 (some ad315) c3 l3 (ji12) (of_decide_eq_true (by assumption)) (of_decide_eq_true (by assumption)) HC3.out; have HR316 := Aside0.mk (Kd.C_of_reads (h1 := fun _ => rfl) (hA26 _ (Kd.reads_of_C HR3.out))); have HC316 := Aside0.mk hC26; clear hA26 hC26 hi026 hsz26))) | (go_at_call 80; (try rw [show ∀ (A_ : Option Addr) (c_ : Nat), Value.slice A_ (((ji12) : Int)).toNat c_ = Value.slice A_ (l3.take (((ji12) : Int)).toNat).length c_ from fun A_ c_ => by rw [List.length_take, Nat.min_eq_left (Int.toNat_le.2 (of_decide_eq_true (by assumption)))]]); (with_reducible refine (ih k (by omega) (wrap64 (a0 - t314)) (wrap64 (a1 - t314)) a2 _ _ (l3.take ((ji12) : Int).toNat) false t321 t322 t323 _ ?side1 ?side2 A23.out).mono ?_); (case side1 => repeat (first | exact HR316.out | (with_reducible refine Kd.C_alloc ?_ _) | (with_reducible refine Kd.C_drewN ?_ _) | (with_reducible refine Kd.C_drew ?_))); (case side2 => exact HC316.out); rintro e w27 ⟨rfl, hb⟩; have n0_ := Aside0.mk (below_step (by repeat (first | (with_reducible first | exact HB.out | apply below_alloc | apply pw_below_drewN | apply below_drew1) | exact HB.out)) hb); clear HB; have HB := n0_; clear n0_; (try clear hb); (try clear hb2); (try clear hk); (try clear hi)) | (go_at_call 75; (with_reducible refine (spec_l06Node.calls (rdOf ByteArray.empty l3 (ji12)) t321 t324 _ A24.out).mono ?_); rintro e w28 ⟨rfl, hb⟩; have n0_ := Aside0.mk (below_step (by repeat (first | (with_reducible first | exact HB.out | apply below_alloc | apply pw_below_drewN | apply below_drew1) | exact HB.out)) hb); clear HB; have HB := n0_; clear n0_; (try clear hb); (try clear hb2); (try clear hk); (try clear hi)) | (go_at_call 75; (with_reducible refine (spec_l06Node.calls (rdOf ByteArray.empty l3 (ji12)) t322 t325 _ A25.out).mono ?_); rintro e w29 ⟨rfl, hb⟩; have n0_ := Aside0.mk (below_step (by repeat (first | (with_reducible first | exact HB.out | apply below_alloc | apply pw_below_drewN | apply below_drew1) | exact HB.out)) hb); clear HB; have HB := n0_; clear n0_; (try clear hb); (try clear hb2); (try clear hk); (try clear hi))); try go_wp2_with (first | (go_at_call 113; (with_reducible refine (spec_l06Half.calls k a1 t314 _ A11.out).mono ?_); rintro e w' ⟨rfl, ⟨nd, rfl⟩⟩; (try first | exact ⟨rfl, _, World.drewN_drewN _ _ _⟩ | exact ⟨rfl, _, Eq.trans (World.drewN_drewN _ _ _) (congrArg (World.drewN _) (Nat.add_assoc _ _ _))⟩); (try (have p315 : 0 ≤ ((ji12) : Int) := of_decide_eq_true (by assumption); have q315 : (ji12) < (l3.length : Int) := of_decide_eq_true (by assumption); obtain ⟨ad315, e315, hx315_0⟩ := Kd.at_string HR3.out (ji12) p315 q315; cases e315; replace p315 := eq_true p315; replace q315 := eq_true q315; obtain ⟨i026, hi026, _, hsz26, _⟩ := info_parts info9; obtain ⟨hcut26, hA26, hC26⟩ := print_take_of (P := Try.prog) Value.string (⟨#[]⟩ : ByteArray) 22 9 .i64 Try.underlying22 hi026 hsz26 (some ad315) c3 l3 (ji12) (of_decide_eq_true (by assumption)) (of_decide_eq_true (by assumption)) HC3.out; have HR316 := Aside0.mk (Kd.C_of_reads (h1 := fun _ => rfl) (hA26 _ (Kd.reads_of_C HR3.out))); have HC316 := Aside0.mk hC26; clear hA26 hC26 hi026 hsz26))) | (go_at_call 80; (try rw [show ∀ (A_ : Option Addr) (c_ : Nat), Value.slice A_ (((ji12) : Int)).toNat c_ = Value.slice A_ (l3.take (((ji12) : Int)).toNat).length c_ from fun A_ c_ => by rw [List.length_take, Nat.min_eq_left (Int.toNat_le.2 (of_decide_eq_true (by assumption)))]]); (with_reducible refine (ih k (by omega) (wrap64 (a0 - t314)) (wrap64 (a1 - t314)) a2 _ _ (l3.take ((ji12) : Int).toNat) false t321 t322 t323 _ ?side1 ?side2 A23.out).mono ?_); (case side1 => repeat (first | exact HR316.out | (with_reducible refine Kd.C_alloc ?_ _) | (with_reducible refine Kd.C_drewN ?_ _) | (with_reducible refine Kd.C_drew ?_))); (case side2 => exact HC316.out); rintro e w27 ⟨rfl, hb⟩; have n0_ := Aside0.mk (below_step (by repeat (first | (with_reducible first | exact HB.out | apply below_alloc | apply pw_below_drewN | apply below_drew1) | exact HB.out)) hb); clear HB; have HB := n0_; clear n0_; (try clear hb); (try clear hb2); (try clear hk); (try clear hi)) | (go_at_call 75; (with_reducible refine (spec_l06Node.calls (rdOf ByteArray.empty l3 (ji12)) t321 t324 _ A24.out).mono ?_); rintro e w28 ⟨rfl, hb⟩; have n0_ := Aside0.mk (below_step (by repeat (first | (with_reducible first | exact HB.out | apply below_alloc | apply pw_below_drewN | apply below_drew1) | exact HB.out)) hb); clear HB; have HB := n0_; clear n0_; (try clear hb); (try clear hb2); (try clear hk); (try clear hi)) | (go_at_call 75; (with_reducible refine (spec_l06Node.calls (rdOf ByteArray.empty l3 (ji12)) t322 t325 _ A25.out).mono ?_); rintro e w29 ⟨rfl, hb⟩; have n0_ := Aside0.mk (below_step (by repeat (first | (with_reducible first | exact HB.out | apply below_alloc | apply pw_below_drewN | apply below_drew1) | exact HB.out)) hb); clear HB; have HB := n0_; clear n0_; (try clear hb); (try clear hb2); (try clear hk); (try clear hi))))
              go_ret3
              exact ⟨by first | rfl | (simp [errW_none, errW_some] <;> rfl) | (simp only [← hji12]; first | rfl | (simp [errW_none, errW_some] <;> rfl)) | (simp [*, errW_none, errW_some] <;> rfl), by repeat (first | (with_reducible first | exact HB.out | apply below_alloc | apply pw_below_drewN | apply below_drew1) | exact HB.out)⟩
          · rw [if_neg c16] at H
            exact absurd H (by simp)
        · rw [if_neg c14] at H
          exact absurd H (by simp)
      · rw [if_neg c13] at H
        exact absurd H (by simp)

/-! ### spec_ConsistencyRoots: function 31 -/
mutual
def spec_ConsistencyRoots.j0 : Nat → Int → Int → ByteArray → List ByteArray → Bool → Option (ByteArray × ByteArray × Int)
  | 0, _, _, _, _, _ => none
  | k + 1, x0, x1, x2, x3, x27 => if x27 = true then (some ((⟨#[]⟩ : ByteArray), (⟨#[]⟩ : ByteArray), 1)) else ((spec_l01In.f x1 1 64).bind fun t327 => (if t327 = true then ((spec_l01In.f x0 1 x1).bind fun t328 => (spec_ConsistencyRoots.j1 k x0 x1 x2 x3 (!t328))) else (spec_ConsistencyRoots.j1 k x0 x1 x2 x3 true)))
def spec_ConsistencyRoots.j1 : Nat → Int → Int → ByteArray → List ByteArray → Bool → Option (ByteArray × ByteArray × Int)
  | 0, _, _, _, _, _ => none
  | k + 1, x0, x1, x2, x3, x36 => if x36 = true then (some ((⟨#[]⟩ : ByteArray), (⟨#[]⟩ : ByteArray), 4)) else ((spec_l06Both.f k x0 x1 x2 x3 true).bind fun bt329 => (if bt329.2.2 = true then (some (bt329.1, bt329.2.1, 0)) else (some ((⟨#[]⟩ : ByteArray), (⟨#[]⟩ : ByteArray), 10))))
end
def spec_ConsistencyRoots.f (k : Nat) (a0 : Int) (a1 : Int) (a2 : ByteArray) (l3 : List ByteArray) : Option (ByteArray × ByteArray × Int) := if (a2.size : Int) > 65536 then (some ((⟨#[]⟩ : ByteArray), (⟨#[]⟩ : ByteArray), 2)) else (if (l3.length : Int) > 4096 then (some ((⟨#[]⟩ : ByteArray), (⟨#[]⟩ : ByteArray), 2)) else ((spec_l06Hashes.f k l3).bind fun t326 => (if t326 = true then (spec_ConsistencyRoots.j0 k a0 a1 a2 l3 ((a2.size : Int) != 32)) else (spec_ConsistencyRoots.j0 k a0 a1 a2 l3 true))))
theorem spec_ConsistencyRoots.mono_l : ∀ k, (∀ y0 y1 y2 y3 y4, LeO (spec_ConsistencyRoots.j0 k y0 y1 y2 y3 y4) (spec_ConsistencyRoots.j0 (k + 1) y0 y1 y2 y3 y4)) ∧ (∀ y0 y1 y2 y3 y4, LeO (spec_ConsistencyRoots.j1 k y0 y1 y2 y3 y4) (spec_ConsistencyRoots.j1 (k + 1) y0 y1 y2 y3 y4))
  | 0 => ⟨fun _ _ _ _ _ r h => by simp [spec_ConsistencyRoots.j0] at h, fun _ _ _ _ _ r h => by simp [spec_ConsistencyRoots.j1] at h⟩
  | k + 1 => by
    obtain ⟨ih0, ih1⟩ := spec_ConsistencyRoots.mono_l k
    refine ⟨?_, ?_⟩
    · intro y0 y1 y2 y3 y4
      unfold spec_ConsistencyRoots.j0
      repeat' first
      | (with_reducible exact ih0 _ _ _ _ _)
      | (with_reducible exact ih1 _ _ _ _ _)
      | (with_reducible exact spec_l06Both.mono _ _ _ _ _ _)
      | (with_reducible exact spec_l06Hashes.mono _ _)
      | (with_reducible exact LeO.refl _)
      | (with_reducible exact LeO.none _)
      | (with_reducible refine LeO.ite ?_ ?_)
      | (with_reducible refine LeO.bind ?_ (fun _ => ?_))
      | exact ih0 _ _ _ _ _
      | exact ih1 _ _ _ _ _
      | exact spec_l06Both.mono _ _ _ _ _ _
      | exact spec_l06Hashes.mono _ _
      | exact LeO.none _
      | refine LeO.ite ?_ ?_
      | refine LeO.bind ?_ (fun _ => ?_)
    · intro y0 y1 y2 y3 y4
      unfold spec_ConsistencyRoots.j1
      repeat' first
      | (with_reducible exact ih0 _ _ _ _ _)
      | (with_reducible exact ih1 _ _ _ _ _)
      | (with_reducible exact spec_l06Both.mono _ _ _ _ _ _)
      | (with_reducible exact spec_l06Hashes.mono _ _)
      | (with_reducible exact LeO.refl _)
      | (with_reducible exact LeO.none _)
      | (with_reducible refine LeO.ite ?_ ?_)
      | (with_reducible refine LeO.bind ?_ (fun _ => ?_))
      | exact ih0 _ _ _ _ _
      | exact ih1 _ _ _ _ _
      | exact spec_l06Both.mono _ _ _ _ _ _
      | exact spec_l06Hashes.mono _ _
      | exact LeO.none _
      | refine LeO.ite ?_ ?_
      | refine LeO.bind ?_ (fun _ => ?_)
theorem spec_ConsistencyRoots.mono : ∀ a0 a1 a2 a3 k, LeO (spec_ConsistencyRoots.f k a0 a1 a2 a3) (spec_ConsistencyRoots.f (k + 1) a0 a1 a2 a3) := by
  intro a0 a1 a2 a3 k
  obtain ⟨ih0, ih1⟩ := spec_ConsistencyRoots.mono_l k
  unfold spec_ConsistencyRoots.f
  repeat' first
      | (with_reducible exact ih0 _ _ _ _ _)
      | (with_reducible exact ih1 _ _ _ _ _)
      | (with_reducible exact spec_l06Both.mono _ _ _ _ _ _)
      | (with_reducible exact spec_l06Hashes.mono _ _)
      | (with_reducible exact LeO.refl _)
      | (with_reducible exact LeO.none _)
      | (with_reducible refine LeO.ite ?_ ?_)
      | (with_reducible refine LeO.bind ?_ (fun _ => ?_))
      | exact ih0 _ _ _ _ _
      | exact ih1 _ _ _ _ _
      | exact spec_l06Both.mono _ _ _ _ _ _
      | exact spec_l06Hashes.mono _ _
      | exact LeO.none _
      | refine LeO.ite ?_ ?_
      | refine LeO.bind ?_ (fun _ => ?_)
set_option maxHeartbeats 8000000 in
set_option maxRecDepth 100000 in
theorem spec_ConsistencyRoots.calls (k : Nat) (a0 : Int) (a1 : Int) (a2 : ByteArray) (A3 : Option Addr) (c3 : Nat) (l3 : List ByteArray) (r1 : ByteArray) (r2 : ByteArray) (r3 : Int) (w : World) (hr3 : Kd.C Kd.string w A3 l3.length l3) (hc3 : l3.length ≤ c3) (h : spec_ConsistencyRoots.f k a0 a1 a2 l3 = some (r1, r2, r3)) :
    Calls Try.prog 31 #[.int .i64 a0, .int .i64 a1, .string a2, .slice A3 l3.length c3] w fun e w' => e = .returned (.tuple #[.string r1, .string r2, .int .i64 r3]) ∧ Below w.heap.size w w' := by
  have HR3 := Aside0.mk hr3
  have HC3 := Aside0.mk hc3
  clear hr3 hc3
  have HB := Aside0.mk (Below.refl w.heap.size w)
  have H : (if (a2.size : Int) > 65536 then (some ((⟨#[]⟩ : ByteArray), (⟨#[]⟩ : ByteArray), 2)) else (if (l3.length : Int) > 4096 then (some ((⟨#[]⟩ : ByteArray), (⟨#[]⟩ : ByteArray), 2)) else ((spec_l06Hashes.f k l3).bind fun t326 => (if t326 = true then (spec_ConsistencyRoots.j0 k a0 a1 a2 l3 ((a2.size : Int) != 32)) else (spec_ConsistencyRoots.j0 k a0 a1 a2 l3 true))))) = some (r1, r2, r3) := h
  clear h
  by_cases c5 : (a2.size : Int) > 65536
  · rw [if_pos c5] at H
    have c5b0 : decide (65536 < (a2.size : Int)) = true := decide_eq_true c5
    have c5b1 : decide (65536 < a2.size) = true := decide_eq_true (by omega)
    clear c5
    simp only [Option.some.injEq, Prod.mk.injEq] at H
    obtain ⟨rfl, rfl, rfl⟩ := H
    go_enter Try.func31, Try.ntmps31
    go_wp2
    go_ret3
    exact ⟨by first | rfl | (simp [errW_none, errW_some] <;> rfl) | (simp [*, errW_none, errW_some] <;> rfl), by repeat (first | (with_reducible first | exact HB.out | apply below_alloc | apply pw_below_drewN | apply below_drew1) | exact HB.out)⟩
  · rw [if_neg c5] at H
    have c5b0 : decide (65536 < (a2.size : Int)) = false := decide_eq_false c5
    have c5b1 : decide (65536 < a2.size) = false := decide_eq_false (by omega)
    clear c5
    by_cases c6 : (l3.length : Int) > 4096
    · rw [if_pos c6] at H
      have c6b0 : decide (4096 < (l3.length : Int)) = true := decide_eq_true c6
      have c6b1 : decide (4096 < l3.length) = true := decide_eq_true (by omega)
      clear c6
      simp only [Option.some.injEq, Prod.mk.injEq] at H
      obtain ⟨rfl, rfl, rfl⟩ := H
      go_enter Try.func31, Try.ntmps31
      go_wp2
      go_ret3
      exact ⟨by first | rfl | (simp [errW_none, errW_some] <;> rfl) | (simp [*, errW_none, errW_some] <;> rfl), by repeat (first | (with_reducible first | exact HB.out | apply below_alloc | apply pw_below_drewN | apply below_drew1) | exact HB.out)⟩
    · rw [if_neg c6] at H
      have c6b0 : decide (4096 < (l3.length : Int)) = false := decide_eq_false c6
      have c6b1 : decide (4096 < l3.length) = false := decide_eq_false (by omega)
      clear c6
      have HC7 := Aside0.mk H
      clear H
      go_enter Try.func31, Try.ntmps31
      go_upto_region 5 with (fail)
      go_cut [27] (fun v27 wc => ∃ (kq : Nat) (x27_6 : Bool), v27 = .bool x27_6 ∧ Aside0 (spec_ConsistencyRoots.j0 kq a0 a1 a2 l3 x27_6 = some (r1, r2, r3)) ∧ Aside0 (kq ≤ k) ∧ Aside0 (Below w.heap.size w wc))
      case first =>
        have H := HC7.out
        clear HC7
        replace H := Option.bind_eq_some_iff.mp H
        obtain ⟨t326, A80, H⟩ := H
        replace H : (if t326 = true then (spec_ConsistencyRoots.j0 k a0 a1 a2 l3 ((a2.size : Int) != 32)) else (spec_ConsistencyRoots.j0 k a0 a1 a2 l3 true)) = some (r1, r2, r3) := H
        have A8 := Aside0.mk A80
        clear A80
        by_cases c9 : t326 = true
        · subst c9
          have H1 : (spec_ConsistencyRoots.j0 k a0 a1 a2 l3 ((a2.size : Int) != 32)) = some (r1, r2, r3) := by rw [if_pos rfl] at H; exact H
          clear H
          have H := H1
          clear H1
          have H' := Aside0.mk H
          clear H
          go_wp2_with (first | ((with_reducible refine gate_callee (f := 79) rfl ?_); refine goesL_ (some 21) rfl rfl Try.func79 (by kernel_rfl) rfl #[.slice A3 l3.length c3] rfl (by (try simp only [List.map_toArray, List.map_cons, List.map_nil]); first | done | rfl | (simp only [List.length_drop, List.length_take]; rfl)) ?_; (with_reducible refine (spec_l06Hashes.calls k _ _ l3 true _ ?side1 ?side2 A8.out).mono ?_); (case side1 => repeat (first | exact (Kd.C_below HR3.out HB.out) | (with_reducible refine Kd.C_alloc ?_ _) | (with_reducible refine Kd.C_drewN ?_ _) | (with_reducible refine Kd.C_drew ?_))); (case side2 => exact HC3.out); rintro e w' ⟨rfl, ⟨nd, rfl⟩⟩; refine ⟨_, rfl, ?_⟩))
          go_meet
          case rel => exact ⟨_, (((a2.size : Int) != 32)), (by first | rfl | (simp; done) | (simp [*]; done)), H', ⟨by first | omega | exact Nat.le_refl _⟩, ⟨by repeat (first | (with_reducible first | exact HB.out | apply below_alloc | apply pw_below_drewN | apply below_drew1) | exact HB.out)⟩⟩
        · replace c9 := Bool.eq_false_iff.mpr c9
          subst c9
          have H1 : (spec_ConsistencyRoots.j0 k a0 a1 a2 l3 true) = some (r1, r2, r3) := by rw [if_neg (show ¬ (false = true) by decide)] at H; exact H
          clear H
          have H := H1
          clear H1
          have H' := Aside0.mk H
          clear H
          go_wp2_with (first | ((with_reducible refine gate_callee (f := 79) rfl ?_); refine goesL_ (some 21) rfl rfl Try.func79 (by kernel_rfl) rfl #[.slice A3 l3.length c3] rfl (by (try simp only [List.map_toArray, List.map_cons, List.map_nil]); first | done | rfl | (simp only [List.length_drop, List.length_take]; rfl)) ?_; (with_reducible refine (spec_l06Hashes.calls k _ _ l3 false _ ?side1 ?side2 A8.out).mono ?_); (case side1 => repeat (first | exact (Kd.C_below HR3.out HB.out) | (with_reducible refine Kd.C_alloc ?_ _) | (with_reducible refine Kd.C_drewN ?_ _) | (with_reducible refine Kd.C_drew ?_))); (case side2 => exact HC3.out); rintro e w' ⟨rfl, ⟨nd, rfl⟩⟩; refine ⟨_, rfl, ?_⟩))
          go_meet
          case rel => exact ⟨_, (true), (by first | rfl | (simp; done) | (simp [*]; done)), H', ⟨by first | omega | exact Nat.le_refl _⟩, ⟨by repeat (first | (with_reducible first | exact HB.out | apply below_alloc | apply pw_below_drewN | apply below_drew1) | exact HB.out)⟩⟩
      case rest =>
        clear HC7
        try clear p2
        try clear c3
        try clear c5
        try clear c5b0
        try clear c5b1
        try clear c6
        try clear c6b0
        try clear c6b1
        try clear c7
        try clear c9
        obtain ⟨kq, x27_6, rfl, HA, HJ6, HB⟩ := hcut
        cases kq with
        | zero => exact absurd HA.out (by simp [spec_ConsistencyRoots.j0])
        | succ kj6 =>
          have H := HA.out
          clear HA
          simp only [spec_ConsistencyRoots.j0] at H
          by_cases c10 : x27_6 = true
          · subst c10
            have H1 : (some ((⟨#[]⟩ : ByteArray), (⟨#[]⟩ : ByteArray), 1)) = some (r1, r2, r3) := by rw [if_pos rfl] at H; exact H
            clear H
            have H := H1
            clear H1
            simp only [Option.some.injEq, Prod.mk.injEq] at H
            obtain ⟨rfl, rfl, rfl⟩ := H
            go_wp2
            go_ret3
            exact ⟨by first | rfl | (simp [errW_none, errW_some] <;> rfl) | (simp [*, errW_none, errW_some] <;> rfl), by repeat (first | (with_reducible first | exact HB.out | apply below_alloc | apply pw_below_drewN | apply below_drew1) | exact HB.out)⟩
          · replace c10 := Bool.eq_false_iff.mpr c10
            subst c10
            have H1 : ((spec_l01In.f a1 1 64).bind fun t327 => (if t327 = true then ((spec_l01In.f a0 1 a1).bind fun t328 => (spec_ConsistencyRoots.j1 kj6 a0 a1 a2 l3 (!t328))) else (spec_ConsistencyRoots.j1 kj6 a0 a1 a2 l3 true))) = some (r1, r2, r3) := by rw [if_neg (show ¬ (false = true) by decide)] at H; exact H
            clear H
            have H := H1
            clear H1
            have HC11 := Aside0.mk H
            clear H
            go_upto_region 7 with (fail)
            go_cut [36] (fun v36 wc => ∃ (kq : Nat) (x36_10 : Bool), v36 = .bool x36_10 ∧ Aside0 (spec_ConsistencyRoots.j1 kq a0 a1 a2 l3 x36_10 = some (r1, r2, r3)) ∧ Aside0 (kq ≤ kj6) ∧ Aside0 (Below w.heap.size w wc))
            case first =>
              have H := HC11.out
              clear HC11
              replace H := Option.bind_eq_some_iff.mp H
              obtain ⟨t327, A120, H⟩ := H
              replace H : (if t327 = true then ((spec_l01In.f a0 1 a1).bind fun t328 => (spec_ConsistencyRoots.j1 kj6 a0 a1 a2 l3 (!t328))) else (spec_ConsistencyRoots.j1 kj6 a0 a1 a2 l3 true)) = some (r1, r2, r3) := H
              have A12 := Aside0.mk A120
              clear A120
              by_cases c13 : t327 = true
              · subst c13
                have H1 : ((spec_l01In.f a0 1 a1).bind fun t328 => (spec_ConsistencyRoots.j1 kj6 a0 a1 a2 l3 (!t328))) = some (r1, r2, r3) := by rw [if_pos rfl] at H; exact H
                clear H
                have H := H1
                clear H1
                replace H := Option.bind_eq_some_iff.mp H
                obtain ⟨t328, A140, H⟩ := H
                replace H : (spec_ConsistencyRoots.j1 kj6 a0 a1 a2 l3 (!t328)) = some (r1, r2, r3) := H
                have A14 := Aside0.mk A140
                clear A140
                have H' := Aside0.mk H
                clear H
                go_wp2_with (first | ((with_reducible refine gate_callee (f := 58) rfl ?_); refine goesL_ (some 29) rfl rfl Try.func58 (by kernel_rfl) rfl #[.int .i64 a1, .int .i64 1, .int .i64 64] rfl (by (try simp only [List.map_toArray, List.map_cons, List.map_nil]); first | done | rfl | (simp only [List.length_drop, List.length_take]; rfl)) ?_; (with_reducible refine (spec_l01In.calls a1 1 64 true _ A12.out).mono ?_); rintro e w' ⟨rfl, ⟨nd, rfl⟩⟩; refine ⟨_, rfl, ?_⟩) | (go_at_call 58; (with_reducible refine (spec_l01In.calls a0 1 a1 t328 _ A14.out).mono ?_); rintro e w' ⟨rfl, ⟨nd, rfl⟩⟩))
                go_meet
                case rel => exact ⟨_, (!t328), (by first | rfl | (simp; done) | (simp [*]; done)), H', ⟨by have := HJ6.out; first | omega | exact Nat.le_refl _⟩, ⟨by repeat (first | (with_reducible first | exact HB.out | apply below_alloc | apply pw_below_drewN | apply below_drew1) | exact HB.out)⟩⟩
              · replace c13 := Bool.eq_false_iff.mpr c13
                subst c13
                have H1 : (spec_ConsistencyRoots.j1 kj6 a0 a1 a2 l3 true) = some (r1, r2, r3) := by rw [if_neg (show ¬ (false = true) by decide)] at H; exact H
                clear H
                have H := H1
                clear H1
                have H' := Aside0.mk H
                clear H
                go_wp2_with (first | ((with_reducible refine gate_callee (f := 58) rfl ?_); refine goesL_ (some 29) rfl rfl Try.func58 (by kernel_rfl) rfl #[.int .i64 a1, .int .i64 1, .int .i64 64] rfl (by (try simp only [List.map_toArray, List.map_cons, List.map_nil]); first | done | rfl | (simp only [List.length_drop, List.length_take]; rfl)) ?_; (with_reducible refine (spec_l01In.calls a1 1 64 false _ A12.out).mono ?_); rintro e w' ⟨rfl, ⟨nd, rfl⟩⟩; refine ⟨_, rfl, ?_⟩))
                go_meet
                case rel => exact ⟨_, (true), (by first | rfl | (simp; done) | (simp [*]; done)), H', ⟨by have := HJ6.out; first | omega | exact Nat.le_refl _⟩, ⟨by repeat (first | (with_reducible first | exact HB.out | apply below_alloc | apply pw_below_drewN | apply below_drew1) | exact HB.out)⟩⟩
            case rest =>
              clear HC11
              try clear c1
              try clear p2
              try clear c3
              try clear c5
              try clear c5b0
              try clear c5b1
              try clear c6
              try clear c6b0
              try clear c6b1
              try clear c7
              try clear c9
              try clear c10
              try clear c13
              try clear p2
              obtain ⟨kq, x36_10, rfl, HA, HJ10, HB⟩ := hcut
              cases kq with
              | zero => exact absurd HA.out (by simp [spec_ConsistencyRoots.j1])
              | succ kj10 =>
                have H := HA.out
                clear HA
                simp only [spec_ConsistencyRoots.j1] at H
                by_cases c15 : x36_10 = true
                · subst c15
                  have H1 : (some ((⟨#[]⟩ : ByteArray), (⟨#[]⟩ : ByteArray), 4)) = some (r1, r2, r3) := by rw [if_pos rfl] at H; exact H
                  clear H
                  have H := H1
                  clear H1
                  simp only [Option.some.injEq, Prod.mk.injEq] at H
                  obtain ⟨rfl, rfl, rfl⟩ := H
                  go_wp2
                  go_ret3
                  exact ⟨by first | rfl | (simp [errW_none, errW_some] <;> rfl) | (simp [*, errW_none, errW_some] <;> rfl), by repeat (first | (with_reducible first | exact HB.out | apply below_alloc | apply pw_below_drewN | apply below_drew1) | exact HB.out)⟩
                · replace c15 := Bool.eq_false_iff.mpr c15
                  subst c15
                  have H1 : ((spec_l06Both.f kj10 a0 a1 a2 l3 true).bind fun bt329 => (if bt329.2.2 = true then (some (bt329.1, bt329.2.1, 0)) else (some ((⟨#[]⟩ : ByteArray), (⟨#[]⟩ : ByteArray), 10)))) = some (r1, r2, r3) := by rw [if_neg (show ¬ (false = true) by decide)] at H; exact H
                  clear H
                  have H := H1
                  clear H1
                  replace H := Option.bind_eq_some_iff.mp H
                  obtain ⟨⟨t329, t330, t331⟩, A160, H⟩ := H
                  replace H : (if t331 = true then (some (t329, t330, 0)) else (some ((⟨#[]⟩ : ByteArray), (⟨#[]⟩ : ByteArray), 10))) = some (r1, r2, r3) := H
                  have A16 := Aside0.mk A160
                  clear A160
                  by_cases c17 : t331 = true
                  · subst c17
                    have H1 : (some (t329, t330, 0)) = some (r1, r2, r3) := by rw [if_pos rfl] at H; exact H
                    clear H
                    have H := H1
                    clear H1
                    simp only [Option.some.injEq, Prod.mk.injEq] at H
                    obtain ⟨rfl, rfl, rfl⟩ := H
                    go_wp2_with (first | ((with_reducible refine gate_callee (f := 80) rfl ?_); refine goesL_ (some 42) rfl rfl Try.func80 (by kernel_rfl) rfl #[.int .i64 a0, .int .i64 a1, .string a2, .slice A3 l3.length c3, .bool true] rfl (by (try simp only [List.map_toArray, List.map_cons, List.map_nil]); first | done | rfl | (simp only [List.length_drop, List.length_take]; rfl)) ?_; (with_reducible refine (spec_l06Both.calls kj10 a0 a1 a2 _ _ l3 true t329 t330 true _ ?side1 ?side2 A16.out).mono ?_); (case side1 => repeat (first | exact (Kd.C_below HR3.out HB.out) | (with_reducible refine Kd.C_alloc ?_ _) | (with_reducible refine Kd.C_drewN ?_ _) | (with_reducible refine Kd.C_drew ?_))); (case side2 => exact HC3.out); rintro e w18 ⟨rfl, hb⟩; refine ⟨_, rfl, ?_⟩; have n0_ := Aside0.mk (below_step (by repeat (first | (with_reducible first | exact HB.out | apply below_alloc | apply pw_below_drewN | apply below_drew1) | exact HB.out)) hb); clear HB; have HB := n0_; clear n0_; (try clear hb); (try clear hb2); (try clear hk); (try clear hi)))
                    go_ret3
                    exact ⟨by first | rfl | (simp [errW_none, errW_some] <;> rfl) | (simp [*, errW_none, errW_some] <;> rfl), by repeat (first | (with_reducible first | exact HB.out | apply below_alloc | apply pw_below_drewN | apply below_drew1) | exact HB.out)⟩
                  · replace c17 := Bool.eq_false_iff.mpr c17
                    subst c17
                    have H1 : (some ((⟨#[]⟩ : ByteArray), (⟨#[]⟩ : ByteArray), 10)) = some (r1, r2, r3) := by rw [if_neg (show ¬ (false = true) by decide)] at H; exact H
                    clear H
                    have H := H1
                    clear H1
                    simp only [Option.some.injEq, Prod.mk.injEq] at H
                    obtain ⟨rfl, rfl, rfl⟩ := H
                    go_wp2_with (first | ((with_reducible refine gate_callee (f := 80) rfl ?_); refine goesL_ (some 42) rfl rfl Try.func80 (by kernel_rfl) rfl #[.int .i64 a0, .int .i64 a1, .string a2, .slice A3 l3.length c3, .bool true] rfl (by (try simp only [List.map_toArray, List.map_cons, List.map_nil]); first | done | rfl | (simp only [List.length_drop, List.length_take]; rfl)) ?_; (with_reducible refine (spec_l06Both.calls kj10 a0 a1 a2 _ _ l3 true t329 t330 false _ ?side1 ?side2 A16.out).mono ?_); (case side1 => repeat (first | exact (Kd.C_below HR3.out HB.out) | (with_reducible refine Kd.C_alloc ?_ _) | (with_reducible refine Kd.C_drewN ?_ _) | (with_reducible refine Kd.C_drew ?_))); (case side2 => exact HC3.out); rintro e w19 ⟨rfl, hb⟩; refine ⟨_, rfl, ?_⟩; have n0_ := Aside0.mk (below_step (by repeat (first | (with_reducible first | exact HB.out | apply below_alloc | apply pw_below_drewN | apply below_drew1) | exact HB.out)) hb); clear HB; have HB := n0_; clear n0_; (try clear hb); (try clear hb2); (try clear hk); (try clear hi)))
                    go_ret3
                    exact ⟨by first | rfl | (simp [errW_none, errW_some] <;> rfl) | (simp [*, errW_none, errW_some] <;> rfl), by repeat (first | (with_reducible first | exact HB.out | apply below_alloc | apply pw_below_drewN | apply below_drew1) | exact HB.out)⟩

end Go.Proofs.Ytamjkgbimcpfaaa.PFnGrowth
