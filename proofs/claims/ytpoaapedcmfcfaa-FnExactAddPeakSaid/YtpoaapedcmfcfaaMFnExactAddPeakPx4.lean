/- Written by a program (a session's own form of the print): plain functions with the answers of the Go functions, and the walks that show it. Lean checks it. -/
import Derived.Test.YtpoaapedcmfcfaaMFnExactAddPeakPx0
import Derived.Test.YtpoaapedcmfcfaaMFnExactAddPeakPx2
import Derived.Test.YtpoaapedcmfcfaaMFnExactAddPeakPx3
namespace Go.Proofs.Ytpoaapedcmfcfaa.PFnExactAddPeak
open Go.RowKit Go.Proofs.YtpoaapedcmfcfaaW.PrintWords Go.Proofs.YtpoaapedcmfcfaaW.PrintLast Go.Proofs.YtpoaapedcmfcfaaW.PrintMore
attribute [local go_sem] max2_int min2_int max_two min_two max_three min_three max_four min_four   -- for this text's walks alone
set_option linter.unusedVariables false
set_option linter.unusedSimpArgs false

/-! ### spec_AddPeak: function 41 -/
mutual
def spec_AddPeak.j0 : Nat → List (S67) → ByteArray → Bool → Option ((List (S67)) × Int)
 | 0, _, _, _ => none
 | k + 1, x0, x1, x23 => if x23 = true then (some ((([] : List (S67))), 1)) else (spec_AddPeak.l0 k x0 x1 0 0)
def spec_AddPeak.l0 : Nat → List (S67) → ByteArray → Int → Int → Option ((List (S67)) × Int)
 | 0, _, _, _, _ => none
 | k + 1, x0, x1, x6, x7 => if x7 < (x0.length : Int) then (if 0 ≤ x7 then (spec_AddPeak.l0 k x0 x1 (wrap64 (x6 + ((rd_T67 x0 x7).f0))) (wrap64 (x7 + 1))) else (none)) else (if x6 = 64 then (some ((([] : List (S67))), 7)) else ((spec_l06Add.f k x0 x1).bind fun t169 => (some (t169, 0))))
end
def spec_AddPeak.f (k : Nat) (l0 : List (S67)) (a1 : ByteArray) : Option ((List (S67)) × Int) := if (a1.size : Int) > 65536 then (some ((([] : List (S67))), 2)) else (if (l0.length : Int) > 4096 then (some ((([] : List (S67))), 2)) else ((spec_PeaksOK.f k l0).bind fun t161 => (if t161 = true then (spec_AddPeak.j0 k l0 a1 ((a1.size : Int) != 32)) else (spec_AddPeak.j0 k l0 a1 true))))
theorem spec_AddPeak.mono_l : ∀ k, (∀ y0 y1 y2, LeO (spec_AddPeak.j0 k y0 y1 y2) (spec_AddPeak.j0 (k + 1) y0 y1 y2)) ∧ (∀ y0 y1 y2 y3, LeO (spec_AddPeak.l0 k y0 y1 y2 y3) (spec_AddPeak.l0 (k + 1) y0 y1 y2 y3))
 | 0 => ⟨fun _ _ _ r h => by simp [spec_AddPeak.j0] at h, fun _ _ _ _ r h => by simp [spec_AddPeak.l0] at h⟩
 | k + 1 => by
  obtain ⟨ih0, ih1⟩ := spec_AddPeak.mono_l k
  refine ⟨?_, ?_⟩
  ·intro y0 y1 y2
   unfold spec_AddPeak.j0
   repeat' first
   | (with_reducible exact ih0 _ _ _)
   | (with_reducible exact ih1 _ _ _ _)
   | (with_reducible exact spec_PeaksOK.mono _ _)
   | (with_reducible exact spec_l06Add.mono _ _ _)
   | (with_reducible exact LeO.refl _)
   | (with_reducible exact LeO.none _)
   | (with_reducible refine LeO.ite ?_ ?_)
   | (with_reducible refine LeO.bind ?_ (fun _ => ?_))
   | exact ih0 _ _ _
   | exact ih1 _ _ _ _
   | exact spec_PeaksOK.mono _ _
   | exact spec_l06Add.mono _ _ _
   | exact LeO.none _
   | refine LeO.ite ?_ ?_
   | refine LeO.bind ?_ (fun _ => ?_)
  ·intro y0 y1 y2 y3
   unfold spec_AddPeak.l0
   repeat' first
   | (with_reducible exact ih0 _ _ _)
   | (with_reducible exact ih1 _ _ _ _)
   | (with_reducible exact spec_PeaksOK.mono _ _)
   | (with_reducible exact spec_l06Add.mono _ _ _)
   | (with_reducible exact LeO.refl _)
   | (with_reducible exact LeO.none _)
   | (with_reducible refine LeO.ite ?_ ?_)
   | (with_reducible refine LeO.bind ?_ (fun _ => ?_))
   | exact ih0 _ _ _
   | exact ih1 _ _ _ _
   | exact spec_PeaksOK.mono _ _
   | exact spec_l06Add.mono _ _ _
   | exact LeO.none _
   | refine LeO.ite ?_ ?_
   | refine LeO.bind ?_ (fun _ => ?_)
theorem spec_AddPeak.mono : ∀ a0 a1 k, LeO (spec_AddPeak.f k a0 a1) (spec_AddPeak.f (k + 1) a0 a1) := by
 intro a0 a1 k
 obtain ⟨ih0, ih1⟩ := spec_AddPeak.mono_l k
 unfold spec_AddPeak.f
 repeat' first
   | (with_reducible exact ih0 _ _ _)
   | (with_reducible exact ih1 _ _ _ _)
   | (with_reducible exact spec_PeaksOK.mono _ _)
   | (with_reducible exact spec_l06Add.mono _ _ _)
   | (with_reducible exact LeO.refl _)
   | (with_reducible exact LeO.none _)
   | (with_reducible refine LeO.ite ?_ ?_)
   | (with_reducible refine LeO.bind ?_ (fun _ => ?_))
   | exact ih0 _ _ _
   | exact ih1 _ _ _ _
   | exact spec_PeaksOK.mono _ _
   | exact spec_l06Add.mono _ _ _
   | exact LeO.none _
   | refine LeO.ite ?_ ?_
   | refine LeO.bind ?_ (fun _ => ?_)
set_option maxHeartbeats 8000000 in
set_option maxRecDepth 100000 in
theorem spec_AddPeak.calls (k : Nat) (A0 : Option Addr) (c0 : Nat) (l0 : List (S67)) (a1 : ByteArray) (r1 : List (S67)) (r2 : Int) (w : World) (hr0 : Kd.C k67 w A0 l0.length l0) (hc0 : l0.length ≤ c0) (h : spec_AddPeak.f k l0 a1 = some (r1, r2)) :
  Calls Try.prog 41 #[.slice A0 l0.length c0, .string a1] w fun e w' => ∃ v0_ : Value, e = .returned (.tuple #[v0_, .int .i64 r2]) ∧ Kd.R k67 67 w' w.heap.size (fun _ => True) v0_ r1 ∧ Below w.heap.size w w' := by
 have HR0 := Aside0.mk hr0
 have HC0 := Aside0.mk hc0
 clear hr0 hc0
 have HB := Aside0.mk (Below.refl w.heap.size w)
 have H : (if (a1.size : Int) > 65536 then (some ((([] : List (S67))), 2)) else (if (l0.length : Int) > 4096 then (some ((([] : List (S67))), 2)) else ((spec_PeaksOK.f k l0).bind fun t161 => (if t161 = true then (spec_AddPeak.j0 k l0 a1 ((a1.size : Int) != 32)) else (spec_AddPeak.j0 k l0 a1 true))))) = some (r1, r2) := h
 clear h
 by_cases c3 : (a1.size : Int) > 65536
 ·rw [if_pos c3] at H
  have c3b0 : decide (65536 < (a1.size : Int)) = true := decide_eq_true c3
  have c3b1 : decide (65536 < a1.size) = true := decide_eq_true (by omega)
  clear c3
  obtain ⟨y155, hy155⟩ : ∃ y_ : List (S67), y_ = (([] : List (S67))) := ⟨_, rfl⟩
  replace H : (some (y155, 2)) = some (r1, r2) := by first | (rw [hy155]; with_reducible exact H) | (have H2_ := (Option.bind_some _ _).symm.trans H; rw [hy155]; with_reducible exact H2_) | (have H2_ := (Option.bind_some _ _).symm.trans H; with_reducible exact H2_) | with_reducible exact H | (rw [hy155]; exact H) | exact H
  have Ny155 := Aside0.mk hy155
  clear hy155
  simp only [Option.some.injEq, Prod.mk.injEq] at H
  obtain ⟨rfl, rfl⟩ := H
  go_enter Try.func41, Try.ntmps41
  go_wp2_with (first | ((with_reducible refine gate_dst (N := 11) rfl ?_); (try (refine gate_guard (by rfl) ?_; dsimp only)); refine Kd.R_lit k67 _ 67 ?hg (N := 11) ?hd (xs := ([] : List (S67))) (inner := []) (ok := fun _ => True) (okp := fun _ => True) ?hr ?hp (fun _ hk => hk) trivial (Below.refl _ _) (Nat.le_refl _) (by simp) ?_; (case hd => rfl); (case hg => rfl); (case hr => first | (go_simp; done) | (go_simp; rfl)); (case hp => exact (Reps.none _ _)); intro v156 w4 ho5 hb hg_ hnew_; clear hg_ hnew_; (first | rw [← Ny155.out] at ho5 | (simp only [Int.reduceToNat] at ho5; rw [← Ny155.out] at ho5)); have n0_ := Aside0.mk (Kd.R_lower ho5 (below_size (by repeat (first | (with_reducible first | exact HB.out | apply below_alloc | apply pw_below_drewN | apply below_drew1) | exact HB.out)))); have n1_ := Aside0.mk (below_step (by repeat (first | (with_reducible first | exact HB.out | apply below_alloc | apply pw_below_drewN | apply below_drew1) | exact HB.out)) hb); clear HB; have HO157 := n0_; have HB := n1_; clear n0_ n1_; clear hb ho5))
  go_ret2
  exact ⟨_, by first | rfl | (simp [errW_none, errW_some] <;> rfl) | (simp [*, errW_none, errW_some] <;> rfl), by (with_reducible repeat (first | apply Kd.R_alloc | apply Kd.R_drewN | apply Kd.R_drew)); exact HO157.out, by repeat (first | (with_reducible first | exact HB.out | apply below_alloc | apply pw_below_drewN | apply below_drew1) | exact HB.out)⟩
 ·rw [if_neg c3] at H
  have c3b0 : decide (65536 < (a1.size : Int)) = false := decide_eq_false c3
  have c3b1 : decide (65536 < a1.size) = false := decide_eq_false (by omega)
  clear c3
  by_cases c6 : (l0.length : Int) > 4096
  ·rw [if_pos c6] at H
   have c6b0 : decide (4096 < (l0.length : Int)) = true := decide_eq_true c6
   have c6b1 : decide (4096 < l0.length) = true := decide_eq_true (by omega)
   clear c6
   obtain ⟨y158, hy158⟩ : ∃ y_ : List (S67), y_ = (([] : List (S67))) := ⟨_, rfl⟩
   replace H : (some (y158, 2)) = some (r1, r2) := by first | (rw [hy158]; with_reducible exact H) | (have H2_ := (Option.bind_some _ _).symm.trans H; rw [hy158]; with_reducible exact H2_) | (have H2_ := (Option.bind_some _ _).symm.trans H; with_reducible exact H2_) | with_reducible exact H | (rw [hy158]; exact H) | exact H
   have Ny158 := Aside0.mk hy158
   clear hy158
   simp only [Option.some.injEq, Prod.mk.injEq] at H
   obtain ⟨rfl, rfl⟩ := H
   go_enter Try.func41, Try.ntmps41
   go_wp2_with (first | ((with_reducible refine gate_dst (N := 15) rfl ?_); (try (refine gate_guard (by rfl) ?_; dsimp only)); refine Kd.R_lit k67 _ 67 ?hg (N := 15) ?hd (xs := ([] : List (S67))) (inner := []) (ok := fun _ => True) (okp := fun _ => True) ?hr ?hp (fun _ hk => hk) trivial (Below.refl _ _) (Nat.le_refl _) (by simp) ?_; (case hd => rfl); (case hg => rfl); (case hr => first | (go_simp; done) | (go_simp; rfl)); (case hp => exact (Reps.none _ _)); intro v159 w7 ho8 hb hg_ hnew_; clear hg_ hnew_; (first | rw [← Ny158.out] at ho8 | (simp only [Int.reduceToNat] at ho8; rw [← Ny158.out] at ho8)); have n0_ := Aside0.mk (Kd.R_lower ho8 (below_size (by repeat (first | (with_reducible first | exact HB.out | apply below_alloc | apply pw_below_drewN | apply below_drew1) | exact HB.out)))); have n1_ := Aside0.mk (below_step (by repeat (first | (with_reducible first | exact HB.out | apply below_alloc | apply pw_below_drewN | apply below_drew1) | exact HB.out)) hb); clear HB; have HO160 := n0_; have HB := n1_; clear n0_ n1_; clear hb ho8))
   go_ret2
   exact ⟨_, by first | rfl | (simp [errW_none, errW_some] <;> rfl) | (simp [*, errW_none, errW_some] <;> rfl), by (with_reducible repeat (first | apply Kd.R_alloc | apply Kd.R_drewN | apply Kd.R_drew)); exact HO160.out, by repeat (first | (with_reducible first | exact HB.out | apply below_alloc | apply pw_below_drewN | apply below_drew1) | exact HB.out)⟩
  ·rw [if_neg c6] at H
   have c6b0 : decide (4096 < (l0.length : Int)) = false := decide_eq_false c6
   have c6b1 : decide (4096 < l0.length) = false := decide_eq_false (by omega)
   clear c6
   have HC9 := Aside0.mk H
   clear H
   go_enter Try.func41, Try.ntmps41
   go_upto_region 5 with (fail)
   go_cut [23] (fun v23 wc => ∃ (kq : Nat) (x23_8 : Bool), v23 = .bool x23_8 ∧ Aside0 (spec_AddPeak.j0 kq l0 a1 x23_8 = some (r1, r2)) ∧ Aside0 (kq ≤ k) ∧ Aside0 (Below w.heap.size w wc))
   case first =>
    have H := HC9.out
    clear HC9
    replace H := Option.bind_eq_some_iff.mp H
    obtain ⟨t161, A100, H⟩ := H
    replace H : (if t161 = true then (spec_AddPeak.j0 k l0 a1 ((a1.size : Int) != 32)) else (spec_AddPeak.j0 k l0 a1 true)) = some (r1, r2) := H
    have A10 := Aside0.mk A100
    clear A100
    by_cases c11 : t161 = true
    ·subst c11
     have H1 : (spec_AddPeak.j0 k l0 a1 ((a1.size : Int) != 32)) = some (r1, r2) := by rw [if_pos rfl] at H; exact H
     clear H
     have H := H1
     clear H1
     have H' := Aside0.mk H
     clear H
     go_wp2_with (first | ((with_reducible refine gate_callee (f := 61) rfl ?_); refine goesL_ (some 17) rfl rfl Try.func61 (by kernel_rfl) rfl #[.slice A0 l0.length c0] rfl (by (try simp only [List.map_toArray, List.map_cons, List.map_nil]); first | done | rfl | (simp only [List.length_drop, List.length_take]; rfl)) ?_; (with_reducible refine (spec_PeaksOK.calls k _ _ l0 true _ ?side1 ?side2 A10.out).mono ?_); (case side1 => repeat (first | exact (Kd.C_below HR0.out HB.out) | (with_reducible refine Kd.C_alloc ?_ _) | (with_reducible refine Kd.C_drewN ?_ _) | (with_reducible refine Kd.C_drew ?_))); (case side2 => exact HC0.out); rintro e w' ⟨rfl, ⟨nd, rfl⟩⟩; refine ⟨_, rfl, ?_⟩))
     go_meet
     case rel => exact ⟨_, (((a1.size : Int) != 32)), (by first | rfl | (simp; done) | (simp [*]; done)), H', ⟨by first | omega | exact Nat.le_refl _⟩, ⟨by repeat (first | (with_reducible first | exact HB.out | apply below_alloc | apply pw_below_drewN | apply below_drew1) | exact HB.out)⟩⟩
    ·replace c11 := Bool.eq_false_iff.mpr c11
     subst c11
     have H1 : (spec_AddPeak.j0 k l0 a1 true) = some (r1, r2) := by rw [if_neg (show ¬ (false = true) by decide)] at H; exact H
     clear H
     have H := H1
     clear H1
     have H' := Aside0.mk H
     clear H
     go_wp2_with (first | ((with_reducible refine gate_callee (f := 61) rfl ?_); refine goesL_ (some 17) rfl rfl Try.func61 (by kernel_rfl) rfl #[.slice A0 l0.length c0] rfl (by (try simp only [List.map_toArray, List.map_cons, List.map_nil]); first | done | rfl | (simp only [List.length_drop, List.length_take]; rfl)) ?_; (with_reducible refine (spec_PeaksOK.calls k _ _ l0 false _ ?side1 ?side2 A10.out).mono ?_); (case side1 => repeat (first | exact (Kd.C_below HR0.out HB.out) | (with_reducible refine Kd.C_alloc ?_ _) | (with_reducible refine Kd.C_drewN ?_ _) | (with_reducible refine Kd.C_drew ?_))); (case side2 => exact HC0.out); rintro e w' ⟨rfl, ⟨nd, rfl⟩⟩; refine ⟨_, rfl, ?_⟩))
     go_meet
     case rel => exact ⟨_, (true), (by first | rfl | (simp; done) | (simp [*]; done)), H', ⟨by first | omega | exact Nat.le_refl _⟩, ⟨by repeat (first | (with_reducible first | exact HB.out | apply below_alloc | apply pw_below_drewN | apply below_drew1) | exact HB.out)⟩⟩
   case rest =>
    clear HC9
    obtain ⟨kq, x23_8, rfl, HA, HJ8, HB⟩ := hcut
    cases kq with
    | zero => exact absurd HA.out (by simp [spec_AddPeak.j0])
    | succ kj8 =>
     have H := HA.out
     clear HA
     simp only [spec_AddPeak.j0] at H
     by_cases c12 : x23_8 = true
     ·subst c12
      have H1 : (some ((([] : List (S67))), 1)) = some (r1, r2) := by rw [if_pos rfl] at H; exact H
      clear H
      have H := H1
      clear H1
      obtain ⟨y162, hy162⟩ : ∃ y_ : List (S67), y_ = (([] : List (S67))) := ⟨_, rfl⟩
      replace H : (some (y162, 1)) = some (r1, r2) := by first | (rw [hy162]; with_reducible exact H) | (have H2_ := (Option.bind_some _ _).symm.trans H; rw [hy162]; with_reducible exact H2_) | (have H2_ := (Option.bind_some _ _).symm.trans H; with_reducible exact H2_) | with_reducible exact H | (rw [hy162]; exact H) | exact H
      have Ny162 := Aside0.mk hy162
      clear hy162
      simp only [Option.some.injEq, Prod.mk.injEq] at H
      obtain ⟨rfl, rfl⟩ := H
      go_wp2_with (first | ((with_reducible refine gate_dst (N := 24) rfl ?_); (try (refine gate_guard (by rfl) ?_; dsimp only)); refine Kd.R_lit k67 _ 67 ?hg (N := 24) ?hd (xs := ([] : List (S67))) (inner := []) (ok := fun _ => True) (okp := fun _ => True) ?hr ?hp (fun _ hk => hk) trivial (Below.refl _ _) (Nat.le_refl _) (by simp) ?_; (case hd => rfl); (case hg => rfl); (case hr => first | (go_simp; done) | (go_simp; rfl)); (case hp => exact (Reps.none _ _)); intro v163 w13 ho14 hb hg_ hnew_; clear hg_ hnew_; (first | rw [← Ny162.out] at ho14 | (simp only [Int.reduceToNat] at ho14; rw [← Ny162.out] at ho14)); have n0_ := Aside0.mk (Kd.R_lower ho14 (below_size (by repeat (first | (with_reducible first | exact HB.out | apply below_alloc | apply pw_below_drewN | apply below_drew1) | exact HB.out)))); have n1_ := Aside0.mk (below_step (by repeat (first | (with_reducible first | exact HB.out | apply below_alloc | apply pw_below_drewN | apply below_drew1) | exact HB.out)) hb); clear HB; have HO164 := n0_; have HB := n1_; clear n0_ n1_; clear hb ho14))
      go_ret2
      exact ⟨_, by first | rfl | (simp [errW_none, errW_some] <;> rfl) | (simp [*, errW_none, errW_some] <;> rfl), by (with_reducible repeat (first | apply Kd.R_alloc | apply Kd.R_drewN | apply Kd.R_drew)); exact HO164.out, by repeat (first | (with_reducible first | exact HB.out | apply below_alloc | apply pw_below_drewN | apply below_drew1) | exact HB.out)⟩
     ·replace c12 := Bool.eq_false_iff.mpr c12
      subst c12
      have H1 : (spec_AddPeak.l0 kj8 l0 a1 0 0) = some (r1, r2) := by rw [if_neg (show ¬ (false = true) by decide)] at H; exact H
      clear H
      have H := H1
      clear H1
      have H' := Aside0.mk H
      clear H
      go_wp2
      go_loopg [6, 7] kj8 (fun kq v6 v7 w' => ∃ (x6_2 : Int) (x7_2 : Int), v6 = .int .i64 x6_2 ∧ v7 = .int .i64 x7_2 ∧ Aside0 (spec_AddPeak.l0 kq l0 a1 x6_2 x7_2 = some (r1, r2)) ∧ Aside0 (kq ≤ kj8) ∧ Aside0 (Below w.heap.size w w'))
      case atStart => exact ⟨(0), (0), (by first | rfl | (simp; done) | (simp [*]; done)), (by first | rfl | (simp; done) | (simp [*]; done)), H', ⟨Nat.le_refl _⟩, ⟨by repeat (first | (with_reducible first | exact HB.out | apply below_alloc | apply pw_below_drewN | apply below_drew1) | exact HB.out)⟩⟩
      case round =>
       clear H'
       obtain ⟨x6_2, x7_2, rfl, rfl, HA, HK2, HB⟩ := hrel
       cases gk with
       | zero => exact absurd HA.out (by simp [spec_AddPeak.l0])
       | succ k2 =>
        have H := HA.out
        clear HA
        simp only [spec_AddPeak.l0] at H
        by_cases c15 : x7_2 < (l0.length : Int)
        ·rw [if_pos c15] at H
         have c15b0 : decide (x7_2 < (l0.length : Int)) = true := decide_eq_true c15
         clear c15
         by_cases c16 : 0 ≤ x7_2
         ·rw [if_pos c16] at H
          have c16b0 : decide (0 ≤ x7_2) = true := decide_eq_true c16
          clear c16
          have H' := Aside0.mk H
          clear H
          have p165 : 0 ≤ (x7_2 : Int) := of_decide_eq_true (by assumption)
          have q165 : x7_2 < (l0.length : Int) := of_decide_eq_true (by assumption)
          obtain ⟨ad165, e165, hx165_0, hx165_1⟩ := at_T67 HR0.out x7_2 p165 q165
          cases e165
          replace hx165_0 := (HB.out.cell (World.block_lt_of_cell? w _ hx165_0)).trans hx165_0
          replace hx165_1 := (HB.out.cell (World.block_lt_of_cell? w _ hx165_1)).trans hx165_1
          replace p165 := eq_true p165
          replace q165 := eq_true q165
          go_wp2
          go_roundg k2
          case measure => have := HJ8.out; have := HK2.out; omega
          case rel => exact ⟨(wrap64 (x6_2 + ((rd_T67 l0 x7_2).f0))), (wrap64 (x7_2 + 1)), (by first | rfl | (simp; done) | (simp [*]; done)), (by first | rfl | (simp; done) | (simp [*]; done)), H', ⟨by have := HJ8.out; have := HK2.out; omega⟩, ⟨by repeat (first | (with_reducible first | exact HB.out | apply below_alloc | apply pw_below_drewN | apply below_drew1) | exact HB.out)⟩⟩
         ·rw [if_neg c16] at H
          exact absurd H (by simp)
        ·rw [if_neg c15] at H
         have c15b0 : decide (x7_2 < (l0.length : Int)) = false := decide_eq_false c15
         clear c15
         by_cases c17 : x6_2 = 64
         ·rw [if_pos c17] at H
          have c17b0 : (x6_2 == 64) = true := beq_iff_eq.mpr c17
          have c17b1 : (x6_2 != 64) = false := bne_eq_false_iff_eq.mpr c17
          clear c17
          obtain ⟨y166, hy166⟩ : ∃ y_ : List (S67), y_ = (([] : List (S67))) := ⟨_, rfl⟩
          replace H : (some (y166, 7)) = some (r1, r2) := by first | (rw [hy166]; with_reducible exact H) | (have H2_ := (Option.bind_some _ _).symm.trans H; rw [hy166]; with_reducible exact H2_) | (have H2_ := (Option.bind_some _ _).symm.trans H; with_reducible exact H2_) | with_reducible exact H | (rw [hy166]; exact H) | exact H
          have Ny166 := Aside0.mk hy166
          clear hy166
          simp only [Option.some.injEq, Prod.mk.injEq] at H
          obtain ⟨rfl, rfl⟩ := H
          go_wp2_with (first | ((with_reducible refine gate_dst (N := 40) rfl ?_); (try (refine gate_guard (by rfl) ?_; dsimp only)); refine Kd.R_lit k67 _ 67 ?hg (N := 40) ?hd (xs := ([] : List (S67))) (inner := []) (ok := fun _ => True) (okp := fun _ => True) ?hr ?hp (fun _ hk => hk) trivial (Below.refl _ _) (Nat.le_refl _) (by simp) ?_; (case hd => rfl); (case hg => rfl); (case hr => first | (go_simp; done) | (go_simp; rfl)); (case hp => exact (Reps.none _ _)); intro v167 w18 ho19 hb hg_ hnew_; clear hg_ hnew_; (first | rw [← Ny166.out] at ho19 | (simp only [Int.reduceToNat] at ho19; rw [← Ny166.out] at ho19)); have n0_ := Aside0.mk (Kd.R_lower ho19 (below_size (by repeat (first | (with_reducible first | exact HB.out | apply below_alloc | apply pw_below_drewN | apply below_drew1) | exact HB.out)))); have n1_ := Aside0.mk (below_step (by repeat (first | (with_reducible first | exact HB.out | apply below_alloc | apply pw_below_drewN | apply below_drew1) | exact HB.out)) hb); clear HB; have HO168 := n0_; have HB := n1_; clear n0_ n1_; clear hb ho19))
          go_ret2
          exact ⟨_, by first | rfl | (simp [errW_none, errW_some] <;> rfl) | (simp [*, errW_none, errW_some] <;> rfl), by (with_reducible repeat (first | apply Kd.R_alloc | apply Kd.R_drewN | apply Kd.R_drew)); exact HO168.out, by repeat (first | (with_reducible first | exact HB.out | apply below_alloc | apply pw_below_drewN | apply below_drew1) | exact HB.out)⟩
         ·rw [if_neg c17] at H
          have c17b0 : (x6_2 == 64) = false := beq_eq_false_iff_ne.mpr c17
          have c17b1 : (x6_2 != 64) = true := bne_iff_ne.mpr c17
          replace H := Option.bind_eq_some_iff.mp H
          obtain ⟨t169, A200, H⟩ := H
          replace H : (some (t169, 0)) = some (r1, r2) := H
          have A20 := Aside0.mk A200
          clear A200
          simp only [Option.some.injEq, Prod.mk.injEq] at H
          obtain ⟨rfl, rfl⟩ := H
          go_wp2_with (first | ((with_reducible refine gate_callee (f := 79) rfl ?_); refine goesL_ (some 43) rfl rfl Try.func79 (by kernel_rfl) rfl #[.slice A0 l0.length c0, .string a1] rfl (by (try simp only [List.map_toArray, List.map_cons, List.map_nil]); first | done | rfl | (simp only [List.length_drop, List.length_take]; rfl)) ?_; (with_reducible refine (spec_l06Add.calls k2 _ _ l0 a1 t169 _ ?side1 ?side2 A20.out).mono ?_); (case side1 => repeat (first | exact (Kd.C_below HR0.out HB.out) | (with_reducible refine Kd.C_alloc ?_ _) | (with_reducible refine Kd.C_drewN ?_ _) | (with_reducible refine Kd.C_drew ?_))); (case side2 => exact HC0.out); rintro e w21 ⟨v170, rfl, ho0, hb⟩; refine ⟨_, rfl, ?_⟩; have n0_ := Aside0.mk (Kd.R_lower ho0 (below_size (by repeat (first | (with_reducible first | exact HB.out | apply below_alloc | apply pw_below_drewN | apply below_drew1) | exact HB.out)))); have n1_ := Aside0.mk (below_step (by repeat (first | (with_reducible first | exact HB.out | apply below_alloc | apply pw_below_drewN | apply below_drew1) | exact HB.out)) hb); clear HB; have HO171 := n0_; have HB := n1_; clear n0_ n1_; (try clear hb); (try clear hb2); (try clear hk); (try clear hi); (try clear ho0)))
          go_ret2
          exact ⟨_, by first | rfl | (simp [errW_none, errW_some] <;> rfl) | (simp [*, errW_none, errW_some] <;> rfl), by (with_reducible repeat (first | apply Kd.R_alloc | apply Kd.R_drewN | apply Kd.R_drew)); exact HO171.out, by repeat (first | (with_reducible first | exact HB.out | apply below_alloc | apply pw_below_drewN | apply below_drew1) | exact HB.out)⟩

/-! ### impl_isText: function 51: by hand -/
def impl_isText.p (t : ByteArray) : Bool := decide ((t.size : Int) > 65536)
def impl_isText.f (l0 : List ByteArray) : Option (Bool) := some (!(l0.any impl_isText.p))
set_option maxHeartbeats 1000000 in
theorem impl_isText.lit (s : ByteArray) (w : World) : Calls Try.prog 89 #[.string s] w fun e w' => e = .returned (.bool (impl_isText.p s)) ∧ Drawn0 w w' := by
 unfold impl_isText.p
 go_enter Try.func89, Try.ntmps89
 go_wp2
 go_ret
 exact ⟨by first | rfl | (simp; done) | (simp [*]; done), by repeat (first | exact Drawn0.refl _ | apply Drawn0.step)⟩
theorem impl_isText.any_at (l : List ByteArray) (i : Nat) (h : i < l.length) (hp : impl_isText.p (rdOf ByteArray.empty l (i : Int)) = true) : l.any impl_isText.p = true := by
 rw [List.any_eq_true]
 refine ⟨l[i], List.getElem_mem h, ?_⟩
 unfold rdOf at hp
 rw [Int.toNat_natCast, List.getD_eq_getElem?_getD, List.getElem?_eq_getElem h] at hp
 exact hp
theorem impl_isText.any_none (l : List ByteArray) (h : ∀ j : Nat, j < l.length → impl_isText.p (rdOf ByteArray.empty l (j : Int)) = false) : l.any impl_isText.p = false := by
 rw [Bool.eq_false_iff]
 intro ha
 rw [List.any_eq_true] at ha
 obtain ⟨x, hx, hp⟩ := ha
 obtain ⟨i, hi, rfl⟩ := List.mem_iff_getElem.1 hx
 have := h i hi
 unfold rdOf at this
 rw [Int.toNat_natCast, List.getD_eq_getElem?_getD, List.getElem?_eq_getElem hi] at this
 simp only [Option.getD_some] at this
 rw [hp] at this
 exact Bool.noConfusion this
def impl_isText.Idx (l : List ByteArray) (e : Ending) : Prop := ∃ i : Int, e = .returned (.int .i64 i) ∧ decide (0 ≤ i) = l.any impl_isText.p
set_option maxHeartbeats 2000000 in
set_option maxRecDepth 100000 in
theorem impl_isText.idx (A0 : Option Addr) (c0 : Nat) (l0 : List ByteArray) (w : World) (hr0 : Kd.C Kd.string w A0 l0.length l0) (hc0 : l0.length ≤ c0) :
  Calls Try.prog 106 #[.slice A0 l0.length c0, .func (.func 89) #[] #[]] w fun e w' => impl_isText.Idx l0 e ∧ Drawn0 w w' := by
 have hm : l0.length ≤ 9223372036854775807 := hr0.2.1
 have HR0 := Aside0.mk hr0
 have HC0 := Aside0.mk hc0
 clear hr0 hc0
 go_enter Try.func106, Try.ntmps106
 go_wp2
 go_loopw [8] (fun v8 w' => ∃ x : Nat, x ≤ l0.length ∧ v8 = .int .i64 x ∧ Aside0 (∀ j : Nat, j < x → impl_isText.p (rdOf ByteArray.empty l0 (j : Int)) = false) ∧ Drawn0 w w') (fun v8 _ => l0.length - (intOf v8).toNat)
 case atStart => exact ⟨0, Nat.zero_le _, rfl, ⟨fun j hj => absurd hj (by omega)⟩, Drawn0.refl _⟩
 case round =>
  obtain ⟨x, hx, rfl, HA, ⟨m1, rfl⟩⟩ := hrel
  by_cases c3 : x < l0.length
  ·have p1 : (0 : Int) ≤ (x : Int) := by omega
   have q1 : (x : Int) < (l0.length : Int) := by omega
   obtain ⟨ad, e1, hx0⟩ := Kd.at_string HR0.out (x : Int) p1 q1
   cases e1
   rw [Int.toNat_natCast] at hx0
   cases hb : impl_isText.p (rdOf ByteArray.empty l0 (x : Int))
   ·have HP := Aside0.mk hb
    clear hb
    go_wp2_with (go_at_call 89; refine (impl_isText.lit _ _).mono ?_; rw [HP.out]; rintro e w' ⟨rfl, ⟨nd, rfl⟩⟩)
    go_roundw
    case rel => exact ⟨x + 1, by omega, by go_num, ⟨fun j hj => by
     rcases Nat.lt_or_ge j x with h | h
     ·exact HA.out j h
     ·have : j = x := by omega
      subst this
      exact HP.out⟩, by repeat (first | exact Drawn0.refl _ | apply Drawn0.step)⟩
    case measure => simp [intOf]; omega
   ·have HP := Aside0.mk hb
    clear hb
    go_wp2_with (go_at_call 89; refine (impl_isText.lit _ _).mono ?_; rw [HP.out]; rintro e w' ⟨rfl, ⟨nd, rfl⟩⟩)
    go_ret
    exact ⟨⟨_, rfl, by rw [impl_isText.any_at l0 x c3 HP.out]; simp⟩, by repeat (first | exact Drawn0.refl _ | apply Drawn0.step)⟩
  ·have hxe : l0.length ≤ x := by omega
   go_wp2
   go_ret
   exact ⟨⟨_, rfl, by rw [impl_isText.any_none l0 (fun j hj => HA.out j (by omega))]; rfl⟩, by repeat (first | exact Drawn0.refl _ | apply Drawn0.step)⟩
set_option maxHeartbeats 1000000 in
theorem impl_isText.has (A0 : Option Addr) (c0 : Nat) (l0 : List ByteArray) (w : World) (hr0 : Kd.C Kd.string w A0 l0.length l0) (hc0 : l0.length ≤ c0) :
  Calls Try.prog 88 #[.slice A0 l0.length c0, .func (.func 89) #[] #[]] w fun e w' => e = .returned (.bool (l0.any impl_isText.p)) ∧ Drawn0 w w' := by
 have HI := Aside0.mk (impl_isText.idx A0 c0 l0 w hr0 hc0)
 clear hr0 hc0
 go_enter Try.func88, Try.ntmps88
 go_wp2_with (go_at_call 106; refine HI.out.mono ?_; rintro e w' ⟨⟨i, rfl, hi⟩, ⟨nd, rfl⟩⟩; have HJ := Aside0.mk hi; clear hi)
 go_ret
 exact ⟨by rw [← HJ.out]; rfl, by repeat (first | exact Drawn0.refl _ | apply Drawn0.step)⟩
set_option maxHeartbeats 1000000 in
theorem impl_isText.calls (A0 : Option Addr) (c0 : Nat) (l0 : List ByteArray) (r : Bool) (w : World) (hr0 : Kd.C Kd.string w A0 l0.length l0) (hc0 : l0.length ≤ c0) (h : impl_isText.f l0 = some r) :
  Calls Try.prog 51 #[.slice A0 l0.length c0] w fun e w' => e = .returned (.bool r) ∧ Drawn0 w w' := by
 have HH := Aside0.mk (impl_isText.has A0 c0 l0 w hr0 hc0)
 obtain rfl := Option.some.inj h
 clear hr0 hc0 h
 go_enter Try.func51, Try.ntmps51
 go_wp2_with (go_at_call 88; refine HH.out.mono ?_; rintro e w' ⟨rfl, ⟨nd, rfl⟩⟩)
 go_ret
 exact ⟨rfl, by repeat (first | exact Drawn0.refl _ | apply Drawn0.step)⟩

/-! ### impl_isHash: function 54: by hand -/
def impl_isHash.p (t : ByteArray) : Bool := ((t.size : Int) != 32)
def impl_isHash.f (l0 : List ByteArray) : Option (Bool) := some (!(l0.any impl_isHash.p))
set_option maxHeartbeats 1000000 in
theorem impl_isHash.lit (s : ByteArray) (w : World) : Calls Try.prog 90 #[.string s] w fun e w' => e = .returned (.bool (impl_isHash.p s)) ∧ Drawn0 w w' := by
 unfold impl_isHash.p
 go_enter Try.func90, Try.ntmps90
 go_wp2
 go_ret
 exact ⟨by first | rfl | (simp; done) | (simp [*]; done), by repeat (first | exact Drawn0.refl _ | apply Drawn0.step)⟩
theorem impl_isHash.any_at (l : List ByteArray) (i : Nat) (h : i < l.length) (hp : impl_isHash.p (rdOf ByteArray.empty l (i : Int)) = true) : l.any impl_isHash.p = true := by
 rw [List.any_eq_true]
 refine ⟨l[i], List.getElem_mem h, ?_⟩
 unfold rdOf at hp
 rw [Int.toNat_natCast, List.getD_eq_getElem?_getD, List.getElem?_eq_getElem h] at hp
 exact hp
theorem impl_isHash.any_none (l : List ByteArray) (h : ∀ j : Nat, j < l.length → impl_isHash.p (rdOf ByteArray.empty l (j : Int)) = false) : l.any impl_isHash.p = false := by
 rw [Bool.eq_false_iff]
 intro ha
 rw [List.any_eq_true] at ha
 obtain ⟨x, hx, hp⟩ := ha
 obtain ⟨i, hi, rfl⟩ := List.mem_iff_getElem.1 hx
 have := h i hi
 unfold rdOf at this
 rw [Int.toNat_natCast, List.getD_eq_getElem?_getD, List.getElem?_eq_getElem hi] at this
 simp only [Option.getD_some] at this
 rw [hp] at this
 exact Bool.noConfusion this
def impl_isHash.Idx (l : List ByteArray) (e : Ending) : Prop := ∃ i : Int, e = .returned (.int .i64 i) ∧ decide (0 ≤ i) = l.any impl_isHash.p
set_option maxHeartbeats 2000000 in
set_option maxRecDepth 100000 in
theorem impl_isHash.idx (A0 : Option Addr) (c0 : Nat) (l0 : List ByteArray) (w : World) (hr0 : Kd.C Kd.string w A0 l0.length l0) (hc0 : l0.length ≤ c0) :
  Calls Try.prog 106 #[.slice A0 l0.length c0, .func (.func 90) #[] #[]] w fun e w' => impl_isHash.Idx l0 e ∧ Drawn0 w w' := by
 have hm : l0.length ≤ 9223372036854775807 := hr0.2.1
 have HR0 := Aside0.mk hr0
 have HC0 := Aside0.mk hc0
 clear hr0 hc0
 go_enter Try.func106, Try.ntmps106
 go_wp2
 go_loopw [8] (fun v8 w' => ∃ x : Nat, x ≤ l0.length ∧ v8 = .int .i64 x ∧ Aside0 (∀ j : Nat, j < x → impl_isHash.p (rdOf ByteArray.empty l0 (j : Int)) = false) ∧ Drawn0 w w') (fun v8 _ => l0.length - (intOf v8).toNat)
 case atStart => exact ⟨0, Nat.zero_le _, rfl, ⟨fun j hj => absurd hj (by omega)⟩, Drawn0.refl _⟩
 case round =>
  obtain ⟨x, hx, rfl, HA, ⟨m1, rfl⟩⟩ := hrel
  by_cases c3 : x < l0.length
  ·have p1 : (0 : Int) ≤ (x : Int) := by omega
   have q1 : (x : Int) < (l0.length : Int) := by omega
   obtain ⟨ad, e1, hx0⟩ := Kd.at_string HR0.out (x : Int) p1 q1
   cases e1
   rw [Int.toNat_natCast] at hx0
   cases hb : impl_isHash.p (rdOf ByteArray.empty l0 (x : Int))
   ·have HP := Aside0.mk hb
    clear hb
    go_wp2_with (go_at_call 90; refine (impl_isHash.lit _ _).mono ?_; rw [HP.out]; rintro e w' ⟨rfl, ⟨nd, rfl⟩⟩)
    go_roundw
    case rel => exact ⟨x + 1, by omega, by go_num, ⟨fun j hj => by
     rcases Nat.lt_or_ge j x with h | h
     ·exact HA.out j h
     ·have : j = x := by omega
      subst this
      exact HP.out⟩, by repeat (first | exact Drawn0.refl _ | apply Drawn0.step)⟩
    case measure => simp [intOf]; omega
   ·have HP := Aside0.mk hb
    clear hb
    go_wp2_with (go_at_call 90; refine (impl_isHash.lit _ _).mono ?_; rw [HP.out]; rintro e w' ⟨rfl, ⟨nd, rfl⟩⟩)
    go_ret
    exact ⟨⟨_, rfl, by rw [impl_isHash.any_at l0 x c3 HP.out]; simp⟩, by repeat (first | exact Drawn0.refl _ | apply Drawn0.step)⟩
  ·have hxe : l0.length ≤ x := by omega
   go_wp2
   go_ret
   exact ⟨⟨_, rfl, by rw [impl_isHash.any_none l0 (fun j hj => HA.out j (by omega))]; rfl⟩, by repeat (first | exact Drawn0.refl _ | apply Drawn0.step)⟩
set_option maxHeartbeats 1000000 in
theorem impl_isHash.has (A0 : Option Addr) (c0 : Nat) (l0 : List ByteArray) (w : World) (hr0 : Kd.C Kd.string w A0 l0.length l0) (hc0 : l0.length ≤ c0) :
  Calls Try.prog 88 #[.slice A0 l0.length c0, .func (.func 90) #[] #[]] w fun e w' => e = .returned (.bool (l0.any impl_isHash.p)) ∧ Drawn0 w w' := by
 have HI := Aside0.mk (impl_isHash.idx A0 c0 l0 w hr0 hc0)
 clear hr0 hc0
 go_enter Try.func88, Try.ntmps88
 go_wp2_with (go_at_call 106; refine HI.out.mono ?_; rintro e w' ⟨⟨i, rfl, hi⟩, ⟨nd, rfl⟩⟩; have HJ := Aside0.mk hi; clear hi)
 go_ret
 exact ⟨by rw [← HJ.out]; rfl, by repeat (first | exact Drawn0.refl _ | apply Drawn0.step)⟩
set_option maxHeartbeats 1000000 in
theorem impl_isHash.calls (A0 : Option Addr) (c0 : Nat) (l0 : List ByteArray) (r : Bool) (w : World) (hr0 : Kd.C Kd.string w A0 l0.length l0) (hc0 : l0.length ≤ c0) (h : impl_isHash.f l0 = some r) :
  Calls Try.prog 54 #[.slice A0 l0.length c0] w fun e w' => e = .returned (.bool r) ∧ Drawn0 w w' := by
 have HH := Aside0.mk (impl_isHash.has A0 c0 l0 w hr0 hc0)
 obtain rfl := Option.some.inj h
 clear hr0 hc0 h
 go_enter Try.func54, Try.ntmps54
 go_wp2_with (go_at_call 88; refine HH.out.mono ?_; rintro e w' ⟨rfl, ⟨nd, rfl⟩⟩)
 go_ret
 exact ⟨rfl, by repeat (first | exact Drawn0.refl _ | apply Drawn0.step)⟩

/-! ### impl_hash: function 46: by hand -/
-- IMPORT SHash2
def impl_hash.f (a0 : ByteArray) : Option (ByteArray) := if a0.size ≤ 1099511627776 then some (Go.Proofs.Ytpoaapedcmfcfaa.Hash.sha a0) else none
theorem impl_hash.calls (a0 : ByteArray) (r : ByteArray) (w : World) (h : impl_hash.f a0 = some r) :
  Calls Try.prog 46 #[.string a0] w fun e w' => e = .returned (.string r) ∧ Below w.heap.size w w' := by
 unfold impl_hash.f at h
 split at h
 ·rename_i hs
  obtain rfl := Option.some.inj h
  exact Go.Proofs.Ytpoaapedcmfcfaa.Hash.hash_walk a0 w hs
 ·cases h

/-! ### impl_nodeHash: function 55 -/
def impl_nodeHash.f (a0 : ByteArray) (a1 : ByteArray) : Option (ByteArray) := if 1 + a0.size ≤ 9223372036854775807 then (if 1 + a0.size + a1.size ≤ 9223372036854775807 then ((impl_hash.f (((⟨#[1]⟩ : ByteArray) ++ a0) ++ a1)).bind fun t172 => (some t172)) else (none)) else (none)
set_option maxHeartbeats 8000000 in
set_option maxRecDepth 100000 in
theorem impl_nodeHash.calls (a0 : ByteArray) (a1 : ByteArray) (r : ByteArray) (w : World) (h : impl_nodeHash.f a0 a1 = some r) :
  Calls Try.prog 55 #[.string a0, .string a1] w fun e w' => e = .returned (.string r) ∧ Below w.heap.size w w' := by
 have HB := Aside0.mk (Below.refl w.heap.size w)
 have H : (if 1 + a0.size ≤ 9223372036854775807 then (if 1 + a0.size + a1.size ≤ 9223372036854775807 then ((impl_hash.f (((⟨#[1]⟩ : ByteArray) ++ a0) ++ a1)).bind fun t172 => (some t172)) else (none)) else (none)) = some r := h
 clear h
 by_cases c3 : 1 + a0.size ≤ 9223372036854775807
 ·rw [if_pos c3] at H
  have c3b0 := eq_true c3
  have c3b1 : decide (1 + a0.size ≤ 9223372036854775807) = true := decide_eq_true c3
  try have c3b2 : (9223372036854775807 < 1 + a0.size) = False := eq_false (Nat.not_lt.2 c3)
  by_cases c4 : 1 + a0.size + a1.size ≤ 9223372036854775807
  ·rw [if_pos c4] at H
   have c4b0 := eq_true c4
   have c4b1 : decide (1 + a0.size + a1.size ≤ 9223372036854775807) = true := decide_eq_true c4
   try have c4b2 : (9223372036854775807 < 1 + a0.size + a1.size) = False := eq_false (Nat.not_lt.2 c4)
   replace H := Option.bind_eq_some_iff.mp H
   obtain ⟨t172, A50, H⟩ := H
   replace H : (some t172) = some r := H
   have A5 := Aside0.mk A50
   clear A50
   obtain rfl := Option.some.inj H
   go_enter Try.func55, Try.ntmps55
   go_wp2_with (first | ((with_reducible refine gate_callee (f := 46) rfl ?_); refine goesL_ (some 9) rfl rfl Try.func46 (by kernel_rfl) rfl #[.string (((⟨#[1]⟩ : ByteArray) ++ a0) ++ a1)] rfl (by (try simp only [List.map_toArray, List.map_cons, List.map_nil]); first | done | rfl | (simp only [List.length_drop, List.length_take]; rfl)) ?_; (with_reducible refine (impl_hash.calls (((⟨#[1]⟩ : ByteArray) ++ a0) ++ a1) t172 _ A5.out).mono ?_); rintro e w6 ⟨rfl, hb⟩; refine ⟨_, rfl, ?_⟩; have n0_ := Aside0.mk (below_step (by repeat (first | (with_reducible first | exact HB.out | apply below_alloc | apply pw_below_drewN | apply below_drew1) | exact HB.out)) hb); clear HB; have HB := n0_; clear n0_; (try clear hb); (try clear hb2); (try clear hk); (try clear hi)))
   go_ret
   exact ⟨by first | rfl | (simp [errW_none, errW_some] <;> rfl) | (simp [*, errW_none, errW_some] <;> rfl), by repeat (first | (with_reducible first | exact HB.out | apply below_alloc | apply pw_below_drewN | apply below_drew1) | exact HB.out)⟩
  ·rw [if_neg c4] at H
   exact absurd H (by simp)
 ·rw [if_neg c3] at H
  exact absurd H (by simp)

/-! ### impl_Peak_64: function 64 -/
def impl_Peak_64.f (l0 : List (S67)) : Option (Bool) := some (decide ((l0.length : Int) ≤ 4096))
set_option maxHeartbeats 8000000 in
set_option maxRecDepth 100000 in
theorem impl_Peak_64.calls (A0 : Option Addr) (c0 : Nat) (l0 : List (S67)) (r : Bool) (w : World) (hr0 : Kd.C k67 w A0 l0.length l0) (hc0 : l0.length ≤ c0) (h : impl_Peak_64.f l0 = some r) :
  Calls Try.prog 64 #[.slice A0 l0.length c0] w fun e w' => e = .returned (.bool r) ∧ Drawn0 w w' := by
 have HR0 := Aside0.mk hr0
 have HC0 := Aside0.mk hc0
 clear hr0 hc0
 have H : (some (decide ((l0.length : Int) ≤ 4096))) = some r := h
 clear h
 obtain rfl := Option.some.inj H
 go_enter Try.func64, Try.ntmps64
 go_wp2
 go_ret
 exact ⟨by first | rfl | (simp; done) | (simp [*]; done), by repeat (first | exact Drawn0.refl _ | apply Drawn0.step)⟩

/-! ### impl_within: function 76 -/
def impl_within.f (a0 : Int) (a1 : Int) (a2 : Int) : Option (Bool) := if a0 ≥ a1 then (some (decide (a0 ≤ a2))) else (some false)
set_option maxHeartbeats 8000000 in
set_option maxRecDepth 100000 in
theorem impl_within.calls (a0 : Int) (a1 : Int) (a2 : Int) (r : Bool) (w : World) (h : impl_within.f a0 a1 a2 = some r) :
  Calls Try.prog 76 #[.int .i64 a0, .int .i64 a1, .int .i64 a2] w fun e w' => e = .returned (.bool r) ∧ Drawn0 w w' := by
 have H : (if a0 ≥ a1 then (some (decide (a0 ≤ a2))) else (some false)) = some r := h
 clear h
 by_cases c4 : a0 ≥ a1
 ·rw [if_pos c4] at H
  have c4b0 : decide (a1 ≤ a0) = true := decide_eq_true c4
  clear c4
  obtain rfl := Option.some.inj H
  go_enter Try.func76, Try.ntmps76
  go_wp2
  go_ret
  exact ⟨by first | rfl | (simp; done) | (simp [*]; done), by repeat (first | exact Drawn0.refl _ | apply Drawn0.step)⟩
 ·rw [if_neg c4] at H
  have c4b0 : decide (a1 ≤ a0) = false := decide_eq_false c4
  clear c4
  obtain rfl := Option.some.inj H
  go_enter Try.func76, Try.ntmps76
  go_wp2
  go_ret
  exact ⟨by first | rfl | (simp; done) | (simp [*]; done), by repeat (first | exact Drawn0.refl _ | apply Drawn0.step)⟩

end Go.Proofs.Ytpoaapedcmfcfaa.PFnExactAddPeak
