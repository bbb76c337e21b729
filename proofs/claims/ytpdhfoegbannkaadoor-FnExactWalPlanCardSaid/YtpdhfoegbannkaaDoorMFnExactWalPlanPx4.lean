import Derived.Test.YtpdhfoegbannkaaDoorMFnExactWalPlanPx0
import Derived.Test.YtpdhfoegbannkaaDoorMFnExactWalPlanPx2
namespace Go.Proofs.YtpdhfoegbannkaaDoor.PFnExactWalPlan
open Go.RowKit Go.Proofs.YtpdhfoegbannkaaDoorW.PrintWords Go.Proofs.YtpdhfoegbannkaaDoorW.PrintLast Go.Proofs.YtpdhfoegbannkaaDoorW.PrintMore
attribute [local go_sem] max2_int min2_int max_two min_two max_three min_three max_four min_four
set_option linter.unusedVariables false
set_option linter.unusedSimpArgs false
def spec_l04Number.f (a0 : ByteArray) : Option (Int) := if (a0.size : Int) = 3 then (if 0 < (a0.size : Int) then (if (bt a0 0) = 115 then (if 1 < (a0.size : Int) then ((spec_l00Digit.f (bt a0 1)).bind fun t156 => (if t156 = true then (if 2 < (a0.size : Int) then ((spec_l00Digit.f (bt a0 2)).bind fun t157 => (if t157 = true then (some (wrap64 ((wrap64 ((wrap64 (10 * (wrap64 ((wrap64 (bt a0 1)) - 48)))) + (wrap64 (bt a0 2)))) - 48))) else (some 0))) else (none)) else (some 0))) else (none)) else (some 0)) else (none)) else (some 0)
set_option maxHeartbeats 8000000 in
set_option maxRecDepth 100000 in
theorem spec_l04Number.calls (a0 : ByteArray) (r : Int) (w : World) (h : spec_l04Number.f a0 = some r) :
  Calls Tryd.prog 73 #[.string a0] w fun e w' => e = .returned (.int .i64 r) ∧ Drawn0 w w' := by
 have H : (if (a0.size : Int) = 3 then (if 0 < (a0.size : Int) then (if (bt a0 0) = 115 then (if 1 < (a0.size : Int) then ((spec_l00Digit.f (bt a0 1)).bind fun t156 => (if t156 = true then (if 2 < (a0.size : Int) then ((spec_l00Digit.f (bt a0 2)).bind fun t157 => (if t157 = true then (some (wrap64 ((wrap64 ((wrap64 (10 * (wrap64 ((wrap64 (bt a0 1)) - 48)))) + (wrap64 (bt a0 2)))) - 48))) else (some 0))) else (none)) else (some 0))) else (none)) else (some 0)) else (none)) else (some 0)) = some r := h;clear h
 by_cases c2 : (a0.size : Int) = 3
 ·rw [if_pos c2] at H;have c2b0 : ((a0.size : Int) == 3) = true := beq_iff_eq.mpr c2;have c2b1 : ((a0.size : Int) != 3) = false := bne_eq_false_iff_eq.mpr c2;clear c2
  by_cases c3 : 0 < (a0.size : Int)
  ·rw [if_pos c3] at H;have c3b0 : decide (0 < (a0.size : Int)) = true := decide_eq_true c3;have c3b1 : decide (0 < a0.size) = true := decide_eq_true (by omega);clear c3
   by_cases c5 : (bt a0 0) = 115
   ·rw [if_pos c5] at H;have c5b0 : ((bt a0 0) == 115) = true := beq_iff_eq.mpr c5;have c5b1 : ((bt a0 0) != 115) = false := bne_eq_false_iff_eq.mpr c5;clear c5
    by_cases c6 : 1 < (a0.size : Int)
    ·rw [if_pos c6] at H;have c6b0 : decide (1 < (a0.size : Int)) = true := decide_eq_true c6;have c6b1 : decide (1 < a0.size) = true := decide_eq_true (by omega);clear c6;obtain ⟨t156, A8, H⟩ := bX H;(try dsimp only at H)
     by_cases c9 : t156 = true
     ·subst c9
      rw [if_pos rfl] at H
      by_cases c10 : 2 < (a0.size : Int)
      ·rw [if_pos c10] at H;have c10b0 : decide (2 < (a0.size : Int)) = true := decide_eq_true c10;have c10b1 : decide (2 < a0.size) = true := decide_eq_true (by omega);clear c10;obtain ⟨t157, A12, H⟩ := bX H;(try dsimp only at H)
       by_cases c13 : t157 = true
       ·subst c13
        rw [if_pos rfl] at H;obtain rfl := Option.some.inj H;have p4 : 0 ≤ (0 : Int) := (by omega);have q4 : 0 < a0.size := (by have : (0 : Int) < (a0.size : Int) := oD; omega);have hx4 : ∀ h : 0 < a0.size, ((a0[0]'h).toNat : Int) = bt a0 0 := bt_at a0 0;clear p4;have qi4 : (0 < (a0.size : Int)) = True := eq_true oD;replace q4 := eq_true q4;have p7 : 0 ≤ (1 : Int) := (by omega);have q7 : 1 < a0.size := (by have : (1 : Int) < (a0.size : Int) := oD; omega);have hx7 : ∀ h : 1 < a0.size, ((a0[1]'h).toNat : Int) = bt a0 1 := bt_at a0 1;clear p7;have qi7 : (1 < (a0.size : Int)) = True := eq_true oD;replace q7 := eq_true q7
        go_enter Tryd.func73, Tryd.ntmps73
        have p11 : 0 ≤ (2 : Int) := (by omega);have q11 : 2 < a0.size := (by have : (2 : Int) < (a0.size : Int) := oD; omega);have hx11 : ∀ h : 2 < a0.size, ((a0[2]'h).toNat : Int) = bt a0 2 := bt_at a0 2;clear p11;have qi11 : (2 < (a0.size : Int)) = True := eq_true oD;replace q11 := eq_true q11;have p14 : 0 ≤ (1 : Int) := (by omega);have q14 : 1 < a0.size := (by have : (1 : Int) < (a0.size : Int) := oD; omega);have hx14 : ∀ h : 1 < a0.size, ((a0[1]'h).toNat : Int) = bt a0 1 := bt_at a0 1;clear p14;have qi14 : (1 < (a0.size : Int)) = True := eq_true oD;replace q14 := eq_true q14;have p15 : 0 ≤ (2 : Int) := (by omega);have q15 : 2 < a0.size := (by have : (2 : Int) < (a0.size : Int) := oD; omega);have hx15 : ∀ h : 2 < a0.size, ((a0[2]'h).toNat : Int) = bt a0 2 := bt_at a0 2;clear p15;have qi15 : (2 < (a0.size : Int)) = True := eq_true oD;replace q15 := eq_true q15
        go_wp2_with (first | (go_at_call 93; (with_reducible refine (spec_l00Digit.calls (bt a0 1) true _ A8.o).mono ?_); rintro e w' ⟨rfl, ⟨nd, rfl⟩⟩; (try first | exact ⟨rfl, _, World.drewN_drewN _ _ _⟩ | exact ⟨rfl, _, Eq.trans (World.drewN_drewN _ _ _) (congrArg (World.drewN _) (Nat.add_assoc _ _ _))⟩); (try (have p11 : 0 ≤ (2 : Int) := (by omega); have q11 : 2 < a0.size := (by have : (2 : Int) < (a0.size : Int) := oD; omega); have hx11 : ∀ h : 2 < a0.size, ((a0[2]'h).toNat : Int) = bt a0 2 := bt_at a0 2; clear p11; have qi11 : (2 < (a0.size : Int)) = True := eq_true oD; replace q11 := eq_true q11))) | (go_at_call 93; (with_reducible refine (spec_l00Digit.calls (bt a0 2) true _ A12.o).mono ?_); rintro e w' ⟨rfl, ⟨nd, rfl⟩⟩; (try first | exact ⟨rfl, _, World.drewN_drewN _ _ _⟩ | exact ⟨rfl, _, Eq.trans (World.drewN_drewN _ _ _) (congrArg (World.drewN _) (Nat.add_assoc _ _ _))⟩); (try (have p14 : 0 ≤ (1 : Int) := (by omega); have q14 : 1 < a0.size := (by have : (1 : Int) < (a0.size : Int) := oD; omega); have hx14 : ∀ h : 1 < a0.size, ((a0[1]'h).toNat : Int) = bt a0 1 := bt_at a0 1; clear p14; have qi14 : (1 < (a0.size : Int)) = True := eq_true oD; replace q14 := eq_true q14; have p15 : 0 ≤ (2 : Int) := (by omega); have q15 : 2 < a0.size := (by have : (2 : Int) < (a0.size : Int) := oD; omega); have hx15 : ∀ h : 2 < a0.size, ((a0[2]'h).toNat : Int) = bt a0 2 := bt_at a0 2; clear p15; have qi15 : (2 < (a0.size : Int)) = True := eq_true oD; replace q15 := eq_true q15))))
        repeat (go_quiet (first | (go_at_call 93; (with_reducible refine (spec_l00Digit.calls (bt a0 1) true _ A8.o).mono ?_); rintro e w' ⟨rfl, ⟨nd, rfl⟩⟩; (try first | exact ⟨rfl, _, World.drewN_drewN _ _ _⟩ | exact ⟨rfl, _, Eq.trans (World.drewN_drewN _ _ _) (congrArg (World.drewN _) (Nat.add_assoc _ _ _))⟩); (try (have p11 : 0 ≤ (2 : Int) := (by omega); have q11 : 2 < a0.size := (by have : (2 : Int) < (a0.size : Int) := oD; omega); have hx11 : ∀ h : 2 < a0.size, ((a0[2]'h).toNat : Int) = bt a0 2 := bt_at a0 2; clear p11; have qi11 : (2 < (a0.size : Int)) = True := eq_true oD; replace q11 := eq_true q11))) | (go_at_call 93; (with_reducible refine (spec_l00Digit.calls (bt a0 2) true _ A12.o).mono ?_); rintro e w' ⟨rfl, ⟨nd, rfl⟩⟩; (try first | exact ⟨rfl, _, World.drewN_drewN _ _ _⟩ | exact ⟨rfl, _, Eq.trans (World.drewN_drewN _ _ _) (congrArg (World.drewN _) (Nat.add_assoc _ _ _))⟩); (try (have p14 : 0 ≤ (1 : Int) := (by omega); have q14 : 1 < a0.size := (by have : (1 : Int) < (a0.size : Int) := oD; omega); have hx14 : ∀ h : 1 < a0.size, ((a0[1]'h).toNat : Int) = bt a0 1 := bt_at a0 1; clear p14; have qi14 : (1 < (a0.size : Int)) = True := eq_true oD; replace q14 := eq_true q14; have p15 : 0 ≤ (2 : Int) := (by omega); have q15 : 2 < a0.size := (by have : (2 : Int) < (a0.size : Int) := oD; omega); have hx15 : ∀ h : 2 < a0.size, ((a0[2]'h).toNat : Int) = bt a0 2 := bt_at a0 2; clear p15; have qi15 : (2 < (a0.size : Int)) = True := eq_true oD; replace q15 := eq_true q15)))); try go_wp2_with (first | (go_at_call 93; (with_reducible refine (spec_l00Digit.calls (bt a0 1) true _ A8.o).mono ?_); rintro e w' ⟨rfl, ⟨nd, rfl⟩⟩; (try first | exact ⟨rfl, _, World.drewN_drewN _ _ _⟩ | exact ⟨rfl, _, Eq.trans (World.drewN_drewN _ _ _) (congrArg (World.drewN _) (Nat.add_assoc _ _ _))⟩); (try (have p11 : 0 ≤ (2 : Int) := (by omega); have q11 : 2 < a0.size := (by have : (2 : Int) < (a0.size : Int) := oD; omega); have hx11 : ∀ h : 2 < a0.size, ((a0[2]'h).toNat : Int) = bt a0 2 := bt_at a0 2; clear p11; have qi11 : (2 < (a0.size : Int)) = True := eq_true oD; replace q11 := eq_true q11))) | (go_at_call 93; (with_reducible refine (spec_l00Digit.calls (bt a0 2) true _ A12.o).mono ?_); rintro e w' ⟨rfl, ⟨nd, rfl⟩⟩; (try first | exact ⟨rfl, _, World.drewN_drewN _ _ _⟩ | exact ⟨rfl, _, Eq.trans (World.drewN_drewN _ _ _) (congrArg (World.drewN _) (Nat.add_assoc _ _ _))⟩); (try (have p14 : 0 ≤ (1 : Int) := (by omega); have q14 : 1 < a0.size := (by have : (1 : Int) < (a0.size : Int) := oD; omega); have hx14 : ∀ h : 1 < a0.size, ((a0[1]'h).toNat : Int) = bt a0 1 := bt_at a0 1; clear p14; have qi14 : (1 < (a0.size : Int)) = True := eq_true oD; replace q14 := eq_true q14; have p15 : 0 ≤ (2 : Int) := (by omega); have q15 : 2 < a0.size := (by have : (2 : Int) < (a0.size : Int) := oD; omega); have hx15 : ∀ h : 2 < a0.size, ((a0[2]'h).toNat : Int) = bt a0 2 := bt_at a0 2; clear p15; have qi15 : (2 < (a0.size : Int)) = True := eq_true oD; replace q15 := eq_true q15)))))
        go_ret
        exact ⟨by first | rfl | (simp; done) | (simp [*]; done), by repeat (first | exact Drawn0.refl _ | apply Drawn0.step)⟩
       ·replace c13 := Bool.eq_false_iff.mpr c13;subst c13
        rw [if_neg (show ¬ (false = true) by decide)] at H;obtain rfl := Option.some.inj H;have p4 : 0 ≤ (0 : Int) := (by omega);have q4 : 0 < a0.size := (by have : (0 : Int) < (a0.size : Int) := oD; omega);have hx4 : ∀ h : 0 < a0.size, ((a0[0]'h).toNat : Int) = bt a0 0 := bt_at a0 0;clear p4;have qi4 : (0 < (a0.size : Int)) = True := eq_true oD;replace q4 := eq_true q4;have p7 : 0 ≤ (1 : Int) := (by omega);have q7 : 1 < a0.size := (by have : (1 : Int) < (a0.size : Int) := oD; omega);have hx7 : ∀ h : 1 < a0.size, ((a0[1]'h).toNat : Int) = bt a0 1 := bt_at a0 1;clear p7;have qi7 : (1 < (a0.size : Int)) = True := eq_true oD;replace q7 := eq_true q7
        go_enter Tryd.func73, Tryd.ntmps73
        have p11 : 0 ≤ (2 : Int) := (by omega);have q11 : 2 < a0.size := (by have : (2 : Int) < (a0.size : Int) := oD; omega);have hx11 : ∀ h : 2 < a0.size, ((a0[2]'h).toNat : Int) = bt a0 2 := bt_at a0 2;clear p11;have qi11 : (2 < (a0.size : Int)) = True := eq_true oD;replace q11 := eq_true q11
        go_wp2_with (first | (go_at_call 93; (with_reducible refine (spec_l00Digit.calls (bt a0 1) true _ A8.o).mono ?_); rintro e w' ⟨rfl, ⟨nd, rfl⟩⟩; (try first | exact ⟨rfl, _, World.drewN_drewN _ _ _⟩ | exact ⟨rfl, _, Eq.trans (World.drewN_drewN _ _ _) (congrArg (World.drewN _) (Nat.add_assoc _ _ _))⟩); (try (have p11 : 0 ≤ (2 : Int) := (by omega); have q11 : 2 < a0.size := (by have : (2 : Int) < (a0.size : Int) := oD; omega); have hx11 : ∀ h : 2 < a0.size, ((a0[2]'h).toNat : Int) = bt a0 2 := bt_at a0 2; clear p11; have qi11 : (2 < (a0.size : Int)) = True := eq_true oD; replace q11 := eq_true q11))) | (go_at_call 93; (with_reducible refine (spec_l00Digit.calls (bt a0 2) false _ A12.o).mono ?_); rintro e w' ⟨rfl, ⟨nd, rfl⟩⟩; (try first | exact ⟨rfl, _, World.drewN_drewN _ _ _⟩ | exact ⟨rfl, _, Eq.trans (World.drewN_drewN _ _ _) (congrArg (World.drewN _) (Nat.add_assoc _ _ _))⟩)))
        repeat (go_quiet (first | (go_at_call 93; (with_reducible refine (spec_l00Digit.calls (bt a0 1) true _ A8.o).mono ?_); rintro e w' ⟨rfl, ⟨nd, rfl⟩⟩; (try first | exact ⟨rfl, _, World.drewN_drewN _ _ _⟩ | exact ⟨rfl, _, Eq.trans (World.drewN_drewN _ _ _) (congrArg (World.drewN _) (Nat.add_assoc _ _ _))⟩); (try (have p11 : 0 ≤ (2 : Int) := (by omega); have q11 : 2 < a0.size := (by have : (2 : Int) < (a0.size : Int) := oD; omega); have hx11 : ∀ h : 2 < a0.size, ((a0[2]'h).toNat : Int) = bt a0 2 := bt_at a0 2; clear p11; have qi11 : (2 < (a0.size : Int)) = True := eq_true oD; replace q11 := eq_true q11))) | (go_at_call 93; (with_reducible refine (spec_l00Digit.calls (bt a0 2) false _ A12.o).mono ?_); rintro e w' ⟨rfl, ⟨nd, rfl⟩⟩; (try first | exact ⟨rfl, _, World.drewN_drewN _ _ _⟩ | exact ⟨rfl, _, Eq.trans (World.drewN_drewN _ _ _) (congrArg (World.drewN _) (Nat.add_assoc _ _ _))⟩))); try go_wp2_with (first | (go_at_call 93; (with_reducible refine (spec_l00Digit.calls (bt a0 1) true _ A8.o).mono ?_); rintro e w' ⟨rfl, ⟨nd, rfl⟩⟩; (try first | exact ⟨rfl, _, World.drewN_drewN _ _ _⟩ | exact ⟨rfl, _, Eq.trans (World.drewN_drewN _ _ _) (congrArg (World.drewN _) (Nat.add_assoc _ _ _))⟩); (try (have p11 : 0 ≤ (2 : Int) := (by omega); have q11 : 2 < a0.size := (by have : (2 : Int) < (a0.size : Int) := oD; omega); have hx11 : ∀ h : 2 < a0.size, ((a0[2]'h).toNat : Int) = bt a0 2 := bt_at a0 2; clear p11; have qi11 : (2 < (a0.size : Int)) = True := eq_true oD; replace q11 := eq_true q11))) | (go_at_call 93; (with_reducible refine (spec_l00Digit.calls (bt a0 2) false _ A12.o).mono ?_); rintro e w' ⟨rfl, ⟨nd, rfl⟩⟩; (try first | exact ⟨rfl, _, World.drewN_drewN _ _ _⟩ | exact ⟨rfl, _, Eq.trans (World.drewN_drewN _ _ _) (congrArg (World.drewN _) (Nat.add_assoc _ _ _))⟩))))
        go_ret
        exact ⟨by first | rfl | (simp; done) | (simp [*]; done), by repeat (first | exact Drawn0.refl _ | apply Drawn0.step)⟩
      ·rw [if_neg c10] at H;exact absurd H (by simp)
     ·replace c9 := Bool.eq_false_iff.mpr c9;subst c9
      rw [if_neg (show ¬ (false = true) by decide)] at H;obtain rfl := Option.some.inj H;have p4 : 0 ≤ (0 : Int) := (by omega);have q4 : 0 < a0.size := (by have : (0 : Int) < (a0.size : Int) := oD; omega);have hx4 : ∀ h : 0 < a0.size, ((a0[0]'h).toNat : Int) = bt a0 0 := bt_at a0 0;clear p4;have qi4 : (0 < (a0.size : Int)) = True := eq_true oD;replace q4 := eq_true q4;have p7 : 0 ≤ (1 : Int) := (by omega);have q7 : 1 < a0.size := (by have : (1 : Int) < (a0.size : Int) := oD; omega);have hx7 : ∀ h : 1 < a0.size, ((a0[1]'h).toNat : Int) = bt a0 1 := bt_at a0 1;clear p7;have qi7 : (1 < (a0.size : Int)) = True := eq_true oD;replace q7 := eq_true q7
      go_enter Tryd.func73, Tryd.ntmps73
      go_wp2_with (first | (go_at_call 93; (with_reducible refine (spec_l00Digit.calls (bt a0 1) false _ A8.o).mono ?_); rintro e w' ⟨rfl, ⟨nd, rfl⟩⟩; (try first | exact ⟨rfl, _, World.drewN_drewN _ _ _⟩ | exact ⟨rfl, _, Eq.trans (World.drewN_drewN _ _ _) (congrArg (World.drewN _) (Nat.add_assoc _ _ _))⟩)))
      repeat (go_quiet (first | (go_at_call 93; (with_reducible refine (spec_l00Digit.calls (bt a0 1) false _ A8.o).mono ?_); rintro e w' ⟨rfl, ⟨nd, rfl⟩⟩; (try first | exact ⟨rfl, _, World.drewN_drewN _ _ _⟩ | exact ⟨rfl, _, Eq.trans (World.drewN_drewN _ _ _) (congrArg (World.drewN _) (Nat.add_assoc _ _ _))⟩))); try go_wp2_with (first | (go_at_call 93; (with_reducible refine (spec_l00Digit.calls (bt a0 1) false _ A8.o).mono ?_); rintro e w' ⟨rfl, ⟨nd, rfl⟩⟩; (try first | exact ⟨rfl, _, World.drewN_drewN _ _ _⟩ | exact ⟨rfl, _, Eq.trans (World.drewN_drewN _ _ _) (congrArg (World.drewN _) (Nat.add_assoc _ _ _))⟩))))
      go_ret
      exact ⟨by first | rfl | (simp; done) | (simp [*]; done), by repeat (first | exact Drawn0.refl _ | apply Drawn0.step)⟩
    ·rw [if_neg c6] at H;exact absurd H (by simp)
   ·rw [if_neg c5] at H;have c5b0 : ((bt a0 0) == 115) = false := beq_eq_false_iff_ne.mpr c5;have c5b1 : ((bt a0 0) != 115) = true := bne_iff_ne.mpr c5;obtain rfl := Option.some.inj H;have p4 : 0 ≤ (0 : Int) := (by omega);have q4 : 0 < a0.size := (by have : (0 : Int) < (a0.size : Int) := oD; omega);have hx4 : ∀ h : 0 < a0.size, ((a0[0]'h).toNat : Int) = bt a0 0 := bt_at a0 0;clear p4;have qi4 : (0 < (a0.size : Int)) = True := eq_true oD;replace q4 := eq_true q4
    go_enter Tryd.func73, Tryd.ntmps73
    go_wp2
    repeat (go_quiet (fail); try go_wp2)
    go_ret
    exact ⟨by first | rfl | (simp; done) | (simp [*]; done), by repeat (first | exact Drawn0.refl _ | apply Drawn0.step)⟩
  ·rw [if_neg c3] at H;exact absurd H (by simp)
 ·rw [if_neg c2] at H;have c2b0 : ((a0.size : Int) == 3) = false := beq_eq_false_iff_ne.mpr c2;have c2b1 : ((a0.size : Int) != 3) = true := bne_iff_ne.mpr c2;obtain rfl := Option.some.inj H
  go_enter Tryd.func73, Tryd.ntmps73
  go_wp2
  repeat (go_quiet (fail); try go_wp2)
  go_ret
  exact ⟨by first | rfl | (simp; done) | (simp [*]; done), by repeat (first | exact Drawn0.refl _ | apply Drawn0.step)⟩
def spec_l04Segments.l0 : Nat → List Int → Int → Int → List (S69) → Option (List Int)
 | 0, _, _, _, _ => none
 | k + 1, x3, x4, x159000, x159001 => if x4 < (x159001.length : Int) then (if 0 ≤ x4 then ((spec_l04Number.f ((rd_T69 x159001 x4).f0)).bind fun t163 => (if t163 > 0 then (if x3.length < 17592186044416 then (spec_l04Segments.l0 k (x3 ++ [t163]) (wrap64 (x4 + 1)) x159000 x159001) else (none)) else (spec_l04Segments.l0 k x3 (wrap64 (x4 + 1)) x159000 x159001))) else (none)) else (some x3)
def spec_l04Segments.f (k : Nat) (a0_0 : Int) (l0_1 : List (S69)) : Option (List Int) := spec_l04Segments.l0 k (([] : List Int)) 0 a0_0 l0_1
theorem spec_l04Segments.mono_l : ∀ k, (∀ y0 y1 y2 y3, LeO (spec_l04Segments.l0 k y0 y1 y2 y3) (spec_l04Segments.l0 (k + 1) y0 y1 y2 y3))
 | 0 => fun _ _ _ _ r h => by simp [spec_l04Segments.l0] at h
 | k + 1 => by
  have ih0 := spec_l04Segments.mono_l k
  ·intro y0 y1 y2 y3
   unfold spec_l04Segments.l0
   repeat' first
   | (with_reducible exact ih0 _ _ _ _)
   | (with_reducible exact LeO.refl _)
   | (with_reducible exact LeO.none _)
   | (with_reducible refine LeO.ite ?_ ?_)
   | (with_reducible refine LeO.bind ?_ (fun _ => ?_))
   | exact ih0 _ _ _ _
   | exact LeO.none _
   | refine LeO.ite ?_ ?_
   | refine LeO.bind ?_ (fun _ => ?_)
theorem spec_l04Segments.mono : ∀ a0 a1 k, LeO (spec_l04Segments.f k a0 a1) (spec_l04Segments.f (k + 1) a0 a1) := by
 intro a0 a1 k;have ih0 := spec_l04Segments.mono_l k
 unfold spec_l04Segments.f
 repeat' first
   | (with_reducible exact ih0 _ _ _ _)
   | (with_reducible exact LeO.refl _)
   | (with_reducible exact LeO.none _)
   | (with_reducible refine LeO.ite ?_ ?_)
   | (with_reducible refine LeO.bind ?_ (fun _ => ?_))
   | exact ih0 _ _ _ _
   | exact LeO.none _
   | refine LeO.ite ?_ ?_
   | refine LeO.bind ?_ (fun _ => ?_)
set_option maxHeartbeats 8000000 in
set_option maxRecDepth 100000 in
theorem spec_l04Segments.calls (k : Nat) (a0_0 : Int) (A0_1 : Option Addr) (c0_1 : Nat) (l0_1 : List (S69)) (r : List Int) (w : World) (hr0_1 : Kd.C k69 w A0_1 l0_1.length l0_1) (hc0_1 : l0_1.length ≤ c0_1) (h : spec_l04Segments.f k a0_0 l0_1 = some r) :
  Calls Tryd.prog 50 #[.agg #[.int .i64 a0_0, .slice A0_1 l0_1.length c0_1]] w fun e w' => ∃ v0_ : Value, e = .returned (v0_) ∧ Kd.R (Kd.int .i64) 3 w' w.heap.size (fun _ => True) v0_ r ∧ Below w.heap.size w w' := by
 have hu33 := Tryd.underlying33;have HR0_1 := aM hr0_1;have HC0_1 := aM hc0_1;clear hr0_1 hc0_1;have HB := aM (Below.refl w.heap.size w);have H : (spec_l04Segments.l0 k (([] : List Int)) 0 a0_0 l0_1) = some r := h;clear h;obtain ⟨y159, hy159⟩ : ∃ y_ : List Int, y_ = (([] : List Int)) := ⟨_, rfl⟩
 replace H : (spec_l04Segments.l0 k y159 0 a0_0 l0_1) = some r := by first | (rw [hy159]; with_reducible exact H) | (have H2_ := (Option.bind_some _ _).symm.trans H; rw [hy159]; with_reducible exact H2_) | (have H2_ := (Option.bind_some _ _).symm.trans H; with_reducible exact H2_) | with_reducible exact H | (rw [hy159]; exact H) | exact H
 have Ny159 := aM hy159;clear hy159;have H' := aM H;clear H
 go_enter Tryd.func50, Tryd.ntmps50
 go_wp2_with (first | ((with_reducible refine gate_dst (N := 1) rfl ?_); refine box_event ?hg (N := 1) ?hd (cs := #[.int .i64 a0_0, .slice A0_1 l0_1.length c0_1]) (t := 33) ?hr ?_; (case hd => rfl); (case hg => rfl); (case hr => first | (go_simp; done) | (go_simp; rfl)); intro gb158 hg w2 hbox hb; have BK158 := aM (hbox); have GW158 := aM ((by rw [hg]; exact (below_size (bM HB.o)) : w.heap.size ≤ gb158)); have GE158 := aM ((by rw [hg]; exact (below_size (bM HB.o)) : w.heap.size ≤ gb158)); replace HB := aM (below_step (bM HB.o) hb); clear hb hbox hg) | ((with_reducible refine gate_dst (N := 6) rfl ?_); refine Kd.R_lit (Kd.int .i64) _ 3 ?hg (N := 6) ?hd (xs := ([] : List Int)) (inner := []) (ok := fun _ => True) (okp := fun _ => True) ?hr ?hp (fun _ hk => hk) trivial (Below.refl _ _) (Nat.le_refl _) (by simp) ?_; (case hd => rfl); (case hg => rfl); (case hr => first | (go_simp; done) | (go_simp; rfl)); (case hp => exact (Reps.none _ _)); intro v160 w3 ho4 hb hg_ hnew_; clear hg_ hnew_; (first | rw [← Ny159.o] at ho4 | (simp only [Int.reduceToNat] at ho4; rw [← Ny159.o] at ho4)); have HO161 := aM (Kd.R_lower ho4 (below_size (by with_reducible repeat (first | exact HB.o | apply bA | apply bN | apply bD | refine bS ?_ GE158.o)))); replace BK158 := aM (blk_below (kM BK158.o) hb); replace HB := aM (below_step (by with_reducible repeat (first | exact HB.o | apply bA | apply bN | apply bD | refine bS ?_ GE158.o)) hb); clear hb ho4))
 go_loopg [3, 4] k (fun kq v3 v4 w' => ∃ (x3_1 : List Int) (x4_1 : Int), v4 = .int .i64 x4_1 ∧ Aside0 (spec_l04Segments.l0 kq x3_1 x4_1 a0_0 l0_1 = some r) ∧ Aside0 (kq ≤ k) ∧ Aside0 (Kd.R (Kd.int .i64) 3 w' w.heap.size (fun _ => True) v3 x3_1) ∧ Aside0 (w'.heap[gb158]? = some (.cells #[.int .i64 a0_0, (.slice A0_1 l0_1.length c0_1)] 33 (0, 0))) ∧ Aside0 (Below w.heap.size w w'))
 case atStart => exact ⟨(y159), (0), (by first | rfl | (simp; done) | (simp [*]; done)), H', ⟨Nat.le_refl _⟩, ⟨by (with_reducible repeat (first | apply Kd.R_alloc | apply Kd.R_drewN | apply Kd.R_drew)); exact HO161.o⟩, ⟨by (with_reducible repeat (first | refine kN ?_ _ | refine kD ?_ | refine kA ?_ _)); exact BK158.o⟩, ⟨by with_reducible repeat (first | exact HB.o | apply bA | apply bN | apply bD | refine bS ?_ GE158.o)⟩⟩
 case round =>
  clear H';obtain ⟨x3_1, x4_1, rfl, HA, HK1, HO_3, BK158, HB⟩ := hrel
  cases gk with
  | zero => exact absurd HA.o (by simp [spec_l04Segments.l0])
  | succ k1 =>
   have H := HA.o;clear HA;simp only [spec_l04Segments.l0] at H
   by_cases c5 : x4_1 < (l0_1.length : Int)
   ·rw [if_pos c5] at H;have c5b0 : decide (x4_1 < (l0_1.length : Int)) = true := decide_eq_true c5;clear c5
    by_cases c6 : 0 ≤ x4_1
    ·rw [if_pos c6] at H;have c6b0 : decide (0 ≤ x4_1) = true := decide_eq_true c6;clear c6;obtain ⟨t163, A7, H⟩ := bX H;(try dsimp only at H)
     by_cases c8 : t163 > 0
     ·rw [if_pos c8] at H;have c8b0 : decide (0 < t163) = true := decide_eq_true c8;clear c8
      by_cases c9 : x3_1.length < 17592186044416
      ·rw [if_pos c9] at H;have LMc9 := aM c9;clear c9;obtain ⟨y164, hy164⟩ : ∃ y_ : List Int, y_ = (x3_1 ++ [t163]) := ⟨_, rfl⟩
       replace H : (spec_l04Segments.l0 k1 y164 (wrap64 (x4_1 + 1)) a0_0 l0_1) = some r := by first | (rw [hy164]; with_reducible exact H) | (have H2_ := (Option.bind_some _ _).symm.trans H; rw [hy164]; with_reducible exact H2_) | (have H2_ := (Option.bind_some _ _).symm.trans H; with_reducible exact H2_) | with_reducible exact H | (rw [hy164]; exact H) | exact H
       have Ny164 := aM hy164;clear hy164;have H' := aM H;clear H;have hcz10_0 := cL0 BK158.o;have hcz10_1 := cL1 BK158.o;have hfz10_0 := kF BK158.o 0;have hfz10_1 := kF BK158.o 1;have p162 : 0 ≤ (x4_1 : Int) := oD;have q162 : x4_1 < (l0_1.length : Int) := oD;obtain ⟨ad162, e162, hx162_0, hx162_1, hx162_2⟩ := at_T69 HR0_1.o x4_1 p162 q162
       cases e162
       replace hx162_0 := (HB.o.cell (lC w _ hx162_0)).trans hx162_0;replace hx162_1 := (HB.o.cell (lC w _ hx162_1)).trans hx162_1;replace hx162_2 := (HB.o.cell (lC w _ hx162_2)).trans hx162_2;replace p162 := eq_true p162;replace q162 := eq_true q162
       go_wp2_with (first | ((with_reducible refine gate_callee (f := 73) rfl ?_); refine goesL_ (some 20) rfl rfl Tryd.func73 (by kernel_rfl) rfl #[.string ((rd_T69 l0_1 x4_1).f0)] rfl (by (try simp only [zM]); first | done | rfl | (simp only [zL]; rfl)) ?_; (with_reducible refine (spec_l04Number.calls ((rd_T69 l0_1 x4_1).f0) t163 _ A7.o).mono ?_); rintro e w' ⟨rfl, ⟨nd, rfl⟩⟩; refine ⟨_, rfl, ?_⟩) | ((with_reducible refine gate_builtin (b := .append) (xs := #[.tmp 23, .tmp 25]) rfl ?_); at_builtin; refine Kd.R_append (Kd.int .i64) (w0 := w) w.heap.size rfl (.tmp 23) (.tmp 25) 59 3 (.int .i64 0) 8 rfl Tryd.underlying59 info3 rfl (by decide) (by omega) u3 x3_1 t163 [.int .i64 t163] (fun _ => True) (fun _ => False) rfl rfl ?aP (fun _ hk => hk.elim) ?aF ?aO ?aB ?aS ?aL ?_; (case aP => exact rfl); (case aB => exact (by with_reducible repeat (first | exact HB.o | apply bA | apply bN | apply bD | refine bS ?_ GE158.o))); (case aF => exact (fun _ _ => trivial)); (case aO => exact (rM HO_3.o)); (case aS => exact (below_size (by with_reducible repeat (first | exact HB.o | apply bA | apply bN | apply bD | refine bS ?_ GE158.o)))); (case aL => have := LMc9.o; omega); intro v165 w11 ho hb hg hat; rw [← Ny164.o] at ho; have n0_ := aM (blk_grown (g := gb158) (o := .cells #[.int .i64 a0_0, .slice (some ad162) l0_1.length c0_1] 33 (0, 0)) (kM BK158.o) hg (Kd.R_ne HO_3.o BK158.o (by decide))); have n1_ := aM (hb); have n2_ := aM (ho); clear BK158; clear HB; clear HO_3; have BK158 := n0_; have HB := n1_; have HO166 := n2_; clear n0_ n1_ n2_; clear ho hb hg hat))
       go_roundg k1
       case measure => have := HK1.o; omega
       case rel => exact ⟨(y164), (wrap64 (x4_1 + 1)), (by first | rfl | (simp; done) | (simp [*]; done)), H', ⟨by have := HK1.o; omega⟩, ⟨by (with_reducible repeat (first | apply Kd.R_alloc | apply Kd.R_drewN | apply Kd.R_drew)); exact HO166.o⟩, ⟨by (with_reducible repeat (first | refine kN ?_ _ | refine kD ?_ | refine kA ?_ _)); exact BK158.o⟩, ⟨by with_reducible repeat (first | exact HB.o | apply bA | apply bN | apply bD | refine bS ?_ GE158.o)⟩⟩
      ·rw [if_neg c9] at H;exact absurd H (by simp)
     ·rw [if_neg c8] at H;have c8b0 : decide (0 < t163) = false := decide_eq_false c8;clear c8;have H' := aM H;clear H;have hcz12_0 := cL0 BK158.o;have hcz12_1 := cL1 BK158.o;have hfz12_0 := kF BK158.o 0;have hfz12_1 := kF BK158.o 1;have p162 : 0 ≤ (x4_1 : Int) := oD;have q162 : x4_1 < (l0_1.length : Int) := oD;obtain ⟨ad162, e162, hx162_0, hx162_1, hx162_2⟩ := at_T69 HR0_1.o x4_1 p162 q162
      cases e162
      replace hx162_0 := (HB.o.cell (lC w _ hx162_0)).trans hx162_0;replace hx162_1 := (HB.o.cell (lC w _ hx162_1)).trans hx162_1;replace hx162_2 := (HB.o.cell (lC w _ hx162_2)).trans hx162_2;replace p162 := eq_true p162;replace q162 := eq_true q162
      go_wp2_with (first | ((with_reducible refine gate_callee (f := 73) rfl ?_); refine goesL_ (some 20) rfl rfl Tryd.func73 (by kernel_rfl) rfl #[.string ((rd_T69 l0_1 x4_1).f0)] rfl (by (try simp only [zM]); first | done | rfl | (simp only [zL]; rfl)) ?_; (with_reducible refine (spec_l04Number.calls ((rd_T69 l0_1 x4_1).f0) t163 _ A7.o).mono ?_); rintro e w' ⟨rfl, ⟨nd, rfl⟩⟩; refine ⟨_, rfl, ?_⟩))
      go_roundg k1
      case measure => have := HK1.o; omega
      case rel => exact ⟨(x3_1), (wrap64 (x4_1 + 1)), (by first | rfl | (simp; done) | (simp [*]; done)), H', ⟨by have := HK1.o; omega⟩, ⟨by (with_reducible repeat (first | apply Kd.R_alloc | apply Kd.R_drewN | apply Kd.R_drew)); exact HO_3.o⟩, ⟨by (with_reducible repeat (first | refine kN ?_ _ | refine kD ?_ | refine kA ?_ _)); exact BK158.o⟩, ⟨by with_reducible repeat (first | exact HB.o | apply bA | apply bN | apply bD | refine bS ?_ GE158.o)⟩⟩
    ·rw [if_neg c6] at H;exact absurd H (by simp)
   ·rw [if_neg c5] at H;have c5b0 : decide (x4_1 < (l0_1.length : Int)) = false := decide_eq_false c5;clear c5;obtain rfl := Option.some.inj H;have hcz13_0 := cL0 BK158.o;have hcz13_1 := cL1 BK158.o;have hfz13_0 := kF BK158.o 0;have hfz13_1 := kF BK158.o 1
    go_wp2
    go_ret
    exact ⟨_, by first | rfl | (simp [zE] <;> rfl) | (simp [*, zE] <;> rfl), by (with_reducible repeat (first | apply Kd.R_alloc | apply Kd.R_drewN | apply Kd.R_drew)); exact HO_3.o, by with_reducible repeat (first | exact HB.o | apply bA | apply bN | apply bD | refine bS ?_ GE158.o)⟩
def spec_l00Digits.f : Nat → Int → Option (ByteArray)
 | 0, _ => none
 | k + 1, a0 => if a0 = (-9223372036854775808) then (some (⟨#[45, 57, 50, 50, 51, 51, 55, 50, 48, 51, 54, 56, 53, 52, 55, 55, 53, 56, 48, 56]⟩ : ByteArray)) else (if a0 < 0 then ((spec_l00Digits.f k (wrap64 (-a0))).bind fun t167 => (if 1 + t167.size ≤ 9223372036854775807 then (some ((⟨#[45]⟩ : ByteArray) ++ t167)) else (none))) else (if a0 < 10 then (some (strOfNums (([(wrap64 (48 + a0)) % 256] : List Int)))) else ((spec_l00Digits.f k (wrap64 (Int.tdiv a0 10))).bind fun t171 => ((some (([(wrap64 (48 + (Int.tmod a0 10))) % 256] : List Int) : List Int)).bind fun y172 => (if t171.size + (strOfNums y172).size ≤ 9223372036854775807 then (some (t171 ++ (strOfNums y172))) else (none))))))
theorem spec_l00Digits.mono_l : ∀ k, (∀ y0, LeO (spec_l00Digits.f k y0) (spec_l00Digits.f (k + 1) y0))
 | 0 => fun _ r h => by simp [spec_l00Digits.f] at h
 | k + 1 => by
  have ih0 := spec_l00Digits.mono_l k
  ·intro y0
   unfold spec_l00Digits.f
   repeat' first
   | (with_reducible exact ih0 _)
   | (with_reducible exact LeO.refl _)
   | (with_reducible exact LeO.none _)
   | (with_reducible refine LeO.ite ?_ ?_)
   | (with_reducible refine LeO.bind ?_ (fun _ => ?_))
   | exact ih0 _
   | exact LeO.none _
   | refine LeO.ite ?_ ?_
   | refine LeO.bind ?_ (fun _ => ?_)
theorem spec_l00Digits.mono : ∀ a0 k, LeO (spec_l00Digits.f k a0) (spec_l00Digits.f (k + 1) a0) := by
 intro a0 k;have ih0 := spec_l00Digits.mono_l k;exact ih0 a0
def spec_l00Digits.T7 : Bool × List (List Nat × List Nat) := (true, [([], []), ([0], [0]), ([1], [1]), ([], []), ([3], [3]), ([4], [4]), ([5], [5]), ([6], [6]), ([7], [7]), ([2, 8], [2, 8]), ([9, 2, 0, 1, 2, 3, 4, 5, 6, 7, 8, 9], [9])])
def spec_l00Digits.B7 : List Nat := [0, 1, 3, 0, 8, 24, 56, 120, 248, 511, 1023]
theorem spec_l00Digits.tab7 : rtab .any (opsOf Tryd.f75 7) = spec_l00Digits.T7 := by kernel_rfl
theorem spec_l00Digits.bits7 : waitsOk spec_l00Digits.T7.2 spec_l00Digits.B7 = true := by kernel_rfl
set_option maxHeartbeats 8000000 in
set_option maxRecDepth 100000 in
theorem spec_l00Digits.calls (k : Nat) : ∀ (a0 : Int) (r : ByteArray) (w : World) (h : spec_l00Digits.f k a0 = some r),
  Calls Tryd.prog 75 #[.int .i64 a0] w fun e w' => e = .returned (.string r) ∧ Below w.heap.size w w' := by
 induction k using Nat.strongRecOn with
 | _ k ih =>
 intro a0 r w h
 cases k with
 | zero => exact absurd h (by simp [spec_l00Digits.f])
 | succ k =>
 simp only [spec_l00Digits.f] at h;have HB := aM (Below.refl w.heap.size w);have H : (if a0 = (-9223372036854775808) then (some (⟨#[45, 57, 50, 50, 51, 51, 55, 50, 48, 51, 54, 56, 53, 52, 55, 55, 53, 56, 48, 56]⟩ : ByteArray)) else (if a0 < 0 then ((spec_l00Digits.f k (wrap64 (-a0))).bind fun t167 => (if 1 + t167.size ≤ 9223372036854775807 then (some ((⟨#[45]⟩ : ByteArray) ++ t167)) else (none))) else (if a0 < 10 then (some (strOfNums (([(wrap64 (48 + a0)) % 256] : List Int)))) else ((spec_l00Digits.f k (wrap64 (Int.tdiv a0 10))).bind fun t171 => ((some (([(wrap64 (48 + (Int.tmod a0 10))) % 256] : List Int) : List Int)).bind fun y172 => (if t171.size + (strOfNums y172).size ≤ 9223372036854775807 then (some (t171 ++ (strOfNums y172))) else (none))))))) = some r := h;clear h
 by_cases c2 : a0 = (-9223372036854775808)
 ·rw [if_pos c2] at H;have c2b0 : (a0 == (-9223372036854775808)) = true := beq_iff_eq.mpr c2;have c2b1 : (a0 != (-9223372036854775808)) = false := bne_eq_false_iff_eq.mpr c2;clear c2;obtain rfl := Option.some.inj H
  go_enter Tryd.func75, Tryd.ntmps75
  go_wp2
  go_ret
  exact ⟨by first | rfl | (simp [zE] <;> rfl) | (simp [*, zE] <;> rfl), bM HB.o⟩
 ·rw [if_neg c2] at H;have c2b0 : (a0 == (-9223372036854775808)) = false := beq_eq_false_iff_ne.mpr c2;have c2b1 : (a0 != (-9223372036854775808)) = true := bne_iff_ne.mpr c2
  by_cases c3 : a0 < 0
  ·rw [if_pos c3] at H;have c3b0 : decide (a0 < 0) = true := decide_eq_true c3;clear c3;obtain ⟨t167, A4, H⟩ := bX H;(try dsimp only at H)
   by_cases c5 : 1 + t167.size ≤ 9223372036854775807
   ·rw [if_pos c5] at H;have c5b0 := eq_true c5;have c5b1 : decide (1 + t167.size ≤ 9223372036854775807) = true := decide_eq_true c5
    try have c5b2 : (9223372036854775807 < 1 + t167.size) = False := eq_false (Nat.not_lt.2 c5)
    obtain rfl := Option.some.inj H
    go_enter Tryd.func75, Tryd.ntmps75
    go_wp2_with (first | ((with_reducible refine gate_callee (f := 75) rfl ?_); refine goesL_ (some 9) rfl rfl Tryd.func75 (by kernel_rfl) rfl #[.int .i64 (wrap64 (-a0))] rfl (by (try simp only [zM]); first | done | rfl | (simp only [zL]; rfl)) ?_; (with_reducible refine (ih k (by omega) (wrap64 (-a0)) t167 _ A4.o).mono ?_); rintro e w6 ⟨rfl, hb⟩; refine ⟨_, rfl, ?_⟩; replace HB := aM (below_step (bM HB.o) hb); (try clear hb); skip))
    go_ret
    exact ⟨by first | rfl | (simp [zE] <;> rfl) | (simp [*, zE] <;> rfl), bM HB.o⟩
   ·rw [if_neg c5] at H;exact absurd H (by simp)
  ·rw [if_neg c3] at H;have c3b0 : decide (a0 < 0) = false := decide_eq_false c3;clear c3
   by_cases c7 : a0 < 10
   ·rw [if_pos c7] at H;have c7b0 : decide (a0 < 10) = true := decide_eq_true c7;clear c7;obtain ⟨y168, hy168⟩ : ∃ y_ : List Int, y_ = (([(wrap64 (48 + a0)) % 256] : List Int)) := ⟨_, rfl⟩
    replace H : (some (strOfNums y168)) = some r := by first | (rw [hy168]; with_reducible exact H) | (have H2_ := (Option.bind_some _ _).symm.trans H; rw [hy168]; with_reducible exact H2_) | (have H2_ := (Option.bind_some _ _).symm.trans H; with_reducible exact H2_) | with_reducible exact H | (rw [hy168]; exact H) | exact H
    have Ny168 := aM hy168;clear hy168;obtain rfl := Option.some.inj H
    go_enter Tryd.func75, Tryd.ntmps75
    go_wp2_with (first | ((with_reducible refine gate_dst (N := 16) rfl ?_); refine Kd.R_lit (Kd.int .u8) _ 5 ?hg (N := 16) ?hd (xs := ([(wrap64 (48 + a0)) % 256] : List Int)) (inner := [.int .u8 ((wrap64 (48 + a0)) % 256)]) (ok := fun _ => True) (okp := fun _ => True) ?hr ?hp (fun _ hk => hk) trivial (Below.refl _ _) (Nat.le_refl _) (by simp) ?_; (case hd => rfl); (case hg => rfl); (case hr => first | (go_simp; done) | (go_simp; rfl)); (case hp => exact (Reps.one (show Kd.M (Kd.int .u8) _ _ _ ((wrap64 (48 + a0)) % 256) [.int .u8 ((wrap64 (48 + a0)) % 256)] from rfl) (Reps.none _ _))); intro v169 w8 ho9 hb hg_ hnew_; clear hg_ hnew_; (first | rw [← Ny168.o] at ho9 | (simp only [Int.reduceToNat] at ho9; rw [← Ny168.o] at ho9)); have HO170 := aM (Kd.R_lower ho9 (below_size (bM HB.o))); replace HB := aM (below_step (bM HB.o) hb); clear hb ho9; have hcv10 := own_string (P := Tryd.prog) Tryd.underlying76 Tryd.underlying5 Tryd.underlying9 (Kd.own_of_R HO170.o)))
    go_ret
    exact ⟨by first | rfl | (simp [zE] <;> rfl) | (simp [*, zE] <;> rfl), bM HB.o⟩
   ·rw [if_neg c7] at H;have c7b0 : decide (a0 < 10) = false := decide_eq_false c7;clear c7;obtain ⟨t171, A11, H⟩ := bX H;(try dsimp only at H);obtain ⟨y172, hy172⟩ : ∃ y_ : List Int, y_ = (([(wrap64 (48 + (Int.tmod a0 10))) % 256] : List Int)) := ⟨_, rfl⟩
    replace H : (if t171.size + (strOfNums y172).size ≤ 9223372036854775807 then (some (t171 ++ (strOfNums y172))) else (none)) = some r := by first | (rw [hy172]; with_reducible exact H) | (have H2_ := (Option.bind_some _ _).symm.trans H; rw [hy172]; with_reducible exact H2_) | (have H2_ := (Option.bind_some _ _).symm.trans H; with_reducible exact H2_) | with_reducible exact H | (rw [hy172]; exact H) | exact H
    have Ny172 := aM hy172;clear hy172
    by_cases c12 : t171.size + (strOfNums y172).size ≤ 9223372036854775807
    ·rw [if_pos c12] at H;have c12b0 := eq_true c12;have c12b1 : decide (t171.size + (strOfNums y172).size ≤ 9223372036854775807) = true := decide_eq_true c12
     try have c12b2 : (9223372036854775807 < t171.size + (strOfNums y172).size) = False := eq_false (Nat.not_lt.2 c12)
     obtain rfl := Option.some.inj H
     go_enter Tryd.func75, Tryd.ntmps75
     try go_wp2
     have n0_ := aM (bD HB.o);clear HB;have HB := n0_;clear n0_;refine start_ (n := 11) (S := fun w' => True) (ds := []) (fT 0 11) (by kernel_rfl) rfl rfl trivial (fun hHeld => ?_); refine with_tabW spec_l00Digits.tab7 spec_l00Digits.bits7 (fun HT_ HW_ => ?_);generalize w.drew = w13 at HB hHeld ⊢;refine pC HT_ 0 18 (fT 1 11) ?_;refine pC HT_ 1 19 (fT 2 11) ?_;refine pC HT_ 3 21 #[T,T,F,T,F,F,F,F,F,F,F] ?_;refine pC HT_ 4 22 #[T,T,F,T,T,F,F,F,F,F,F] ?_;refine pC HT_ 5 23 #[T,T,F,T,T,T,F,F,F,F,F] ?_;refine pC HT_ 6 24 #[T,T,F,T,T,T,T,F,F,F,F] ?_;refine join_ (σ := Value) 2 (fT 9 11) (fun s_ => [(20, .string t171), (25, s_), (26, .string (strOfNums y172))]) (fun s_ w' => (Kd.R (Kd.int .u8) 5 w' w.heap.size (fun _ => True) s_ y172) ∧ (Below w.heap.size w w')) ?_ ?_;rotate_left
     ·intro hCont;refine two_ (i := 2) (j := 7) (Ni := some 20) (Nj := some 25) (fT 7 11) #[T,T,F,T,T,T,T,T,F,F,F] rfl rfl rfl rfl (two_of HT_.o (by kernel_rfl)) (by decide) (by decide) (fun K hK => ?_) (fun K hK => ?_)
      ·skip
       refine goes_ Tryd.func75 (by kernel_rfl) rfl #[.int .i64 (wrap64 (Int.tdiv a0 10))] (by rfl) rfl rfl (by (try simp only [zM]); first | done | rfl | (simp only [zL]; rfl)) ?_
       with_reducible refine (ih k (by omega) (wrap64 (Int.tdiv a0 10)) t171 _ A11.o).mono ?_
       rintro e w14 ⟨rfl, hb⟩
       refine ⟨_, rfl, ?_⟩;have n0_ := aM (below_step (bM HB.o) hb);clear HB;have HB := n0_;clear n0_
       (try clear hb)
       (try clear hb2)
       (try clear hk)
       (try clear hi)
       refine hK.out _ _ trivial (fun hHeld => ?_);clear hK K;refine norm_ (a' := ?_) ?_ ?_;rotate_left
       ·show Act.put _ (some 20) _ = _
        simp only [zA]
        rfl
       refine one_ (i := 7) (N := some 25) (fT 8 11) rfl rfl (one_of HT_.o (by kernel_rfl)) (by decide) (fun K hK => ?_);refine Kd.R_lit_step (Kd.int .u8) _ 5 ?hg (N := 25) ?hd (xs := ([(wrap64 (48 + (Int.tmod a0 10))) % 256] : List Int)) (inner := [.int .u8 ((wrap64 (48 + (Int.tmod a0 10))) % 256)]) (ok := fun _ => True) (okp := fun _ => True) ?hr ?hp (fun _ hk => hk) trivial (Below.refl _ _) (Nat.le_refl _) (by simp) ?_; (case hd => rfl); (case hg => rfl); (case hr => first | (go_simp; done) | (go_simp; rfl)); (case hp => exact (Reps.one (show Kd.M (Kd.int .u8) _ _ _ ((wrap64 (48 + (Int.tmod a0 10))) % 256) [.int .u8 ((wrap64 (48 + (Int.tmod a0 10))) % 256)] from rfl) (Reps.none _ _)));intro v173 w15 ho16 hb hg_ hnew_;clear hg_ hnew_
       (first | rw [← Ny172.o] at ho16 | (simp only [Int.reduceToNat] at ho16; rw [← Ny172.o] at ho16))
       have n0_ := aM (Kd.R_lower ho16 (below_size (bM HB.o)));have n1_ := aM (below_step (bM HB.o) hb);clear HB;have HO174 := n0_;have HB := n1_;clear n0_ n1_;clear hb ho16;refine hK.out _ _ trivial (fun hHeld => ?_);clear hK K;refine norm_ (a' := ?_) ?_ ?_;rotate_left
       ·show Act.put _ (some 25) _ = _
        simp only [zA]
        rfl
       refine one_ (i := 8) (N := some 26) (fT 9 11) rfl rfl (one_of HT_.o (by kernel_rfl)) (by decide) (fun K hK => ?_);have hcv17 := own_string (P := Tryd.prog) Tryd.underlying76 Tryd.underlying5 Tryd.underlying9 (Kd.own_of_R HO174.o);refine value_ (w1 := ?_) (v := ?_) (by rfl) rfl ?_ ?_;rotate_left 2
       ·go_simp
        constructor
        ·rfl
        ·rfl
       clear hcv17;refine hK.out _ _ trivial (fun hHeld => ?_);clear hK K;refine norm_ (a' := ?_) ?_ ?_;rotate_left
       ·show Act.put _ (some 26) _ = _
        simp only [zA]
        rfl
       exact norm_ (by simp only [putAll, Act.put, s1, s2, s3]) (hCont (v173) _ ⟨(rM HO174.o), (bM HB.o)⟩)
      ·skip
       refine Kd.R_lit_step (Kd.int .u8) _ 5 ?hg (N := 25) ?hd (xs := ([(wrap64 (48 + (Int.tmod a0 10))) % 256] : List Int)) (inner := [.int .u8 ((wrap64 (48 + (Int.tmod a0 10))) % 256)]) (ok := fun _ => True) (okp := fun _ => True) ?hr ?hp (fun _ hk => hk) trivial (Below.refl _ _) (Nat.le_refl _) (by simp) ?_; (case hd => rfl); (case hg => rfl); (case hr => first | (go_simp; done) | (go_simp; rfl)); (case hp => exact (Reps.one (show Kd.M (Kd.int .u8) _ _ _ ((wrap64 (48 + (Int.tmod a0 10))) % 256) [.int .u8 ((wrap64 (48 + (Int.tmod a0 10))) % 256)] from rfl) (Reps.none _ _)));intro v173 w14 ho15 hb hg_ hnew_;clear hg_ hnew_
       (first | rw [← Ny172.o] at ho15 | (simp only [Int.reduceToNat] at ho15; rw [← Ny172.o] at ho15))
       have n0_ := aM (Kd.R_lower ho15 (below_size (bM HB.o)));have n1_ := aM (below_step (bM HB.o) hb);clear HB;have HO174 := n0_;have HB := n1_;clear n0_ n1_;clear hb ho15;refine hK.out _ _ trivial (fun hHeld => ?_);clear hK K;refine norm_ (a' := ?_) ?_ ?_;rotate_left
       ·show Act.put _ (some 25) _ = _
        simp only [zA]
        rfl
       refine two_ (i := 2) (j := 8) (Ni := some 20) (Nj := some 26) (fT 8 11) #[T,T,F,T,T,T,T,T,T,F,F] rfl rfl rfl rfl (two_of HT_.o (by kernel_rfl)) (by decide) (by decide) (fun K hK => ?_) (fun K hK => ?_)
       ·skip
        refine goes_ Tryd.func75 (by kernel_rfl) rfl #[.int .i64 (wrap64 (Int.tdiv a0 10))] (by rfl) rfl rfl (by (try simp only [zM]); first | done | rfl | (simp only [zL]; rfl)) ?_
        with_reducible refine (ih k (by omega) (wrap64 (Int.tdiv a0 10)) t171 _ A11.o).mono ?_
        rintro e w16 ⟨rfl, hb⟩
        refine ⟨_, rfl, ?_⟩;have n0_ := aM (Kd.R_below (rM HO174.o) hb);have n1_ := aM (below_step (bM HB.o) hb);clear HO174;clear HB;have HO174 := n0_;have HB := n1_;clear n0_ n1_
        (try clear hb)
        (try clear hb2)
        (try clear hk)
        (try clear hi)
        refine hK.out _ _ trivial (fun hHeld => ?_);clear hK K;refine norm_ (a' := ?_) ?_ ?_;rotate_left
        ·show Act.put _ (some 20) _ = _
         simp only [zA]
         rfl
        refine one_ (i := 8) (N := some 26) (fT 9 11) rfl rfl (one_of HT_.o (by kernel_rfl)) (by decide) (fun K hK => ?_);have hcv17 := own_string (P := Tryd.prog) Tryd.underlying76 Tryd.underlying5 Tryd.underlying9 (Kd.own_of_R HO174.o);refine value_ (w1 := ?_) (v := ?_) (by rfl) rfl ?_ ?_;rotate_left 2
        ·go_simp
         constructor
         ·rfl
         ·rfl
        clear hcv17;refine hK.out _ _ trivial (fun hHeld => ?_);clear hK K;refine norm_ (a' := ?_) ?_ ?_;rotate_left
        ·show Act.put _ (some 26) _ = _
         simp only [zA]
         rfl
        exact norm_ (by simp only [putAll, Act.put, s1, s2, s3]) (hCont (v173) _ ⟨(rM HO174.o), (bM HB.o)⟩)
       ·skip
        have hcv16 := own_string (P := Tryd.prog) Tryd.underlying76 Tryd.underlying5 Tryd.underlying9 (Kd.own_of_R HO174.o);refine value_ (w1 := ?_) (v := ?_) (by rfl) rfl ?_ ?_;rotate_left 2
        ·go_simp
         constructor
         ·rfl
         ·rfl
        clear hcv16;refine hK.out _ _ trivial (fun hHeld => ?_);clear hK K;refine norm_ (a' := ?_) ?_ ?_;rotate_left
        ·show Act.put _ (some 26) _ = _
         simp only [zA]
         rfl
        refine one_ (i := 2) (N := some 20) (fT 9 11) rfl rfl (one_of HT_.o (by kernel_rfl)) (by decide) (fun K hK => ?_);refine goes_ Tryd.func75 (by kernel_rfl) rfl #[.int .i64 (wrap64 (Int.tdiv a0 10))] (by rfl) rfl rfl (by (try simp only [zM]); first | done | rfl | (simp only [zL]; rfl)) ?_
        with_reducible refine (ih k (by omega) (wrap64 (Int.tdiv a0 10)) t171 _ A11.o).mono ?_
        rintro e w17 ⟨rfl, hb⟩
        refine ⟨_, rfl, ?_⟩;have n0_ := aM (Kd.R_below (rM HO174.o) hb);have n1_ := aM (below_step (bM HB.o) hb);clear HO174;clear HB;have HO174 := n0_;have HB := n1_;clear n0_ n1_
        (try clear hb)
        (try clear hb2)
        (try clear hk)
        (try clear hi)
        refine hK.out _ _ trivial (fun hHeld => ?_);clear hK K;refine norm_ (a' := ?_) ?_ ?_;rotate_left
        ·show Act.put _ (some 20) _ = _
         simp only [zA]
         rfl
        exact norm_ (by simp only [putAll, Act.put, s1, s2, s3]) (hCont (v173) _ ⟨(rM HO174.o), (bM HB.o)⟩)
     rintro v173 w18 ⟨h0_, h1_⟩
     have n0_ : Aside0 (Kd.R (Kd.int .u8) 5 w18 w.heap.size (fun _ => True) v173 y172) := ⟨h0_⟩;have n1_ : Aside0 (Below w.heap.size w w18) := ⟨h1_⟩;clear HB;clear h0_ h1_;have HO174 := n0_;have HB := n1_;clear n0_ n1_;have hHeld := trivial;refine norm_ (a' := ?_) ?_ ?_;rotate_left;(·simp only [putAll, Act.put, s1, s2, s3];rfl);refine pC HT_ 9 27 (fT 10 11) ?_;refine pC HT_ 10 2 (fT 11 11) ?_;refine done_ (done_of HT_.o (by kernel_rfl)) ?_
     try go_wp2
     go_ret
     exact ⟨by first | rfl | (simp [zE] <;> rfl) | (simp [*, zE] <;> rfl), bM HB.o⟩
    ·rw [if_neg c12] at H;exact absurd H (by simp)
def spec_l04Name.f (k : Nat) (a0 : Int) : Option (ByteArray) := (spec_l00Digits.f k (wrap64 (Int.tdiv a0 10))).bind fun t175 => (if 1 + t175.size ≤ 9223372036854775807 then ((spec_l00Digits.f k (Int.tmod a0 10)).bind fun t176 => (if 1 + t175.size + t176.size ≤ 9223372036854775807 then (some (((⟨#[115]⟩ : ByteArray) ++ t175) ++ t176)) else (none))) else (none))
theorem spec_l04Name.mono : ∀ a0 k, LeO (spec_l04Name.f k a0) (spec_l04Name.f (k + 1) a0) := by
 intro a0 k
 unfold spec_l04Name.f
 repeat' first
   | (with_reducible exact spec_l00Digits.mono _ _)
   | (with_reducible exact LeO.refl _)
   | (with_reducible exact LeO.none _)
   | (with_reducible refine LeO.ite ?_ ?_)
   | (with_reducible refine LeO.bind ?_ (fun _ => ?_))
   | exact spec_l00Digits.mono _ _
   | exact LeO.none _
   | refine LeO.ite ?_ ?_
   | refine LeO.bind ?_ (fun _ => ?_)
set_option maxHeartbeats 8000000 in
set_option maxRecDepth 100000 in
theorem spec_l04Name.calls (k : Nat) (a0 : Int) (r : ByteArray) (w : World) (h : spec_l04Name.f k a0 = some r) :
  Calls Tryd.prog 53 #[.int .i64 a0] w fun e w' => e = .returned (.string r) ∧ Below w.heap.size w w' := by
 have HB := aM (Below.refl w.heap.size w);have H : ((spec_l00Digits.f k (wrap64 (Int.tdiv a0 10))).bind fun t175 => (if 1 + t175.size ≤ 9223372036854775807 then ((spec_l00Digits.f k (Int.tmod a0 10)).bind fun t176 => (if 1 + t175.size + t176.size ≤ 9223372036854775807 then (some (((⟨#[115]⟩ : ByteArray) ++ t175) ++ t176)) else (none))) else (none))) = some r := h;clear h;obtain ⟨t175, A2, H⟩ := bX H;(try dsimp only at H)
 by_cases c3 : 1 + t175.size ≤ 9223372036854775807
 ·rw [if_pos c3] at H;have c3b0 := eq_true c3;have c3b1 : decide (1 + t175.size ≤ 9223372036854775807) = true := decide_eq_true c3
  try have c3b2 : (9223372036854775807 < 1 + t175.size) = False := eq_false (Nat.not_lt.2 c3)
  obtain ⟨t176, A4, H⟩ := bX H;(try dsimp only at H)
  by_cases c5 : 1 + t175.size + t176.size ≤ 9223372036854775807
  ·rw [if_pos c5] at H;have c5b0 := eq_true c5;have c5b1 : decide (1 + t175.size + t176.size ≤ 9223372036854775807) = true := decide_eq_true c5
   try have c5b2 : (9223372036854775807 < 1 + t175.size + t176.size) = False := eq_false (Nat.not_lt.2 c5)
   obtain rfl := Option.some.inj H
   go_enter Tryd.func53, Tryd.ntmps53
   go_wp2_with (first | ((with_reducible refine gate_callee (f := 75) rfl ?_); refine goesL_ (some 5) rfl rfl Tryd.func75 (by kernel_rfl) rfl #[.int .i64 (wrap64 (Int.tdiv a0 10))] rfl (by (try simp only [zM]); first | done | rfl | (simp only [zL]; rfl)) ?_; (with_reducible refine (spec_l00Digits.calls k (wrap64 (Int.tdiv a0 10)) t175 _ A2.o).mono ?_); rintro e w6 ⟨rfl, hb⟩; refine ⟨_, rfl, ?_⟩; replace HB := aM (below_step (bM HB.o) hb); (try clear hb); skip) | ((with_reducible refine gate_callee (f := 75) rfl ?_); refine goesL_ (some 9) rfl rfl Tryd.func75 (by kernel_rfl) rfl #[.int .i64 (Int.tmod a0 10)] rfl (by (try simp only [zM]); first | done | rfl | (simp only [zL]; rfl)) ?_; (with_reducible refine (spec_l00Digits.calls k (Int.tmod a0 10) t176 _ A4.o).mono ?_); rintro e w7 ⟨rfl, hb⟩; refine ⟨_, rfl, ?_⟩; replace HB := aM (below_step (bM HB.o) hb); (try clear hb); skip))
   go_ret
   exact ⟨by first | rfl | (simp [zE] <;> rfl) | (simp [*, zE] <;> rfl), bM HB.o⟩
  ·rw [if_neg c5] at H;exact absurd H (by simp)
 ·rw [if_neg c3] at H;exact absurd H (by simp)
def spec_l03Find.l0 : Nat → ByteArray → Int → Int → List (S69) → Option (Int)
 | 0, _, _, _, _ => none
 | k + 1, x1, x5, x178000, x178001 => if x5 < (x178001.length : Int) then (if 0 ≤ x5 then (if ((rd_T69 x178001 x5).f0).toList = x1.toList then (some x5) else (spec_l03Find.l0 k x1 (wrap64 (x5 + 1)) x178000 x178001)) else (none)) else (some (-1))
def spec_l03Find.f (k : Nat) (a0_0 : Int) (l0_1 : List (S69)) (a1 : ByteArray) : Option (Int) := spec_l03Find.l0 k a1 0 a0_0 l0_1
theorem spec_l03Find.mono_l : ∀ k, (∀ y0 y1 y2 y3, LeO (spec_l03Find.l0 k y0 y1 y2 y3) (spec_l03Find.l0 (k + 1) y0 y1 y2 y3))
 | 0 => fun _ _ _ _ r h => by simp [spec_l03Find.l0] at h
 | k + 1 => by
  have ih0 := spec_l03Find.mono_l k
  ·intro y0 y1 y2 y3
   unfold spec_l03Find.l0
   repeat' first
   | (with_reducible exact ih0 _ _ _ _)
   | (with_reducible exact LeO.refl _)
   | (with_reducible exact LeO.none _)
   | (with_reducible refine LeO.ite ?_ ?_)
   | (with_reducible refine LeO.bind ?_ (fun _ => ?_))
   | exact ih0 _ _ _ _
   | exact LeO.none _
   | refine LeO.ite ?_ ?_
   | refine LeO.bind ?_ (fun _ => ?_)
theorem spec_l03Find.mono : ∀ a0 a1 a2 k, LeO (spec_l03Find.f k a0 a1 a2) (spec_l03Find.f (k + 1) a0 a1 a2) := by
 intro a0 a1 a2 k;have ih0 := spec_l03Find.mono_l k
 unfold spec_l03Find.f
 repeat' first
   | (with_reducible exact ih0 _ _ _ _)
   | (with_reducible exact LeO.refl _)
   | (with_reducible exact LeO.none _)
   | (with_reducible refine LeO.ite ?_ ?_)
   | (with_reducible refine LeO.bind ?_ (fun _ => ?_))
   | exact ih0 _ _ _ _
   | exact LeO.none _
   | refine LeO.ite ?_ ?_
   | refine LeO.bind ?_ (fun _ => ?_)
set_option maxHeartbeats 8000000 in
set_option maxRecDepth 100000 in
theorem spec_l03Find.calls (k : Nat) (a0_0 : Int) (A0_1 : Option Addr) (c0_1 : Nat) (l0_1 : List (S69)) (a1 : ByteArray) (r : Int) (w : World) (hr0_1 : Kd.C k69 w A0_1 l0_1.length l0_1) (hc0_1 : l0_1.length ≤ c0_1) (h : spec_l03Find.f k a0_0 l0_1 a1 = some r) :
  Calls Tryd.prog 74 #[.agg #[.int .i64 a0_0, .slice A0_1 l0_1.length c0_1], .string a1] w fun e w' => e = .returned (.int .i64 r) ∧ Below w.heap.size w w' := by
 have hu33 := Tryd.underlying33;have HR0_1 := aM hr0_1;have HC0_1 := aM hc0_1;clear hr0_1 hc0_1;have HB := aM (Below.refl w.heap.size w);have H : (spec_l03Find.l0 k a1 0 a0_0 l0_1) = some r := h;clear h;have H' := aM H;clear H
 go_enter Tryd.func74, Tryd.ntmps74
 go_wp2_with (first | ((with_reducible refine gate_dst (N := 2) rfl ?_); refine box_event ?hg (N := 2) ?hd (cs := #[.int .i64 a0_0, .slice A0_1 l0_1.length c0_1]) (t := 33) ?hr ?_; (case hd => rfl); (case hg => rfl); (case hr => first | (go_simp; done) | (go_simp; rfl)); intro gb177 hg w3 hbox hb; have BK177 := aM (hbox); have GW177 := aM ((by rw [hg]; exact (below_size (bM HB.o)) : w.heap.size ≤ gb177)); have GE177 := aM ((by rw [hg]; exact (below_size (bM HB.o)) : w.heap.size ≤ gb177)); replace HB := aM (below_step (bM HB.o) hb); clear hb hbox hg))
 go_loopg [5] k (fun kq v5 w' => ∃ (x5_1 : Int), v5 = .int .i64 x5_1 ∧ Aside0 (spec_l03Find.l0 kq a1 x5_1 a0_0 l0_1 = some r) ∧ Aside0 (kq ≤ k) ∧ Aside0 (w'.heap[gb177]? = some (.cells #[.int .i64 a0_0, (.slice A0_1 l0_1.length c0_1)] 33 (0, 0))) ∧ Aside0 (Below w.heap.size w w'))
 case atStart => exact ⟨(0), (by first | rfl | (simp; done) | (simp [*]; done)), H', ⟨Nat.le_refl _⟩, ⟨by (with_reducible repeat (first | refine kN ?_ _ | refine kD ?_ | refine kA ?_ _)); exact BK177.o⟩, ⟨by with_reducible repeat (first | exact HB.o | apply bA | apply bN | apply bD | refine bS ?_ GE177.o)⟩⟩
 case round =>
  clear H';obtain ⟨x5_1, rfl, HA, HK1, BK177, HB⟩ := hrel
  cases gk with
  | zero => exact absurd HA.o (by simp [spec_l03Find.l0])
  | succ k1 =>
   have H := HA.o;clear HA;simp only [spec_l03Find.l0] at H
   by_cases c4 : x5_1 < (l0_1.length : Int)
   ·rw [if_pos c4] at H;have c4b0 : decide (x5_1 < (l0_1.length : Int)) = true := decide_eq_true c4;clear c4
    by_cases c5 : 0 ≤ x5_1
    ·rw [if_pos c5] at H;have c5b0 : decide (0 ≤ x5_1) = true := decide_eq_true c5;clear c5
     by_cases c6 : ((rd_T69 l0_1 x5_1).f0).toList = a1.toList
     ·rw [if_pos c6] at H;have c6b0 : (((rd_T69 l0_1 x5_1).f0).toList == a1.toList) = true := beq_iff_eq.mpr c6;have c6b1 : (((rd_T69 l0_1 x5_1).f0).toList != a1.toList) = false := bne_eq_false_iff_eq.mpr c6;clear c6;obtain rfl := Option.some.inj H;have hcz7_0 := cL0 BK177.o;have hcz7_1 := cL1 BK177.o;have hfz7_0 := kF BK177.o 0;have hfz7_1 := kF BK177.o 1;have p178 : 0 ≤ (x5_1 : Int) := oD;have q178 : x5_1 < (l0_1.length : Int) := oD;obtain ⟨ad178, e178, hx178_0, hx178_1, hx178_2⟩ := at_T69 HR0_1.o x5_1 p178 q178
      cases e178
      replace hx178_0 := (HB.o.cell (lC w _ hx178_0)).trans hx178_0;replace hx178_1 := (HB.o.cell (lC w _ hx178_1)).trans hx178_1;replace hx178_2 := (HB.o.cell (lC w _ hx178_2)).trans hx178_2;replace p178 := eq_true p178;replace q178 := eq_true q178
      go_wp2
      go_ret
      exact ⟨by first | rfl | (simp [zE] <;> rfl) | (simp [*, zE] <;> rfl), by with_reducible repeat (first | exact HB.o | apply bA | apply bN | apply bD | refine bS ?_ GE177.o)⟩
     ·rw [if_neg c6] at H;have c6b0 : (((rd_T69 l0_1 x5_1).f0).toList == a1.toList) = false := beq_eq_false_iff_ne.mpr c6;have c6b1 : (((rd_T69 l0_1 x5_1).f0).toList != a1.toList) = true := bne_iff_ne.mpr c6;have H' := aM H;clear H;have hcz8_0 := cL0 BK177.o;have hcz8_1 := cL1 BK177.o;have hfz8_0 := kF BK177.o 0;have hfz8_1 := kF BK177.o 1;have p178 : 0 ≤ (x5_1 : Int) := oD;have q178 : x5_1 < (l0_1.length : Int) := oD;obtain ⟨ad178, e178, hx178_0, hx178_1, hx178_2⟩ := at_T69 HR0_1.o x5_1 p178 q178
      cases e178
      replace hx178_0 := (HB.o.cell (lC w _ hx178_0)).trans hx178_0;replace hx178_1 := (HB.o.cell (lC w _ hx178_1)).trans hx178_1;replace hx178_2 := (HB.o.cell (lC w _ hx178_2)).trans hx178_2;replace p178 := eq_true p178;replace q178 := eq_true q178
      go_wp2
      go_roundg k1
      case measure => have := HK1.o; omega
      case rel => exact ⟨(wrap64 (x5_1 + 1)), (by first | rfl | (simp; done) | (simp [*]; done)), H', ⟨by have := HK1.o; omega⟩, ⟨by (with_reducible repeat (first | refine kN ?_ _ | refine kD ?_ | refine kA ?_ _)); exact BK177.o⟩, ⟨by with_reducible repeat (first | exact HB.o | apply bA | apply bN | apply bD | refine bS ?_ GE177.o)⟩⟩
    ·rw [if_neg c5] at H;exact absurd H (by simp)
   ·rw [if_neg c4] at H;have c4b0 : decide (x5_1 < (l0_1.length : Int)) = false := decide_eq_false c4;clear c4;obtain rfl := Option.some.inj H;have hcz9_0 := cL0 BK177.o;have hcz9_1 := cL1 BK177.o;have hfz9_0 := kF BK177.o 0;have hfz9_1 := kF BK177.o 1
    go_wp2
    go_ret
    exact ⟨by first | rfl | (simp [zE] <;> rfl) | (simp [*, zE] <;> rfl), by with_reducible repeat (first | exact HB.o | apply bA | apply bN | apply bD | refine bS ?_ GE177.o)⟩
end Go.Proofs.YtpdhfoegbannkaaDoor.PFnExactWalPlan
