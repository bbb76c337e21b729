import Derived.Test.YtpdhfoegbannkaaDoorMFnExactWalPlanPx0
import Derived.Test.YtpdhfoegbannkaaDoorMFnExactWalPlanPx10
import Derived.Test.YtpdhfoegbannkaaDoorMFnExactWalPlanPx13
namespace Go.Proofs.YtpdhfoegbannkaaDoor.PFnExactWalPlan
open Go.RowKit Go.Proofs.YtpdhfoegbannkaaDoorW.PrintWords Go.Proofs.YtpdhfoegbannkaaDoorW.PrintLast Go.Proofs.YtpdhfoegbannkaaDoorW.PrintMore
attribute [local go_sem] max2_int min2_int max_two min_two max_three min_three max_four min_four
set_option linter.unusedVariables false
set_option linter.unusedSimpArgs false
def impl_frameAt.f (k : Nat) (a0 : ByteArray) : Option (ByteArray × Int) := if (a0.size : Int) < 6 then (some ((⟨#[]⟩ : ByteArray), 16)) else (if 0 ≤ 2 then (if 2 ≤ (a0.size : Int) then ((impl_numberOf.f k (a0.extract 0 2)).bind fun t291 => ((impl_within.f t291 1 200).bind fun t292 => (if t292 = true then (if (a0.size : Int) < (wrap64 (6 + t291)) then (some ((⟨#[]⟩ : ByteArray), 16)) else (if 6 ≤ (wrap64 (6 + t291)) then (if (wrap64 (6 + t291)) ≤ (a0.size : Int) then ((impl_frame.f k (a0.extract 6 ((wrap64 (6 + t291)) : Int).toNat)).bind fun t293 => (if 0 ≤ (wrap64 (6 + t291)) then (if t293.toList = (a0.extract 0 ((wrap64 (6 + t291)) : Int).toNat).toList then (some (a0.extract 6 ((wrap64 (6 + t291)) : Int).toNat, 0)) else (some ((⟨#[]⟩ : ByteArray), 8))) else (none))) else (none)) else (none))) else (some ((⟨#[]⟩ : ByteArray), 8))))) else (none)) else (none))
theorem impl_frameAt.mono : ∀ a0 k, LeO (impl_frameAt.f k a0) (impl_frameAt.f (k + 1) a0) := by
 intro a0 k
 unfold impl_frameAt.f
 repeat' first
   | (with_reducible exact impl_frame.mono _ _)
   | (with_reducible exact impl_numberOf.mono _ _)
   | (with_reducible exact LeO.refl _)
   | (with_reducible exact LeO.none _)
   | (with_reducible refine LeO.ite ?_ ?_)
   | (with_reducible refine LeO.bind ?_ (fun _ => ?_))
   | exact impl_frame.mono _ _
   | exact impl_numberOf.mono _ _
   | exact LeO.none _
   | refine LeO.ite ?_ ?_
   | refine LeO.bind ?_ (fun _ => ?_)
def impl_frameAt.T8 : Bool × List (List Nat × List Nat) := (true, [([], []), ([], []), ([1], [1]), ([0, 2], [0, 2]), ([3], [3]), ([], []), ([], []), ([6], [6]), ([5, 7], [5, 7]), ([4, 8], [4, 8]), ([9, 4], [9])])
def impl_frameAt.B8 : List Nat := [0, 0, 2, 7, 15, 0, 0, 64, 224, 511, 1023]
theorem impl_frameAt.tab8 : rtab .any (opsOf Tryd.f101 8) = impl_frameAt.T8 := by kernel_rfl
theorem impl_frameAt.bits8 : waitsOk impl_frameAt.T8.2 impl_frameAt.B8 = true := by kernel_rfl
set_option maxHeartbeats 8000000 in
set_option maxRecDepth 100000 in
theorem impl_frameAt.calls (k : Nat) (a0 : ByteArray) (r1 : ByteArray) (r2 : Int) (w : World) (h : impl_frameAt.f k a0 = some (r1, r2)) :
  Calls Tryd.prog 101 #[.string a0] w fun e w' => e = .returned (.tuple #[.string r1, .int .i64 r2]) ∧ Below w.heap.size w w' := by
 have HB := aM (Below.refl w.heap.size w);have H : (if (a0.size : Int) < 6 then (some ((⟨#[]⟩ : ByteArray), 16)) else (if 0 ≤ 2 then (if 2 ≤ (a0.size : Int) then ((impl_numberOf.f k (a0.extract 0 2)).bind fun t291 => ((impl_within.f t291 1 200).bind fun t292 => (if t292 = true then (if (a0.size : Int) < (wrap64 (6 + t291)) then (some ((⟨#[]⟩ : ByteArray), 16)) else (if 6 ≤ (wrap64 (6 + t291)) then (if (wrap64 (6 + t291)) ≤ (a0.size : Int) then ((impl_frame.f k (a0.extract 6 ((wrap64 (6 + t291)) : Int).toNat)).bind fun t293 => (if 0 ≤ (wrap64 (6 + t291)) then (if t293.toList = (a0.extract 0 ((wrap64 (6 + t291)) : Int).toNat).toList then (some (a0.extract 6 ((wrap64 (6 + t291)) : Int).toNat, 0)) else (some ((⟨#[]⟩ : ByteArray), 8))) else (none))) else (none)) else (none))) else (some ((⟨#[]⟩ : ByteArray), 8))))) else (none)) else (none))) = some (r1, r2) := h;clear h
 by_cases c2 : (a0.size : Int) < 6
 ·rw [if_pos c2] at H;have c2b0 : decide ((a0.size : Int) < 6) = true := decide_eq_true c2;have c2b1 : decide (a0.size < 6) = true := decide_eq_true (by omega);clear c2;simp only [Option.some.injEq, Prod.mk.injEq] at H;obtain ⟨rfl, rfl⟩ := H
  go_enter Tryd.func101, Tryd.ntmps101
  go_wp2
  go_ret2
  exact ⟨by first | rfl | (simp [zE] <;> rfl) | (simp [*, zE] <;> rfl), bM HB.o⟩
 ·rw [if_neg c2] at H;have c2b0 : decide ((a0.size : Int) < 6) = false := decide_eq_false c2;have c2b1 : decide (a0.size < 6) = false := decide_eq_false (by omega);clear c2
  by_cases c3 : 0 ≤ 2
  ·rw [if_pos c3] at H;have c3b0 := eq_true c3;have c3b1 : decide (0 ≤ 2) = true := decide_eq_true c3;clear c3
   by_cases c4 : 2 ≤ (a0.size : Int)
   ·rw [if_pos c4] at H;have c4b0 := eq_true c4;have c4b1 : decide (2 ≤ (a0.size : Int)) = true := decide_eq_true c4;clear c4;obtain ⟨t291, A5, H⟩ := bX H;(try dsimp only at H);obtain ⟨t292, A6, H⟩ := bX H;(try dsimp only at H)
    by_cases c7 : t292 = true
    ·subst c7
     rw [if_pos rfl] at H
     by_cases c8 : (a0.size : Int) < (wrap64 (6 + t291))
     ·rw [if_pos c8] at H;have c8b0 : decide ((a0.size : Int) < (wrap64 (6 + t291))) = true := decide_eq_true c8;clear c8;simp only [Option.some.injEq, Prod.mk.injEq] at H;obtain ⟨rfl, rfl⟩ := H
      go_enter Tryd.func101, Tryd.ntmps101
      go_wp2_with (first | ((with_reducible refine gate_callee (f := 78) rfl ?_); refine goesL_ (some 10) rfl rfl Tryd.func78 (by kernel_rfl) rfl #[.string (a0.extract 0 2)] rfl (by (try simp only [zM]); first | done | rfl | (simp only [zL]; rfl)) ?_; (with_reducible refine (impl_numberOf.calls k (a0.extract 0 2) t291 _ A5.o).mono ?_); rintro e w' ⟨rfl, ⟨nd, rfl⟩⟩; refine ⟨_, rfl, ?_⟩) | ((with_reducible refine gate_callee (f := 56) rfl ?_); refine goesL_ (some 13) rfl rfl Tryd.func56 (by kernel_rfl) rfl #[.int .i64 t291, .int .i64 1, .int .i64 200] rfl (by (try simp only [zM]); first | done | rfl | (simp only [zL]; rfl)) ?_; (with_reducible refine (impl_within.calls t291 1 200 true _ A6.o).mono ?_); rintro e w' ⟨rfl, ⟨nd, rfl⟩⟩; refine ⟨_, rfl, ?_⟩))
      go_ret2
      exact ⟨by first | rfl | (simp [zE] <;> rfl) | (simp [*, zE] <;> rfl), bM HB.o⟩
     ·rw [if_neg c8] at H;have c8b0 : decide ((a0.size : Int) < (wrap64 (6 + t291))) = false := decide_eq_false c8;clear c8
      by_cases c9 : 6 ≤ (wrap64 (6 + t291))
      ·rw [if_pos c9] at H;have c9b0 := eq_true c9;have c9b1 : decide (6 ≤ (wrap64 (6 + t291))) = true := decide_eq_true c9
       by_cases c10 : (wrap64 (6 + t291)) ≤ (a0.size : Int)
       ·rw [if_pos c10] at H;have c10b0 := eq_true c10;have c10b1 : decide ((wrap64 (6 + t291)) ≤ (a0.size : Int)) = true := decide_eq_true c10;obtain ⟨t293, A11, H⟩ := bX H;(try dsimp only at H);obtain ⟨ji12, hji12⟩ : ∃ j_ : Int, (wrap64 (6 + t291)) = j_ := ⟨_, rfl⟩
        replace H : (if 0 ≤ (ji12) then (if t293.toList = (a0.extract 0 ((ji12) : Int).toNat).toList then (some (a0.extract 6 ((ji12) : Int).toNat, 0)) else (some ((⟨#[]⟩ : ByteArray), 8))) else (none)) = some (r1, r2) := by first | (rw [hji12] at H; exact H) | (simp only [hji12] at H ⊢; exact H)
        (try rw [hji12] at c8b0)
        (try rw [hji12] at c9b0)
        (try rw [hji12] at c9b1)
        (try rw [hji12] at c9)
        (try rw [hji12] at c10b0)
        (try rw [hji12] at c10b1)
        (try rw [hji12] at c10)
        (try rw [hji12] at A5)
        (try rw [hji12] at A6)
        (try rw [hji12] at A11)
        have hji12w : (IntKind.i64.wrap (6 + t291)) = ji12 := (i64_w _).trans hji12
        by_cases c13 : 0 ≤ (ji12)
        ·rw [if_pos c13] at H;have c13b0 := eq_true c13;have c13b1 : decide (0 ≤ (ji12)) = true := decide_eq_true c13;clear c13;have c14b0 := eq_true (oD : (ji12) ≤ (a0.size : Int))
         by_cases c15 : t293.toList = (a0.extract 0 ((ji12) : Int).toNat).toList
         ·rw [if_pos c15] at H;have c15b0 : (t293.toList == (a0.extract 0 ((ji12) : Int).toNat).toList) = true := beq_iff_eq.mpr c15;have c15b1 : (t293.toList != (a0.extract 0 ((ji12) : Int).toNat).toList) = false := bne_eq_false_iff_eq.mpr c15;clear c15;have c16b0 := eq_true (oD : 6 ≤ (ji12));have c17b0 := eq_true (oD : (ji12) ≤ (a0.size : Int));simp only [Option.some.injEq, Prod.mk.injEq] at H;obtain ⟨rfl, rfl⟩ := H
          go_enter Tryd.func101, Tryd.ntmps101
          try go_wp2_with (first | ((with_reducible refine gate_callee (f := 78) rfl ?_); refine goesL_ (some 10) rfl rfl Tryd.func78 (by kernel_rfl) rfl #[.string (a0.extract 0 2)] rfl (by (try simp only [zM]); first | done | rfl | (simp only [zL]; rfl)) ?_; (with_reducible refine (impl_numberOf.calls k (a0.extract 0 2) t291 _ A5.o).mono ?_); rintro e w' ⟨rfl, ⟨nd, rfl⟩⟩; refine ⟨_, rfl, ?_⟩) | ((with_reducible refine gate_callee (f := 56) rfl ?_); refine goesL_ (some 13) rfl rfl Tryd.func56 (by kernel_rfl) rfl #[.int .i64 t291, .int .i64 1, .int .i64 200] rfl (by (try simp only [zM]); first | done | rfl | (simp only [zL]; rfl)) ?_; (with_reducible refine (impl_within.calls t291 1 200 true _ A6.o).mono ?_); rintro e w' ⟨rfl, ⟨nd, rfl⟩⟩; refine ⟨_, rfl, ?_⟩))
          generalize hq_ : World.drewN w _ = w18;have n0_ := aM (below_at hq_ HB.o);clear HB;have HB := n0_;clear n0_;clear hq_;have n0_ := aM (bD HB.o);clear HB;have HB := n0_;clear n0_;refine start_ (n := 11) (S := fun w' => True) (ds := []) (fT 0 11) (by kernel_rfl) rfl rfl trivial (fun hHeld => ?_); refine with_tabW impl_frameAt.tab8 impl_frameAt.bits8 (fun HT_ HW_ => ?_);generalize w18.drew = w19 at HB hHeld ⊢;refine pC HT_ 0 22 (fT 1 11) ?_;refine pC HT_ 1 23 (fT 2 11) ?_;refine pC HT_ 2 24 (fT 3 11) ?_;refine pC HT_ 3 25 (fT 4 11) ?_;refine pC HT_ 5 27 #[T,T,T,T,F,T,F,F,F,F,F] ?_;refine pC HT_ 6 28 #[T,T,T,T,F,T,T,F,F,F,F] ?_;refine pC HT_ 7 29 #[T,T,T,T,F,T,T,T,F,F,F] ?_;refine pC HT_ 8 30 #[T,T,T,T,F,T,T,T,T,F,F] ?_;refine one_ (i := 4) (N := some 26) (fT 9 11) rfl rfl (one_of HT_.o (by kernel_rfl)) (by decide) (fun K hK => ?_);refine goes_ Tryd.func84 (by kernel_rfl) rfl #[.string (a0.extract 6 ((ji12) : Int).toNat)] (by rfl) rfl rfl (by (try simp only [zM]); first | done | (simp only [hji12]; rfl) | rfl | (simp only [zL]; rfl)) ?_
          with_reducible refine (impl_frame.calls k (a0.extract 6 ((ji12) : Int).toNat) t293 _ A11.o).mono ?_
          rintro e w20 ⟨rfl, hb⟩
          refine ⟨_, rfl, ?_⟩;have n0_ := aM (below_step (bM HB.o) hb);clear HB;have HB := n0_;clear n0_
          (try clear hb)
          (try clear hb2)
          (try clear hk)
          (try clear hi)
          refine hK.out _ _ trivial (fun hHeld => ?_);clear hK K;refine norm_ (a' := ?_) ?_ ?_;rotate_left
          ·show Act.put _ (some 26) _ = _
           simp only [zA]
           rfl
          refine pC HT_ 9 31 (fT 10 11) ?_;refine pC HT_ 10 21 (fT 11 11) ?_;refine done_ (done_of HT_.o (by kernel_rfl)) ?_
          try go_wp2
          go_ret2
          exact ⟨by first | rfl | (simp [zE] <;> rfl) | (simp only [← hji12]; first | rfl | (simp [zE] <;> rfl)) | (simp [*, zE] <;> rfl), bM HB.o⟩
         ·rw [if_neg c15] at H;have c15b0 : (t293.toList == (a0.extract 0 ((ji12) : Int).toNat).toList) = false := beq_eq_false_iff_ne.mpr c15;have c15b1 : (t293.toList != (a0.extract 0 ((ji12) : Int).toNat).toList) = true := bne_iff_ne.mpr c15;simp only [Option.some.injEq, Prod.mk.injEq] at H;obtain ⟨rfl, rfl⟩ := H
          go_enter Tryd.func101, Tryd.ntmps101
          try go_wp2_with (first | ((with_reducible refine gate_callee (f := 78) rfl ?_); refine goesL_ (some 10) rfl rfl Tryd.func78 (by kernel_rfl) rfl #[.string (a0.extract 0 2)] rfl (by (try simp only [zM]); first | done | rfl | (simp only [zL]; rfl)) ?_; (with_reducible refine (impl_numberOf.calls k (a0.extract 0 2) t291 _ A5.o).mono ?_); rintro e w' ⟨rfl, ⟨nd, rfl⟩⟩; refine ⟨_, rfl, ?_⟩) | ((with_reducible refine gate_callee (f := 56) rfl ?_); refine goesL_ (some 13) rfl rfl Tryd.func56 (by kernel_rfl) rfl #[.int .i64 t291, .int .i64 1, .int .i64 200] rfl (by (try simp only [zM]); first | done | rfl | (simp only [zL]; rfl)) ?_; (with_reducible refine (impl_within.calls t291 1 200 true _ A6.o).mono ?_); rintro e w' ⟨rfl, ⟨nd, rfl⟩⟩; refine ⟨_, rfl, ?_⟩))
          generalize hq_ : World.drewN w _ = w21;have n0_ := aM (below_at hq_ HB.o);clear HB;have HB := n0_;clear n0_;clear hq_;have n0_ := aM (bD HB.o);clear HB;have HB := n0_;clear n0_;refine start_ (n := 11) (S := fun w' => True) (ds := []) (fT 0 11) (by kernel_rfl) rfl rfl trivial (fun hHeld => ?_); refine with_tabW impl_frameAt.tab8 impl_frameAt.bits8 (fun HT_ HW_ => ?_);generalize w21.drew = w22 at HB hHeld ⊢;refine pC HT_ 0 22 (fT 1 11) ?_;refine pC HT_ 1 23 (fT 2 11) ?_;refine pC HT_ 2 24 (fT 3 11) ?_;refine pC HT_ 3 25 (fT 4 11) ?_;refine pC HT_ 5 27 #[T,T,T,T,F,T,F,F,F,F,F] ?_;refine pC HT_ 6 28 #[T,T,T,T,F,T,T,F,F,F,F] ?_;refine pC HT_ 7 29 #[T,T,T,T,F,T,T,T,F,F,F] ?_;refine pC HT_ 8 30 #[T,T,T,T,F,T,T,T,T,F,F] ?_;refine one_ (i := 4) (N := some 26) (fT 9 11) rfl rfl (one_of HT_.o (by kernel_rfl)) (by decide) (fun K hK => ?_);refine goes_ Tryd.func84 (by kernel_rfl) rfl #[.string (a0.extract 6 ((ji12) : Int).toNat)] (by rfl) rfl rfl (by (try simp only [zM]); first | done | (simp only [hji12]; rfl) | rfl | (simp only [zL]; rfl)) ?_
          with_reducible refine (impl_frame.calls k (a0.extract 6 ((ji12) : Int).toNat) t293 _ A11.o).mono ?_
          rintro e w23 ⟨rfl, hb⟩
          refine ⟨_, rfl, ?_⟩;have n0_ := aM (below_step (bM HB.o) hb);clear HB;have HB := n0_;clear n0_
          (try clear hb)
          (try clear hb2)
          (try clear hk)
          (try clear hi)
          refine hK.out _ _ trivial (fun hHeld => ?_);clear hK K;refine norm_ (a' := ?_) ?_ ?_;rotate_left
          ·show Act.put _ (some 26) _ = _
           simp only [zA]
           rfl
          refine pC HT_ 9 31 (fT 10 11) ?_;refine pC HT_ 10 21 (fT 11 11) ?_;refine done_ (done_of HT_.o (by kernel_rfl)) ?_
          try go_wp2
          go_ret2
          exact ⟨by first | rfl | (simp [zE] <;> rfl) | (simp only [← hji12]; first | rfl | (simp [zE] <;> rfl)) | (simp [*, zE] <;> rfl), bM HB.o⟩
        ·rw [if_neg c13] at H;exact absurd H (by simp)
       ·rw [if_neg c10] at H;exact absurd H (by simp)
      ·rw [if_neg c9] at H;exact absurd H (by simp)
    ·replace c7 := Bool.eq_false_iff.mpr c7;subst c7
     rw [if_neg (show ¬ (false = true) by decide)] at H;simp only [Option.some.injEq, Prod.mk.injEq] at H;obtain ⟨rfl, rfl⟩ := H
     go_enter Tryd.func101, Tryd.ntmps101
     go_wp2_with (first | ((with_reducible refine gate_callee (f := 78) rfl ?_); refine goesL_ (some 10) rfl rfl Tryd.func78 (by kernel_rfl) rfl #[.string (a0.extract 0 2)] rfl (by (try simp only [zM]); first | done | rfl | (simp only [zL]; rfl)) ?_; (with_reducible refine (impl_numberOf.calls k (a0.extract 0 2) t291 _ A5.o).mono ?_); rintro e w' ⟨rfl, ⟨nd, rfl⟩⟩; refine ⟨_, rfl, ?_⟩) | ((with_reducible refine gate_callee (f := 56) rfl ?_); refine goesL_ (some 13) rfl rfl Tryd.func56 (by kernel_rfl) rfl #[.int .i64 t291, .int .i64 1, .int .i64 200] rfl (by (try simp only [zM]); first | done | rfl | (simp only [zL]; rfl)) ?_; (with_reducible refine (impl_within.calls t291 1 200 false _ A6.o).mono ?_); rintro e w' ⟨rfl, ⟨nd, rfl⟩⟩; refine ⟨_, rfl, ?_⟩))
     go_ret2
     exact ⟨by first | rfl | (simp [zE] <;> rfl) | (simp [*, zE] <;> rfl), bM HB.o⟩
   ·rw [if_neg c4] at H;exact absurd H (by simp)
  ·rw [if_neg c3] at H;exact absurd H (by simp)
def impl_readFrames.l0 : Nat → ByteArray → List ByteArray → Int → Option (List ByteArray × Int × Int)
 | 0, _, _, _ => none
 | k + 1, x0, x5, x6 => if x6 < (x0.size : Int) then (if 0 ≤ x6 then (if x6 ≤ (x0.size : Int) then ((impl_frameAt.f k (x0.extract (x6 : Int).toNat x0.size)).bind fun bt297 => (if bt297.2 = 0 then (if x5.length < 8796093022208 then (impl_readFrames.l0 k x0 (x5 ++ [bt297.1]) (wrap64 ((wrap64 (x6 + 6)) + (bt297.1.size : Int)))) else (none)) else (some (x5, x6, bt297.2)))) else (none)) else (none)) else (some (x5, x6, 0))
def impl_readFrames.f (k : Nat) (a0 : ByteArray) : Option (List ByteArray × Int × Int) := impl_readFrames.l0 k a0 (([] : List ByteArray)) 0
theorem impl_readFrames.mono_l : ∀ k, (∀ y0 y1 y2, LeO (impl_readFrames.l0 k y0 y1 y2) (impl_readFrames.l0 (k + 1) y0 y1 y2))
 | 0 => fun _ _ _ r h => by simp [impl_readFrames.l0] at h
 | k + 1 => by
  have ih0 := impl_readFrames.mono_l k
  ·intro y0 y1 y2
   unfold impl_readFrames.l0
   repeat' first
   | (with_reducible exact ih0 _ _ _)
   | (with_reducible exact impl_frameAt.mono _ _)
   | (with_reducible exact LeO.refl _)
   | (with_reducible exact LeO.none _)
   | (with_reducible refine LeO.ite ?_ ?_)
   | (with_reducible refine LeO.bind ?_ (fun _ => ?_))
   | exact ih0 _ _ _
   | exact impl_frameAt.mono _ _
   | exact LeO.none _
   | refine LeO.ite ?_ ?_
   | refine LeO.bind ?_ (fun _ => ?_)
theorem impl_readFrames.mono : ∀ a0 k, LeO (impl_readFrames.f k a0) (impl_readFrames.f (k + 1) a0) := by
 intro a0 k;have ih0 := impl_readFrames.mono_l k
 unfold impl_readFrames.f
 repeat' first
   | (with_reducible exact ih0 _ _ _)
   | (with_reducible exact impl_frameAt.mono _ _)
   | (with_reducible exact LeO.refl _)
   | (with_reducible exact LeO.none _)
   | (with_reducible refine LeO.ite ?_ ?_)
   | (with_reducible refine LeO.bind ?_ (fun _ => ?_))
   | exact ih0 _ _ _
   | exact impl_frameAt.mono _ _
   | exact LeO.none _
   | refine LeO.ite ?_ ?_
   | refine LeO.bind ?_ (fun _ => ?_)
set_option maxHeartbeats 8000000 in
set_option maxRecDepth 100000 in
theorem impl_readFrames.calls (k : Nat) (a0 : ByteArray) (r1 : List ByteArray) (r2 : Int) (r3 : Int) (w : World) (h : impl_readFrames.f k a0 = some (r1, r2, r3)) :
  Calls Tryd.prog 77 #[.string a0] w fun e w' => ∃ v0_ : Value, e = .returned (.tuple #[v0_, .int .i64 r2, .int .i64 r3]) ∧ Kd.R Kd.string 9 w' w.heap.size (fun _ => True) v0_ r1 ∧ Below w.heap.size w w' := by
 have HB := aM (Below.refl w.heap.size w);have H : (impl_readFrames.l0 k a0 (([] : List ByteArray)) 0) = some (r1, r2, r3) := h;clear h;obtain ⟨y294, hy294⟩ : ∃ y_ : List ByteArray, y_ = (([] : List ByteArray)) := ⟨_, rfl⟩
 replace H : (impl_readFrames.l0 k a0 y294 0) = some (r1, r2, r3) := by first | (rw [hy294]; with_reducible exact H) | (have H2_ := (Option.bind_some _ _).symm.trans H; rw [hy294]; with_reducible exact H2_) | (have H2_ := (Option.bind_some _ _).symm.trans H; with_reducible exact H2_) | with_reducible exact H | (rw [hy294]; exact H) | exact H
 have Ny294 := aM hy294;clear hy294;have H' := aM H;clear H
 go_enter Tryd.func77, Tryd.ntmps77
 go_wp2_with (first | ((with_reducible refine gate_dst (N := 9) rfl ?_); refine Kd.R_lit Kd.string _ 9 ?hg (N := 9) ?hd (xs := ([] : List ByteArray)) (inner := []) (ok := fun _ => True) (okp := fun _ => True) ?hr ?hp (fun _ hk => hk) trivial (Below.refl _ _) (Nat.le_refl _) (by simp) ?_; (case hd => rfl); (case hg => rfl); (case hr => first | (go_simp; done) | (go_simp; rfl)); (case hp => exact (Reps.none _ _)); intro v295 w2 ho3 hb hg_ hnew_; clear hg_ hnew_; (first | rw [← Ny294.o] at ho3 | (simp only [Int.reduceToNat] at ho3; rw [← Ny294.o] at ho3)); have HO296 := aM (Kd.R_lower ho3 (below_size (bM HB.o))); replace HB := aM (below_step (bM HB.o) hb); clear hb ho3))
 go_loopg [5, 6] k (fun kq v5 v6 w' => ∃ (x5_1 : List ByteArray) (x6_1 : Int), v6 = .int .i64 x6_1 ∧ Aside0 (impl_readFrames.l0 kq a0 x5_1 x6_1 = some (r1, r2, r3)) ∧ Aside0 (kq ≤ k) ∧ Aside0 (Kd.R Kd.string 9 w' w.heap.size (fun _ => True) v5 x5_1) ∧ Aside0 (Below w.heap.size w w'))
 case atStart => exact ⟨(y294), (0), (by first | rfl | (simp; done) | (simp [*]; done)), H', ⟨Nat.le_refl _⟩, ⟨by (with_reducible repeat (first | apply Kd.R_alloc | apply Kd.R_drewN | apply Kd.R_drew)); exact HO296.o⟩, ⟨bM HB.o⟩⟩
 case round =>
  clear H';obtain ⟨x5_1, x6_1, rfl, HA, HK1, HO_5, HB⟩ := hrel
  cases gk with
  | zero => exact absurd HA.o (by simp [impl_readFrames.l0])
  | succ k1 =>
   have H := HA.o;clear HA;simp only [impl_readFrames.l0] at H
   by_cases c4 : x6_1 < (a0.size : Int)
   ·rw [if_pos c4] at H;have c4b0 : decide (x6_1 < (a0.size : Int)) = true := decide_eq_true c4;clear c4
    by_cases c5 : 0 ≤ x6_1
    ·rw [if_pos c5] at H;have c5b0 := eq_true c5;have c5b1 : decide (0 ≤ x6_1) = true := decide_eq_true c5;clear c5
     by_cases c6 : x6_1 ≤ (a0.size : Int)
     ·rw [if_pos c6] at H;have c6b0 := eq_true c6;have c6b1 : decide (x6_1 ≤ (a0.size : Int)) = true := decide_eq_true c6;clear c6;obtain ⟨⟨t297, t298⟩, A7, H⟩ := bX H;(try dsimp only at H)
      by_cases c8 : t298 = 0
      ·rw [if_pos c8] at H;have c8b0 : (t298 == 0) = true := beq_iff_eq.mpr c8;have c8b1 : (t298 != 0) = false := bne_eq_false_iff_eq.mpr c8;clear c8
       by_cases c9 : x5_1.length < 8796093022208
       ·rw [if_pos c9] at H;have LMc9 := aM c9;clear c9;obtain ⟨y299, hy299⟩ : ∃ y_ : List ByteArray, y_ = (x5_1 ++ [t297]) := ⟨_, rfl⟩
        replace H : (impl_readFrames.l0 k1 a0 y299 (wrap64 ((wrap64 (x6_1 + 6)) + (t297.size : Int)))) = some (r1, r2, r3) := by first | (rw [hy299]; with_reducible exact H) | (have H2_ := (Option.bind_some _ _).symm.trans H; rw [hy299]; with_reducible exact H2_) | (have H2_ := (Option.bind_some _ _).symm.trans H; with_reducible exact H2_) | with_reducible exact H | (rw [hy299]; exact H) | exact H
        have Ny299 := aM hy299;clear hy299;have H' := aM H;clear H
        go_wp2_with (first | ((with_reducible refine gate_callee (f := 101) rfl ?_); refine goesL_ (some 18) rfl rfl Tryd.func101 (by kernel_rfl) rfl #[.string (a0.extract (x6_1 : Int).toNat a0.size)] rfl (by (try simp only [zM]); first | done | rfl | (simp only [zL]; rfl)) ?_; (with_reducible refine (impl_frameAt.calls k1 (a0.extract (x6_1 : Int).toNat a0.size) t297 t298 _ A7.o).mono ?_); rintro e w10 ⟨rfl, hb⟩; refine ⟨_, rfl, ?_⟩; replace HO_5 := aM (Kd.R_below (rM HO_5.o) hb); replace HB := aM (below_step (bM HB.o) hb); (try clear hb); skip) | ((with_reducible refine gate_builtin (b := .append) (xs := #[.tmp 26, .tmp 28]) rfl ?_); at_builtin; refine Kd.R_append Kd.string (w0 := w) w.heap.size rfl (.tmp 26) (.tmp 28) 26 9 (.string ⟨#[]⟩) 16 rfl Tryd.underlying26 info9 rfl (by decide) (by omega) u5 x5_1 t297 [.string t297] (fun _ => True) (fun _ => False) rfl rfl ?aP (fun _ hk => hk.elim) ?aF ?aO ?aB ?aS ?aL ?_; (case aP => exact rfl); (case aB => exact (bM HB.o)); (case aF => exact (fun _ _ => trivial)); (case aO => exact (rM HO_5.o)); (case aS => exact (below_size (bM HB.o))); (case aL => have := LMc9.o; omega); intro v300 w11 ho hb hg hat; rw [← Ny299.o] at ho; have n0_ := aM (hb); have n1_ := aM (ho); clear HB; clear HO_5; have HB := n0_; have HO301 := n1_; clear n0_ n1_; clear ho hb hg hat))
        go_roundg k1
        case measure => have := HK1.o; omega
        case rel => exact ⟨(y299), (wrap64 ((wrap64 (x6_1 + 6)) + (t297.size : Int))), (by first | rfl | (simp; done) | (simp [*]; done)), H', ⟨by have := HK1.o; omega⟩, ⟨by (with_reducible repeat (first | apply Kd.R_alloc | apply Kd.R_drewN | apply Kd.R_drew)); exact HO301.o⟩, ⟨bM HB.o⟩⟩
       ·rw [if_neg c9] at H;exact absurd H (by simp)
      ·rw [if_neg c8] at H;have c8b0 : (t298 == 0) = false := beq_eq_false_iff_ne.mpr c8;have c8b1 : (t298 != 0) = true := bne_iff_ne.mpr c8;simp only [Option.some.injEq, Prod.mk.injEq] at H;obtain ⟨rfl, rfl, rfl⟩ := H
       go_wp2_with (first | ((with_reducible refine gate_callee (f := 101) rfl ?_); refine goesL_ (some 18) rfl rfl Tryd.func101 (by kernel_rfl) rfl #[.string (a0.extract (x6_1 : Int).toNat a0.size)] rfl (by (try simp only [zM]); first | done | rfl | (simp only [zL]; rfl)) ?_; (with_reducible refine (impl_frameAt.calls k1 (a0.extract (x6_1 : Int).toNat a0.size) t297 t298 _ A7.o).mono ?_); rintro e w12 ⟨rfl, hb⟩; refine ⟨_, rfl, ?_⟩; replace HO_5 := aM (Kd.R_below (rM HO_5.o) hb); replace HB := aM (below_step (bM HB.o) hb); (try clear hb); skip))
       go_ret3
       exact ⟨_, by first | rfl | (simp [zE] <;> rfl) | (simp [*, zE] <;> rfl), by (with_reducible repeat (first | apply Kd.R_alloc | apply Kd.R_drewN | apply Kd.R_drew)); exact HO_5.o, bM HB.o⟩
     ·rw [if_neg c6] at H;exact absurd H (by simp)
    ·rw [if_neg c5] at H;exact absurd H (by simp)
   ·rw [if_neg c4] at H;have c4b0 : decide (x6_1 < (a0.size : Int)) = false := decide_eq_false c4;clear c4;simp only [Option.some.injEq, Prod.mk.injEq] at H;obtain ⟨rfl, rfl, rfl⟩ := H
    go_wp2
    go_ret3
    exact ⟨_, by first | rfl | (simp [zE] <;> rfl) | (simp [*, zE] <;> rfl), by (with_reducible repeat (first | apply Kd.R_alloc | apply Kd.R_drewN | apply Kd.R_drew)); exact HO_5.o, bM HB.o⟩
def impl_Wal_next.f (a0_0 : Int) (l0_1 : List ByteArray) (l0_2 : List ByteArray) (a0_3 : Int) : Option (Int) := some (wrap64 (a0_0 + (l0_1.length : Int)))
set_option maxHeartbeats 8000000 in
set_option maxRecDepth 100000 in
theorem impl_Wal_next.calls (a0_0 : Int) (A0_1 : Option Addr) (c0_1 : Nat) (l0_1 : List ByteArray) (A0_2 : Option Addr) (c0_2 : Nat) (l0_2 : List ByteArray) (a0_3 : Int) (r : Int) (w : World) (hr0_1 : Kd.C Kd.string w A0_1 l0_1.length l0_1) (hc0_1 : l0_1.length ≤ c0_1) (hr0_2 : Kd.C Kd.string w A0_2 l0_2.length l0_2) (hc0_2 : l0_2.length ≤ c0_2) (h : impl_Wal_next.f a0_0 l0_1 l0_2 a0_3 = some r) :
  Calls Tryd.prog 79 #[.agg #[.int .i64 a0_0, .slice A0_1 l0_1.length c0_1, .slice A0_2 l0_2.length c0_2, .int .i64 a0_3]] w fun e w' => e = .returned (.int .i64 r) ∧ Below w.heap.size w w' := by
 have hu28 := Tryd.underlying28;have HR0_1 := aM hr0_1;have HC0_1 := aM hc0_1;clear hr0_1 hc0_1;have HR0_2 := aM hr0_2;have HC0_2 := aM hc0_2;clear hr0_2 hc0_2;have HB := aM (Below.refl w.heap.size w);have H : (some (wrap64 (a0_0 + (l0_1.length : Int)))) = some r := h;clear h;obtain rfl := Option.some.inj H
 go_enter Tryd.func79, Tryd.ntmps79
 go_wp2_with (first | ((with_reducible refine gate_dst (N := 1) rfl ?_); refine box_event ?hg (N := 1) ?hd (cs := #[.int .i64 a0_0, .slice A0_1 l0_1.length c0_1, .slice A0_2 l0_2.length c0_2, .int .i64 a0_3]) (t := 28) ?hr ?_; (case hd => rfl); (case hg => rfl); (case hr => first | (go_simp; done) | (go_simp; rfl)); intro gb302 hg w2 hbox hb; have BK302 := aM (hbox); have GW302 := aM ((by rw [hg]; exact (below_size (bM HB.o)) : w.heap.size ≤ gb302)); have GE302 := aM ((by rw [hg]; exact (below_size (bM HB.o)) : w.heap.size ≤ gb302)); replace HB := aM (below_step (bM HB.o) hb); clear hb hbox hg; have hcz3_0 := cL0 BK302.o; have hcz3_1 := cL1 BK302.o; have hcz3_2 := cL2 BK302.o; have hcz3_3 := cL3 BK302.o; have hfz3_0 := kF BK302.o 0; have hfz3_1 := kF BK302.o 1; have hfz3_2 := kF BK302.o 2; have hfz3_3 := kF BK302.o 3))
 go_ret
 exact ⟨by first | rfl | (simp [zE] <;> rfl) | (simp [*, zE] <;> rfl), by with_reducible repeat (first | exact HB.o | apply bA | apply bN | apply bD | refine bS ?_ GE302.o)⟩
end Go.Proofs.YtpdhfoegbannkaaDoor.PFnExactWalPlan
