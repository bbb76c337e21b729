import Derived.Test.YtpdhfoegbannkaaDoorMFnExactWalPlanPx0
import Derived.Test.YtpdhfoegbannkaaDoorMFnExactWalPlanPx10
import Derived.Test.YtpdhfoegbannkaaDoorMFnExactWalPlanPx11
namespace Go.Proofs.YtpdhfoegbannkaaDoor.PFnExactWalPlan
open Go.RowKit Go.Proofs.YtpdhfoegbannkaaDoorW.PrintWords Go.Proofs.YtpdhfoegbannkaaDoorW.PrintLast Go.Proofs.YtpdhfoegbannkaaDoorW.PrintMore
attribute [local go_sem] max2_int min2_int max_two min_two max_three min_three max_four min_four
set_option linter.unusedVariables false
set_option linter.unusedSimpArgs false
mutual
def impl_DiskOK.j0 : Nat → Bool → Int → List (S69) → Option (Bool)
 | 0, _, _, _ => none
 | k + 1, x21, x275000, x275001 => if x21 = true then (some false) else (impl_DiskOK.l0 k x275001 (x275001.length : Int) 0 x275000 x275001)
def impl_DiskOK.l0 : Nat → List (S69) → Int → Int → Int → List (S69) → Option (Bool)
 | 0, _, _, _, _, _ => none
 | k + 1, x23, x24, x25, x275000, x275001 => if x25 < x24 then (if 0 ≤ x25 then (if x25 < (x23.length : Int) then ((impl_NameOK.f k ((rd_T69 x23 x25).f0)).bind fun t279 => (if t279 = true then (if x25 > 0 then (if 0 ≤ (wrap64 (x25 - 1)) then (if (wrap64 (x25 - 1)) < (x275001.length : Int) then (if ((Op.bytesLess (((rd_T69 x275001 (wrap64 (x25 - 1))).f0).toList) (((rd_T69 x23 x25).f0).toList)) = true) then ((impl_within.f ((rd_T69 x23 x25).f2) 0 (((rd_T69 x23 x25).f1).size : Int)).bind fun t281 => (impl_DiskOK.j2 k x23 x24 x25 (!t281) x275000 x275001)) else (impl_DiskOK.j2 k x23 x24 x25 true x275000 x275001)) else (none)) else (none)) else ((impl_within.f ((rd_T69 x23 x25).f2) 0 (((rd_T69 x23 x25).f1).size : Int)).bind fun t282 => (impl_DiskOK.j2 k x23 x24 x25 (!t282) x275000 x275001))) else (impl_DiskOK.j2 k x23 x24 x25 true x275000 x275001))) else (none)) else (none)) else (some true)
def impl_DiskOK.j2 : Nat → List (S69) → Int → Int → Bool → Int → List (S69) → Option (Bool)
 | 0, _, _, _, _, _, _ => none
 | k + 1, x23, x24, x25, x58, x275000, x275001 => if x58 = true then (some false) else (impl_DiskOK.l0 k x23 x24 (wrap64 (x25 + 1)) x275000 x275001)
end
def impl_DiskOK.f (k : Nat) (a0_0 : Int) (l0_1 : List (S69)) : Option (Bool) := (impl_within.f a0_0 0 3000).bind fun t275 => (if t275 = true then (if (l0_1.length : Int) > 8 then (impl_DiskOK.j0 k true a0_0 l0_1) else ((impl_Disk_used.f k a0_0 l0_1).bind fun t276 => (impl_DiskOK.j0 k (decide (t276 > a0_0)) a0_0 l0_1))) else (impl_DiskOK.j0 k true a0_0 l0_1))
theorem impl_DiskOK.mono_l : ∀ k, (∀ y0 y1 y2, LeO (impl_DiskOK.j0 k y0 y1 y2) (impl_DiskOK.j0 (k + 1) y0 y1 y2)) ∧ (∀ y0 y1 y2 y3 y4, LeO (impl_DiskOK.l0 k y0 y1 y2 y3 y4) (impl_DiskOK.l0 (k + 1) y0 y1 y2 y3 y4)) ∧ (∀ y0 y1 y2 y3 y4 y5, LeO (impl_DiskOK.j2 k y0 y1 y2 y3 y4 y5) (impl_DiskOK.j2 (k + 1) y0 y1 y2 y3 y4 y5))
 | 0 => ⟨fun _ _ _ r h => by simp [impl_DiskOK.j0] at h, fun _ _ _ _ _ r h => by simp [impl_DiskOK.l0] at h, fun _ _ _ _ _ _ r h => by simp [impl_DiskOK.j2] at h⟩
 | k + 1 => by
  obtain ⟨ih0, ih1, ih2⟩ := impl_DiskOK.mono_l k;refine ⟨?_, ?_, ?_⟩
  ·intro y0 y1 y2
   unfold impl_DiskOK.j0
   repeat' first
   | (with_reducible exact ih0 _ _ _)
   | (with_reducible exact ih1 _ _ _ _ _)
   | (with_reducible exact ih2 _ _ _ _ _ _)
   | (with_reducible exact impl_Disk_used.mono _ _ _)
   | (with_reducible exact impl_NameOK.mono _ _)
   | (with_reducible exact LeO.refl _)
   | (with_reducible exact LeO.none _)
   | (with_reducible refine LeO.ite ?_ ?_)
   | (with_reducible refine LeO.bind ?_ (fun _ => ?_))
   | exact ih0 _ _ _
   | exact ih1 _ _ _ _ _
   | exact ih2 _ _ _ _ _ _
   | exact impl_Disk_used.mono _ _ _
   | exact impl_NameOK.mono _ _
   | exact LeO.none _
   | refine LeO.ite ?_ ?_
   | refine LeO.bind ?_ (fun _ => ?_)
  ·intro y0 y1 y2 y3 y4
   unfold impl_DiskOK.l0
   repeat' first
   | (with_reducible exact ih0 _ _ _)
   | (with_reducible exact ih1 _ _ _ _ _)
   | (with_reducible exact ih2 _ _ _ _ _ _)
   | (with_reducible exact impl_Disk_used.mono _ _ _)
   | (with_reducible exact impl_NameOK.mono _ _)
   | (with_reducible exact LeO.refl _)
   | (with_reducible exact LeO.none _)
   | (with_reducible refine LeO.ite ?_ ?_)
   | (with_reducible refine LeO.bind ?_ (fun _ => ?_))
   | exact ih0 _ _ _
   | exact ih1 _ _ _ _ _
   | exact ih2 _ _ _ _ _ _
   | exact impl_Disk_used.mono _ _ _
   | exact impl_NameOK.mono _ _
   | exact LeO.none _
   | refine LeO.ite ?_ ?_
   | refine LeO.bind ?_ (fun _ => ?_)
  ·intro y0 y1 y2 y3 y4 y5
   unfold impl_DiskOK.j2
   repeat' first
   | (with_reducible exact ih0 _ _ _)
   | (with_reducible exact ih1 _ _ _ _ _)
   | (with_reducible exact ih2 _ _ _ _ _ _)
   | (with_reducible exact impl_Disk_used.mono _ _ _)
   | (with_reducible exact impl_NameOK.mono _ _)
   | (with_reducible exact LeO.refl _)
   | (with_reducible exact LeO.none _)
   | (with_reducible refine LeO.ite ?_ ?_)
   | (with_reducible refine LeO.bind ?_ (fun _ => ?_))
   | exact ih0 _ _ _
   | exact ih1 _ _ _ _ _
   | exact ih2 _ _ _ _ _ _
   | exact impl_Disk_used.mono _ _ _
   | exact impl_NameOK.mono _ _
   | exact LeO.none _
   | refine LeO.ite ?_ ?_
   | refine LeO.bind ?_ (fun _ => ?_)
theorem impl_DiskOK.mono : ∀ a0 a1 k, LeO (impl_DiskOK.f k a0 a1) (impl_DiskOK.f (k + 1) a0 a1) := by
 intro a0 a1 k;obtain ⟨ih0, ih1, ih2⟩ := impl_DiskOK.mono_l k
 unfold impl_DiskOK.f
 repeat' first
   | (with_reducible exact ih0 _ _ _)
   | (with_reducible exact ih1 _ _ _ _ _)
   | (with_reducible exact ih2 _ _ _ _ _ _)
   | (with_reducible exact impl_Disk_used.mono _ _ _)
   | (with_reducible exact impl_NameOK.mono _ _)
   | (with_reducible exact LeO.refl _)
   | (with_reducible exact LeO.none _)
   | (with_reducible refine LeO.ite ?_ ?_)
   | (with_reducible refine LeO.bind ?_ (fun _ => ?_))
   | exact ih0 _ _ _
   | exact ih1 _ _ _ _ _
   | exact ih2 _ _ _ _ _ _
   | exact impl_Disk_used.mono _ _ _
   | exact impl_NameOK.mono _ _
   | exact LeO.none _
   | refine LeO.ite ?_ ?_
   | refine LeO.bind ?_ (fun _ => ?_)
def impl_DiskOK.T1 : Bool × List (List Nat × List Nat) := (true, [([], []), ([0], [0]), ([1], [1]), ([2], [2]), ([3, 2], [3]), ([4], [4]), ([5, 4], [4, 5]), ([6, 4], [4, 6]), ([7, 4], [4, 7]), ([4, 8], [4, 8]), ([9, 4], [9]), ([10], [10]), ([11, 10, 10], [10, 11]), ([10], [10]), ([13, 10], [10, 13]), ([12, 14, 10], [10, 12, 14]), ([10, 15], [10, 15])])
def impl_DiskOK.B1 : List Nat := [0, 1, 3, 7, 15, 31, 63, 127, 255, 511, 1023, 2047, 4095, 2047, 10239, 32767, 65535]
theorem impl_DiskOK.tab1 : rtab .any (opsOf Tryd.f27 1) = impl_DiskOK.T1 := by kernel_rfl
theorem impl_DiskOK.bits1 : waitsOk impl_DiskOK.T1.2 impl_DiskOK.B1 = true := by kernel_rfl
def impl_DiskOK.T6 : Bool × List (List Nat × List Nat) := (true, [([], []), ([0], [0]), ([1], [1]), ([2], [2]), ([3, 2], [3]), ([4], [4]), ([5, 4], [4, 5]), ([6, 4, 4], [4, 6]), ([7], [7]), ([8, 7], [7, 8]), ([7], [7]), ([10, 7], [7, 10]), ([9, 11, 7], [7, 9, 11]), ([12, 7], [7, 12]), ([13, 7], [7, 13]), ([7], [7]), ([15, 7], [7, 15]), ([14, 16, 7], [7, 14, 16]), ([7, 17, 4], [4, 7, 17]), ([4, 18], [4, 18]), ([19, 7], [19]), ([20], [20]), ([21, 20], [20, 21]), ([20], [20]), ([23, 20], [20, 23]), ([24, 20], [20, 24]), ([22, 25, 20, 20], [20, 22, 25]), ([26, 20], [20, 26]), ([20, 27], [20, 27])])
def impl_DiskOK.B6 : List Nat := [0, 1, 3, 7, 15, 31, 63, 127, 255, 511, 255, 1279, 4095, 8191, 16383, 255, 33023, 131071, 262143, 524287, 1048575, 2097151, 4194303, 2097151, 10485759, 27262975, 67108863, 134217727, 268435455]
theorem impl_DiskOK.tab6 : rtab .any (opsOf Tryd.f27 6) = impl_DiskOK.T6 := by kernel_rfl
theorem impl_DiskOK.bits6 : waitsOk impl_DiskOK.T6.2 impl_DiskOK.B6 = true := by kernel_rfl
set_option maxHeartbeats 8000000 in
set_option maxRecDepth 100000 in
theorem impl_DiskOK.calls (k : Nat) (a0_0 : Int) (A0_1 : Option Addr) (c0_1 : Nat) (l0_1 : List (S69)) (r : Bool) (w : World) (hr0_1 : Kd.C k69 w A0_1 l0_1.length l0_1) (hc0_1 : l0_1.length ≤ c0_1) (h : impl_DiskOK.f k a0_0 l0_1 = some r) :
  Calls Tryd.prog 27 #[.agg #[.int .i64 a0_0, .slice A0_1 l0_1.length c0_1]] w fun e w' => e = .returned (.bool r) ∧ Below w.heap.size w w' := by
 have hu33 := Tryd.underlying33;have hu69 := Tryd.underlying69;have HR0_1 := aM hr0_1;have HC0_1 := aM hc0_1;clear hr0_1 hc0_1;have HB := aM (Below.refl w.heap.size w);have H : ((impl_within.f a0_0 0 3000).bind fun t275 => (if t275 = true then (if (l0_1.length : Int) > 8 then (impl_DiskOK.j0 k true a0_0 l0_1) else ((impl_Disk_used.f k a0_0 l0_1).bind fun t276 => (impl_DiskOK.j0 k (decide (t276 > a0_0)) a0_0 l0_1))) else (impl_DiskOK.j0 k true a0_0 l0_1))) = some r := h;clear h;have HC2 := aM H;clear H
 go_enter Tryd.func27, Tryd.ntmps27
 go_upto_region 1 with (first | ((with_reducible refine gate_dst (N := 1) rfl ?_); (try (refine gate_guard (by rfl) ?_; dsimp only)); refine box_event ?hg (N := 1) ?hd (cs := #[.int .i64 a0_0, .slice A0_1 l0_1.length c0_1]) (t := 33) ?hr ?_; (case hd => rfl); (case hg => rfl); (case hr => first | (go_simp; done) | (go_simp; rfl)); intro gb274 hg w3 hbox hb; have BK274 := aM (hbox); have GW274 := aM ((by rw [hg]; exact (below_size (bM HB.o)) : w.heap.size ≤ gb274)); have GE274 := aM ((by rw [hg]; exact (below_size (bM HB.o)) : w.heap.size ≤ gb274)); replace HB := aM (below_step (bM HB.o) hb); clear hb hbox hg))
 (try simp only [Act.put, s1, s2, s3])
 go_cut [21] (fun v21 wc => ∃ (kq : Nat) (x21_1 : Bool), v21 = .bool x21_1 ∧ Aside0 (impl_DiskOK.j0 kq x21_1 a0_0 l0_1 = some r) ∧ Aside0 (kq ≤ k) ∧ Aside0 (wc.heap[gb274]? = some (.cells #[.int .i64 a0_0, (.slice A0_1 l0_1.length c0_1)] 33 (0, 0))) ∧ Aside0 (Below w.heap.size w wc))
 case first =>
  have H := HC2.o;clear HC2;obtain ⟨t275, A4, H⟩ := bX H;(try dsimp only at H)
  by_cases c5 : t275 = true
  ·subst c5
   rw [if_pos rfl] at H
   by_cases c6 : (l0_1.length : Int) > 8
   ·rw [if_pos c6] at H;have c6b0 : decide (8 < (l0_1.length : Int)) = true := decide_eq_true c6;have c6b1 : decide (8 < l0_1.length) = true := decide_eq_true (by omega);clear c6
    (first | rw [c6b0] | (simp only [i64_w, i32_w]; rw [c6b0]) | skip)
    have H' := aM H;clear H
    try go_wp2
    have n0_ := aM (kD BK274.o);have n1_ := aM (bD HB.o);clear BK274;clear HB;have BK274 := n0_;have HB := n1_;clear n0_ n1_;refine start_ (n := 17) (S := fun w' => w'.cell? ⟨gb274, 0, none⟩ = some (.int .i64 a0_0) ∧ w'.cell? ⟨gb274, 1, none⟩ = some (.slice A0_1 l0_1.length c0_1)) (ds := []) (fT 0 17) (by kernel_rfl) rfl rfl ⟨(kC BK274.o 0).trans rfl, (kC BK274.o 1).trans rfl⟩ (fun hHeld => ?_); refine with_tabW impl_DiskOK.tab1 impl_DiskOK.bits1 (fun HT_ HW_ => ?_);generalize w3.drew = w7 at BK274 HB hHeld ⊢;refine pC HT_ 0 5 (fT 1 17) ?_;refine tB 1 (some 6) ?_ (fT 2 17) rfl rfl (take_ofW HT_.o HW_.o (by kernel_rfl)) (Or.inl ⟨by rfl, ?_⟩) hHeld ?_ ?_ ?_;rotate_left
    ·rintro w' ⟨s0, s1⟩
     go_simp
     with_reducible rfl
    rotate_left;(·simp only [zA];rfl);refine one_ (i := 2) (N := some 7) (fT 3 17) rfl rfl (one_of HT_.o (by kernel_rfl)) (by decide) (fun K hK => ?_);refine goes_ Tryd.func56 (by kernel_rfl) rfl #[.int .i64 a0_0, .int .i64 0, .int .i64 3000] (by rfl) rfl rfl (by (try simp only [zM]); first | done | rfl | (simp only [zL]; rfl)) ?_
    with_reducible refine (impl_within.calls a0_0 0 3000 true _ A4.o).mono ?_
    rintro e w' ⟨rfl, ⟨nd, rfl⟩⟩
    refine ⟨_, rfl, ?_⟩;refine hK.out _ _ ⟨(kC BK274.o 0).trans rfl, (kC BK274.o 1).trans rfl⟩ (fun hHeld => ?_);clear hK K;refine norm_ (a' := ?_) ?_ ?_;rotate_left
    ·show Act.put _ (some 7) _ = _
     simp only [zA]
     rfl
    refine pC HT_ 3 8 (fT 4 17) ?_;refine pC HT_ 4 9 (fT 5 17) ?_;refine pC HT_ 5 10 (fT 6 17) ?_;refine tB 6 (some 11) ?_ (fT 7 17) rfl rfl (take_ofW HT_.o HW_.o (by kernel_rfl)) (Or.inl ⟨by rfl, ?_⟩) hHeld ?_ ?_ ?_;rotate_left
    ·rintro w' ⟨s0, s1⟩
     go_simp
     with_reducible rfl
    rotate_left;(·simp only [zA];rfl);refine pC HT_ 7 12 (fT 8 17) ?_;refine pC HT_ 8 13 (fT 9 17) ?_;refine pC HT_ 9 14 (fT 10 17) ?_;refine pC HT_ 10 15 (fT 11 17) ?_;refine pB 11 (some 16) undef (fT 12 17) rfl rfl (any_of HT_.o (by kernel_rfl)) (yN (by rfl)) ?_ ?_ ?_;rotate_left;(·simp only [zA];rfl);refine pB 12 (some 17) undef (fT 13 17) rfl rfl (any_of HT_.o (by kernel_rfl)) (yN (by rfl)) ?_ ?_ ?_;rotate_left;(·simp only [zA];rfl);refine pB 13 (some 18) undef (fT 14 17) rfl rfl (any_of HT_.o (by kernel_rfl)) (yN (by rfl)) ?_ ?_ ?_;rotate_left;(·simp only [zA];rfl);refine pB 14 (some 19) undef (fT 15 17) rfl rfl (any_of HT_.o (by kernel_rfl)) (yN (by rfl)) ?_ ?_ ?_;rotate_left;(·simp only [zA];rfl);refine pB 15 (some 20) undef (fT 16 17) rfl rfl (any_of HT_.o (by kernel_rfl)) (yN (by rfl)) ?_ ?_ ?_;rotate_left;(·simp only [zA];rfl);refine pC HT_ 16 21 (fT 17 17) ?_;refine done_ (done_of HT_.o (by kernel_rfl)) ?_
    try go_wp2
    go_meet
    case rel => exact ⟨_, (true), (by first | rfl | (simp; done) | (simp [*]; done)), H', ⟨by first | omega | exact Nat.le_refl _⟩, ⟨by (with_reducible repeat (first | refine kN ?_ _ | refine kD ?_ | refine kA ?_ _)); exact BK274.o⟩, ⟨by with_reducible repeat (first | exact HB.o | apply bA | apply bN | apply bD | refine bS ?_ GE274.o)⟩⟩
   ·rw [if_neg c6] at H;have c6b0 : decide (8 < (l0_1.length : Int)) = false := decide_eq_false c6;have c6b1 : decide (8 < l0_1.length) = false := decide_eq_false (by omega);clear c6
    (first | rw [c6b0] | (simp only [i64_w, i32_w]; rw [c6b0]) | skip)
    obtain ⟨t276, A8, H⟩ := bX H;(try dsimp only at H);have H' := aM H;clear H
    try go_wp2
    have n0_ := aM (kD BK274.o);have n1_ := aM (bD HB.o);clear BK274;clear HB;have BK274 := n0_;have HB := n1_;clear n0_ n1_;refine start_ (n := 17) (S := fun w' => w'.cell? ⟨gb274, 0, none⟩ = some (.int .i64 a0_0) ∧ w'.cell? ⟨gb274, 1, none⟩ = some (.slice A0_1 l0_1.length c0_1)) (ds := []) (fT 0 17) (by kernel_rfl) rfl rfl ⟨(kC BK274.o 0).trans rfl, (kC BK274.o 1).trans rfl⟩ (fun hHeld => ?_); refine with_tabW impl_DiskOK.tab1 impl_DiskOK.bits1 (fun HT_ HW_ => ?_);generalize w3.drew = w9 at BK274 HB hHeld ⊢;refine pC HT_ 0 5 (fT 1 17) ?_;refine tB 1 (some 6) ?_ (fT 2 17) rfl rfl (take_ofW HT_.o HW_.o (by kernel_rfl)) (Or.inl ⟨by rfl, ?_⟩) hHeld ?_ ?_ ?_;rotate_left
    ·rintro w' ⟨s0, s1⟩
     go_simp
     with_reducible rfl
    rotate_left;(·simp only [zA];rfl);refine one_ (i := 2) (N := some 7) (fT 3 17) rfl rfl (one_of HT_.o (by kernel_rfl)) (by decide) (fun K hK => ?_);refine goes_ Tryd.func56 (by kernel_rfl) rfl #[.int .i64 a0_0, .int .i64 0, .int .i64 3000] (by rfl) rfl rfl (by (try simp only [zM]); first | done | rfl | (simp only [zL]; rfl)) ?_
    with_reducible refine (impl_within.calls a0_0 0 3000 true _ A4.o).mono ?_
    rintro e w' ⟨rfl, ⟨nd, rfl⟩⟩
    refine ⟨_, rfl, ?_⟩;refine hK.out _ _ ⟨(kC BK274.o 0).trans rfl, (kC BK274.o 1).trans rfl⟩ (fun hHeld => ?_);clear hK K;refine norm_ (a' := ?_) ?_ ?_;rotate_left
    ·show Act.put _ (some 7) _ = _
     simp only [zA]
     rfl
    refine pC HT_ 3 8 (fT 4 17) ?_;refine pC HT_ 4 9 (fT 5 17) ?_;refine pC HT_ 5 10 (fT 6 17) ?_;refine tB 6 (some 11) ?_ (fT 7 17) rfl rfl (take_ofW HT_.o HW_.o (by kernel_rfl)) (Or.inl ⟨by rfl, ?_⟩) hHeld ?_ ?_ ?_;rotate_left
    ·rintro w' ⟨s0, s1⟩
     go_simp
     with_reducible rfl
    rotate_left;(·simp only [zA];rfl);refine pC HT_ 7 12 (fT 8 17) ?_;refine pC HT_ 8 13 (fT 9 17) ?_;refine pC HT_ 9 14 (fT 10 17) ?_;refine pC HT_ 10 15 (fT 11 17) ?_;refine pC HT_ 13 18 #[T,T,T,T,T,T,T,T,T,T,T,F,F,T,F,F,F] ?_;refine tB 11 (some 16) ?_ #[T,T,T,T,T,T,T,T,T,T,T,T,F,T,F,F,F] rfl rfl (take_ofW HT_.o HW_.o (by kernel_rfl)) (Or.inl ⟨by rfl, ?_⟩) hHeld ?_ ?_ ?_;rotate_left
    ·rintro w' ⟨s0, s1⟩
     go_simp
     with_reducible rfl
    rotate_left;(·simp only [zA];rfl);refine tB 14 (some 19) ?_ #[T,T,T,T,T,T,T,T,T,T,T,T,F,T,T,F,F] rfl rfl (take_ofW HT_.o HW_.o (by kernel_rfl)) (Or.inl ⟨by rfl, ?_⟩) hHeld ?_ ?_ ?_;rotate_left
    ·rintro w' ⟨s0, s1⟩
     go_simp
     with_reducible rfl
    rotate_left;(·simp only [zA];rfl);refine one_ (i := 12) (N := some 17) (fT 15 17) rfl rfl (one_of HT_.o (by kernel_rfl)) (by decide) (fun K hK => ?_);refine goes_ Tryd.func57 (by kernel_rfl) rfl #[.agg #[.int .i64 a0_0, .slice A0_1 l0_1.length c0_1]] (by rfl) rfl rfl (by (try simp only [zM]); first | done | rfl | (simp only [zL]; rfl)) ?_
    with_reducible refine (impl_Disk_used.calls k a0_0 _ _ l0_1 t276 _ ?side1 ?side2 A8.o).mono ?_
    (case side1 => repeat (first | exact (Kd.C_below HR0_1.o (by with_reducible repeat (first | exact HB.o | apply bA | apply bN | apply bD | refine bS ?_ GE274.o))) | (with_reducible refine Kd.C_alloc ?_ _) | (with_reducible refine Kd.C_drewN ?_ _) | (with_reducible refine Kd.C_drew ?_)))
    (case side2 => exact HC0_1.o)
    rintro e w10 ⟨rfl, hb⟩
    refine ⟨_, rfl, ?_⟩;have n0_ := aM (blk_below (kM BK274.o) hb);have n1_ := aM (below_step (by with_reducible repeat (first | exact HB.o | apply bA | apply bN | apply bD | refine bS ?_ GE274.o)) hb);clear BK274;clear HB;have BK274 := n0_;have HB := n1_;clear n0_ n1_
    (try clear hb)
    (try clear hb2)
    (try clear hk)
    (try clear hi)
    refine hK.out _ _ ⟨(kC BK274.o 0).trans rfl, (kC BK274.o 1).trans rfl⟩ (fun hHeld => ?_);clear hK K;refine norm_ (a' := ?_) ?_ ?_;rotate_left
    ·show Act.put _ (some 17) _ = _
     simp only [zA]
     rfl
    refine pC HT_ 15 20 (fT 16 17) ?_;refine pC HT_ 16 21 (fT 17 17) ?_;refine done_ (done_of HT_.o (by kernel_rfl)) ?_
    try go_wp2
    go_meet
    case rel => exact ⟨_, (decide (t276 > a0_0)), (by first | rfl | (simp; done) | (simp [*]; done)), H', ⟨by first | omega | exact Nat.le_refl _⟩, ⟨by (with_reducible repeat (first | refine kN ?_ _ | refine kD ?_ | refine kA ?_ _)); exact BK274.o⟩, ⟨by with_reducible repeat (first | exact HB.o | apply bA | apply bN | apply bD | refine bS ?_ GE274.o)⟩⟩
  ·replace c5 := Bool.eq_false_iff.mpr c5;subst c5
   rw [if_neg (show ¬ (false = true) by decide)] at H;have H' := aM H;clear H
   try go_wp2
   have n0_ := aM (kD BK274.o);have n1_ := aM (bD HB.o);clear BK274;clear HB;have BK274 := n0_;have HB := n1_;clear n0_ n1_;refine start_ (n := 17) (S := fun w' => w'.cell? ⟨gb274, 0, none⟩ = some (.int .i64 a0_0) ∧ w'.cell? ⟨gb274, 1, none⟩ = some (.slice A0_1 l0_1.length c0_1)) (ds := []) (fT 0 17) (by kernel_rfl) rfl rfl ⟨(kC BK274.o 0).trans rfl, (kC BK274.o 1).trans rfl⟩ (fun hHeld => ?_); refine with_tabW impl_DiskOK.tab1 impl_DiskOK.bits1 (fun HT_ HW_ => ?_);generalize w3.drew = w11 at BK274 HB hHeld ⊢;refine pC HT_ 0 5 (fT 1 17) ?_;refine tB 1 (some 6) ?_ (fT 2 17) rfl rfl (take_ofW HT_.o HW_.o (by kernel_rfl)) (Or.inl ⟨by rfl, ?_⟩) hHeld ?_ ?_ ?_;rotate_left
   ·rintro w' ⟨s0, s1⟩
    go_simp
    with_reducible rfl
   rotate_left;(·simp only [zA];rfl);refine one_ (i := 2) (N := some 7) (fT 3 17) rfl rfl (one_of HT_.o (by kernel_rfl)) (by decide) (fun K hK => ?_);refine goes_ Tryd.func56 (by kernel_rfl) rfl #[.int .i64 a0_0, .int .i64 0, .int .i64 3000] (by rfl) rfl rfl (by (try simp only [zM]); first | done | rfl | (simp only [zL]; rfl)) ?_
   with_reducible refine (impl_within.calls a0_0 0 3000 false _ A4.o).mono ?_
   rintro e w' ⟨rfl, ⟨nd, rfl⟩⟩
   refine ⟨_, rfl, ?_⟩;refine hK.out _ _ ⟨(kC BK274.o 0).trans rfl, (kC BK274.o 1).trans rfl⟩ (fun hHeld => ?_);clear hK K;refine norm_ (a' := ?_) ?_ ?_;rotate_left
   ·show Act.put _ (some 7) _ = _
    simp only [zA]
    rfl
   refine pC HT_ 3 8 (fT 4 17) ?_;refine pC HT_ 4 9 (fT 5 17) ?_;refine pB 5 (some 10) undef (fT 6 17) rfl rfl (any_of HT_.o (by kernel_rfl)) (yN (by rfl)) ?_ ?_ ?_;rotate_left;(·simp only [zA];rfl);refine pB 6 (some 11) undef (fT 7 17) rfl rfl (any_of HT_.o (by kernel_rfl)) (yN (by rfl)) ?_ ?_ ?_;rotate_left;(·simp only [zA];rfl);refine pB 7 (some 12) undef (fT 8 17) rfl rfl (any_of HT_.o (by kernel_rfl)) (yN (by rfl)) ?_ ?_ ?_;rotate_left;(·simp only [zA];rfl);refine pB 8 (some 13) undef (fT 9 17) rfl rfl (any_of HT_.o (by kernel_rfl)) (yN (by rfl)) ?_ ?_ ?_;rotate_left;(·simp only [zA];rfl);refine pC HT_ 9 14 (fT 10 17) ?_;refine pC HT_ 10 15 (fT 11 17) ?_;refine pB 11 (some 16) undef (fT 12 17) rfl rfl (any_of HT_.o (by kernel_rfl)) (yN (by rfl)) ?_ ?_ ?_;rotate_left;(·simp only [zA];rfl);refine pB 12 (some 17) undef (fT 13 17) rfl rfl (any_of HT_.o (by kernel_rfl)) (yN (by rfl)) ?_ ?_ ?_;rotate_left;(·simp only [zA];rfl);refine pB 13 (some 18) undef (fT 14 17) rfl rfl (any_of HT_.o (by kernel_rfl)) (yN (by rfl)) ?_ ?_ ?_;rotate_left;(·simp only [zA];rfl);refine pB 14 (some 19) undef (fT 15 17) rfl rfl (any_of HT_.o (by kernel_rfl)) (yN (by rfl)) ?_ ?_ ?_;rotate_left;(·simp only [zA];rfl);refine pB 15 (some 20) undef (fT 16 17) rfl rfl (any_of HT_.o (by kernel_rfl)) (yN (by rfl)) ?_ ?_ ?_;rotate_left;(·simp only [zA];rfl);refine pC HT_ 16 21 (fT 17 17) ?_;refine done_ (done_of HT_.o (by kernel_rfl)) ?_
   try go_wp2
   go_meet
   case rel => exact ⟨_, (true), (by first | rfl | (simp; done) | (simp [*]; done)), H', ⟨by first | omega | exact Nat.le_refl _⟩, ⟨by (with_reducible repeat (first | refine kN ?_ _ | refine kD ?_ | refine kA ?_ _)); exact BK274.o⟩, ⟨by with_reducible repeat (first | exact HB.o | apply bA | apply bN | apply bD | refine bS ?_ GE274.o)⟩⟩
 case rest =>
  clear HC2;obtain ⟨kq, x21_1, rfl, HA, HJ1, BK274, HB⟩ := hcut
  cases kq with
  | zero => exact absurd HA.o (by simp [impl_DiskOK.j0])
  | succ kj1 =>
   have H := HA.o;clear HA;simp only [impl_DiskOK.j0] at H
   by_cases c12 : x21_1 = true
   ·subst c12
    rw [if_pos rfl] at H;obtain rfl := Option.some.inj H
    go_wp2
    go_ret
    exact ⟨by first | rfl | (simp [zE] <;> rfl) | (simp [*, zE] <;> rfl), by with_reducible repeat (first | exact HB.o | apply bA | apply bN | apply bD | refine bS ?_ GE274.o)⟩
   ·replace c12 := Bool.eq_false_iff.mpr c12;subst c12
    rw [if_neg (show ¬ (false = true) by decide)] at H;have H' := aM H;clear H;have hcz13_0 := cL0 BK274.o;have hcz13_1 := cL1 BK274.o;have hfz13_0 := kF BK274.o 0;have hfz13_1 := kF BK274.o 1
    go_wp2
    go_loopg [25] kj1 (fun kq v25 w' => ∃ (x25_2 : Int), v25 = .int .i64 x25_2 ∧ Aside0 (impl_DiskOK.l0 kq l0_1 (l0_1.length : Int) x25_2 a0_0 l0_1 = some r) ∧ Aside0 (kq ≤ kj1) ∧ Aside0 (w'.heap[gb274]? = some (.cells #[.int .i64 a0_0, (.slice A0_1 l0_1.length c0_1)] 33 (0, 0))) ∧ Aside0 (Below w.heap.size w w'))
    case atStart => exact ⟨(0), (by first | rfl | (simp; done) | (simp [*]; done)), H', ⟨Nat.le_refl _⟩, ⟨by (with_reducible repeat (first | refine kN ?_ _ | refine kD ?_ | refine kA ?_ _)); exact BK274.o⟩, ⟨by with_reducible repeat (first | exact HB.o | apply bA | apply bN | apply bD | refine bS ?_ GE274.o)⟩⟩
    case round =>
     clear H';obtain ⟨x25_2, rfl, HA, HK2, BK274, HB⟩ := hrel
     cases gk with
     | zero => exact absurd HA.o (by simp [impl_DiskOK.l0])
     | succ k2 =>
      have H := HA.o;clear HA;simp only [impl_DiskOK.l0] at H
      by_cases c14 : x25_2 < (l0_1.length : Int)
      ·rw [if_pos c14] at H;have c14b0 : decide (x25_2 < (l0_1.length : Int)) = true := decide_eq_true c14;clear c14
       by_cases c15 : 0 ≤ x25_2
       ·rw [if_pos c15] at H;have c15b0 : decide (0 ≤ x25_2) = true := decide_eq_true c15;clear c15
        by_cases c16 : x25_2 < (l0_1.length : Int)
        ·rw [if_pos c16] at H;have c16b0 : decide (x25_2 < (l0_1.length : Int)) = true := decide_eq_true c16;clear c16;have HC17 := aM H;clear H;have p277 : 0 ≤ (x25_2 : Int) := oD;have q277 : x25_2 < (l0_1.length : Int) := oD;obtain ⟨ad277, e277, hx277_0, hx277_1, hx277_2⟩ := at_T69 HR0_1.o x25_2 p277 q277
         cases e277
         replace hx277_0 := (HB.o.cell (lC w _ hx277_0)).trans hx277_0;replace hx277_1 := (HB.o.cell (lC w _ hx277_1)).trans hx277_1;replace hx277_2 := (HB.o.cell (lC w _ hx277_2)).trans hx277_2;replace p277 := eq_true p277;replace q277 := eq_true q277
         go_upto_region 6 with (first | ((with_reducible refine gate_dst (N := 4) rfl ?_); (try (refine gate_guard (by rfl) ?_; dsimp only)); refine box_event ?hg (N := 4) ?hd (cs := #[.string (⟨#[]⟩ : ByteArray), .string (⟨#[]⟩ : ByteArray), .int .i64 0]) (t := 69) ?hr ?_; (case hd => rfl); (case hg => rfl); (case hr => first | (go_simp; done) | (go_simp; rfl)); intro gb278 hg w18 hbox hb; have BK278 := aM (hbox); have GW278 := aM ((by rw [hg]; exact (below_size (by with_reducible repeat (first | exact HB.o | apply bA | apply bN | apply bD | refine bS ?_ GE274.o))) : w.heap.size ≤ gb278)); have GE278 := aM ((by rw [hg]; exact (below_size (by with_reducible repeat (first | exact HB.o | apply bA | apply bN | apply bD | refine bS ?_ GE274.o))) : w.heap.size ≤ gb278)); replace HB := aM (below_step (by with_reducible repeat (first | exact HB.o | apply bA | apply bN | apply bD | refine bS ?_ GE274.o)) hb); have NB274_278 := aM ((by rw [hg]; exact Nat.ne_of_lt (blk_lt (g := gb274) (o := .cells #[.int .i64 a0_0, .slice (some ad277) l0_1.length c0_1] 33 (0, 0)) (kM BK274.o)) : gb274 ≠ gb278)); have NB278_274 := aM ((by rw [hg]; exact Nat.ne_of_gt (blk_lt (g := gb274) (o := .cells #[.int .i64 a0_0, .slice (some ad277) l0_1.length c0_1] 33 (0, 0)) (kM BK274.o)) : gb278 ≠ gb274)); replace BK274 := aM (blk_below (kM BK274.o) hb); clear hb hbox hg; have hnb19 := NB278_274.o; have hnc19 := NB274_278.o; have hcz20_0 := cL0 BK278.o; have hcz20_1 := cL1 BK278.o; have hcz20_2 := cL2 BK278.o; have hfz20_0 := kF BK278.o 0; have hfz20_1 := kF BK278.o 1; have hfz20_2 := kF BK278.o 2))
         (try simp only [Act.put, s1, s2, s3])
         go_cut [58] (fun v58 wc => ∃ (kq : Nat) (x58_16 : Bool), v58 = .bool x58_16 ∧ Aside0 (impl_DiskOK.j2 kq l0_1 (l0_1.length : Int) x25_2 x58_16 a0_0 l0_1 = some r) ∧ Aside0 (kq ≤ k2) ∧ Aside0 (wc.heap[gb274]? = some (.cells #[.int .i64 a0_0, (.slice (some ad277) l0_1.length c0_1)] 33 (0, 0))) ∧ Aside0 (wc.heap[gb278]? = some (.cells #[.string ((rd_T69 l0_1 x25_2).f0), .string ((rd_T69 l0_1 x25_2).f1), .int .i64 ((rd_T69 l0_1 x25_2).f2)] 69 (0, 0))) ∧ Aside0 (Below w.heap.size w wc))
         case first =>
          have H := HC17.o;clear HC17;obtain ⟨t279, A21, H⟩ := bX H;(try dsimp only at H)
          by_cases c22 : t279 = true
          ·subst c22
           rw [if_pos rfl] at H
           by_cases c23 : x25_2 > 0
           ·rw [if_pos c23] at H;have c23b0 : decide (0 < x25_2) = true := decide_eq_true c23;clear c23
            (first | rw [c23b0] | (simp only [i64_w, i32_w]; rw [c23b0]) | skip)
            obtain ⟨ji24, hji24⟩ : ∃ j_ : Int, (wrap64 (x25_2 - 1)) = j_ := ⟨_, rfl⟩
            replace H : (if 0 ≤ (ji24) then (if (ji24) < (l0_1.length : Int) then (if ((Op.bytesLess (((rd_T69 l0_1 (ji24)).f0).toList) (((rd_T69 l0_1 x25_2).f0).toList)) = true) then ((impl_within.f ((rd_T69 l0_1 x25_2).f2) 0 (((rd_T69 l0_1 x25_2).f1).size : Int)).bind fun t281 => (impl_DiskOK.j2 k2 l0_1 (l0_1.length : Int) x25_2 (!t281) a0_0 l0_1)) else (impl_DiskOK.j2 k2 l0_1 (l0_1.length : Int) x25_2 true a0_0 l0_1)) else (none)) else (none)) = some r := by first | (rw [hji24] at H; exact H) | (simp only [hji24] at H ⊢; exact H)
            (try rw [hji24] at A21)
            have hji24w : (IntKind.i64.wrap (x25_2 - 1)) = ji24 := (i64_w _).trans hji24
            by_cases c25 : 0 ≤ (ji24)
            ·rw [if_pos c25] at H;have c25b0 : decide (0 ≤ (ji24)) = true := decide_eq_true c25;clear c25
             by_cases c26 : (ji24) < (l0_1.length : Int)
             ·rw [if_pos c26] at H;have c26b0 : decide ((ji24) < (l0_1.length : Int)) = true := decide_eq_true c26;clear c26
              by_cases c27 : ((Op.bytesLess (((rd_T69 l0_1 (ji24)).f0).toList) (((rd_T69 l0_1 x25_2).f0).toList)) = true)
              ·rw [if_pos c27] at H;have c27b0 : (Op.bytesLess (((rd_T69 l0_1 (ji24)).f0).toList) (((rd_T69 l0_1 x25_2).f0).toList)) = true := c27;clear c27;obtain ⟨t281, A28, H⟩ := bX H;(try dsimp only at H);have H' := aM H;clear H
               try go_wp2
               have n0_ : Aside0 ((((w18.setCell ⟨gb278, 0, none⟩ (.string ((rd_T69 l0_1 x25_2).f0))).setCell ⟨gb278, 1, none⟩ (.string ((rd_T69 l0_1 x25_2).f1))).setCell ⟨gb278, 2, none⟩ (.int .i64 ((rd_T69 l0_1 x25_2).f2))).heap[gb274]? = some (.cells #[.int .i64 a0_0, .slice (some ad277) l0_1.length c0_1] 33 (0, 0))) := ⟨by (with_reducible repeat (first | refine kN ?_ _ | refine kD ?_ | refine kA ?_ _)); refine blk_far ?_ NB274_278.o _; (with_reducible repeat (first | refine kN ?_ _ | refine kD ?_ | refine kA ?_ _)); refine blk_far ?_ NB274_278.o _; (with_reducible repeat (first | refine kN ?_ _ | refine kD ?_ | refine kA ?_ _)); refine blk_far ?_ NB274_278.o _; (with_reducible repeat (first | refine kN ?_ _ | refine kD ?_ | refine kA ?_ _)); exact BK274.o⟩;have n1_ : Aside0 ((((w18.setCell ⟨gb278, 0, none⟩ (.string ((rd_T69 l0_1 x25_2).f0))).setCell ⟨gb278, 1, none⟩ (.string ((rd_T69 l0_1 x25_2).f1))).setCell ⟨gb278, 2, none⟩ (.int .i64 ((rd_T69 l0_1 x25_2).f2))).heap[gb278]? = some (.cells #[.string ((rd_T69 l0_1 x25_2).f0), .string ((rd_T69 l0_1 x25_2).f1), .int .i64 ((rd_T69 l0_1 x25_2).f2)] 69 (0, 0))) := ⟨by (with_reducible repeat (first | refine kN ?_ _ | refine kD ?_ | refine kA ?_ _)); refine blk_put (cs := #[.string ((rd_T69 l0_1 x25_2).f0), .string ((rd_T69 l0_1 x25_2).f1), .int .i64 0]) ?_ 2 _ rfl; refine blk_put (cs := #[.string ((rd_T69 l0_1 x25_2).f0), .string (⟨#[]⟩ : ByteArray), .int .i64 0]) ?_ 1 _ rfl; refine blk_put (cs := #[.string (⟨#[]⟩ : ByteArray), .string (⟨#[]⟩ : ByteArray), .int .i64 0]) ?_ 0 _ rfl; exact BK278.o⟩;have n2_ : Aside0 (Below w.heap.size w (((w18.setCell ⟨gb278, 0, none⟩ (.string ((rd_T69 l0_1 x25_2).f0))).setCell ⟨gb278, 1, none⟩ (.string ((rd_T69 l0_1 x25_2).f1))).setCell ⟨gb278, 2, none⟩ (.int .i64 ((rd_T69 l0_1 x25_2).f2)))) := ⟨by with_reducible repeat (first | exact HB.o | apply bA | apply bN | apply bD | refine bS ?_ GE274.o | refine bS ?_ GE278.o)⟩
               (try clear BK274)
               (try clear BK278)
               (try clear HB)
               generalize (((w18.setCell ⟨gb278, 0, none⟩ (.string ((rd_T69 l0_1 x25_2).f0))).setCell ⟨gb278, 1, none⟩ (.string ((rd_T69 l0_1 x25_2).f1))).setCell ⟨gb278, 2, none⟩ (.int .i64 ((rd_T69 l0_1 x25_2).f2))) = w29 at n0_ n1_ n2_ ⊢;have BK274 := n0_;have BK278 := n1_;have HB := n2_;clear n0_ n1_ n2_;have n0_ := aM (kD BK274.o);have n1_ := aM (kD BK278.o);have n2_ := aM (bD HB.o);clear BK274;clear BK278;clear HB;have BK274 := n0_;have BK278 := n1_;have HB := n2_;clear n0_ n1_ n2_;have p280 : 0 ≤ ((ji24) : Int) := oD;have q280 : (ji24) < (l0_1.length : Int) := oD;obtain ⟨ad280, e280, hx280_0, hx280_1, hx280_2⟩ := at_T69 HR0_1.o (ji24) p280 q280;have hw280_2 := hx280_2;have hw280_1 := hx280_1;have hw280_0 := hx280_0;obtain rfl : ad277 = ad280 := (by injection e280);replace hx280_0 := (HB.o.cell (lC w _ hx280_0)).trans hx280_0;replace hx280_1 := (HB.o.cell (lC w _ hx280_1)).trans hx280_1;replace hx280_2 := (HB.o.cell (lC w _ hx280_2)).trans hx280_2;replace p280 := eq_true p280;replace q280 := eq_true q280;refine start_ (n := 29) (S := fun w' => w'.cell? ⟨gb278, 0, none⟩ = some (.string ((rd_T69 l0_1 x25_2).f0)) ∧ w'.cell? ⟨gb278, 1, none⟩ = some (.string ((rd_T69 l0_1 x25_2).f1)) ∧ w'.cell? ⟨gb278, 2, none⟩ = some (.int .i64 ((rd_T69 l0_1 x25_2).f2)) ∧ w'.cell? ⟨gb274, 0, none⟩ = some (.int .i64 a0_0) ∧ w'.cell? ⟨gb274, 1, none⟩ = some (.slice (some ad277) l0_1.length c0_1) ∧ w'.cell? (ad277.add (((ji24)).toNat * 3)) = some (.string ((rd_T69 l0_1 (ji24)).f0)) ∧ w'.cell? ⟨(ad277.add (((ji24)).toNat * 3)).block, (ad277.add (((ji24)).toNat * 3)).off + 1, none⟩ = some (.string ((rd_T69 l0_1 (ji24)).f1)) ∧ w'.cell? ⟨(ad277.add (((ji24)).toNat * 3)).block, (ad277.add (((ji24)).toNat * 3)).off + 2, none⟩ = some (.int .i64 ((rd_T69 l0_1 (ji24)).f2))) (ds := []) (fT 0 29) (by kernel_rfl) rfl rfl ⟨(kC BK278.o 0).trans rfl, (kC BK278.o 1).trans rfl, (kC BK278.o 2).trans rfl, (kC BK274.o 0).trans rfl, (kC BK274.o 1).trans rfl, ((HB.o.cell (lC w _ hw280_0)).trans hw280_0), ((HB.o.cell (lC w _ hw280_1)).trans hw280_1), ((HB.o.cell (lC w _ hw280_2)).trans hw280_2)⟩ (fun hHeld => ?_); refine with_tabW impl_DiskOK.tab6 impl_DiskOK.bits6 (fun HT_ HW_ => ?_);generalize w29.drew = w30 at BK274 BK278 HB hx280_0 hx280_1 hx280_2 hHeld ⊢;refine pC HT_ 0 30 (fT 1 29) ?_;refine tB 1 (some 31) ?_ (fT 2 29) rfl rfl (take_ofW HT_.o HW_.o (by kernel_rfl)) (Or.inl ⟨by rfl, ?_⟩) hHeld ?_ ?_ ?_;rotate_left
               ·rintro w' ⟨s0, s1, s2, s3, s4, s5, s6, s7⟩
                go_simp
                with_reducible rfl
               rotate_left;(·simp only [zA];rfl);refine one_ (i := 2) (N := some 32) (fT 3 29) rfl rfl (one_of HT_.o (by kernel_rfl)) (by decide) (fun K hK => ?_);refine goes_ Tryd.func58 (by kernel_rfl) rfl #[.string ((rd_T69 l0_1 x25_2).f0)] (by rfl) rfl rfl (by (try simp only [zM]); first | done | rfl | (simp only [zL]; rfl)) ?_
               with_reducible refine (impl_NameOK.calls k2 ((rd_T69 l0_1 x25_2).f0) true _ A21.o).mono ?_
               rintro e w' ⟨rfl, ⟨nd, rfl⟩⟩
               refine ⟨_, rfl, ?_⟩;refine hK.out _ _ ⟨(kC BK278.o 0).trans rfl, (kC BK278.o 1).trans rfl, (kC BK278.o 2).trans rfl, (kC BK274.o 0).trans rfl, (kC BK274.o 1).trans rfl, ((HB.o.cell (lC w _ hw280_0)).trans hw280_0), ((HB.o.cell (lC w _ hw280_1)).trans hw280_1), ((HB.o.cell (lC w _ hw280_2)).trans hw280_2)⟩ (fun hHeld => ?_);clear hK K;refine norm_ (a' := ?_) ?_ ?_;rotate_left
               ·show Act.put _ (some 32) _ = _
                simp only [zA]
                rfl
               refine pC HT_ 3 33 (fT 4 29) ?_;refine pC HT_ 4 34 (fT 5 29) ?_;refine pC HT_ 5 35 (fT 6 29) ?_;refine pC HT_ 6 36 (fT 7 29) ?_;refine pC HT_ 7 37 (fT 8 29) ?_;refine pC HT_ 8 38 (fT 9 29) ?_;refine pC HT_ 10 40 #[T,T,T,T,T,T,T,T,T,F,T,F,F,F,F,F,F,F,F,F,F,F,F,F,F,F,F,F,F] ?_;refine pC HT_ 11 41 #[T,T,T,T,T,T,T,T,T,F,T,T,F,F,F,F,F,F,F,F,F,F,F,F,F,F,F,F,F] ?_;refine pC HT_ 15 45 #[T,T,T,T,T,T,T,T,T,F,T,T,F,F,F,T,F,F,F,F,F,F,F,F,F,F,F,F,F] ?_;refine tB 9 (some 39) ?_ #[T,T,T,T,T,T,T,T,T,T,T,T,F,F,F,T,F,F,F,F,F,F,F,F,F,F,F,F,F] rfl rfl (take_ofW HT_.o HW_.o (by kernel_rfl)) (Or.inl ⟨by rfl, ?_⟩) hHeld ?_ ?_ ?_;rotate_left
               ·rintro w' ⟨s0, s1, s2, s3, s4, s5, s6, s7⟩
                go_simp
                with_reducible rfl
               rotate_left;(·simp only [zA];rfl);refine pC HT_ 12 42 #[T,T,T,T,T,T,T,T,T,T,T,T,T,F,F,T,F,F,F,F,F,F,F,F,F,F,F,F,F] ?_;refine pC HT_ 13 43 #[T,T,T,T,T,T,T,T,T,T,T,T,T,T,F,T,F,F,F,F,F,F,F,F,F,F,F,F,F] ?_;refine tB 14 (some 44) ?_ (fT 16 29) rfl rfl (take_ofW HT_.o HW_.o (by kernel_rfl)) (Or.inl ⟨by rfl, ?_⟩) hHeld ?_ ?_ ?_;rotate_left
               ·rintro w' ⟨s0, s1, s2, s3, s4, s5, s6, s7⟩
                go_simp
                with_reducible rfl
               rotate_left;(·simp only [zA];rfl);refine tB 16 (some 46) ?_ (fT 17 29) rfl rfl (take_ofW HT_.o HW_.o (by kernel_rfl)) (Or.inl ⟨by rfl, ?_⟩) hHeld ?_ ?_ ?_;rotate_left
               ·rintro w' ⟨s0, s1, s2, s3, s4, s5, s6, s7⟩
                go_simp
                with_reducible rfl
               rotate_left;(·simp only [zA];rfl);refine pC HT_ 17 47 (fT 18 29) ?_;refine pC HT_ 18 48 (fT 19 29) ?_;refine pC HT_ 19 49 (fT 20 29) ?_;refine pC HT_ 20 50 (fT 21 29) ?_;refine pC HT_ 21 51 (fT 22 29) ?_;refine pC HT_ 23 53 #[T,T,T,T,T,T,T,T,T,T,T,T,T,T,T,T,T,T,T,T,T,T,F,T,F,F,F,F,F] ?_;refine tB 22 (some 52) ?_ (fT 24 29) rfl rfl (take_ofW HT_.o HW_.o (by kernel_rfl)) (Or.inl ⟨by rfl, ?_⟩) hHeld ?_ ?_ ?_;rotate_left
               ·rintro w' ⟨s0, s1, s2, s3, s4, s5, s6, s7⟩
                go_simp
                with_reducible rfl
               rotate_left;(·simp only [zA];rfl);refine tB 24 (some 54) ?_ (fT 25 29) rfl rfl (take_ofW HT_.o HW_.o (by kernel_rfl)) (Or.inl ⟨by rfl, ?_⟩) hHeld ?_ ?_ ?_;rotate_left
               ·rintro w' ⟨s0, s1, s2, s3, s4, s5, s6, s7⟩
                go_simp
                with_reducible rfl
               rotate_left;(·simp only [zA];rfl);refine pC HT_ 25 55 (fT 26 29) ?_;refine one_ (i := 26) (N := some 56) (fT 27 29) rfl rfl (one_of HT_.o (by kernel_rfl)) (by decide) (fun K hK => ?_);refine goes_ Tryd.func56 (by kernel_rfl) rfl #[.int .i64 ((rd_T69 l0_1 x25_2).f2), .int .i64 0, .int .i64 (((rd_T69 l0_1 x25_2).f1).size : Int)] (by rfl) rfl rfl (by (try simp only [zM]); first | done | rfl | (simp only [zL]; rfl)) ?_
               with_reducible refine (impl_within.calls ((rd_T69 l0_1 x25_2).f2) 0 (((rd_T69 l0_1 x25_2).f1).size : Int) t281 _ A28.o).mono ?_
               rintro e w' ⟨rfl, ⟨nd, rfl⟩⟩
               refine ⟨_, rfl, ?_⟩;refine hK.out _ _ ⟨(kC BK278.o 0).trans rfl, (kC BK278.o 1).trans rfl, (kC BK278.o 2).trans rfl, (kC BK274.o 0).trans rfl, (kC BK274.o 1).trans rfl, ((HB.o.cell (lC w _ hw280_0)).trans hw280_0), ((HB.o.cell (lC w _ hw280_1)).trans hw280_1), ((HB.o.cell (lC w _ hw280_2)).trans hw280_2)⟩ (fun hHeld => ?_);clear hK K;refine norm_ (a' := ?_) ?_ ?_;rotate_left
               ·show Act.put _ (some 56) _ = _
                simp only [zA]
                rfl
               refine pC HT_ 27 57 (fT 28 29) ?_;refine pC HT_ 28 58 (fT 29 29) ?_;refine done_ (done_of HT_.o (by kernel_rfl)) ?_
               try go_wp2
               go_meet
               case rel => exact ⟨_, (!t281), (by first | rfl | (simp; done) | (simp [*]; done)), H', ⟨by have := HJ1.o; have := HK2.o; first | omega | exact Nat.le_refl _⟩, ⟨by (with_reducible repeat (first | refine kN ?_ _ | refine kD ?_ | refine kA ?_ _)); exact BK274.o⟩, ⟨by (with_reducible repeat (first | refine kN ?_ _ | refine kD ?_ | refine kA ?_ _)); exact BK278.o⟩, ⟨by with_reducible repeat (first | exact HB.o | apply bA | apply bN | apply bD | refine bS ?_ GE274.o | refine bS ?_ GE278.o)⟩⟩
              ·rw [if_neg c27] at H
               have c27b0 : (Op.bytesLess (((rd_T69 l0_1 (ji24)).f0).toList) (((rd_T69 l0_1 x25_2).f0).toList)) = false := by simpa using c27
               clear c27;have H' := aM H;clear H
               try go_wp2
               have n0_ : Aside0 ((((w18.setCell ⟨gb278, 0, none⟩ (.string ((rd_T69 l0_1 x25_2).f0))).setCell ⟨gb278, 1, none⟩ (.string ((rd_T69 l0_1 x25_2).f1))).setCell ⟨gb278, 2, none⟩ (.int .i64 ((rd_T69 l0_1 x25_2).f2))).heap[gb274]? = some (.cells #[.int .i64 a0_0, .slice (some ad277) l0_1.length c0_1] 33 (0, 0))) := ⟨by (with_reducible repeat (first | refine kN ?_ _ | refine kD ?_ | refine kA ?_ _)); refine blk_far ?_ NB274_278.o _; (with_reducible repeat (first | refine kN ?_ _ | refine kD ?_ | refine kA ?_ _)); refine blk_far ?_ NB274_278.o _; (with_reducible repeat (first | refine kN ?_ _ | refine kD ?_ | refine kA ?_ _)); refine blk_far ?_ NB274_278.o _; (with_reducible repeat (first | refine kN ?_ _ | refine kD ?_ | refine kA ?_ _)); exact BK274.o⟩;have n1_ : Aside0 ((((w18.setCell ⟨gb278, 0, none⟩ (.string ((rd_T69 l0_1 x25_2).f0))).setCell ⟨gb278, 1, none⟩ (.string ((rd_T69 l0_1 x25_2).f1))).setCell ⟨gb278, 2, none⟩ (.int .i64 ((rd_T69 l0_1 x25_2).f2))).heap[gb278]? = some (.cells #[.string ((rd_T69 l0_1 x25_2).f0), .string ((rd_T69 l0_1 x25_2).f1), .int .i64 ((rd_T69 l0_1 x25_2).f2)] 69 (0, 0))) := ⟨by (with_reducible repeat (first | refine kN ?_ _ | refine kD ?_ | refine kA ?_ _)); refine blk_put (cs := #[.string ((rd_T69 l0_1 x25_2).f0), .string ((rd_T69 l0_1 x25_2).f1), .int .i64 0]) ?_ 2 _ rfl; refine blk_put (cs := #[.string ((rd_T69 l0_1 x25_2).f0), .string (⟨#[]⟩ : ByteArray), .int .i64 0]) ?_ 1 _ rfl; refine blk_put (cs := #[.string (⟨#[]⟩ : ByteArray), .string (⟨#[]⟩ : ByteArray), .int .i64 0]) ?_ 0 _ rfl; exact BK278.o⟩;have n2_ : Aside0 (Below w.heap.size w (((w18.setCell ⟨gb278, 0, none⟩ (.string ((rd_T69 l0_1 x25_2).f0))).setCell ⟨gb278, 1, none⟩ (.string ((rd_T69 l0_1 x25_2).f1))).setCell ⟨gb278, 2, none⟩ (.int .i64 ((rd_T69 l0_1 x25_2).f2)))) := ⟨by with_reducible repeat (first | exact HB.o | apply bA | apply bN | apply bD | refine bS ?_ GE274.o | refine bS ?_ GE278.o)⟩
               (try clear BK274)
               (try clear BK278)
               (try clear HB)
               generalize (((w18.setCell ⟨gb278, 0, none⟩ (.string ((rd_T69 l0_1 x25_2).f0))).setCell ⟨gb278, 1, none⟩ (.string ((rd_T69 l0_1 x25_2).f1))).setCell ⟨gb278, 2, none⟩ (.int .i64 ((rd_T69 l0_1 x25_2).f2))) = w31 at n0_ n1_ n2_ ⊢;have BK274 := n0_;have BK278 := n1_;have HB := n2_;clear n0_ n1_ n2_;have n0_ := aM (kD BK274.o);have n1_ := aM (kD BK278.o);have n2_ := aM (bD HB.o);clear BK274;clear BK278;clear HB;have BK274 := n0_;have BK278 := n1_;have HB := n2_;clear n0_ n1_ n2_;have p280 : 0 ≤ ((ji24) : Int) := oD;have q280 : (ji24) < (l0_1.length : Int) := oD;obtain ⟨ad280, e280, hx280_0, hx280_1, hx280_2⟩ := at_T69 HR0_1.o (ji24) p280 q280;have hw280_2 := hx280_2;have hw280_1 := hx280_1;have hw280_0 := hx280_0;obtain rfl : ad277 = ad280 := (by injection e280);replace hx280_0 := (HB.o.cell (lC w _ hx280_0)).trans hx280_0;replace hx280_1 := (HB.o.cell (lC w _ hx280_1)).trans hx280_1;replace hx280_2 := (HB.o.cell (lC w _ hx280_2)).trans hx280_2;replace p280 := eq_true p280;replace q280 := eq_true q280;refine start_ (n := 29) (S := fun w' => w'.cell? ⟨gb278, 0, none⟩ = some (.string ((rd_T69 l0_1 x25_2).f0)) ∧ w'.cell? ⟨gb278, 1, none⟩ = some (.string ((rd_T69 l0_1 x25_2).f1)) ∧ w'.cell? ⟨gb278, 2, none⟩ = some (.int .i64 ((rd_T69 l0_1 x25_2).f2)) ∧ w'.cell? ⟨gb274, 0, none⟩ = some (.int .i64 a0_0) ∧ w'.cell? ⟨gb274, 1, none⟩ = some (.slice (some ad277) l0_1.length c0_1) ∧ w'.cell? (ad277.add (((ji24)).toNat * 3)) = some (.string ((rd_T69 l0_1 (ji24)).f0)) ∧ w'.cell? ⟨(ad277.add (((ji24)).toNat * 3)).block, (ad277.add (((ji24)).toNat * 3)).off + 1, none⟩ = some (.string ((rd_T69 l0_1 (ji24)).f1)) ∧ w'.cell? ⟨(ad277.add (((ji24)).toNat * 3)).block, (ad277.add (((ji24)).toNat * 3)).off + 2, none⟩ = some (.int .i64 ((rd_T69 l0_1 (ji24)).f2))) (ds := []) (fT 0 29) (by kernel_rfl) rfl rfl ⟨(kC BK278.o 0).trans rfl, (kC BK278.o 1).trans rfl, (kC BK278.o 2).trans rfl, (kC BK274.o 0).trans rfl, (kC BK274.o 1).trans rfl, ((HB.o.cell (lC w _ hw280_0)).trans hw280_0), ((HB.o.cell (lC w _ hw280_1)).trans hw280_1), ((HB.o.cell (lC w _ hw280_2)).trans hw280_2)⟩ (fun hHeld => ?_); refine with_tabW impl_DiskOK.tab6 impl_DiskOK.bits6 (fun HT_ HW_ => ?_);generalize w31.drew = w32 at BK274 BK278 HB hx280_0 hx280_1 hx280_2 hHeld ⊢;refine pC HT_ 0 30 (fT 1 29) ?_;refine tB 1 (some 31) ?_ (fT 2 29) rfl rfl (take_ofW HT_.o HW_.o (by kernel_rfl)) (Or.inl ⟨by rfl, ?_⟩) hHeld ?_ ?_ ?_;rotate_left
               ·rintro w' ⟨s0, s1, s2, s3, s4, s5, s6, s7⟩
                go_simp
                with_reducible rfl
               rotate_left;(·simp only [zA];rfl);refine one_ (i := 2) (N := some 32) (fT 3 29) rfl rfl (one_of HT_.o (by kernel_rfl)) (by decide) (fun K hK => ?_);refine goes_ Tryd.func58 (by kernel_rfl) rfl #[.string ((rd_T69 l0_1 x25_2).f0)] (by rfl) rfl rfl (by (try simp only [zM]); first | done | rfl | (simp only [zL]; rfl)) ?_
               with_reducible refine (impl_NameOK.calls k2 ((rd_T69 l0_1 x25_2).f0) true _ A21.o).mono ?_
               rintro e w' ⟨rfl, ⟨nd, rfl⟩⟩
               refine ⟨_, rfl, ?_⟩;refine hK.out _ _ ⟨(kC BK278.o 0).trans rfl, (kC BK278.o 1).trans rfl, (kC BK278.o 2).trans rfl, (kC BK274.o 0).trans rfl, (kC BK274.o 1).trans rfl, ((HB.o.cell (lC w _ hw280_0)).trans hw280_0), ((HB.o.cell (lC w _ hw280_1)).trans hw280_1), ((HB.o.cell (lC w _ hw280_2)).trans hw280_2)⟩ (fun hHeld => ?_);clear hK K;refine norm_ (a' := ?_) ?_ ?_;rotate_left
               ·show Act.put _ (some 32) _ = _
                simp only [zA]
                rfl
               refine pC HT_ 3 33 (fT 4 29) ?_;refine pC HT_ 4 34 (fT 5 29) ?_;refine pC HT_ 5 35 (fT 6 29) ?_;refine pC HT_ 6 36 (fT 7 29) ?_;refine pC HT_ 7 37 (fT 8 29) ?_;refine pC HT_ 8 38 (fT 9 29) ?_;refine pC HT_ 10 40 #[T,T,T,T,T,T,T,T,T,F,T,F,F,F,F,F,F,F,F,F,F,F,F,F,F,F,F,F,F] ?_;refine pC HT_ 11 41 #[T,T,T,T,T,T,T,T,T,F,T,T,F,F,F,F,F,F,F,F,F,F,F,F,F,F,F,F,F] ?_;refine pC HT_ 15 45 #[T,T,T,T,T,T,T,T,T,F,T,T,F,F,F,T,F,F,F,F,F,F,F,F,F,F,F,F,F] ?_;refine tB 9 (some 39) ?_ #[T,T,T,T,T,T,T,T,T,T,T,T,F,F,F,T,F,F,F,F,F,F,F,F,F,F,F,F,F] rfl rfl (take_ofW HT_.o HW_.o (by kernel_rfl)) (Or.inl ⟨by rfl, ?_⟩) hHeld ?_ ?_ ?_;rotate_left
               ·rintro w' ⟨s0, s1, s2, s3, s4, s5, s6, s7⟩
                go_simp
                with_reducible rfl
               rotate_left;(·simp only [zA];rfl);refine pC HT_ 12 42 #[T,T,T,T,T,T,T,T,T,T,T,T,T,F,F,T,F,F,F,F,F,F,F,F,F,F,F,F,F] ?_;refine pC HT_ 13 43 #[T,T,T,T,T,T,T,T,T,T,T,T,T,T,F,T,F,F,F,F,F,F,F,F,F,F,F,F,F] ?_;refine tB 14 (some 44) ?_ (fT 16 29) rfl rfl (take_ofW HT_.o HW_.o (by kernel_rfl)) (Or.inl ⟨by rfl, ?_⟩) hHeld ?_ ?_ ?_;rotate_left
               ·rintro w' ⟨s0, s1, s2, s3, s4, s5, s6, s7⟩
                go_simp
                with_reducible rfl
               rotate_left;(·simp only [zA];rfl);refine tB 16 (some 46) ?_ (fT 17 29) rfl rfl (take_ofW HT_.o HW_.o (by kernel_rfl)) (Or.inl ⟨by rfl, ?_⟩) hHeld ?_ ?_ ?_;rotate_left
               ·rintro w' ⟨s0, s1, s2, s3, s4, s5, s6, s7⟩
                go_simp
                with_reducible rfl
               rotate_left;(·simp only [zA];rfl);refine pC HT_ 17 47 (fT 18 29) ?_;refine pC HT_ 18 48 (fT 19 29) ?_;refine pC HT_ 19 49 (fT 20 29) ?_;refine pC HT_ 20 50 (fT 21 29) ?_;refine pB 21 (some 51) undef (fT 22 29) rfl rfl (any_of HT_.o (by kernel_rfl)) (yN (by rfl)) ?_ ?_ ?_;rotate_left;(·simp only [zA];rfl);refine pB 22 (some 52) undef (fT 23 29) rfl rfl (any_of HT_.o (by kernel_rfl)) (yN (by rfl)) ?_ ?_ ?_;rotate_left;(·simp only [zA];rfl);refine pB 23 (some 53) undef (fT 24 29) rfl rfl (any_of HT_.o (by kernel_rfl)) (yN (by rfl)) ?_ ?_ ?_;rotate_left;(·simp only [zA];rfl);refine pB 24 (some 54) undef (fT 25 29) rfl rfl (any_of HT_.o (by kernel_rfl)) (yN (by rfl)) ?_ ?_ ?_;rotate_left;(·simp only [zA];rfl);refine pB 25 (some 55) undef (fT 26 29) rfl rfl (any_of HT_.o (by kernel_rfl)) (yN (by rfl)) ?_ ?_ ?_;rotate_left;(·simp only [zA];rfl);refine pB 26 (some 56) undef (fT 27 29) rfl rfl (any_of HT_.o (by kernel_rfl)) (yN (by rfl)) ?_ ?_ ?_;rotate_left;(·simp only [zA];rfl);refine pB 27 (some 57) undef (fT 28 29) rfl rfl (any_of HT_.o (by kernel_rfl)) (yN (by rfl)) ?_ ?_ ?_;rotate_left;(·simp only [zA];rfl);refine pC HT_ 28 58 (fT 29 29) ?_;refine done_ (done_of HT_.o (by kernel_rfl)) ?_
               try go_wp2
               go_meet
               case rel => exact ⟨_, (true), (by first | rfl | (simp; done) | (simp [*]; done)), H', ⟨by have := HJ1.o; have := HK2.o; first | omega | exact Nat.le_refl _⟩, ⟨by (with_reducible repeat (first | refine kN ?_ _ | refine kD ?_ | refine kA ?_ _)); exact BK274.o⟩, ⟨by (with_reducible repeat (first | refine kN ?_ _ | refine kD ?_ | refine kA ?_ _)); exact BK278.o⟩, ⟨by with_reducible repeat (first | exact HB.o | apply bA | apply bN | apply bD | refine bS ?_ GE274.o | refine bS ?_ GE278.o)⟩⟩
             ·rw [if_neg c26] at H;exact absurd H (by simp)
            ·rw [if_neg c25] at H;exact absurd H (by simp)
           ·rw [if_neg c23] at H;have c23b0 : decide (0 < x25_2) = false := decide_eq_false c23;clear c23
            (first | rw [c23b0] | (simp only [i64_w, i32_w]; rw [c23b0]) | skip)
            obtain ⟨t282, A33, H⟩ := bX H;(try dsimp only at H);have H' := aM H;clear H
            try go_wp2
            have n0_ : Aside0 ((((w18.setCell ⟨gb278, 0, none⟩ (.string ((rd_T69 l0_1 x25_2).f0))).setCell ⟨gb278, 1, none⟩ (.string ((rd_T69 l0_1 x25_2).f1))).setCell ⟨gb278, 2, none⟩ (.int .i64 ((rd_T69 l0_1 x25_2).f2))).heap[gb274]? = some (.cells #[.int .i64 a0_0, .slice (some ad277) l0_1.length c0_1] 33 (0, 0))) := ⟨by (with_reducible repeat (first | refine kN ?_ _ | refine kD ?_ | refine kA ?_ _)); refine blk_far ?_ NB274_278.o _; (with_reducible repeat (first | refine kN ?_ _ | refine kD ?_ | refine kA ?_ _)); refine blk_far ?_ NB274_278.o _; (with_reducible repeat (first | refine kN ?_ _ | refine kD ?_ | refine kA ?_ _)); refine blk_far ?_ NB274_278.o _; (with_reducible repeat (first | refine kN ?_ _ | refine kD ?_ | refine kA ?_ _)); exact BK274.o⟩;have n1_ : Aside0 ((((w18.setCell ⟨gb278, 0, none⟩ (.string ((rd_T69 l0_1 x25_2).f0))).setCell ⟨gb278, 1, none⟩ (.string ((rd_T69 l0_1 x25_2).f1))).setCell ⟨gb278, 2, none⟩ (.int .i64 ((rd_T69 l0_1 x25_2).f2))).heap[gb278]? = some (.cells #[.string ((rd_T69 l0_1 x25_2).f0), .string ((rd_T69 l0_1 x25_2).f1), .int .i64 ((rd_T69 l0_1 x25_2).f2)] 69 (0, 0))) := ⟨by (with_reducible repeat (first | refine kN ?_ _ | refine kD ?_ | refine kA ?_ _)); refine blk_put (cs := #[.string ((rd_T69 l0_1 x25_2).f0), .string ((rd_T69 l0_1 x25_2).f1), .int .i64 0]) ?_ 2 _ rfl; refine blk_put (cs := #[.string ((rd_T69 l0_1 x25_2).f0), .string (⟨#[]⟩ : ByteArray), .int .i64 0]) ?_ 1 _ rfl; refine blk_put (cs := #[.string (⟨#[]⟩ : ByteArray), .string (⟨#[]⟩ : ByteArray), .int .i64 0]) ?_ 0 _ rfl; exact BK278.o⟩;have n2_ : Aside0 (Below w.heap.size w (((w18.setCell ⟨gb278, 0, none⟩ (.string ((rd_T69 l0_1 x25_2).f0))).setCell ⟨gb278, 1, none⟩ (.string ((rd_T69 l0_1 x25_2).f1))).setCell ⟨gb278, 2, none⟩ (.int .i64 ((rd_T69 l0_1 x25_2).f2)))) := ⟨by with_reducible repeat (first | exact HB.o | apply bA | apply bN | apply bD | refine bS ?_ GE274.o | refine bS ?_ GE278.o)⟩
            (try clear BK274)
            (try clear BK278)
            (try clear HB)
            generalize (((w18.setCell ⟨gb278, 0, none⟩ (.string ((rd_T69 l0_1 x25_2).f0))).setCell ⟨gb278, 1, none⟩ (.string ((rd_T69 l0_1 x25_2).f1))).setCell ⟨gb278, 2, none⟩ (.int .i64 ((rd_T69 l0_1 x25_2).f2))) = w34 at n0_ n1_ n2_ ⊢;have BK274 := n0_;have BK278 := n1_;have HB := n2_;clear n0_ n1_ n2_;have n0_ := aM (kD BK274.o);have n1_ := aM (kD BK278.o);have n2_ := aM (bD HB.o);clear BK274;clear BK278;clear HB;have BK274 := n0_;have BK278 := n1_;have HB := n2_;clear n0_ n1_ n2_;refine start_ (n := 29) (S := fun w' => w'.cell? ⟨gb278, 0, none⟩ = some (.string ((rd_T69 l0_1 x25_2).f0)) ∧ w'.cell? ⟨gb278, 1, none⟩ = some (.string ((rd_T69 l0_1 x25_2).f1)) ∧ w'.cell? ⟨gb278, 2, none⟩ = some (.int .i64 ((rd_T69 l0_1 x25_2).f2))) (ds := []) (fT 0 29) (by kernel_rfl) rfl rfl ⟨(kC BK278.o 0).trans rfl, (kC BK278.o 1).trans rfl, (kC BK278.o 2).trans rfl⟩ (fun hHeld => ?_); refine with_tabW impl_DiskOK.tab6 impl_DiskOK.bits6 (fun HT_ HW_ => ?_);generalize w34.drew = w35 at BK274 BK278 HB hHeld ⊢;refine pC HT_ 0 30 (fT 1 29) ?_;refine tB 1 (some 31) ?_ (fT 2 29) rfl rfl (take_ofW HT_.o HW_.o (by kernel_rfl)) (Or.inl ⟨by rfl, ?_⟩) hHeld ?_ ?_ ?_;rotate_left
            ·rintro w' ⟨s0, s1, s2⟩
             go_simp
             with_reducible rfl
            rotate_left;(·simp only [zA];rfl);refine one_ (i := 2) (N := some 32) (fT 3 29) rfl rfl (one_of HT_.o (by kernel_rfl)) (by decide) (fun K hK => ?_);refine goes_ Tryd.func58 (by kernel_rfl) rfl #[.string ((rd_T69 l0_1 x25_2).f0)] (by rfl) rfl rfl (by (try simp only [zM]); first | done | rfl | (simp only [zL]; rfl)) ?_
            with_reducible refine (impl_NameOK.calls k2 ((rd_T69 l0_1 x25_2).f0) true _ A21.o).mono ?_
            rintro e w' ⟨rfl, ⟨nd, rfl⟩⟩
            refine ⟨_, rfl, ?_⟩;refine hK.out _ _ ⟨(kC BK278.o 0).trans rfl, (kC BK278.o 1).trans rfl, (kC BK278.o 2).trans rfl⟩ (fun hHeld => ?_);clear hK K;refine norm_ (a' := ?_) ?_ ?_;rotate_left
            ·show Act.put _ (some 32) _ = _
             simp only [zA]
             rfl
            refine pC HT_ 3 33 (fT 4 29) ?_;refine pC HT_ 4 34 (fT 5 29) ?_;refine pC HT_ 5 35 (fT 6 29) ?_;refine pC HT_ 6 36 (fT 7 29) ?_;refine pC HT_ 7 37 (fT 8 29) ?_;refine pB 8 (some 38) undef (fT 9 29) rfl rfl (any_of HT_.o (by kernel_rfl)) (yN (by rfl)) ?_ ?_ ?_;rotate_left;(·simp only [zA];rfl);refine pB 9 (some 39) undef (fT 10 29) rfl rfl (any_of HT_.o (by kernel_rfl)) (yN (by rfl)) ?_ ?_ ?_;rotate_left;(·simp only [zA];rfl);refine pB 10 (some 40) undef (fT 11 29) rfl rfl (any_of HT_.o (by kernel_rfl)) (yN (by rfl)) ?_ ?_ ?_;rotate_left;(·simp only [zA];rfl);refine pB 11 (some 41) undef (fT 12 29) rfl rfl (any_of HT_.o (by kernel_rfl)) (yN (by rfl)) ?_ ?_ ?_;rotate_left;(·simp only [zA];rfl);refine pB 12 (some 42) undef (fT 13 29) rfl rfl (any_of HT_.o (by kernel_rfl)) (yN (by rfl)) ?_ ?_ ?_;rotate_left;(·simp only [zA];rfl);refine pB 13 (some 43) undef (fT 14 29) rfl rfl (any_of HT_.o (by kernel_rfl)) (yN (by rfl)) ?_ ?_ ?_;rotate_left;(·simp only [zA];rfl);refine pB 14 (some 44) undef (fT 15 29) rfl rfl (any_of HT_.o (by kernel_rfl)) (yN (by rfl)) ?_ ?_ ?_;rotate_left;(·simp only [zA];rfl);refine pB 15 (some 45) undef (fT 16 29) rfl rfl (any_of HT_.o (by kernel_rfl)) (yN (by rfl)) ?_ ?_ ?_;rotate_left;(·simp only [zA];rfl);refine pB 16 (some 46) undef (fT 17 29) rfl rfl (any_of HT_.o (by kernel_rfl)) (yN (by rfl)) ?_ ?_ ?_;rotate_left;(·simp only [zA];rfl);refine pB 17 (some 47) undef (fT 18 29) rfl rfl (any_of HT_.o (by kernel_rfl)) (yN (by rfl)) ?_ ?_ ?_;rotate_left;(·simp only [zA];rfl);refine pC HT_ 18 48 (fT 19 29) ?_;refine pC HT_ 19 49 (fT 20 29) ?_;refine pC HT_ 20 50 (fT 21 29) ?_;refine pC HT_ 21 51 (fT 22 29) ?_;refine pC HT_ 23 53 #[T,T,T,T,T,T,T,T,T,T,T,T,T,T,T,T,T,T,T,T,T,T,F,T,F,F,F,F,F] ?_;refine tB 22 (some 52) ?_ (fT 24 29) rfl rfl (take_ofW HT_.o HW_.o (by kernel_rfl)) (Or.inl ⟨by rfl, ?_⟩) hHeld ?_ ?_ ?_;rotate_left
            ·rintro w' ⟨s0, s1, s2⟩
             go_simp
             with_reducible rfl
            rotate_left;(·simp only [zA];rfl);refine tB 24 (some 54) ?_ (fT 25 29) rfl rfl (take_ofW HT_.o HW_.o (by kernel_rfl)) (Or.inl ⟨by rfl, ?_⟩) hHeld ?_ ?_ ?_;rotate_left
            ·rintro w' ⟨s0, s1, s2⟩
             go_simp
             with_reducible rfl
            rotate_left;(·simp only [zA];rfl);refine pC HT_ 25 55 (fT 26 29) ?_;refine one_ (i := 26) (N := some 56) (fT 27 29) rfl rfl (one_of HT_.o (by kernel_rfl)) (by decide) (fun K hK => ?_);refine goes_ Tryd.func56 (by kernel_rfl) rfl #[.int .i64 ((rd_T69 l0_1 x25_2).f2), .int .i64 0, .int .i64 (((rd_T69 l0_1 x25_2).f1).size : Int)] (by rfl) rfl rfl (by (try simp only [zM]); first | done | rfl | (simp only [zL]; rfl)) ?_
            with_reducible refine (impl_within.calls ((rd_T69 l0_1 x25_2).f2) 0 (((rd_T69 l0_1 x25_2).f1).size : Int) t282 _ A33.o).mono ?_
            rintro e w' ⟨rfl, ⟨nd, rfl⟩⟩
            refine ⟨_, rfl, ?_⟩;refine hK.out _ _ ⟨(kC BK278.o 0).trans rfl, (kC BK278.o 1).trans rfl, (kC BK278.o 2).trans rfl⟩ (fun hHeld => ?_);clear hK K;refine norm_ (a' := ?_) ?_ ?_;rotate_left
            ·show Act.put _ (some 56) _ = _
             simp only [zA]
             rfl
            refine pC HT_ 27 57 (fT 28 29) ?_;refine pC HT_ 28 58 (fT 29 29) ?_;refine done_ (done_of HT_.o (by kernel_rfl)) ?_
            try go_wp2
            go_meet
            case rel => exact ⟨_, (!t282), (by first | rfl | (simp; done) | (simp [*]; done)), H', ⟨by have := HJ1.o; have := HK2.o; first | omega | exact Nat.le_refl _⟩, ⟨by (with_reducible repeat (first | refine kN ?_ _ | refine kD ?_ | refine kA ?_ _)); exact BK274.o⟩, ⟨by (with_reducible repeat (first | refine kN ?_ _ | refine kD ?_ | refine kA ?_ _)); exact BK278.o⟩, ⟨by with_reducible repeat (first | exact HB.o | apply bA | apply bN | apply bD | refine bS ?_ GE274.o | refine bS ?_ GE278.o)⟩⟩
          ·replace c22 := Bool.eq_false_iff.mpr c22;subst c22
           rw [if_neg (show ¬ (false = true) by decide)] at H;have H' := aM H;clear H
           try go_wp2
           have n0_ : Aside0 ((((w18.setCell ⟨gb278, 0, none⟩ (.string ((rd_T69 l0_1 x25_2).f0))).setCell ⟨gb278, 1, none⟩ (.string ((rd_T69 l0_1 x25_2).f1))).setCell ⟨gb278, 2, none⟩ (.int .i64 ((rd_T69 l0_1 x25_2).f2))).heap[gb274]? = some (.cells #[.int .i64 a0_0, .slice (some ad277) l0_1.length c0_1] 33 (0, 0))) := ⟨by (with_reducible repeat (first | refine kN ?_ _ | refine kD ?_ | refine kA ?_ _)); refine blk_far ?_ NB274_278.o _; (with_reducible repeat (first | refine kN ?_ _ | refine kD ?_ | refine kA ?_ _)); refine blk_far ?_ NB274_278.o _; (with_reducible repeat (first | refine kN ?_ _ | refine kD ?_ | refine kA ?_ _)); refine blk_far ?_ NB274_278.o _; (with_reducible repeat (first | refine kN ?_ _ | refine kD ?_ | refine kA ?_ _)); exact BK274.o⟩;have n1_ : Aside0 ((((w18.setCell ⟨gb278, 0, none⟩ (.string ((rd_T69 l0_1 x25_2).f0))).setCell ⟨gb278, 1, none⟩ (.string ((rd_T69 l0_1 x25_2).f1))).setCell ⟨gb278, 2, none⟩ (.int .i64 ((rd_T69 l0_1 x25_2).f2))).heap[gb278]? = some (.cells #[.string ((rd_T69 l0_1 x25_2).f0), .string ((rd_T69 l0_1 x25_2).f1), .int .i64 ((rd_T69 l0_1 x25_2).f2)] 69 (0, 0))) := ⟨by (with_reducible repeat (first | refine kN ?_ _ | refine kD ?_ | refine kA ?_ _)); refine blk_put (cs := #[.string ((rd_T69 l0_1 x25_2).f0), .string ((rd_T69 l0_1 x25_2).f1), .int .i64 0]) ?_ 2 _ rfl; refine blk_put (cs := #[.string ((rd_T69 l0_1 x25_2).f0), .string (⟨#[]⟩ : ByteArray), .int .i64 0]) ?_ 1 _ rfl; refine blk_put (cs := #[.string (⟨#[]⟩ : ByteArray), .string (⟨#[]⟩ : ByteArray), .int .i64 0]) ?_ 0 _ rfl; exact BK278.o⟩;have n2_ : Aside0 (Below w.heap.size w (((w18.setCell ⟨gb278, 0, none⟩ (.string ((rd_T69 l0_1 x25_2).f0))).setCell ⟨gb278, 1, none⟩ (.string ((rd_T69 l0_1 x25_2).f1))).setCell ⟨gb278, 2, none⟩ (.int .i64 ((rd_T69 l0_1 x25_2).f2)))) := ⟨by with_reducible repeat (first | exact HB.o | apply bA | apply bN | apply bD | refine bS ?_ GE274.o | refine bS ?_ GE278.o)⟩
           (try clear BK274)
           (try clear BK278)
           (try clear HB)
           generalize (((w18.setCell ⟨gb278, 0, none⟩ (.string ((rd_T69 l0_1 x25_2).f0))).setCell ⟨gb278, 1, none⟩ (.string ((rd_T69 l0_1 x25_2).f1))).setCell ⟨gb278, 2, none⟩ (.int .i64 ((rd_T69 l0_1 x25_2).f2))) = w36 at n0_ n1_ n2_ ⊢;have BK274 := n0_;have BK278 := n1_;have HB := n2_;clear n0_ n1_ n2_;have n0_ := aM (kD BK274.o);have n1_ := aM (kD BK278.o);have n2_ := aM (bD HB.o);clear BK274;clear BK278;clear HB;have BK274 := n0_;have BK278 := n1_;have HB := n2_;clear n0_ n1_ n2_;refine start_ (n := 29) (S := fun w' => w'.cell? ⟨gb278, 0, none⟩ = some (.string ((rd_T69 l0_1 x25_2).f0)) ∧ w'.cell? ⟨gb278, 1, none⟩ = some (.string ((rd_T69 l0_1 x25_2).f1)) ∧ w'.cell? ⟨gb278, 2, none⟩ = some (.int .i64 ((rd_T69 l0_1 x25_2).f2))) (ds := []) (fT 0 29) (by kernel_rfl) rfl rfl ⟨(kC BK278.o 0).trans rfl, (kC BK278.o 1).trans rfl, (kC BK278.o 2).trans rfl⟩ (fun hHeld => ?_); refine with_tabW impl_DiskOK.tab6 impl_DiskOK.bits6 (fun HT_ HW_ => ?_);generalize w36.drew = w37 at BK274 BK278 HB hHeld ⊢;refine pC HT_ 0 30 (fT 1 29) ?_;refine tB 1 (some 31) ?_ (fT 2 29) rfl rfl (take_ofW HT_.o HW_.o (by kernel_rfl)) (Or.inl ⟨by rfl, ?_⟩) hHeld ?_ ?_ ?_;rotate_left
           ·rintro w' ⟨s0, s1, s2⟩
            go_simp
            with_reducible rfl
           rotate_left;(·simp only [zA];rfl);refine one_ (i := 2) (N := some 32) (fT 3 29) rfl rfl (one_of HT_.o (by kernel_rfl)) (by decide) (fun K hK => ?_);refine goes_ Tryd.func58 (by kernel_rfl) rfl #[.string ((rd_T69 l0_1 x25_2).f0)] (by rfl) rfl rfl (by (try simp only [zM]); first | done | rfl | (simp only [zL]; rfl)) ?_
           with_reducible refine (impl_NameOK.calls k2 ((rd_T69 l0_1 x25_2).f0) false _ A21.o).mono ?_
           rintro e w' ⟨rfl, ⟨nd, rfl⟩⟩
           refine ⟨_, rfl, ?_⟩;refine hK.out _ _ ⟨(kC BK278.o 0).trans rfl, (kC BK278.o 1).trans rfl, (kC BK278.o 2).trans rfl⟩ (fun hHeld => ?_);clear hK K;refine norm_ (a' := ?_) ?_ ?_;rotate_left
           ·show Act.put _ (some 32) _ = _
            simp only [zA]
            rfl
           refine pC HT_ 3 33 (fT 4 29) ?_;refine pC HT_ 4 34 (fT 5 29) ?_;refine pB 5 (some 35) undef (fT 6 29) rfl rfl (any_of HT_.o (by kernel_rfl)) (yN (by rfl)) ?_ ?_ ?_;rotate_left;(·simp only [zA];rfl);refine pB 6 (some 36) undef (fT 7 29) rfl rfl (any_of HT_.o (by kernel_rfl)) (yN (by rfl)) ?_ ?_ ?_;rotate_left;(·simp only [zA];rfl);refine pB 7 (some 37) undef (fT 8 29) rfl rfl (any_of HT_.o (by kernel_rfl)) (yN (by rfl)) ?_ ?_ ?_;rotate_left;(·simp only [zA];rfl);refine pB 8 (some 38) undef (fT 9 29) rfl rfl (any_of HT_.o (by kernel_rfl)) (yN (by rfl)) ?_ ?_ ?_;rotate_left;(·simp only [zA];rfl);refine pB 9 (some 39) undef (fT 10 29) rfl rfl (any_of HT_.o (by kernel_rfl)) (yN (by rfl)) ?_ ?_ ?_;rotate_left;(·simp only [zA];rfl);refine pB 10 (some 40) undef (fT 11 29) rfl rfl (any_of HT_.o (by kernel_rfl)) (yN (by rfl)) ?_ ?_ ?_;rotate_left;(·simp only [zA];rfl);refine pB 11 (some 41) undef (fT 12 29) rfl rfl (any_of HT_.o (by kernel_rfl)) (yN (by rfl)) ?_ ?_ ?_;rotate_left;(·simp only [zA];rfl);refine pB 12 (some 42) undef (fT 13 29) rfl rfl (any_of HT_.o (by kernel_rfl)) (yN (by rfl)) ?_ ?_ ?_;rotate_left;(·simp only [zA];rfl);refine pB 13 (some 43) undef (fT 14 29) rfl rfl (any_of HT_.o (by kernel_rfl)) (yN (by rfl)) ?_ ?_ ?_;rotate_left;(·simp only [zA];rfl);refine pB 14 (some 44) undef (fT 15 29) rfl rfl (any_of HT_.o (by kernel_rfl)) (yN (by rfl)) ?_ ?_ ?_;rotate_left;(·simp only [zA];rfl);refine pB 15 (some 45) undef (fT 16 29) rfl rfl (any_of HT_.o (by kernel_rfl)) (yN (by rfl)) ?_ ?_ ?_;rotate_left;(·simp only [zA];rfl);refine pB 16 (some 46) undef (fT 17 29) rfl rfl (any_of HT_.o (by kernel_rfl)) (yN (by rfl)) ?_ ?_ ?_;rotate_left;(·simp only [zA];rfl);refine pB 17 (some 47) undef (fT 18 29) rfl rfl (any_of HT_.o (by kernel_rfl)) (yN (by rfl)) ?_ ?_ ?_;rotate_left;(·simp only [zA];rfl);refine pB 18 (some 48) undef (fT 19 29) rfl rfl (any_of HT_.o (by kernel_rfl)) (yN (by rfl)) ?_ ?_ ?_;rotate_left;(·simp only [zA];rfl);refine pC HT_ 19 49 (fT 20 29) ?_;refine pC HT_ 20 50 (fT 21 29) ?_;refine pB 21 (some 51) undef (fT 22 29) rfl rfl (any_of HT_.o (by kernel_rfl)) (yN (by rfl)) ?_ ?_ ?_;rotate_left;(·simp only [zA];rfl);refine pB 22 (some 52) undef (fT 23 29) rfl rfl (any_of HT_.o (by kernel_rfl)) (yN (by rfl)) ?_ ?_ ?_;rotate_left;(·simp only [zA];rfl);refine pB 23 (some 53) undef (fT 24 29) rfl rfl (any_of HT_.o (by kernel_rfl)) (yN (by rfl)) ?_ ?_ ?_;rotate_left;(·simp only [zA];rfl);refine pB 24 (some 54) undef (fT 25 29) rfl rfl (any_of HT_.o (by kernel_rfl)) (yN (by rfl)) ?_ ?_ ?_;rotate_left;(·simp only [zA];rfl);refine pB 25 (some 55) undef (fT 26 29) rfl rfl (any_of HT_.o (by kernel_rfl)) (yN (by rfl)) ?_ ?_ ?_;rotate_left;(·simp only [zA];rfl);refine pB 26 (some 56) undef (fT 27 29) rfl rfl (any_of HT_.o (by kernel_rfl)) (yN (by rfl)) ?_ ?_ ?_;rotate_left;(·simp only [zA];rfl);refine pB 27 (some 57) undef (fT 28 29) rfl rfl (any_of HT_.o (by kernel_rfl)) (yN (by rfl)) ?_ ?_ ?_;rotate_left;(·simp only [zA];rfl);refine pC HT_ 28 58 (fT 29 29) ?_;refine done_ (done_of HT_.o (by kernel_rfl)) ?_
           try go_wp2
           go_meet
           case rel => exact ⟨_, (true), (by first | rfl | (simp; done) | (simp [*]; done)), H', ⟨by have := HJ1.o; have := HK2.o; first | omega | exact Nat.le_refl _⟩, ⟨by (with_reducible repeat (first | refine kN ?_ _ | refine kD ?_ | refine kA ?_ _)); exact BK274.o⟩, ⟨by (with_reducible repeat (first | refine kN ?_ _ | refine kD ?_ | refine kA ?_ _)); exact BK278.o⟩, ⟨by with_reducible repeat (first | exact HB.o | apply bA | apply bN | apply bD | refine bS ?_ GE274.o | refine bS ?_ GE278.o)⟩⟩
         case rest =>
          clear HC17;obtain ⟨kq, x58_16, rfl, HA, HJ16, BK274, BK278, HB⟩ := hcut
          cases kq with
          | zero => exact absurd HA.o (by simp [impl_DiskOK.j2])
          | succ kj16 =>
           have H := HA.o;clear HA;simp only [impl_DiskOK.j2] at H
           by_cases c38 : x58_16 = true
           ·subst c38
            rw [if_pos rfl] at H;obtain rfl := Option.some.inj H
            go_wp2
            go_ret
            exact ⟨by first | rfl | (simp [zE] <;> rfl) | (simp [*, zE] <;> rfl), by with_reducible repeat (first | exact HB.o | apply bA | apply bN | apply bD | refine bS ?_ GE274.o | refine bS ?_ GE278.o)⟩
           ·replace c38 := Bool.eq_false_iff.mpr c38;subst c38
            rw [if_neg (show ¬ (false = true) by decide)] at H;have H' := aM H;clear H
            go_wp2
            go_roundg kj16
            case measure => have := HJ1.o; have := HK2.o; have := HJ16.o; omega
            case rel => exact ⟨(wrap64 (x25_2 + 1)), (by first | rfl | (simp; done) | (simp [*]; done)), H', ⟨by have := HJ1.o; have := HK2.o; have := HJ16.o; omega⟩, ⟨by (with_reducible repeat (first | refine kN ?_ _ | refine kD ?_ | refine kA ?_ _)); exact BK274.o⟩, ⟨by with_reducible repeat (first | exact HB.o | apply bA | apply bN | apply bD | refine bS ?_ GE274.o | refine bS ?_ GE278.o)⟩⟩
        ·rw [if_neg c16] at H;exact absurd H (by simp)
       ·rw [if_neg c15] at H;exact absurd H (by simp)
      ·rw [if_neg c14] at H;have c14b0 : decide (x25_2 < (l0_1.length : Int)) = false := decide_eq_false c14;clear c14;obtain rfl := Option.some.inj H
       go_wp2
       go_ret
       exact ⟨by first | rfl | (simp [zE] <;> rfl) | (simp [*, zE] <;> rfl), by with_reducible repeat (first | exact HB.o | apply bA | apply bN | apply bD | refine bS ?_ GE274.o)⟩
end Go.Proofs.YtpdhfoegbannkaaDoor.PFnExactWalPlan
