import Derived.Test.YtpdhfoegbannkaaDoorMFnExactWalPlanPx0
import Derived.Test.YtpdhfoegbannkaaDoorMFnExactWalPlanPx5
namespace Go.Proofs.YtpdhfoegbannkaaDoor.PFnExactWalPlan
open Go.RowKit Go.Proofs.YtpdhfoegbannkaaDoorW.PrintWords Go.Proofs.YtpdhfoegbannkaaDoorW.PrintLast Go.Proofs.YtpdhfoegbannkaaDoorW.PrintMore
attribute [local go_sem] max2_int min2_int max_two min_two max_three min_three max_four min_four
set_option linter.unusedVariables false
set_option linter.unusedSimpArgs false
mutual
def spec_l02Frames.l0 : Nat → List Int → List ByteArray → Int → Option (List ByteArray × Int × Int)
 | 0, _, _, _ => none
 | k + 1, x0, x5, x6 => if x6 < (x0.length : Int) then (if (wrap64 ((x0.length : Int) - x6)) < 6 then (some (x5, x6, 16)) else (if 0 ≤ x6 then (if 0 ≤ (wrap64 (x6 + 1)) then (if (wrap64 (x6 + 1)) < (x0.length : Int) then (if (wrap64 ((wrap64 ((wrap64 (rd x0 x6)) * 256)) + (wrap64 (rd x0 (wrap64 (x6 + 1)))))) = 0 then (spec_l02Frames.j1 k x0 x5 x6 (wrap64 ((wrap64 ((wrap64 (rd x0 x6)) * 256)) + (wrap64 (rd x0 (wrap64 (x6 + 1)))))) true) else (spec_l02Frames.j1 k x0 x5 x6 (wrap64 ((wrap64 ((wrap64 (rd x0 x6)) * 256)) + (wrap64 (rd x0 (wrap64 (x6 + 1)))))) (decide ((wrap64 ((wrap64 ((wrap64 (rd x0 x6)) * 256)) + (wrap64 (rd x0 (wrap64 (x6 + 1)))))) > 200)))) else (none)) else (none)) else (none))) else (some (x5, x6, 0))
def spec_l02Frames.j1 : Nat → List Int → List ByteArray → Int → Int → Bool → Option (List ByteArray × Int × Int)
 | 0, _, _, _, _, _ => none
 | k + 1, x0, x5, x6, x7, x39 => if x39 = true then (some (x5, x6, 8)) else (if (wrap64 ((wrap64 ((x0.length : Int) - x6)) - 6)) < x7 then (some (x5, x6, 16)) else (if 0 ≤ (wrap64 (x6 + 6)) then (if (wrap64 (x6 + 6)) ≤ (wrap64 ((wrap64 (x6 + 6)) + x7)) then (if (wrap64 ((wrap64 (x6 + 6)) + x7)) ≤ (x0.length : Int) then ((spec_l02Frame.f k ((x0.take ((wrap64 ((wrap64 (x6 + 6)) + x7)) : Int).toNat).drop ((wrap64 (x6 + 6)) : Int).toNat)).bind fun t218 => (if 0 ≤ x6 then (if x6 ≤ (wrap64 ((wrap64 (x6 + 6)) + x7)) then (if (strOfNums t218).toList = (strOfNums ((x0.take ((wrap64 ((wrap64 (x6 + 6)) + x7)) : Int).toNat).drop (x6 : Int).toNat)).toList then (if x5.length < 8796093022208 then (spec_l02Frames.l0 k x0 (x5 ++ [strOfNums ((x0.take ((wrap64 ((wrap64 (x6 + 6)) + x7)) : Int).toNat).drop ((wrap64 (x6 + 6)) : Int).toNat)]) (wrap64 (x6 + (wrap64 (6 + x7))))) else (none)) else (some (x5, x6, 8))) else (none)) else (none))) else (none)) else (none)) else (none)))
end
def spec_l02Frames.f (k : Nat) (l0 : List Int) : Option (List ByteArray × Int × Int) := spec_l02Frames.l0 k l0 (([] : List ByteArray)) 0
theorem spec_l02Frames.mono_l : ∀ k, (∀ y0 y1 y2, LeO (spec_l02Frames.l0 k y0 y1 y2) (spec_l02Frames.l0 (k + 1) y0 y1 y2)) ∧ (∀ y0 y1 y2 y3 y4, LeO (spec_l02Frames.j1 k y0 y1 y2 y3 y4) (spec_l02Frames.j1 (k + 1) y0 y1 y2 y3 y4))
 | 0 => ⟨fun _ _ _ r h => by simp [spec_l02Frames.l0] at h, fun _ _ _ _ _ r h => by simp [spec_l02Frames.j1] at h⟩
 | k + 1 => by
  obtain ⟨ih0, ih1⟩ := spec_l02Frames.mono_l k;refine ⟨?_, ?_⟩
  ·intro y0 y1 y2
   unfold spec_l02Frames.l0
   repeat' first
   | (with_reducible exact ih0 _ _ _)
   | (with_reducible exact ih1 _ _ _ _ _)
   | (with_reducible exact spec_l02Frame.mono _ _)
   | (with_reducible exact LeO.refl _)
   | (with_reducible exact LeO.none _)
   | (with_reducible refine LeO.ite ?_ ?_)
   | (with_reducible refine LeO.bind ?_ (fun _ => ?_))
   | exact ih0 _ _ _
   | exact ih1 _ _ _ _ _
   | exact spec_l02Frame.mono _ _
   | exact LeO.none _
   | refine LeO.ite ?_ ?_
   | refine LeO.bind ?_ (fun _ => ?_)
  ·intro y0 y1 y2 y3 y4
   unfold spec_l02Frames.j1
   repeat' first
   | (with_reducible exact ih0 _ _ _)
   | (with_reducible exact ih1 _ _ _ _ _)
   | (with_reducible exact spec_l02Frame.mono _ _)
   | (with_reducible exact LeO.refl _)
   | (with_reducible exact LeO.none _)
   | (with_reducible refine LeO.ite ?_ ?_)
   | (with_reducible refine LeO.bind ?_ (fun _ => ?_))
   | exact ih0 _ _ _
   | exact ih1 _ _ _ _ _
   | exact spec_l02Frame.mono _ _
   | exact LeO.none _
   | refine LeO.ite ?_ ?_
   | refine LeO.bind ?_ (fun _ => ?_)
theorem spec_l02Frames.mono : ∀ a0 k, LeO (spec_l02Frames.f k a0) (spec_l02Frames.f (k + 1) a0) := by
 intro a0 k;obtain ⟨ih0, ih1⟩ := spec_l02Frames.mono_l k
 unfold spec_l02Frames.f
 repeat' first
   | (with_reducible exact ih0 _ _ _)
   | (with_reducible exact ih1 _ _ _ _ _)
   | (with_reducible exact spec_l02Frame.mono _ _)
   | (with_reducible exact LeO.refl _)
   | (with_reducible exact LeO.none _)
   | (with_reducible refine LeO.ite ?_ ?_)
   | (with_reducible refine LeO.bind ?_ (fun _ => ?_))
   | exact ih0 _ _ _
   | exact ih1 _ _ _ _ _
   | exact spec_l02Frame.mono _ _
   | exact LeO.none _
   | refine LeO.ite ?_ ?_
   | refine LeO.bind ?_ (fun _ => ?_)
def spec_l02Frames.T6 : Bool × List (List Nat × List Nat) := (true, [([], []), ([], []), ([0, 1], [0, 1]), ([2], [2]), ([3], [3]), ([4], [4]), ([], []), ([], []), ([7], [7]), ([6, 8], [6, 8]), ([9], [9]), ([10], [10]), ([5, 11], [5, 11]), ([12, 0, 1, 2, 3, 4, 5, 6, 7, 8, 9, 10, 11, 12], [12])])
def spec_l02Frames.B6 : List Nat := [0, 0, 3, 7, 15, 31, 0, 0, 128, 448, 960, 1984, 4095, 8191]
theorem spec_l02Frames.tab6 : rtab .any (opsOf Tryd.f52 6) = spec_l02Frames.T6 := by kernel_rfl
theorem spec_l02Frames.bits6 : waitsOk spec_l02Frames.T6.2 spec_l02Frames.B6 = true := by kernel_rfl
def spec_l02Frames.T12 : Bool × List (List Nat × List Nat) := (true, [([], []), ([0], [0]), ([1], [1]), ([], []), ([], []), ([], []), ([5], [5]), ([], []), ([6, 7], [6, 7]), ([3, 4, 8], [3, 4, 8]), ([9], [9]), ([2, 10], [2, 10])])
def spec_l02Frames.B12 : List Nat := [0, 1, 3, 0, 0, 0, 32, 0, 224, 504, 1016, 2047]
theorem spec_l02Frames.tab12 : rtab .any (opsOf Tryd.f52 12) = spec_l02Frames.T12 := by kernel_rfl
theorem spec_l02Frames.bits12 : waitsOk spec_l02Frames.T12.2 spec_l02Frames.B12 = true := by kernel_rfl
set_option maxHeartbeats 8000000 in
set_option maxRecDepth 100000 in
theorem spec_l02Frames.calls (k : Nat) (A0 : Option Addr) (c0 : Nat) (l0 : List Int) (r1 : List ByteArray) (r2 : Int) (r3 : Int) (w : World) (hr0 : Kd.C (Kd.int .u8) w A0 l0.length l0) (hc0 : l0.length ≤ c0) (h : spec_l02Frames.f k l0 = some (r1, r2, r3)) :
  Calls Tryd.prog 52 #[.slice A0 l0.length c0] w fun e w' => ∃ v0_ : Value, e = .returned (.tuple #[v0_, .int .i64 r2, .int .i64 r3]) ∧ Kd.R Kd.string 9 w' w.heap.size (fun _ => True) v0_ r1 ∧ Below w.heap.size w w' := by
 have HR0 := aM hr0;have HC0 := aM hc0;clear hr0 hc0;have HB := aM (Below.refl w.heap.size w);have H : (spec_l02Frames.l0 k l0 (([] : List ByteArray)) 0) = some (r1, r2, r3) := h;clear h;obtain ⟨y212, hy212⟩ : ∃ y_ : List ByteArray, y_ = (([] : List ByteArray)) := ⟨_, rfl⟩
 replace H : (spec_l02Frames.l0 k l0 y212 0) = some (r1, r2, r3) := by first | (rw [hy212]; with_reducible exact H) | (have H2_ := (Option.bind_some _ _).symm.trans H; rw [hy212]; with_reducible exact H2_) | (have H2_ := (Option.bind_some _ _).symm.trans H; with_reducible exact H2_) | with_reducible exact H | (rw [hy212]; exact H) | exact H
 have Ny212 := aM hy212;clear hy212;have H' := aM H;clear H
 go_enter Tryd.func52, Tryd.ntmps52
 go_wp2_with (first | ((with_reducible refine gate_dst (N := 9) rfl ?_); refine Kd.R_lit Kd.string _ 9 ?hg (N := 9) ?hd (xs := ([] : List ByteArray)) (inner := []) (ok := fun _ => True) (okp := fun _ => True) ?hr ?hp (fun _ hk => hk) trivial (Below.refl _ _) (Nat.le_refl _) (by simp) ?_; (case hd => rfl); (case hg => rfl); (case hr => first | (go_simp; done) | (go_simp; rfl)); (case hp => exact (Reps.none _ _)); intro v213 w2 ho3 hb hg_ hnew_; clear hg_ hnew_; (first | rw [← Ny212.o] at ho3 | (simp only [Int.reduceToNat] at ho3; rw [← Ny212.o] at ho3)); have HO214 := aM (Kd.R_lower ho3 (below_size (bM HB.o))); replace HB := aM (below_step (bM HB.o) hb); clear hb ho3))
 go_loopg [5, 6] k (fun kq v5 v6 w' => ∃ (x5_1 : List ByteArray) (x6_1 : Int), v6 = .int .i64 x6_1 ∧ Aside0 (spec_l02Frames.l0 kq l0 x5_1 x6_1 = some (r1, r2, r3)) ∧ Aside0 (kq ≤ k) ∧ Aside0 (Kd.R Kd.string 9 w' w.heap.size (fun _ => True) v5 x5_1) ∧ Aside0 (Below w.heap.size w w'))
 case atStart => exact ⟨(y212), (0), (by first | rfl | (simp; done) | (simp [*]; done)), H', ⟨Nat.le_refl _⟩, ⟨by (with_reducible repeat (first | apply Kd.R_alloc | apply Kd.R_drewN | apply Kd.R_drew)); exact HO214.o⟩, ⟨bM HB.o⟩⟩
 case round =>
  clear H';obtain ⟨x5_1, x6_1, rfl, HA, HK1, HO_5, HB⟩ := hrel
  cases gk with
  | zero => exact absurd HA.o (by simp [spec_l02Frames.l0])
  | succ k1 =>
   have H := HA.o;clear HA;simp only [spec_l02Frames.l0] at H
   by_cases c4 : x6_1 < (l0.length : Int)
   ·rw [if_pos c4] at H;have c4b0 : decide (x6_1 < (l0.length : Int)) = true := decide_eq_true c4;clear c4
    by_cases c5 : (wrap64 ((l0.length : Int) - x6_1)) < 6
    ·rw [if_pos c5] at H;have c5b0 : decide ((wrap64 ((l0.length : Int) - x6_1)) < 6) = true := decide_eq_true c5;clear c5;simp only [Option.some.injEq, Prod.mk.injEq] at H;obtain ⟨rfl, rfl, rfl⟩ := H
     go_wp2
     go_ret3
     exact ⟨_, by first | rfl | (simp [zE] <;> rfl) | (simp [*, zE] <;> rfl), by (with_reducible repeat (first | apply Kd.R_alloc | apply Kd.R_drewN | apply Kd.R_drew)); exact HO_5.o, bM HB.o⟩
    ·rw [if_neg c5] at H;have c5b0 : decide ((wrap64 ((l0.length : Int) - x6_1)) < 6) = false := decide_eq_false c5;clear c5
     by_cases c6 : 0 ≤ x6_1
     ·rw [if_pos c6] at H;have c6b0 : decide (0 ≤ x6_1) = true := decide_eq_true c6;clear c6;obtain ⟨ji7, hji7⟩ : ∃ j_ : Int, (wrap64 (x6_1 + 1)) = j_ := ⟨_, rfl⟩
      replace H : (if 0 ≤ (ji7) then (if (ji7) < (l0.length : Int) then (if (wrap64 ((wrap64 ((wrap64 (rd l0 x6_1)) * 256)) + (wrap64 (rd l0 (ji7))))) = 0 then (spec_l02Frames.j1 k1 l0 x5_1 x6_1 (wrap64 ((wrap64 ((wrap64 (rd l0 x6_1)) * 256)) + (wrap64 (rd l0 (ji7))))) true) else (spec_l02Frames.j1 k1 l0 x5_1 x6_1 (wrap64 ((wrap64 ((wrap64 (rd l0 x6_1)) * 256)) + (wrap64 (rd l0 (ji7))))) (decide ((wrap64 ((wrap64 ((wrap64 (rd l0 x6_1)) * 256)) + (wrap64 (rd l0 (ji7))))) > 200)))) else (none)) else (none)) = some (r1, r2, r3) := by first | (rw [hji7] at H; exact H) | (simp only [hji7] at H ⊢; exact H)
      have hji7w : (IntKind.i64.wrap (x6_1 + 1)) = ji7 := (i64_w _).trans hji7
      by_cases c8 : 0 ≤ (ji7)
      ·rw [if_pos c8] at H;have c8b0 : decide (0 ≤ (ji7)) = true := decide_eq_true c8;clear c8
       by_cases c9 : (ji7) < (l0.length : Int)
       ·rw [if_pos c9] at H;have c9b0 : decide ((ji7) < (l0.length : Int)) = true := decide_eq_true c9;clear c9;have HC10 := aM H;clear H
        try go_wp2
        have n0_ := aM (Kd.R_drew HO_5.o);have n1_ := aM (bD HB.o);clear HO_5;clear HB;have HO_5 := n0_;have HB := n1_;clear n0_ n1_;have p215 : 0 ≤ (x6_1 : Int) := oD;have q215 : x6_1 < (l0.length : Int) := oD;obtain ⟨ad215, e215, hx215_0⟩ := Kd.at_int HR0.o x6_1 p215 q215;have hw215_0 := hx215_0
        cases e215
        replace hx215_0 := (HB.o.cell (lC w _ hx215_0)).trans hx215_0;replace p215 := eq_true p215;replace q215 := eq_true q215;have p216 : 0 ≤ ((ji7) : Int) := oD;have q216 : (ji7) < (l0.length : Int) := oD;obtain ⟨ad216, e216, hx216_0⟩ := Kd.at_int HR0.o (ji7) p216 q216;have hw216_0 := hx216_0;obtain rfl : ad215 = ad216 := (by injection e216);replace hx216_0 := (HB.o.cell (lC w _ hx216_0)).trans hx216_0;replace p216 := eq_true p216;replace q216 := eq_true q216;refine start_ (n := 14) (S := fun w' => w'.cell? (ad215.add (x6_1).toNat) = some (.int .u8 (rd l0 x6_1)) ∧ w'.cell? (ad215.add ((ji7)).toNat) = some (.int .u8 (rd l0 (ji7)))) (ds := []) (fT 0 14) (by kernel_rfl) rfl rfl ⟨((HB.o.cell (lC w _ hw215_0)).trans hw215_0), ((HB.o.cell (lC w _ hw216_0)).trans hw216_0)⟩ (fun hHeld => ?_); refine with_tabW spec_l02Frames.tab6 spec_l02Frames.bits6 (fun HT_ HW_ => ?_);generalize wr.drew = w11 at HO_5 HB hx215_0 hx216_0 hHeld ⊢;refine pC HT_ 0 21 (fT 1 14) ?_;refine pC HT_ 1 22 (fT 2 14) ?_;refine pC HT_ 2 23 (fT 3 14) ?_;refine pC HT_ 6 27 #[T,T,T,F,F,F,T,F,F,F,F,F,F,F] ?_;refine pC HT_ 7 28 #[T,T,T,F,F,F,T,T,F,F,F,F,F,F] ?_;refine pC HT_ 8 29 #[T,T,T,F,F,F,T,T,T,F,F,F,F,F] ?_;refine pC HT_ 9 30 #[T,T,T,F,F,F,T,T,T,T,F,F,F,F] ?_;refine tB 3 (some 24) ?_ #[T,T,T,T,F,F,T,T,T,T,F,F,F,F] rfl rfl (take_ofW HT_.o HW_.o (by kernel_rfl)) (Or.inl ⟨by rfl, ?_⟩) hHeld ?_ ?_ ?_;rotate_left
        ·rintro w' ⟨s0, s1⟩
         go_simp
         with_reducible rfl
        rotate_left;(·simp only [zA];rfl);refine pC HT_ 4 25 #[T,T,T,T,T,F,T,T,T,T,F,F,F,F] ?_;refine pC HT_ 5 26 (fT 10 14) ?_;refine tB 10 (some 31) ?_ (fT 11 14) rfl rfl (take_ofW HT_.o HW_.o (by kernel_rfl)) (Or.inl ⟨by rfl, ?_⟩) hHeld ?_ ?_ ?_;rotate_left
        ·rintro w' ⟨s0, s1⟩
         go_simp
         with_reducible rfl
        rotate_left;(·simp only [zA];rfl);refine pC HT_ 11 32 (fT 12 14) ?_;refine pC HT_ 12 33 (fT 13 14) ?_;refine pC HT_ 13 7 (fT 14 14) ?_;refine done_ (done_of HT_.o (by kernel_rfl)) ?_
        go_upto_region 7 with (fail)
        go_cut [39] (fun v39 wc => ∃ (kq : Nat) (x39_9 : Bool), v39 = .bool x39_9 ∧ Aside0 (spec_l02Frames.j1 kq l0 x5_1 x6_1 (wrap64 ((wrap64 ((wrap64 (rd l0 x6_1)) * 256)) + (wrap64 (rd l0 (ji7))))) x39_9 = some (r1, r2, r3)) ∧ Aside0 (kq ≤ k1) ∧ Aside0 (Kd.R Kd.string 9 wc w.heap.size (fun _ => True) u5 x5_1) ∧ Aside0 (Below w.heap.size w wc))
        case first =>
         have H := HC10.o;clear HC10
         by_cases c12 : (wrap64 ((wrap64 ((wrap64 (rd l0 x6_1)) * 256)) + (wrap64 (rd l0 (ji7))))) = 0
         ·rw [if_pos c12] at H;have c12b0 : ((wrap64 ((wrap64 ((wrap64 (rd l0 x6_1)) * 256)) + (wrap64 (rd l0 (ji7))))) == 0) = true := beq_iff_eq.mpr c12;have c12b1 : ((wrap64 ((wrap64 ((wrap64 (rd l0 x6_1)) * 256)) + (wrap64 (rd l0 (ji7))))) != 0) = false := bne_eq_false_iff_eq.mpr c12;clear c12
          (first | rw [c12b0] | (simp only [i64_w, i32_w]; rw [c12b0]) | skip)
          have H' := aM H;clear H
          go_wp2
          go_meet
          case rel => exact ⟨_, (true), (by first | rfl | (simp; done) | (simp [*]; done)), H', ⟨by have := HK1.o; first | omega | exact Nat.le_refl _⟩, ⟨by (with_reducible repeat (first | apply Kd.R_alloc | apply Kd.R_drewN | apply Kd.R_drew)); exact HO_5.o⟩, ⟨bM HB.o⟩⟩
         ·rw [if_neg c12] at H;have c12b0 : ((wrap64 ((wrap64 ((wrap64 (rd l0 x6_1)) * 256)) + (wrap64 (rd l0 (ji7))))) == 0) = false := beq_eq_false_iff_ne.mpr c12;have c12b1 : ((wrap64 ((wrap64 ((wrap64 (rd l0 x6_1)) * 256)) + (wrap64 (rd l0 (ji7))))) != 0) = true := bne_iff_ne.mpr c12
          (first | rw [c12b0] | (simp only [i64_w, i32_w]; rw [c12b0]) | skip)
          have H' := aM H;clear H
          go_wp2
          go_meet
          case rel => exact ⟨_, (decide ((wrap64 ((wrap64 ((wrap64 (rd l0 x6_1)) * 256)) + (wrap64 (rd l0 (ji7))))) > 200)), (by first | rfl | (simp; done) | (simp only [← hji7] <;> (first | rfl | simp)) | (simp [*]; done)), H', ⟨by have := HK1.o; first | omega | exact Nat.le_refl _⟩, ⟨by (with_reducible repeat (first | apply Kd.R_alloc | apply Kd.R_drewN | apply Kd.R_drew)); exact HO_5.o⟩, ⟨bM HB.o⟩⟩
        case rest =>
         clear HC10;obtain ⟨kq, x39_9, rfl, HA, HJ9, HO_5, HB⟩ := hcut
         cases kq with
         | zero => exact absurd HA.o (by simp [spec_l02Frames.j1])
         | succ kj9 =>
          have H := HA.o;clear HA;simp only [spec_l02Frames.j1] at H
          by_cases c13 : x39_9 = true
          ·subst c13
           rw [if_pos rfl] at H;simp only [Option.some.injEq, Prod.mk.injEq] at H;obtain ⟨rfl, rfl, rfl⟩ := H
           go_wp2
           go_ret3
           exact ⟨_, by first | rfl | (simp [zE] <;> rfl) | (simp only [← hji7]; first | rfl | (simp [zE] <;> rfl)) | (simp [*, zE] <;> rfl), by (with_reducible repeat (first | apply Kd.R_alloc | apply Kd.R_drewN | apply Kd.R_drew)); exact HO_5.o, bM HB.o⟩
          ·replace c13 := Bool.eq_false_iff.mpr c13;subst c13
           rw [if_neg (show ¬ (false = true) by decide)] at H
           by_cases c14 : (wrap64 ((wrap64 ((l0.length : Int) - x6_1)) - 6)) < (wrap64 ((wrap64 ((wrap64 (rd l0 x6_1)) * 256)) + (wrap64 (rd l0 (ji7)))))
           ·rw [if_pos c14] at H;have c14b0 : decide ((wrap64 ((wrap64 ((l0.length : Int) - x6_1)) - 6)) < (wrap64 ((wrap64 ((wrap64 (rd l0 x6_1)) * 256)) + (wrap64 (rd l0 (ji7)))))) = true := decide_eq_true c14;clear c14;simp only [Option.some.injEq, Prod.mk.injEq] at H;obtain ⟨rfl, rfl, rfl⟩ := H
            go_wp2
            go_ret3
            exact ⟨_, by first | rfl | (simp [zE] <;> rfl) | (simp only [← hji7]; first | rfl | (simp [zE] <;> rfl)) | (simp [*, zE] <;> rfl), by (with_reducible repeat (first | apply Kd.R_alloc | apply Kd.R_drewN | apply Kd.R_drew)); exact HO_5.o, bM HB.o⟩
           ·rw [if_neg c14] at H;have c14b0 : decide ((wrap64 ((wrap64 ((l0.length : Int) - x6_1)) - 6)) < (wrap64 ((wrap64 ((wrap64 (rd l0 x6_1)) * 256)) + (wrap64 (rd l0 (ji7)))))) = false := decide_eq_false c14;clear c14;obtain ⟨ji15, hji15⟩ : ∃ j_ : Int, (wrap64 (x6_1 + 6)) = j_ := ⟨_, rfl⟩
            replace H : (if 0 ≤ (ji15) then (if (ji15) ≤ (wrap64 ((ji15) + (wrap64 ((wrap64 ((wrap64 (rd l0 x6_1)) * 256)) + (wrap64 (rd l0 (ji7))))))) then (if (wrap64 ((ji15) + (wrap64 ((wrap64 ((wrap64 (rd l0 x6_1)) * 256)) + (wrap64 (rd l0 (ji7))))))) ≤ (l0.length : Int) then ((spec_l02Frame.f kj9 ((l0.take ((wrap64 ((ji15) + (wrap64 ((wrap64 ((wrap64 (rd l0 x6_1)) * 256)) + (wrap64 (rd l0 (ji7))))))) : Int).toNat).drop ((ji15) : Int).toNat)).bind fun t218 => (if 0 ≤ x6_1 then (if x6_1 ≤ (wrap64 ((ji15) + (wrap64 ((wrap64 ((wrap64 (rd l0 x6_1)) * 256)) + (wrap64 (rd l0 (ji7))))))) then (if (strOfNums t218).toList = (strOfNums ((l0.take ((wrap64 ((ji15) + (wrap64 ((wrap64 ((wrap64 (rd l0 x6_1)) * 256)) + (wrap64 (rd l0 (ji7))))))) : Int).toNat).drop (x6_1 : Int).toNat)).toList then (if x5_1.length < 8796093022208 then (spec_l02Frames.l0 kj9 l0 (x5_1 ++ [strOfNums ((l0.take ((wrap64 ((ji15) + (wrap64 ((wrap64 ((wrap64 (rd l0 x6_1)) * 256)) + (wrap64 (rd l0 (ji7))))))) : Int).toNat).drop ((ji15) : Int).toNat)]) (wrap64 (x6_1 + (wrap64 (6 + (wrap64 ((wrap64 ((wrap64 (rd l0 x6_1)) * 256)) + (wrap64 (rd l0 (ji7)))))))))) else (none)) else (some (x5_1, x6_1, 8))) else (none)) else (none))) else (none)) else (none)) else (none)) = some (r1, r2, r3) := by first | (rw [hji15] at H; exact H) | (simp only [hji15] at H ⊢; exact H)
            have hji15w : (IntKind.i64.wrap (x6_1 + 6)) = ji15 := (i64_w _).trans hji15
            by_cases c16 : 0 ≤ (ji15)
            ·rw [if_pos c16] at H;have c16b0 := eq_true c16;have c16b1 : decide (0 ≤ (ji15)) = true := decide_eq_true c16;clear c16
             by_cases c17 : (ji15) ≤ (wrap64 ((ji15) + (wrap64 ((wrap64 ((wrap64 (rd l0 x6_1)) * 256)) + (wrap64 (rd l0 (ji7)))))))
             ·rw [if_pos c17] at H;have c17b0 := eq_true c17;have c17b1 : decide ((ji15) ≤ (wrap64 ((ji15) + (wrap64 ((wrap64 ((wrap64 (rd l0 x6_1)) * 256)) + (wrap64 (rd l0 (ji7)))))))) = true := decide_eq_true c17
              by_cases c18 : (wrap64 ((ji15) + (wrap64 ((wrap64 ((wrap64 (rd l0 x6_1)) * 256)) + (wrap64 (rd l0 (ji7))))))) ≤ (l0.length : Int)
              ·rw [if_pos c18] at H;have c18b0 := eq_true c18;have c18b1 : decide ((wrap64 ((ji15) + (wrap64 ((wrap64 ((wrap64 (rd l0 x6_1)) * 256)) + (wrap64 (rd l0 (ji7))))))) ≤ (l0.length : Int)) = true := decide_eq_true c18;obtain ⟨t218, A19, H⟩ := bX H;(try dsimp only at H)
               by_cases c20 : 0 ≤ x6_1
               ·rw [if_pos c20] at H;have c20b0 := eq_true c20;have c20b1 : decide (0 ≤ x6_1) = true := decide_eq_true c20;clear c20
                by_cases c21 : x6_1 ≤ (wrap64 ((ji15) + (wrap64 ((wrap64 ((wrap64 (rd l0 x6_1)) * 256)) + (wrap64 (rd l0 (ji7)))))))
                ·rw [if_pos c21] at H;have c21b0 := eq_true c21;have c21b1 : decide (x6_1 ≤ (wrap64 ((ji15) + (wrap64 ((wrap64 ((wrap64 (rd l0 x6_1)) * 256)) + (wrap64 (rd l0 (ji7)))))))) = true := decide_eq_true c21;have c22b0 := eq_true (oD : (wrap64 ((ji15) + (wrap64 ((wrap64 ((wrap64 (rd l0 x6_1)) * 256)) + (wrap64 (rd l0 (ji7))))))) ≤ (l0.length : Int))
                 by_cases c23 : (strOfNums t218).toList = (strOfNums ((l0.take ((wrap64 ((ji15) + (wrap64 ((wrap64 ((wrap64 (rd l0 x6_1)) * 256)) + (wrap64 (rd l0 (ji7))))))) : Int).toNat).drop (x6_1 : Int).toNat)).toList
                 ·rw [if_pos c23] at H;have c23b0 : ((strOfNums t218).toList == (strOfNums ((l0.take ((wrap64 ((ji15) + (wrap64 ((wrap64 ((wrap64 (rd l0 x6_1)) * 256)) + (wrap64 (rd l0 (ji7))))))) : Int).toNat).drop (x6_1 : Int).toNat)).toList) = true := beq_iff_eq.mpr c23;have c23b1 : ((strOfNums t218).toList != (strOfNums ((l0.take ((wrap64 ((ji15) + (wrap64 ((wrap64 ((wrap64 (rd l0 x6_1)) * 256)) + (wrap64 (rd l0 (ji7))))))) : Int).toNat).drop (x6_1 : Int).toNat)).toList) = false := bne_eq_false_iff_eq.mpr c23;clear c23
                  by_cases c24 : x5_1.length < 8796093022208
                  ·rw [if_pos c24] at H;have LMc24 := aM c24;clear c24;obtain ⟨y222, hy222⟩ : ∃ y_ : List ByteArray, y_ = (x5_1 ++ [strOfNums ((l0.take ((wrap64 ((ji15) + (wrap64 ((wrap64 ((wrap64 (rd l0 x6_1)) * 256)) + (wrap64 (rd l0 (ji7))))))) : Int).toNat).drop ((ji15) : Int).toNat)]) := ⟨_, rfl⟩
                   replace H : (spec_l02Frames.l0 kj9 l0 y222 (wrap64 (x6_1 + (wrap64 (6 + (wrap64 ((wrap64 ((wrap64 (rd l0 x6_1)) * 256)) + (wrap64 (rd l0 (ji7)))))))))) = some (r1, r2, r3) := by first | (rw [hy222]; with_reducible exact H) | (have H2_ := (Option.bind_some _ _).symm.trans H; rw [hy222]; with_reducible exact H2_) | (have H2_ := (Option.bind_some _ _).symm.trans H; with_reducible exact H2_) | with_reducible exact H | (rw [hy222]; exact H) | exact H
                   have Ny222 := aM hy222;clear hy222;have H' := aM H;clear H;obtain ⟨i025, hi025, _, hsz25, _⟩ := info_parts info5;obtain ⟨A25, hcut25, hA25, hC25⟩ := print_mid_of (P := Tryd.prog) (Value.int .u8) 0 76 5 .i64 .i64 Tryd.underlying76 hi025 hsz25 (some ad215) c0 l0 (ji15) (wrap64 ((ji15) + (wrap64 ((wrap64 ((wrap64 (rd l0 x6_1)) * 256)) + (wrap64 (rd l0 (ji7))))))) oD (by first | omega | exact oD) oD HC0.o;have HR217 := aM (Kd.C_of_reads (h1 := fun _ => rfl) (hA25 _ (Kd.reads_of_C HR0.o)));have HC217 := aM hC25;clear hA25 hC25 hi025 hsz25
                   try go_wp2
                   have n0_ := aM (Kd.R_drew HO_5.o);have n1_ := aM (bD HB.o);clear HO_5;clear HB;have HO_5 := n0_;have HB := n1_;clear n0_ n1_;obtain ⟨i027, hi027, _, hsz27, _⟩ := info_parts info5;obtain ⟨A27, hcut27, hA27, hC27⟩ := print_mid_of (P := Tryd.prog) (Value.int .u8) 0 76 5 .i64 .i64 Tryd.underlying76 hi027 hsz27 (some ad215) c0 l0 x6_1 (wrap64 ((ji15) + (wrap64 ((wrap64 ((wrap64 (rd l0 x6_1)) * 256)) + (wrap64 (rd l0 (ji7))))))) oD (by first | omega | exact oD) oD HC0.o;have HR221 := aM (Kd.C_of_reads (h1 := fun _ => rfl) (hA27 _ (Kd.reads_of_C HR0.o)));have HC221 := aM hC27;clear hA27 hC27 hi027 hsz27;refine start_ (n := 12) (S := fun w' => Below w.heap.size w w') (ds := []) (fT 0 12) (by kernel_rfl) rfl rfl (by first | exact HB.o | exact bN HB.o 1) (fun hHeld => ?_); refine with_tabW spec_l02Frames.tab12 spec_l02Frames.bits12 (fun HT_ HW_ => ?_);generalize wc.drew = w26 at HO_5 HB HR221 hHeld ⊢;refine pC HT_ 0 59 (fT 1 12) ?_;refine pC HT_ 3 62 #[T,F,F,T,F,F,F,F,F,F,F,F] ?_;refine pC HT_ 4 63 #[T,F,F,T,T,F,F,F,F,F,F,F] ?_;refine pC HT_ 5 64 #[T,F,F,T,T,T,F,F,F,F,F,F] ?_;refine pC HT_ 6 65 #[T,F,F,T,T,T,T,F,F,F,F,F] ?_;refine pC HT_ 7 66 #[T,F,F,T,T,T,T,T,F,F,F,F] ?_;refine pC HT_ 8 67 #[T,F,F,T,T,T,T,T,T,F,F,F] ?_;refine pC HT_ 9 68 #[T,F,F,T,T,T,T,T,T,T,F,F] ?_;refine tB 10 (some 69) ?_ #[T,F,F,T,T,T,T,T,T,T,T,F] rfl rfl (take_ofW HT_.o HW_.o (by kernel_rfl)) (Or.inl ⟨by rfl, ?_⟩) hHeld ?_ ?_ ?_;rotate_left
                   ·rintro w' hS_
                    have hcvq := Kd.C_string (P := Tryd.prog) (A := A27) (c := (c0 - x6_1.toNat)) Tryd.underlying76 Tryd.underlying5 Tryd.underlying9 (Kd.C_below HR221.o hS_);rw [show ((l0.take ((wrap64 ((ji15) + (wrap64 ((wrap64 ((wrap64 (rd l0 x6_1)) * 256)) + (wrap64 (rd l0 (ji7))))))) : Int).toNat).drop (x6_1 : Int).toNat).length = (((wrap64 ((ji15) + (wrap64 ((wrap64 ((wrap64 (rd l0 x6_1)) * 256)) + (wrap64 (rd l0 (ji7))))))) : Int).toNat - x6_1.toNat) from (by rw [List.length_drop, List.length_take]; have h_ : ((wrap64 ((ji15) + (wrap64 ((wrap64 ((wrap64 (rd l0 x6_1)) * 256)) + (wrap64 (rd l0 (ji7))))))) : Int) ≤ (l0.length : Int) := oD; omega)] at hcvq
                    go_simp
                    with_reducible rfl
                   rotate_left;(·simp only [zA];rfl);refine one_ (i := 1) (N := some 60) #[T,T,F,T,T,T,T,T,T,T,T,F] rfl rfl (one_of HT_.o (by kernel_rfl)) (by decide) (fun K hK => ?_);refine goes_ Tryd.func62 (by kernel_rfl) rfl #[.slice A25 ((l0.take ((wrap64 ((ji15) + (wrap64 ((wrap64 ((wrap64 (rd l0 x6_1)) * 256)) + (wrap64 (rd l0 (ji7))))))) : Int).toNat).drop ((ji15) : Int).toNat).length (c0 - (ji15).toNat)] (by rfl) rfl rfl (by (try simp only [zM]); first | done | (rw [show ((l0.take ((wrap64 ((ji15) + (wrap64 ((wrap64 ((wrap64 (rd l0 x6_1)) * 256)) + (wrap64 (rd l0 (ji7))))))) : Int).toNat).drop ((ji15) : Int).toNat).length = ((wrap64 ((ji15) + (wrap64 ((wrap64 ((wrap64 (rd l0 x6_1)) * 256)) + (wrap64 (rd l0 (ji7))))))).toNat - (ji15).toNat) from (by rw [List.length_drop, List.length_take]; have h_ : ((wrap64 ((ji15) + (wrap64 ((wrap64 ((wrap64 (rd l0 x6_1)) * 256)) + (wrap64 (rd l0 (ji7))))))) : Int) ≤ (l0.length : Int) := oD; omega)] <;> rfl) | (simp only [hji15, hji7]; rfl) | rfl | (simp only [zL]; rfl)) ?_
                   with_reducible refine (spec_l02Frame.calls kj9 _ _ ((l0.take ((wrap64 ((ji15) + (wrap64 ((wrap64 ((wrap64 (rd l0 x6_1)) * 256)) + (wrap64 (rd l0 (ji7))))))) : Int).toNat).drop ((ji15) : Int).toNat) t218 _ ?side1 ?side2 A19.o).mono ?_
                   (case side1 => exact Kd.C_below HR217.o (bM HB.o))
                   (case side2 => exact HC217.o)
                   rintro e w28 ⟨v219, rfl, ho0, hb⟩
                   refine ⟨_, rfl, ?_⟩;have n0_ := aM (Kd.R_below (rM HO_5.o) hb);have n1_ := aM (Kd.R_lower ho0 (below_size (bM HB.o)));have n2_ := aM (below_step (bM HB.o) hb);clear HO_5;clear HB;have HO_5 := n0_;have HO220 := n1_;have HB := n2_;clear n0_ n1_ n2_
                   (try clear hb)
                   (try clear hb2)
                   (try clear hk)
                   (try clear hi)
                   (try clear ho0)
                   have hcv30 := Kd.C_string (P := Tryd.prog) (A := A27) (c := (c0 - x6_1.toNat)) Tryd.underlying76 Tryd.underlying5 Tryd.underlying9 (Kd.C_below HR221.o HB.o)
                   (try rw [show ((l0.take ((wrap64 ((ji15) + (wrap64 ((wrap64 ((wrap64 (rd l0 x6_1)) * 256)) + (wrap64 (rd l0 (ji7))))))) : Int).toNat).drop (x6_1 : Int).toNat).length = (((wrap64 ((ji15) + (wrap64 ((wrap64 ((wrap64 (rd l0 x6_1)) * 256)) + (wrap64 (rd l0 (ji7))))))) : Int).toNat - x6_1.toNat) from (by rw [List.length_drop, List.length_take]; have h_ : ((wrap64 ((ji15) + (wrap64 ((wrap64 ((wrap64 (rd l0 x6_1)) * 256)) + (wrap64 (rd l0 (ji7))))))) : Int) ≤ (l0.length : Int) := oD; omega)] at hcv30)
                   refine hK.out _ _ (bM HB.o) (fun hHeld => ?_);clear hK K;refine norm_ (a' := ?_) ?_ ?_;rotate_left
                   ·show Act.put _ (some 60) _ = _
                    simp only [zA]
                    rfl
                   refine one_ (i := 2) (N := some 61) (fT 11 12) rfl rfl (one_of HT_.o (by kernel_rfl)) (by decide) (fun K hK => ?_);have hcv29 := own_string (P := Tryd.prog) Tryd.underlying76 Tryd.underlying5 Tryd.underlying9 (Kd.own_of_R HO220.o);refine value_ (w1 := ?_) (v := ?_) (by rfl) rfl ?_ ?_;rotate_left 2
                   ·go_simp
                    constructor
                    ·rfl
                    ·rfl
                   clear hcv29;refine hK.out _ _ (bM HB.o) (fun hHeld => ?_);clear hK K;refine norm_ (a' := ?_) ?_ ?_;rotate_left
                   ·show Act.put _ (some 61) _ = _
                    simp only [zA]
                    rfl
                   refine pC HT_ 11 70 (fT 12 12) ?_;refine done_ (done_of HT_.o (by kernel_rfl)) ?_;have hcv32 := Kd.C_string (P := Tryd.prog) (A := A25) (c := (c0 - (ji15).toNat)) Tryd.underlying76 Tryd.underlying5 Tryd.underlying9 (Kd.C_below HR217.o HB.o)
                   (try rw [show ((l0.take ((wrap64 ((ji15) + (wrap64 ((wrap64 ((wrap64 (rd l0 x6_1)) * 256)) + (wrap64 (rd l0 (ji7))))))) : Int).toNat).drop ((ji15) : Int).toNat).length = (((wrap64 ((ji15) + (wrap64 ((wrap64 ((wrap64 (rd l0 x6_1)) * 256)) + (wrap64 (rd l0 (ji7))))))) : Int).toNat - (ji15).toNat) from (by rw [List.length_drop, List.length_take]; have h_ : ((wrap64 ((ji15) + (wrap64 ((wrap64 ((wrap64 (rd l0 x6_1)) * 256)) + (wrap64 (rd l0 (ji7))))))) : Int) ≤ (l0.length : Int) := oD; omega)] at hcv32)
                   try go_wp2_with (first | ((with_reducible refine gate_builtin (b := .append) (xs := #[.tmp 73, .tmp 76]) rfl ?_); at_builtin; refine Kd.R_append Kd.string (w0 := w) w.heap.size rfl (.tmp 73) (.tmp 76) 26 9 (.string ⟨#[]⟩) 16 rfl Tryd.underlying26 info9 rfl (by decide) (by omega) u5 x5_1 (strOfNums ((l0.take ((wrap64 ((ji15) + (wrap64 ((wrap64 ((wrap64 (rd l0 x6_1)) * 256)) + (wrap64 (rd l0 (ji7))))))) : Int).toNat).drop ((ji15) : Int).toNat)) [.string (strOfNums ((l0.take ((wrap64 ((ji15) + (wrap64 ((wrap64 ((wrap64 (rd l0 x6_1)) * 256)) + (wrap64 (rd l0 (ji7))))))) : Int).toNat).drop ((ji15) : Int).toNat))] (fun _ => True) (fun _ => False) rfl rfl ?aP (fun _ hk => hk.elim) ?aF ?aO ?aB ?aS ?aL ?_; (case aP => exact rfl); (case aB => exact (bM HB.o)); (case aF => exact (fun _ _ => trivial)); (case aO => exact (rM HO_5.o)); (case aS => exact (below_size (bM HB.o))); (case aL => have := LMc24.o; omega); intro v223 w33 ho hb hg hat; rw [← Ny222.o] at ho; have n0_ := aM (Kd.R_over' (rM HO220.o) (Kd.R_typed (rM HO_5.o)) (by decide) hg); have n1_ := aM (hb); have n2_ := aM (ho); clear HO220; clear HB; clear HO_5; have HO220 := n0_; have HB := n1_; have HO224 := n2_; clear n0_ n1_ n2_; clear ho hb hg hat))
                   go_roundg kj9
                   case measure => have := HK1.o; have := HJ9.o; omega
                   case rel => exact ⟨(y222), (wrap64 (x6_1 + (wrap64 (6 + (wrap64 ((wrap64 ((wrap64 (rd l0 x6_1)) * 256)) + (wrap64 (rd l0 (ji7))))))))), (by first | rfl | (simp; done) | (simp only [← hji7] <;> (first | rfl | simp)) | (simp [*]; done)), H', ⟨by have := HK1.o; have := HJ9.o; omega⟩, ⟨by (with_reducible repeat (first | apply Kd.R_alloc | apply Kd.R_drewN | apply Kd.R_drew)); exact HO224.o⟩, ⟨bM HB.o⟩⟩
                  ·rw [if_neg c24] at H;exact absurd H (by simp)
                 ·rw [if_neg c23] at H;have c23b0 : ((strOfNums t218).toList == (strOfNums ((l0.take ((wrap64 ((ji15) + (wrap64 ((wrap64 ((wrap64 (rd l0 x6_1)) * 256)) + (wrap64 (rd l0 (ji7))))))) : Int).toNat).drop (x6_1 : Int).toNat)).toList) = false := beq_eq_false_iff_ne.mpr c23;have c23b1 : ((strOfNums t218).toList != (strOfNums ((l0.take ((wrap64 ((ji15) + (wrap64 ((wrap64 ((wrap64 (rd l0 x6_1)) * 256)) + (wrap64 (rd l0 (ji7))))))) : Int).toNat).drop (x6_1 : Int).toNat)).toList) = true := bne_iff_ne.mpr c23;simp only [Option.some.injEq, Prod.mk.injEq] at H;obtain ⟨rfl, rfl, rfl⟩ := H;obtain ⟨i034, hi034, _, hsz34, _⟩ := info_parts info5;obtain ⟨A34, hcut34, hA34, hC34⟩ := print_mid_of (P := Tryd.prog) (Value.int .u8) 0 76 5 .i64 .i64 Tryd.underlying76 hi034 hsz34 (some ad215) c0 l0 (ji15) (wrap64 ((ji15) + (wrap64 ((wrap64 ((wrap64 (rd l0 x6_1)) * 256)) + (wrap64 (rd l0 (ji7))))))) oD (by first | omega | exact oD) oD HC0.o;have HR217 := aM (Kd.C_of_reads (h1 := fun _ => rfl) (hA34 _ (Kd.reads_of_C HR0.o)));have HC217 := aM hC34;clear hA34 hC34 hi034 hsz34
                  try go_wp2
                  have n0_ := aM (Kd.R_drew HO_5.o);have n1_ := aM (bD HB.o);clear HO_5;clear HB;have HO_5 := n0_;have HB := n1_;clear n0_ n1_;obtain ⟨i036, hi036, _, hsz36, _⟩ := info_parts info5;obtain ⟨A36, hcut36, hA36, hC36⟩ := print_mid_of (P := Tryd.prog) (Value.int .u8) 0 76 5 .i64 .i64 Tryd.underlying76 hi036 hsz36 (some ad215) c0 l0 x6_1 (wrap64 ((ji15) + (wrap64 ((wrap64 ((wrap64 (rd l0 x6_1)) * 256)) + (wrap64 (rd l0 (ji7))))))) oD (by first | omega | exact oD) oD HC0.o;have HR221 := aM (Kd.C_of_reads (h1 := fun _ => rfl) (hA36 _ (Kd.reads_of_C HR0.o)));have HC221 := aM hC36;clear hA36 hC36 hi036 hsz36;refine start_ (n := 12) (S := fun w' => Below w.heap.size w w') (ds := []) (fT 0 12) (by kernel_rfl) rfl rfl (by first | exact HB.o | exact bN HB.o 1) (fun hHeld => ?_); refine with_tabW spec_l02Frames.tab12 spec_l02Frames.bits12 (fun HT_ HW_ => ?_);generalize wc.drew = w35 at HO_5 HB HR221 hHeld ⊢;refine pC HT_ 0 59 (fT 1 12) ?_;refine pC HT_ 3 62 #[T,F,F,T,F,F,F,F,F,F,F,F] ?_;refine pC HT_ 4 63 #[T,F,F,T,T,F,F,F,F,F,F,F] ?_;refine pC HT_ 5 64 #[T,F,F,T,T,T,F,F,F,F,F,F] ?_;refine pC HT_ 6 65 #[T,F,F,T,T,T,T,F,F,F,F,F] ?_;refine pC HT_ 7 66 #[T,F,F,T,T,T,T,T,F,F,F,F] ?_;refine pC HT_ 8 67 #[T,F,F,T,T,T,T,T,T,F,F,F] ?_;refine pC HT_ 9 68 #[T,F,F,T,T,T,T,T,T,T,F,F] ?_;refine tB 10 (some 69) ?_ #[T,F,F,T,T,T,T,T,T,T,T,F] rfl rfl (take_ofW HT_.o HW_.o (by kernel_rfl)) (Or.inl ⟨by rfl, ?_⟩) hHeld ?_ ?_ ?_;rotate_left
                  ·rintro w' hS_
                   have hcvq := Kd.C_string (P := Tryd.prog) (A := A36) (c := (c0 - x6_1.toNat)) Tryd.underlying76 Tryd.underlying5 Tryd.underlying9 (Kd.C_below HR221.o hS_);rw [show ((l0.take ((wrap64 ((ji15) + (wrap64 ((wrap64 ((wrap64 (rd l0 x6_1)) * 256)) + (wrap64 (rd l0 (ji7))))))) : Int).toNat).drop (x6_1 : Int).toNat).length = (((wrap64 ((ji15) + (wrap64 ((wrap64 ((wrap64 (rd l0 x6_1)) * 256)) + (wrap64 (rd l0 (ji7))))))) : Int).toNat - x6_1.toNat) from (by rw [List.length_drop, List.length_take]; have h_ : ((wrap64 ((ji15) + (wrap64 ((wrap64 ((wrap64 (rd l0 x6_1)) * 256)) + (wrap64 (rd l0 (ji7))))))) : Int) ≤ (l0.length : Int) := oD; omega)] at hcvq
                   go_simp
                   with_reducible rfl
                  rotate_left;(·simp only [zA];rfl);refine one_ (i := 1) (N := some 60) #[T,T,F,T,T,T,T,T,T,T,T,F] rfl rfl (one_of HT_.o (by kernel_rfl)) (by decide) (fun K hK => ?_);refine goes_ Tryd.func62 (by kernel_rfl) rfl #[.slice A34 ((l0.take ((wrap64 ((ji15) + (wrap64 ((wrap64 ((wrap64 (rd l0 x6_1)) * 256)) + (wrap64 (rd l0 (ji7))))))) : Int).toNat).drop ((ji15) : Int).toNat).length (c0 - (ji15).toNat)] (by rfl) rfl rfl (by (try simp only [zM]); first | done | (rw [show ((l0.take ((wrap64 ((ji15) + (wrap64 ((wrap64 ((wrap64 (rd l0 x6_1)) * 256)) + (wrap64 (rd l0 (ji7))))))) : Int).toNat).drop ((ji15) : Int).toNat).length = ((wrap64 ((ji15) + (wrap64 ((wrap64 ((wrap64 (rd l0 x6_1)) * 256)) + (wrap64 (rd l0 (ji7))))))).toNat - (ji15).toNat) from (by rw [List.length_drop, List.length_take]; have h_ : ((wrap64 ((ji15) + (wrap64 ((wrap64 ((wrap64 (rd l0 x6_1)) * 256)) + (wrap64 (rd l0 (ji7))))))) : Int) ≤ (l0.length : Int) := oD; omega)] <;> rfl) | (simp only [hji15, hji7]; rfl) | rfl | (simp only [zL]; rfl)) ?_
                  with_reducible refine (spec_l02Frame.calls kj9 _ _ ((l0.take ((wrap64 ((ji15) + (wrap64 ((wrap64 ((wrap64 (rd l0 x6_1)) * 256)) + (wrap64 (rd l0 (ji7))))))) : Int).toNat).drop ((ji15) : Int).toNat) t218 _ ?side1 ?side2 A19.o).mono ?_
                  (case side1 => exact Kd.C_below HR217.o (bM HB.o))
                  (case side2 => exact HC217.o)
                  rintro e w37 ⟨v219, rfl, ho0, hb⟩
                  refine ⟨_, rfl, ?_⟩;have n0_ := aM (Kd.R_below (rM HO_5.o) hb);have n1_ := aM (Kd.R_lower ho0 (below_size (bM HB.o)));have n2_ := aM (below_step (bM HB.o) hb);clear HO_5;clear HB;have HO_5 := n0_;have HO220 := n1_;have HB := n2_;clear n0_ n1_ n2_
                  (try clear hb)
                  (try clear hb2)
                  (try clear hk)
                  (try clear hi)
                  (try clear ho0)
                  have hcv39 := Kd.C_string (P := Tryd.prog) (A := A36) (c := (c0 - x6_1.toNat)) Tryd.underlying76 Tryd.underlying5 Tryd.underlying9 (Kd.C_below HR221.o HB.o)
                  (try rw [show ((l0.take ((wrap64 ((ji15) + (wrap64 ((wrap64 ((wrap64 (rd l0 x6_1)) * 256)) + (wrap64 (rd l0 (ji7))))))) : Int).toNat).drop (x6_1 : Int).toNat).length = (((wrap64 ((ji15) + (wrap64 ((wrap64 ((wrap64 (rd l0 x6_1)) * 256)) + (wrap64 (rd l0 (ji7))))))) : Int).toNat - x6_1.toNat) from (by rw [List.length_drop, List.length_take]; have h_ : ((wrap64 ((ji15) + (wrap64 ((wrap64 ((wrap64 (rd l0 x6_1)) * 256)) + (wrap64 (rd l0 (ji7))))))) : Int) ≤ (l0.length : Int) := oD; omega)] at hcv39)
                  refine hK.out _ _ (bM HB.o) (fun hHeld => ?_);clear hK K;refine norm_ (a' := ?_) ?_ ?_;rotate_left
                  ·show Act.put _ (some 60) _ = _
                   simp only [zA]
                   rfl
                  refine one_ (i := 2) (N := some 61) (fT 11 12) rfl rfl (one_of HT_.o (by kernel_rfl)) (by decide) (fun K hK => ?_);have hcv38 := own_string (P := Tryd.prog) Tryd.underlying76 Tryd.underlying5 Tryd.underlying9 (Kd.own_of_R HO220.o);refine value_ (w1 := ?_) (v := ?_) (by rfl) rfl ?_ ?_;rotate_left 2
                  ·go_simp
                   constructor
                   ·rfl
                   ·rfl
                  clear hcv38;refine hK.out _ _ (bM HB.o) (fun hHeld => ?_);clear hK K;refine norm_ (a' := ?_) ?_ ?_;rotate_left
                  ·show Act.put _ (some 61) _ = _
                   simp only [zA]
                   rfl
                  refine pC HT_ 11 70 (fT 12 12) ?_;refine done_ (done_of HT_.o (by kernel_rfl)) ?_
                  try go_wp2
                  go_ret3
                  exact ⟨_, by first | rfl | (simp [zE] <;> rfl) | (simp only [← hji7, ← hji15]; first | rfl | (simp [zE] <;> rfl)) | (simp [*, zE] <;> rfl), by (with_reducible repeat (first | apply Kd.R_alloc | apply Kd.R_drewN | apply Kd.R_drew)); exact HO_5.o, bM HB.o⟩
                ·rw [if_neg c21] at H;exact absurd H (by simp)
               ·rw [if_neg c20] at H;exact absurd H (by simp)
              ·rw [if_neg c18] at H;exact absurd H (by simp)
             ·rw [if_neg c17] at H;exact absurd H (by simp)
            ·rw [if_neg c16] at H;exact absurd H (by simp)
       ·rw [if_neg c9] at H;exact absurd H (by simp)
      ·rw [if_neg c8] at H;exact absurd H (by simp)
     ·rw [if_neg c6] at H;exact absurd H (by simp)
   ·rw [if_neg c4] at H;have c4b0 : decide (x6_1 < (l0.length : Int)) = false := decide_eq_false c4;clear c4;simp only [Option.some.injEq, Prod.mk.injEq] at H;obtain ⟨rfl, rfl, rfl⟩ := H
    go_wp2
    go_ret3
    exact ⟨_, by first | rfl | (simp [zE] <;> rfl) | (simp [*, zE] <;> rfl), by (with_reducible repeat (first | apply Kd.R_alloc | apply Kd.R_drewN | apply Kd.R_drew)); exact HO_5.o, bM HB.o⟩
end Go.Proofs.YtpdhfoegbannkaaDoor.PFnExactWalPlan
