import Derived.Test.YtpdhfoegbannkaaDoorMFnExactWalPlanPx0
import Derived.Test.YtpdhfoegbannkaaDoorMFnExactWalPlanPx10
namespace Go.Proofs.YtpdhfoegbannkaaDoor.PFnExactWalPlan
open Go.RowKit Go.Proofs.YtpdhfoegbannkaaDoorW.PrintWords Go.Proofs.YtpdhfoegbannkaaDoorW.PrintLast Go.Proofs.YtpdhfoegbannkaaDoorW.PrintMore
attribute [local go_sem] max2_int min2_int max_two min_two max_three min_three max_four min_four
set_option linter.unusedVariables false
set_option linter.unusedSimpArgs false
def impl_Disk_used.l0 : Nat → Int → List (S69) → Int → Int → Option (Int)
 | 0, _, _, _, _ => none
 | k + 1, x3, x7, x8, x9 => if x9 < x8 then (if 0 ≤ x9 then (if x9 < (x7.length : Int) then (impl_Disk_used.l0 k (wrap64 (x3 + (((rd_T69 x7 x9).f1).size : Int))) x7 x8 (wrap64 (x9 + 1))) else (none)) else (none)) else (some x3)
def impl_Disk_used.f (k : Nat) (a0_0 : Int) (l0_1 : List (S69)) : Option (Int) := impl_Disk_used.l0 k 0 l0_1 (l0_1.length : Int) 0
theorem impl_Disk_used.mono_l : ∀ k, (∀ y0 y1 y2 y3, LeO (impl_Disk_used.l0 k y0 y1 y2 y3) (impl_Disk_used.l0 (k + 1) y0 y1 y2 y3))
 | 0 => fun _ _ _ _ r h => by simp [impl_Disk_used.l0] at h
 | k + 1 => by
  have ih0 := impl_Disk_used.mono_l k
  ·intro y0 y1 y2 y3
   unfold impl_Disk_used.l0
   repeat' first
   | (with_reducible exact ih0 _ _ _ _)
   | (with_reducible exact LeO.refl _)
   | (with_reducible exact LeO.none _)
   | (with_reducible refine LeO.ite ?_ ?_)
   | (with_reducible refine LeO.bind ?_ (fun _ => ?_))
   | exact ih0 _ _ _ _
   | exact LeO.none _
   | refine LeO.ite ?_ ?_
   | refine LeO.bind ?_ (fun _ => ?_)
theorem impl_Disk_used.mono : ∀ a0 a1 k, LeO (impl_Disk_used.f k a0 a1) (impl_Disk_used.f (k + 1) a0 a1) := by
 intro a0 a1 k;have ih0 := impl_Disk_used.mono_l k
 unfold impl_Disk_used.f
 repeat' first
   | (with_reducible exact ih0 _ _ _ _)
   | (with_reducible exact LeO.refl _)
   | (with_reducible exact LeO.none _)
   | (with_reducible refine LeO.ite ?_ ?_)
   | (with_reducible refine LeO.bind ?_ (fun _ => ?_))
   | exact ih0 _ _ _ _
   | exact LeO.none _
   | refine LeO.ite ?_ ?_
   | refine LeO.bind ?_ (fun _ => ?_)
set_option maxHeartbeats 8000000 in
set_option maxRecDepth 100000 in
theorem impl_Disk_used.calls (k : Nat) (a0_0 : Int) (A0_1 : Option Addr) (c0_1 : Nat) (l0_1 : List (S69)) (r : Int) (w : World) (hr0_1 : Kd.C k69 w A0_1 l0_1.length l0_1) (hc0_1 : l0_1.length ≤ c0_1) (h : impl_Disk_used.f k a0_0 l0_1 = some r) :
  Calls Tryd.prog 57 #[.agg #[.int .i64 a0_0, .slice A0_1 l0_1.length c0_1]] w fun e w' => e = .returned (.int .i64 r) ∧ Below w.heap.size w w' := by
 have hu33 := Tryd.underlying33;have hu69 := Tryd.underlying69;have HR0_1 := aM hr0_1;have HC0_1 := aM hc0_1;clear hr0_1 hc0_1;have HB := aM (Below.refl w.heap.size w);have H : (impl_Disk_used.l0 k 0 l0_1 (l0_1.length : Int) 0) = some r := h;clear h;have H' := aM H;clear H
 go_enter Tryd.func57, Tryd.ntmps57
 go_wp2_with (first | ((with_reducible refine gate_dst (N := 1) rfl ?_); refine box_event ?hg (N := 1) ?hd (cs := #[.int .i64 a0_0, .slice A0_1 l0_1.length c0_1]) (t := 33) ?hr ?_; (case hd => rfl); (case hg => rfl); (case hr => first | (go_simp; done) | (go_simp; rfl)); intro gb270 hg w2 hbox hb; have BK270 := aM (hbox); have GW270 := aM ((by rw [hg]; exact (below_size (bM HB.o)) : w.heap.size ≤ gb270)); have GE270 := aM ((by rw [hg]; exact (below_size (bM HB.o)) : w.heap.size ≤ gb270)); replace HB := aM (below_step (bM HB.o) hb); clear hb hbox hg; have hcz3_0 := cL0 BK270.o; have hcz3_1 := cL1 BK270.o; have hfz3_0 := kF BK270.o 0; have hfz3_1 := kF BK270.o 1))
 go_loopg [3, 9] k (fun kq v3 v9 w' => ∃ (x3_1 : Int) (x9_1 : Int), v3 = .int .i64 x3_1 ∧ v9 = .int .i64 x9_1 ∧ Aside0 (impl_Disk_used.l0 kq x3_1 l0_1 (l0_1.length : Int) x9_1 = some r) ∧ Aside0 (kq ≤ k) ∧ Aside0 (w'.heap[gb270]? = some (.cells #[.int .i64 a0_0, (.slice A0_1 l0_1.length c0_1)] 33 (0, 0))) ∧ Aside0 (Below w.heap.size w w'))
 case atStart => exact ⟨(0), (0), (by first | rfl | (simp; done) | (simp [*]; done)), (by first | rfl | (simp; done) | (simp [*]; done)), H', ⟨Nat.le_refl _⟩, ⟨by (with_reducible repeat (first | refine kN ?_ _ | refine kD ?_ | refine kA ?_ _)); exact BK270.o⟩, ⟨by with_reducible repeat (first | exact HB.o | apply bA | apply bN | apply bD | refine bS ?_ GE270.o)⟩⟩
 case round =>
  clear H';obtain ⟨x3_1, x9_1, rfl, rfl, HA, HK1, BK270, HB⟩ := hrel
  cases gk with
  | zero => exact absurd HA.o (by simp [impl_Disk_used.l0])
  | succ k1 =>
   have H := HA.o;clear HA;simp only [impl_Disk_used.l0] at H
   by_cases c4 : x9_1 < (l0_1.length : Int)
   ·rw [if_pos c4] at H;have c4b0 : decide (x9_1 < (l0_1.length : Int)) = true := decide_eq_true c4;clear c4
    by_cases c5 : 0 ≤ x9_1
    ·rw [if_pos c5] at H;have c5b0 : decide (0 ≤ x9_1) = true := decide_eq_true c5;clear c5
     by_cases c6 : x9_1 < (l0_1.length : Int)
     ·rw [if_pos c6] at H;have c6b0 : decide (x9_1 < (l0_1.length : Int)) = true := decide_eq_true c6;clear c6;have H' := aM H;clear H;have p271 : 0 ≤ (x9_1 : Int) := oD;have q271 : x9_1 < (l0_1.length : Int) := oD;obtain ⟨ad271, e271, hx271_0, hx271_1, hx271_2⟩ := at_T69 HR0_1.o x9_1 p271 q271
      cases e271
      replace hx271_0 := (HB.o.cell (lC w _ hx271_0)).trans hx271_0;replace hx271_1 := (HB.o.cell (lC w _ hx271_1)).trans hx271_1;replace hx271_2 := (HB.o.cell (lC w _ hx271_2)).trans hx271_2;replace p271 := eq_true p271;replace q271 := eq_true q271
      go_wp2_with (first | ((with_reducible refine gate_dst (N := 5) rfl ?_); refine box_event ?hg (N := 5) ?hd (cs := #[.string (⟨#[]⟩ : ByteArray), .string (⟨#[]⟩ : ByteArray), .int .i64 0]) (t := 69) ?hr ?_; (case hd => rfl); (case hg => rfl); (case hr => first | (go_simp; done) | (go_simp; rfl)); intro gb272 hg w7 hbox hb; have BK272 := aM (hbox); have GW272 := aM ((by rw [hg]; exact (below_size (by with_reducible repeat (first | exact HB.o | apply bA | apply bN | apply bD | refine bS ?_ GE270.o))) : w.heap.size ≤ gb272)); have GE272 := aM ((by rw [hg]; exact (below_size (by with_reducible repeat (first | exact HB.o | apply bA | apply bN | apply bD | refine bS ?_ GE270.o))) : w.heap.size ≤ gb272)); replace HB := aM (below_step (by with_reducible repeat (first | exact HB.o | apply bA | apply bN | apply bD | refine bS ?_ GE270.o)) hb); have NB270_272 := aM ((by rw [hg]; exact Nat.ne_of_lt (blk_lt (g := gb270) (o := .cells #[.int .i64 a0_0, .slice (some ad271) l0_1.length c0_1] 33 (0, 0)) (kM BK270.o)) : gb270 ≠ gb272)); have NB272_270 := aM ((by rw [hg]; exact Nat.ne_of_gt (blk_lt (g := gb270) (o := .cells #[.int .i64 a0_0, .slice (some ad271) l0_1.length c0_1] 33 (0, 0)) (kM BK270.o)) : gb272 ≠ gb270)); replace BK270 := aM (blk_below (kM BK270.o) hb); clear hb hbox hg; have hnb8 := NB272_270.o; have hnc8 := NB270_272.o; have hcz9_0 := cL0 BK272.o; have hcz9_1 := cL1 BK272.o; have hcz9_2 := cL2 BK272.o; have hfz9_0 := kF BK272.o 0; have hfz9_1 := kF BK272.o 1; have hfz9_2 := kF BK272.o 2))
      go_roundg k1
      case measure => have := HK1.o; omega
      case rel => exact ⟨(wrap64 (x3_1 + (((rd_T69 l0_1 x9_1).f1).size : Int))), (wrap64 (x9_1 + 1)), (by first | rfl | (simp; done) | (simp [*]; done)), (by first | rfl | (simp; done) | (simp [*]; done)), H', ⟨by have := HK1.o; omega⟩, ⟨by (with_reducible repeat (first | refine kN ?_ _ | refine kD ?_ | refine kA ?_ _)); refine blk_far ?_ NB270_272.o _; (with_reducible repeat (first | refine kN ?_ _ | refine kD ?_ | refine kA ?_ _)); refine blk_far ?_ NB270_272.o _; (with_reducible repeat (first | refine kN ?_ _ | refine kD ?_ | refine kA ?_ _)); refine blk_far ?_ NB270_272.o _; (with_reducible repeat (first | refine kN ?_ _ | refine kD ?_ | refine kA ?_ _)); exact BK270.o⟩, ⟨by with_reducible repeat (first | exact HB.o | apply bA | apply bN | apply bD | refine bS ?_ GE270.o | refine bS ?_ GE272.o)⟩⟩
     ·rw [if_neg c6] at H;exact absurd H (by simp)
    ·rw [if_neg c5] at H;exact absurd H (by simp)
   ·rw [if_neg c4] at H;have c4b0 : decide (x9_1 < (l0_1.length : Int)) = false := decide_eq_false c4;clear c4;obtain rfl := Option.some.inj H
    go_wp2
    go_ret
    exact ⟨by first | rfl | (simp [zE] <;> rfl) | (simp [*, zE] <;> rfl), by with_reducible repeat (first | exact HB.o | apply bA | apply bN | apply bD | refine bS ?_ GE270.o)⟩
def impl_NameOK.l0 : Nat → ByteArray → Int → Int → Option (Bool)
 | 0, _, _, _ => none
 | k + 1, x0, x7, x8 => if x8 < x7 then (if 0 ≤ x8 then (if x8 < (x0.size : Int) then (if (bt x0 x8) ≥ 97 then (if (bt x0 x8) ≤ 122 then (impl_NameOK.l0 k x0 x7 (wrap64 (x8 + 1))) else (if (bt x0 x8) ≥ 65 then (if (bt x0 x8) ≤ 90 then (impl_NameOK.l0 k x0 x7 (wrap64 (x8 + 1))) else (if ((bt x0 x8) = 95) then (impl_NameOK.l0 k x0 x7 (wrap64 (x8 + 1))) else (if x8 = 0 then (some false) else (if (bt x0 x8) < 48 then (some false) else (if (bt x0 x8) > 57 then (some false) else (impl_NameOK.l0 k x0 x7 (wrap64 (x8 + 1)))))))) else (if ((bt x0 x8) = 95) then (impl_NameOK.l0 k x0 x7 (wrap64 (x8 + 1))) else (if x8 = 0 then (some false) else (if (bt x0 x8) < 48 then (some false) else (if (bt x0 x8) > 57 then (some false) else (impl_NameOK.l0 k x0 x7 (wrap64 (x8 + 1))))))))) else (if (bt x0 x8) ≥ 65 then (if (bt x0 x8) ≤ 90 then (impl_NameOK.l0 k x0 x7 (wrap64 (x8 + 1))) else (if ((bt x0 x8) = 95) then (impl_NameOK.l0 k x0 x7 (wrap64 (x8 + 1))) else (if x8 = 0 then (some false) else (if (bt x0 x8) < 48 then (some false) else (if (bt x0 x8) > 57 then (some false) else (impl_NameOK.l0 k x0 x7 (wrap64 (x8 + 1)))))))) else (if ((bt x0 x8) = 95) then (impl_NameOK.l0 k x0 x7 (wrap64 (x8 + 1))) else (if x8 = 0 then (some false) else (if (bt x0 x8) < 48 then (some false) else (if (bt x0 x8) > 57 then (some false) else (impl_NameOK.l0 k x0 x7 (wrap64 (x8 + 1))))))))) else (none)) else (none)) else ((impl_within.f (x0.size : Int) 1 40).bind fun t273 => (some t273))
def impl_NameOK.f (k : Nat) (a0 : ByteArray) : Option (Bool) := impl_NameOK.l0 k a0 (a0.size : Int) 0
theorem impl_NameOK.mono_l : ∀ k, (∀ y0 y1 y2, LeO (impl_NameOK.l0 k y0 y1 y2) (impl_NameOK.l0 (k + 1) y0 y1 y2))
 | 0 => fun _ _ _ r h => by simp [impl_NameOK.l0] at h
 | k + 1 => by
  have ih0 := impl_NameOK.mono_l k
  ·intro y0 y1 y2
   unfold impl_NameOK.l0
   repeat' first
   | (with_reducible exact ih0 _ _ _)
   | (with_reducible exact LeO.refl _)
   | (with_reducible exact LeO.none _)
   | (with_reducible refine LeO.ite ?_ ?_)
   | (with_reducible refine LeO.bind ?_ (fun _ => ?_))
   | exact ih0 _ _ _
   | exact LeO.none _
   | refine LeO.ite ?_ ?_
   | refine LeO.bind ?_ (fun _ => ?_)
theorem impl_NameOK.mono : ∀ a0 k, LeO (impl_NameOK.f k a0) (impl_NameOK.f (k + 1) a0) := by
 intro a0 k;have ih0 := impl_NameOK.mono_l k
 unfold impl_NameOK.f
 repeat' first
   | (with_reducible exact ih0 _ _ _)
   | (with_reducible exact LeO.refl _)
   | (with_reducible exact LeO.none _)
   | (with_reducible refine LeO.ite ?_ ?_)
   | (with_reducible refine LeO.bind ?_ (fun _ => ?_))
   | exact ih0 _ _ _
   | exact LeO.none _
   | refine LeO.ite ?_ ?_
   | refine LeO.bind ?_ (fun _ => ?_)
set_option maxHeartbeats 8000000 in
set_option maxRecDepth 100000 in
theorem impl_NameOK.calls (k : Nat) (a0 : ByteArray) (r : Bool) (w : World) (h : impl_NameOK.f k a0 = some r) :
  Calls Tryd.prog 58 #[.string a0] w fun e w' => e = .returned (.bool r) ∧ Drawn0 w w' := by
 have H : (impl_NameOK.l0 k a0 (a0.size : Int) 0) = some r := h;clear h;have H' := aM H;clear H
 go_enter Tryd.func58, Tryd.ntmps58
 go_wp2
 go_loopg [8] k (fun kq v8 w' => ∃ (x8_1 : Int), v8 = .int .i64 x8_1 ∧ Aside0 (impl_NameOK.l0 kq a0 (a0.size : Int) x8_1 = some r) ∧ Aside0 (kq ≤ k) ∧ Drawn0 w w')
 case atStart => exact ⟨(0), (by first | rfl | (simp; done) | (simp [*]; done)), H', ⟨Nat.le_refl _⟩, by repeat (first | exact Drawn0.refl _ | apply Drawn0.step)⟩
 case round =>
  clear H';obtain ⟨x8_1, rfl, HA, HK1, ⟨m1, rfl⟩⟩ := hrel
  cases gk with
  | zero => exact absurd HA.o (by simp [impl_NameOK.l0])
  | succ k1 =>
   have H := HA.o;clear HA;simp only [impl_NameOK.l0] at H
   by_cases c2 : x8_1 < (a0.size : Int)
   ·rw [if_pos c2] at H;have c2b0 : decide (x8_1 < (a0.size : Int)) = true := decide_eq_true c2;clear c2
    by_cases c3 : 0 ≤ x8_1
    ·rw [if_pos c3] at H;have c3b0 : decide (0 ≤ x8_1) = true := decide_eq_true c3;clear c3
     by_cases c4 : x8_1 < (a0.size : Int)
     ·rw [if_pos c4] at H;have c4b0 : decide (x8_1 < (a0.size : Int)) = true := decide_eq_true c4;clear c4
      by_cases c6 : (bt a0 x8_1) ≥ 97
      ·rw [if_pos c6] at H;have c6b0 : decide (97 ≤ (bt a0 x8_1)) = true := decide_eq_true c6;clear c6
       by_cases c7 : (bt a0 x8_1) ≤ 122
       ·rw [if_pos c7] at H;have c7b0 : decide ((bt a0 x8_1) ≤ 122) = true := decide_eq_true c7;clear c7;have H' := aM H;clear H;have p5 : 0 ≤ (x8_1 : Int) := oD;have q5 : x8_1 < (a0.size : Int) := oD;have hx5 := bt_at a0 x8_1;replace p5 := eq_true p5;replace q5 := eq_true q5
        go_wp2
        go_roundg k1
        case measure => have := HK1.o; omega
        case rel => exact ⟨(wrap64 (x8_1 + 1)), (by first | rfl | (simp; done) | (simp [*]; done)), H', ⟨by have := HK1.o; omega⟩, by repeat (first | exact Drawn0.refl _ | apply Drawn0.step)⟩
       ·rw [if_neg c7] at H;have c7b0 : decide ((bt a0 x8_1) ≤ 122) = false := decide_eq_false c7;clear c7
        by_cases c8 : (bt a0 x8_1) ≥ 65
        ·rw [if_pos c8] at H;have c8b0 : decide (65 ≤ (bt a0 x8_1)) = true := decide_eq_true c8;clear c8
         by_cases c9 : (bt a0 x8_1) ≤ 90
         ·rw [if_pos c9] at H;have c9b0 : decide ((bt a0 x8_1) ≤ 90) = true := decide_eq_true c9;clear c9;have H' := aM H;clear H;have p5 : 0 ≤ (x8_1 : Int) := oD;have q5 : x8_1 < (a0.size : Int) := oD;have hx5 := bt_at a0 x8_1;replace p5 := eq_true p5;replace q5 := eq_true q5
          go_wp2
          go_roundg k1
          case measure => have := HK1.o; omega
          case rel => exact ⟨(wrap64 (x8_1 + 1)), (by first | rfl | (simp; done) | (simp [*]; done)), H', ⟨by have := HK1.o; omega⟩, by repeat (first | exact Drawn0.refl _ | apply Drawn0.step)⟩
         ·rw [if_neg c9] at H;have c9b0 : decide ((bt a0 x8_1) ≤ 90) = false := decide_eq_false c9;clear c9
          by_cases c10 : ((bt a0 x8_1) = 95)
          ·rw [if_pos c10] at H;have c10b0 : ((bt a0 x8_1) == 95) = true := beq_iff_eq.mpr c10;have c10b1 : ((bt a0 x8_1) != 95) = false := bne_eq_false_iff_eq.mpr c10;clear c10;have H' := aM H;clear H;have p5 : 0 ≤ (x8_1 : Int) := oD;have q5 : x8_1 < (a0.size : Int) := oD;have hx5 := bt_at a0 x8_1;replace p5 := eq_true p5;replace q5 := eq_true q5
           go_wp2
           go_roundg k1
           case measure => have := HK1.o; omega
           case rel => exact ⟨(wrap64 (x8_1 + 1)), (by first | rfl | (simp; done) | (simp [*]; done)), H', ⟨by have := HK1.o; omega⟩, by repeat (first | exact Drawn0.refl _ | apply Drawn0.step)⟩
          ·rw [if_neg c10] at H;have c10b0 : ((bt a0 x8_1) == 95) = false := beq_eq_false_iff_ne.mpr c10;have c10b1 : ((bt a0 x8_1) != 95) = true := bne_iff_ne.mpr c10
           by_cases c11 : x8_1 = 0
           ·rw [if_pos c11] at H;have c11b0 : (x8_1 == 0) = true := beq_iff_eq.mpr c11;have c11b1 : (x8_1 != 0) = false := bne_eq_false_iff_eq.mpr c11;clear c11;obtain rfl := Option.some.inj H;have p5 : 0 ≤ (x8_1 : Int) := oD;have q5 : x8_1 < (a0.size : Int) := oD;have hx5 := bt_at a0 x8_1;replace p5 := eq_true p5;replace q5 := eq_true q5
            go_wp2
            go_ret
            exact ⟨by first | rfl | (simp; done) | (simp [*]; done), by repeat (first | exact Drawn0.refl _ | apply Drawn0.step)⟩
           ·rw [if_neg c11] at H;have c11b0 : (x8_1 == 0) = false := beq_eq_false_iff_ne.mpr c11;have c11b1 : (x8_1 != 0) = true := bne_iff_ne.mpr c11
            by_cases c12 : (bt a0 x8_1) < 48
            ·rw [if_pos c12] at H;have c12b0 : decide ((bt a0 x8_1) < 48) = true := decide_eq_true c12;clear c12;obtain rfl := Option.some.inj H;have p5 : 0 ≤ (x8_1 : Int) := oD;have q5 : x8_1 < (a0.size : Int) := oD;have hx5 := bt_at a0 x8_1;replace p5 := eq_true p5;replace q5 := eq_true q5
             go_wp2
             go_ret
             exact ⟨by first | rfl | (simp; done) | (simp [*]; done), by repeat (first | exact Drawn0.refl _ | apply Drawn0.step)⟩
            ·rw [if_neg c12] at H;have c12b0 : decide ((bt a0 x8_1) < 48) = false := decide_eq_false c12;clear c12
             by_cases c13 : (bt a0 x8_1) > 57
             ·rw [if_pos c13] at H;have c13b0 : decide (57 < (bt a0 x8_1)) = true := decide_eq_true c13;clear c13;obtain rfl := Option.some.inj H;have p5 : 0 ≤ (x8_1 : Int) := oD;have q5 : x8_1 < (a0.size : Int) := oD;have hx5 := bt_at a0 x8_1;replace p5 := eq_true p5;replace q5 := eq_true q5
              go_wp2
              go_ret
              exact ⟨by first | rfl | (simp; done) | (simp [*]; done), by repeat (first | exact Drawn0.refl _ | apply Drawn0.step)⟩
             ·rw [if_neg c13] at H;have c13b0 : decide (57 < (bt a0 x8_1)) = false := decide_eq_false c13;clear c13;have H' := aM H;clear H;have p5 : 0 ≤ (x8_1 : Int) := oD;have q5 : x8_1 < (a0.size : Int) := oD;have hx5 := bt_at a0 x8_1;replace p5 := eq_true p5;replace q5 := eq_true q5
              go_wp2
              go_roundg k1
              case measure => have := HK1.o; omega
              case rel => exact ⟨(wrap64 (x8_1 + 1)), (by first | rfl | (simp; done) | (simp [*]; done)), H', ⟨by have := HK1.o; omega⟩, by repeat (first | exact Drawn0.refl _ | apply Drawn0.step)⟩
        ·rw [if_neg c8] at H;have c8b0 : decide (65 ≤ (bt a0 x8_1)) = false := decide_eq_false c8;clear c8
         by_cases c14 : ((bt a0 x8_1) = 95)
         ·rw [if_pos c14] at H;have c14b0 : ((bt a0 x8_1) == 95) = true := beq_iff_eq.mpr c14;have c14b1 : ((bt a0 x8_1) != 95) = false := bne_eq_false_iff_eq.mpr c14;clear c14;have H' := aM H;clear H;have p5 : 0 ≤ (x8_1 : Int) := oD;have q5 : x8_1 < (a0.size : Int) := oD;have hx5 := bt_at a0 x8_1;replace p5 := eq_true p5;replace q5 := eq_true q5
          go_wp2
          go_roundg k1
          case measure => have := HK1.o; omega
          case rel => exact ⟨(wrap64 (x8_1 + 1)), (by first | rfl | (simp; done) | (simp [*]; done)), H', ⟨by have := HK1.o; omega⟩, by repeat (first | exact Drawn0.refl _ | apply Drawn0.step)⟩
         ·rw [if_neg c14] at H;have c14b0 : ((bt a0 x8_1) == 95) = false := beq_eq_false_iff_ne.mpr c14;have c14b1 : ((bt a0 x8_1) != 95) = true := bne_iff_ne.mpr c14
          by_cases c15 : x8_1 = 0
          ·rw [if_pos c15] at H;have c15b0 : (x8_1 == 0) = true := beq_iff_eq.mpr c15;have c15b1 : (x8_1 != 0) = false := bne_eq_false_iff_eq.mpr c15;clear c15;obtain rfl := Option.some.inj H;have p5 : 0 ≤ (x8_1 : Int) := oD;have q5 : x8_1 < (a0.size : Int) := oD;have hx5 := bt_at a0 x8_1;replace p5 := eq_true p5;replace q5 := eq_true q5
           go_wp2
           go_ret
           exact ⟨by first | rfl | (simp; done) | (simp [*]; done), by repeat (first | exact Drawn0.refl _ | apply Drawn0.step)⟩
          ·rw [if_neg c15] at H;have c15b0 : (x8_1 == 0) = false := beq_eq_false_iff_ne.mpr c15;have c15b1 : (x8_1 != 0) = true := bne_iff_ne.mpr c15
           by_cases c16 : (bt a0 x8_1) < 48
           ·rw [if_pos c16] at H;have c16b0 : decide ((bt a0 x8_1) < 48) = true := decide_eq_true c16;clear c16;obtain rfl := Option.some.inj H;have p5 : 0 ≤ (x8_1 : Int) := oD;have q5 : x8_1 < (a0.size : Int) := oD;have hx5 := bt_at a0 x8_1;replace p5 := eq_true p5;replace q5 := eq_true q5
            go_wp2
            go_ret
            exact ⟨by first | rfl | (simp; done) | (simp [*]; done), by repeat (first | exact Drawn0.refl _ | apply Drawn0.step)⟩
           ·rw [if_neg c16] at H;have c16b0 : decide ((bt a0 x8_1) < 48) = false := decide_eq_false c16;clear c16
            by_cases c17 : (bt a0 x8_1) > 57
            ·rw [if_pos c17] at H;have c17b0 : decide (57 < (bt a0 x8_1)) = true := decide_eq_true c17;clear c17;obtain rfl := Option.some.inj H;have p5 : 0 ≤ (x8_1 : Int) := oD;have q5 : x8_1 < (a0.size : Int) := oD;have hx5 := bt_at a0 x8_1;replace p5 := eq_true p5;replace q5 := eq_true q5
             go_wp2
             go_ret
             exact ⟨by first | rfl | (simp; done) | (simp [*]; done), by repeat (first | exact Drawn0.refl _ | apply Drawn0.step)⟩
            ·rw [if_neg c17] at H;have c17b0 : decide (57 < (bt a0 x8_1)) = false := decide_eq_false c17;clear c17;have H' := aM H;clear H;have p5 : 0 ≤ (x8_1 : Int) := oD;have q5 : x8_1 < (a0.size : Int) := oD;have hx5 := bt_at a0 x8_1;replace p5 := eq_true p5;replace q5 := eq_true q5
             go_wp2
             go_roundg k1
             case measure => have := HK1.o; omega
             case rel => exact ⟨(wrap64 (x8_1 + 1)), (by first | rfl | (simp; done) | (simp [*]; done)), H', ⟨by have := HK1.o; omega⟩, by repeat (first | exact Drawn0.refl _ | apply Drawn0.step)⟩
      ·rw [if_neg c6] at H;have c6b0 : decide (97 ≤ (bt a0 x8_1)) = false := decide_eq_false c6;clear c6
       by_cases c18 : (bt a0 x8_1) ≥ 65
       ·rw [if_pos c18] at H;have c18b0 : decide (65 ≤ (bt a0 x8_1)) = true := decide_eq_true c18;clear c18
        by_cases c19 : (bt a0 x8_1) ≤ 90
        ·rw [if_pos c19] at H;have c19b0 : decide ((bt a0 x8_1) ≤ 90) = true := decide_eq_true c19;clear c19;have H' := aM H;clear H;have p5 : 0 ≤ (x8_1 : Int) := oD;have q5 : x8_1 < (a0.size : Int) := oD;have hx5 := bt_at a0 x8_1;replace p5 := eq_true p5;replace q5 := eq_true q5
         go_wp2
         go_roundg k1
         case measure => have := HK1.o; omega
         case rel => exact ⟨(wrap64 (x8_1 + 1)), (by first | rfl | (simp; done) | (simp [*]; done)), H', ⟨by have := HK1.o; omega⟩, by repeat (first | exact Drawn0.refl _ | apply Drawn0.step)⟩
        ·rw [if_neg c19] at H;have c19b0 : decide ((bt a0 x8_1) ≤ 90) = false := decide_eq_false c19;clear c19
         by_cases c20 : ((bt a0 x8_1) = 95)
         ·rw [if_pos c20] at H;have c20b0 : ((bt a0 x8_1) == 95) = true := beq_iff_eq.mpr c20;have c20b1 : ((bt a0 x8_1) != 95) = false := bne_eq_false_iff_eq.mpr c20;clear c20;have H' := aM H;clear H;have p5 : 0 ≤ (x8_1 : Int) := oD;have q5 : x8_1 < (a0.size : Int) := oD;have hx5 := bt_at a0 x8_1;replace p5 := eq_true p5;replace q5 := eq_true q5
          go_wp2
          go_roundg k1
          case measure => have := HK1.o; omega
          case rel => exact ⟨(wrap64 (x8_1 + 1)), (by first | rfl | (simp; done) | (simp [*]; done)), H', ⟨by have := HK1.o; omega⟩, by repeat (first | exact Drawn0.refl _ | apply Drawn0.step)⟩
         ·rw [if_neg c20] at H;have c20b0 : ((bt a0 x8_1) == 95) = false := beq_eq_false_iff_ne.mpr c20;have c20b1 : ((bt a0 x8_1) != 95) = true := bne_iff_ne.mpr c20
          by_cases c21 : x8_1 = 0
          ·rw [if_pos c21] at H;have c21b0 : (x8_1 == 0) = true := beq_iff_eq.mpr c21;have c21b1 : (x8_1 != 0) = false := bne_eq_false_iff_eq.mpr c21;clear c21;obtain rfl := Option.some.inj H;have p5 : 0 ≤ (x8_1 : Int) := oD;have q5 : x8_1 < (a0.size : Int) := oD;have hx5 := bt_at a0 x8_1;replace p5 := eq_true p5;replace q5 := eq_true q5
           go_wp2
           go_ret
           exact ⟨by first | rfl | (simp; done) | (simp [*]; done), by repeat (first | exact Drawn0.refl _ | apply Drawn0.step)⟩
          ·rw [if_neg c21] at H;have c21b0 : (x8_1 == 0) = false := beq_eq_false_iff_ne.mpr c21;have c21b1 : (x8_1 != 0) = true := bne_iff_ne.mpr c21
           by_cases c22 : (bt a0 x8_1) < 48
           ·rw [if_pos c22] at H;have c22b0 : decide ((bt a0 x8_1) < 48) = true := decide_eq_true c22;clear c22;obtain rfl := Option.some.inj H;have p5 : 0 ≤ (x8_1 : Int) := oD;have q5 : x8_1 < (a0.size : Int) := oD;have hx5 := bt_at a0 x8_1;replace p5 := eq_true p5;replace q5 := eq_true q5
            go_wp2
            go_ret
            exact ⟨by first | rfl | (simp; done) | (simp [*]; done), by repeat (first | exact Drawn0.refl _ | apply Drawn0.step)⟩
           ·rw [if_neg c22] at H;have c22b0 : decide ((bt a0 x8_1) < 48) = false := decide_eq_false c22;clear c22
            by_cases c23 : (bt a0 x8_1) > 57
            ·rw [if_pos c23] at H;have c23b0 : decide (57 < (bt a0 x8_1)) = true := decide_eq_true c23;clear c23;obtain rfl := Option.some.inj H;have p5 : 0 ≤ (x8_1 : Int) := oD;have q5 : x8_1 < (a0.size : Int) := oD;have hx5 := bt_at a0 x8_1;replace p5 := eq_true p5;replace q5 := eq_true q5
             go_wp2
             go_ret
             exact ⟨by first | rfl | (simp; done) | (simp [*]; done), by repeat (first | exact Drawn0.refl _ | apply Drawn0.step)⟩
            ·rw [if_neg c23] at H;have c23b0 : decide (57 < (bt a0 x8_1)) = false := decide_eq_false c23;clear c23;have H' := aM H;clear H;have p5 : 0 ≤ (x8_1 : Int) := oD;have q5 : x8_1 < (a0.size : Int) := oD;have hx5 := bt_at a0 x8_1;replace p5 := eq_true p5;replace q5 := eq_true q5
             go_wp2
             go_roundg k1
             case measure => have := HK1.o; omega
             case rel => exact ⟨(wrap64 (x8_1 + 1)), (by first | rfl | (simp; done) | (simp [*]; done)), H', ⟨by have := HK1.o; omega⟩, by repeat (first | exact Drawn0.refl _ | apply Drawn0.step)⟩
       ·rw [if_neg c18] at H;have c18b0 : decide (65 ≤ (bt a0 x8_1)) = false := decide_eq_false c18;clear c18
        by_cases c24 : ((bt a0 x8_1) = 95)
        ·rw [if_pos c24] at H;have c24b0 : ((bt a0 x8_1) == 95) = true := beq_iff_eq.mpr c24;have c24b1 : ((bt a0 x8_1) != 95) = false := bne_eq_false_iff_eq.mpr c24;clear c24;have H' := aM H;clear H;have p5 : 0 ≤ (x8_1 : Int) := oD;have q5 : x8_1 < (a0.size : Int) := oD;have hx5 := bt_at a0 x8_1;replace p5 := eq_true p5;replace q5 := eq_true q5
         go_wp2
         go_roundg k1
         case measure => have := HK1.o; omega
         case rel => exact ⟨(wrap64 (x8_1 + 1)), (by first | rfl | (simp; done) | (simp [*]; done)), H', ⟨by have := HK1.o; omega⟩, by repeat (first | exact Drawn0.refl _ | apply Drawn0.step)⟩
        ·rw [if_neg c24] at H;have c24b0 : ((bt a0 x8_1) == 95) = false := beq_eq_false_iff_ne.mpr c24;have c24b1 : ((bt a0 x8_1) != 95) = true := bne_iff_ne.mpr c24
         by_cases c25 : x8_1 = 0
         ·rw [if_pos c25] at H;have c25b0 : (x8_1 == 0) = true := beq_iff_eq.mpr c25;have c25b1 : (x8_1 != 0) = false := bne_eq_false_iff_eq.mpr c25;clear c25;obtain rfl := Option.some.inj H;have p5 : 0 ≤ (x8_1 : Int) := oD;have q5 : x8_1 < (a0.size : Int) := oD;have hx5 := bt_at a0 x8_1;replace p5 := eq_true p5;replace q5 := eq_true q5
          go_wp2
          go_ret
          exact ⟨by first | rfl | (simp; done) | (simp [*]; done), by repeat (first | exact Drawn0.refl _ | apply Drawn0.step)⟩
         ·rw [if_neg c25] at H;have c25b0 : (x8_1 == 0) = false := beq_eq_false_iff_ne.mpr c25;have c25b1 : (x8_1 != 0) = true := bne_iff_ne.mpr c25
          by_cases c26 : (bt a0 x8_1) < 48
          ·rw [if_pos c26] at H;have c26b0 : decide ((bt a0 x8_1) < 48) = true := decide_eq_true c26;clear c26;obtain rfl := Option.some.inj H;have p5 : 0 ≤ (x8_1 : Int) := oD;have q5 : x8_1 < (a0.size : Int) := oD;have hx5 := bt_at a0 x8_1;replace p5 := eq_true p5;replace q5 := eq_true q5
           go_wp2
           go_ret
           exact ⟨by first | rfl | (simp; done) | (simp [*]; done), by repeat (first | exact Drawn0.refl _ | apply Drawn0.step)⟩
          ·rw [if_neg c26] at H;have c26b0 : decide ((bt a0 x8_1) < 48) = false := decide_eq_false c26;clear c26
           by_cases c27 : (bt a0 x8_1) > 57
           ·rw [if_pos c27] at H;have c27b0 : decide (57 < (bt a0 x8_1)) = true := decide_eq_true c27;clear c27;obtain rfl := Option.some.inj H;have p5 : 0 ≤ (x8_1 : Int) := oD;have q5 : x8_1 < (a0.size : Int) := oD;have hx5 := bt_at a0 x8_1;replace p5 := eq_true p5;replace q5 := eq_true q5
            go_wp2
            go_ret
            exact ⟨by first | rfl | (simp; done) | (simp [*]; done), by repeat (first | exact Drawn0.refl _ | apply Drawn0.step)⟩
           ·rw [if_neg c27] at H;have c27b0 : decide (57 < (bt a0 x8_1)) = false := decide_eq_false c27;clear c27;have H' := aM H;clear H;have p5 : 0 ≤ (x8_1 : Int) := oD;have q5 : x8_1 < (a0.size : Int) := oD;have hx5 := bt_at a0 x8_1;replace p5 := eq_true p5;replace q5 := eq_true q5
            go_wp2
            go_roundg k1
            case measure => have := HK1.o; omega
            case rel => exact ⟨(wrap64 (x8_1 + 1)), (by first | rfl | (simp; done) | (simp [*]; done)), H', ⟨by have := HK1.o; omega⟩, by repeat (first | exact Drawn0.refl _ | apply Drawn0.step)⟩
     ·rw [if_neg c4] at H;exact absurd H (by simp)
    ·rw [if_neg c3] at H;exact absurd H (by simp)
   ·rw [if_neg c2] at H;have c2b0 : decide (x8_1 < (a0.size : Int)) = false := decide_eq_false c2;clear c2;obtain ⟨t273, A28, H⟩ := bX H;(try dsimp only at H);obtain rfl := Option.some.inj H
    go_wp2_with (first | ((with_reducible refine gate_callee (f := 56) rfl ?_); refine goesL_ (some 49) rfl rfl Tryd.func56 (by kernel_rfl) rfl #[.int .i64 (a0.size : Int), .int .i64 1, .int .i64 40] rfl (by (try simp only [zM]); first | done | rfl | (simp only [zL]; rfl)) ?_; (with_reducible refine (impl_within.calls (a0.size : Int) 1 40 t273 _ A28.o).mono ?_); rintro e w' ⟨rfl, ⟨nd, rfl⟩⟩; refine ⟨_, rfl, ?_⟩))
    go_ret
    exact ⟨by first | rfl | (simp; done) | (simp [*]; done), by repeat (first | exact Drawn0.refl _ | apply Drawn0.step)⟩
end Go.Proofs.YtpdhfoegbannkaaDoor.PFnExactWalPlan
