import Derived.Test.YtpdhfoegbannkaaDoorMFnExactWalPlanPx0
namespace Go.Proofs.YtpdhfoegbannkaaDoor.PFnExactWalPlan
open Go.RowKit Go.Proofs.YtpdhfoegbannkaaDoorW.PrintWords Go.Proofs.YtpdhfoegbannkaaDoorW.PrintLast Go.Proofs.YtpdhfoegbannkaaDoorW.PrintMore
attribute [local go_sem] max2_int min2_int max_two min_two max_three min_three max_four min_four
set_option linter.unusedVariables false
set_option linter.unusedSimpArgs false
def laws_szFile.f (a0_0 : ByteArray) (a0_1 : ByteArray) (a0_2 : Int) (a1 : Int) : Option (Int) := if (wrap64 (a1 - (a0_0.size : Int))) < 0 then (some (-1)) else (if (wrap64 ((wrap64 (a1 - (a0_0.size : Int))) - (a0_1.size : Int))) < 0 then (some (-1)) else (some (wrap64 ((wrap64 (a1 - (a0_0.size : Int))) - (a0_1.size : Int)))))
set_option maxHeartbeats 8000000 in
set_option maxRecDepth 100000 in
theorem laws_szFile.calls (a0_0 : ByteArray) (a0_1 : ByteArray) (a0_2 : Int) (a1 : Int) (r : Int) (w : World) (h : laws_szFile.f a0_0 a0_1 a0_2 a1 = some r) :
  Calls Tryd.prog 46 #[.agg #[.string a0_0, .string a0_1, .int .i64 a0_2], .int .i64 a1] w fun e w' => e = .returned (.int .i64 r) ∧ Below w.heap.size w w' := by
 have hu67 := Tryd.underlying67;have HB := aM (Below.refl w.heap.size w);have H : (if (wrap64 (a1 - (a0_0.size : Int))) < 0 then (some (-1)) else (if (wrap64 ((wrap64 (a1 - (a0_0.size : Int))) - (a0_1.size : Int))) < 0 then (some (-1)) else (some (wrap64 ((wrap64 (a1 - (a0_0.size : Int))) - (a0_1.size : Int)))))) = some r := h;clear h
 by_cases c3 : (wrap64 (a1 - (a0_0.size : Int))) < 0
 ·rw [if_pos c3] at H;have c3b0 : decide ((wrap64 (a1 - (a0_0.size : Int))) < 0) = true := decide_eq_true c3;clear c3;obtain rfl := Option.some.inj H
  go_enter Tryd.func46, Tryd.ntmps46
  go_wp2_with (first | ((with_reducible refine gate_dst (N := 2) rfl ?_); refine box_event ?hg (N := 2) ?hd (cs := #[.string a0_0, .string a0_1, .int .i64 a0_2]) (t := 67) ?hr ?_; (case hd => rfl); (case hg => rfl); (case hr => first | (go_simp; done) | (go_simp; rfl)); intro gb101 hg w4 hbox hb; have BK101 := aM (hbox); have GW101 := aM ((by rw [hg]; exact (below_size (bM HB.o)) : w.heap.size ≤ gb101)); have GE101 := aM ((by rw [hg]; exact (below_size (bM HB.o)) : w.heap.size ≤ gb101)); replace HB := aM (below_step (bM HB.o) hb); clear hb hbox hg; have hcz5_0 := cL0 BK101.o; have hcz5_1 := cL1 BK101.o; have hcz5_2 := cL2 BK101.o; have hfz5_0 := kF BK101.o 0; have hfz5_1 := kF BK101.o 1; have hfz5_2 := kF BK101.o 2))
  go_ret
  exact ⟨by first | rfl | (simp [zE] <;> rfl) | (simp [*, zE] <;> rfl), by with_reducible repeat (first | exact HB.o | apply bA | apply bN | apply bD | refine bS ?_ GE101.o)⟩
 ·rw [if_neg c3] at H;have c3b0 : decide ((wrap64 (a1 - (a0_0.size : Int))) < 0) = false := decide_eq_false c3;clear c3
  by_cases c6 : (wrap64 ((wrap64 (a1 - (a0_0.size : Int))) - (a0_1.size : Int))) < 0
  ·rw [if_pos c6] at H;have c6b0 : decide ((wrap64 ((wrap64 (a1 - (a0_0.size : Int))) - (a0_1.size : Int))) < 0) = true := decide_eq_true c6;clear c6;obtain rfl := Option.some.inj H
   go_enter Tryd.func46, Tryd.ntmps46
   go_wp2_with (first | ((with_reducible refine gate_dst (N := 2) rfl ?_); refine box_event ?hg (N := 2) ?hd (cs := #[.string a0_0, .string a0_1, .int .i64 a0_2]) (t := 67) ?hr ?_; (case hd => rfl); (case hg => rfl); (case hr => first | (go_simp; done) | (go_simp; rfl)); intro gb101 hg w7 hbox hb; have BK101 := aM (hbox); have GW101 := aM ((by rw [hg]; exact (below_size (bM HB.o)) : w.heap.size ≤ gb101)); have GE101 := aM ((by rw [hg]; exact (below_size (bM HB.o)) : w.heap.size ≤ gb101)); replace HB := aM (below_step (bM HB.o) hb); clear hb hbox hg; have hcz8_0 := cL0 BK101.o; have hcz8_1 := cL1 BK101.o; have hcz8_2 := cL2 BK101.o; have hfz8_0 := kF BK101.o 0; have hfz8_1 := kF BK101.o 1; have hfz8_2 := kF BK101.o 2))
   go_ret
   exact ⟨by first | rfl | (simp [zE] <;> rfl) | (simp [*, zE] <;> rfl), by with_reducible repeat (first | exact HB.o | apply bA | apply bN | apply bD | refine bS ?_ GE101.o)⟩
  ·rw [if_neg c6] at H;have c6b0 : decide ((wrap64 ((wrap64 (a1 - (a0_0.size : Int))) - (a0_1.size : Int))) < 0) = false := decide_eq_false c6;clear c6;obtain rfl := Option.some.inj H
   go_enter Tryd.func46, Tryd.ntmps46
   go_wp2_with (first | ((with_reducible refine gate_dst (N := 2) rfl ?_); refine box_event ?hg (N := 2) ?hd (cs := #[.string a0_0, .string a0_1, .int .i64 a0_2]) (t := 67) ?hr ?_; (case hd => rfl); (case hg => rfl); (case hr => first | (go_simp; done) | (go_simp; rfl)); intro gb101 hg w9 hbox hb; have BK101 := aM (hbox); have GW101 := aM ((by rw [hg]; exact (below_size (bM HB.o)) : w.heap.size ≤ gb101)); have GE101 := aM ((by rw [hg]; exact (below_size (bM HB.o)) : w.heap.size ≤ gb101)); replace HB := aM (below_step (bM HB.o) hb); clear hb hbox hg; have hcz10_0 := cL0 BK101.o; have hcz10_1 := cL1 BK101.o; have hcz10_2 := cL2 BK101.o; have hfz10_0 := kF BK101.o 0; have hfz10_1 := kF BK101.o 1; have hfz10_2 := kF BK101.o 2))
   go_ret
   exact ⟨by first | rfl | (simp [zE] <;> rfl) | (simp [*, zE] <;> rfl), by with_reducible repeat (first | exact HB.o | apply bA | apply bN | apply bD | refine bS ?_ GE101.o)⟩
def laws_szFileS.l0 : Nat → List (S67) → Int → Int → Option (Int)
 | 0, _, _, _ => none
 | k + 1, x0, x1, x5 => if x5 < (x0.length : Int) then (if 0 ≤ x5 then ((laws_szFile.f ((rd_T67 x0 x5).f0) ((rd_T67 x0 x5).f1) ((rd_T67 x0 x5).f2) x1).bind fun t103 => (if t103 < 0 then (some (-1)) else (laws_szFileS.l0 k x0 t103 (wrap64 (x5 + 1))))) else (none)) else (some x1)
def laws_szFileS.f (k : Nat) (l0 : List (S67)) (a1 : Int) : Option (Int) := if (wrap64 (a1 - (l0.length : Int))) < 0 then (some (-1)) else (laws_szFileS.l0 k l0 (wrap64 (a1 - (l0.length : Int))) 0)
theorem laws_szFileS.mono_l : ∀ k, (∀ y0 y1 y2, LeO (laws_szFileS.l0 k y0 y1 y2) (laws_szFileS.l0 (k + 1) y0 y1 y2))
 | 0 => fun _ _ _ r h => by simp [laws_szFileS.l0] at h
 | k + 1 => by
  have ih0 := laws_szFileS.mono_l k
  ·intro y0 y1 y2
   unfold laws_szFileS.l0
   repeat' first
   | (with_reducible exact ih0 _ _ _)
   | (with_reducible exact LeO.refl _)
   | (with_reducible exact LeO.none _)
   | (with_reducible refine LeO.ite ?_ ?_)
   | (with_reducible refine LeO.bind ?_ (fun _ => ?_))
   | exact ih0 _ _ _
   | exact LeO.none _
   | refine LeO.ite ?_ ?_
   | refine LeO.bind ?_ (fun _ => ?_)
theorem laws_szFileS.mono : ∀ a0 a1 k, LeO (laws_szFileS.f k a0 a1) (laws_szFileS.f (k + 1) a0 a1) := by
 intro a0 a1 k;have ih0 := laws_szFileS.mono_l k
 unfold laws_szFileS.f
 repeat' first
   | (with_reducible exact ih0 _ _ _)
   | (with_reducible exact LeO.refl _)
   | (with_reducible exact LeO.none _)
   | (with_reducible refine LeO.ite ?_ ?_)
   | (with_reducible refine LeO.bind ?_ (fun _ => ?_))
   | exact ih0 _ _ _
   | exact LeO.none _
   | refine LeO.ite ?_ ?_
   | refine LeO.bind ?_ (fun _ => ?_)
set_option maxHeartbeats 8000000 in
set_option maxRecDepth 100000 in
theorem laws_szFileS.calls (k : Nat) (A0 : Option Addr) (c0 : Nat) (l0 : List (S67)) (a1 : Int) (r : Int) (w : World) (hr0 : Kd.C k67 w A0 l0.length l0) (hc0 : l0.length ≤ c0) (h : laws_szFileS.f k l0 a1 = some r) :
  Calls Tryd.prog 23 #[.slice A0 l0.length c0, .int .i64 a1] w fun e w' => e = .returned (.int .i64 r) ∧ Below w.heap.size w w' := by
 have hu67 := Tryd.underlying67;have HR0 := aM hr0;have HC0 := aM hc0;clear hr0 hc0;have HB := aM (Below.refl w.heap.size w);have H : (if (wrap64 (a1 - (l0.length : Int))) < 0 then (some (-1)) else (laws_szFileS.l0 k l0 (wrap64 (a1 - (l0.length : Int))) 0)) = some r := h;clear h
 by_cases c3 : (wrap64 (a1 - (l0.length : Int))) < 0
 ·rw [if_pos c3] at H;have c3b0 : decide ((wrap64 (a1 - (l0.length : Int))) < 0) = true := decide_eq_true c3;clear c3;obtain rfl := Option.some.inj H
  go_enter Tryd.func23, Tryd.ntmps23
  go_wp2
  go_ret
  exact ⟨by first | rfl | (simp [zE] <;> rfl) | (simp [*, zE] <;> rfl), bM HB.o⟩
 ·rw [if_neg c3] at H;have c3b0 : decide ((wrap64 (a1 - (l0.length : Int))) < 0) = false := decide_eq_false c3;clear c3;have H' := aM H;clear H
  go_enter Tryd.func23, Tryd.ntmps23
  go_wp2
  go_loopg [1, 5] k (fun kq v1 v5 w' => ∃ (x1_1 : Int) (x5_1 : Int), v1 = .int .i64 x1_1 ∧ v5 = .int .i64 x5_1 ∧ Aside0 (laws_szFileS.l0 kq l0 x1_1 x5_1 = some r) ∧ Aside0 (kq ≤ k) ∧ Aside0 (Below w.heap.size w w'))
  case atStart => exact ⟨(wrap64 (a1 - (l0.length : Int))), (0), (by first | rfl | (simp; done) | (simp [*]; done)), (by first | rfl | (simp; done) | (simp [*]; done)), H', ⟨Nat.le_refl _⟩, ⟨bM HB.o⟩⟩
  case round =>
   clear H';obtain ⟨x1_1, x5_1, rfl, rfl, HA, HK1, HB⟩ := hrel
   cases gk with
   | zero => exact absurd HA.o (by simp [laws_szFileS.l0])
   | succ k1 =>
    have H := HA.o;clear HA;simp only [laws_szFileS.l0] at H
    by_cases c4 : x5_1 < (l0.length : Int)
    ·rw [if_pos c4] at H;have c4b0 : decide (x5_1 < (l0.length : Int)) = true := decide_eq_true c4;clear c4
     by_cases c5 : 0 ≤ x5_1
     ·rw [if_pos c5] at H;have c5b0 : decide (0 ≤ x5_1) = true := decide_eq_true c5;clear c5;obtain ⟨t103, A6, H⟩ := bX H;(try dsimp only at H)
      by_cases c7 : t103 < 0
      ·rw [if_pos c7] at H;have c7b0 : decide (t103 < 0) = true := decide_eq_true c7;clear c7;obtain rfl := Option.some.inj H;have p102 : 0 ≤ (x5_1 : Int) := oD;have q102 : x5_1 < (l0.length : Int) := oD;obtain ⟨ad102, e102, hx102_0, hx102_1, hx102_2⟩ := at_T67 HR0.o x5_1 p102 q102
       cases e102
       replace hx102_0 := (HB.o.cell (lC w _ hx102_0)).trans hx102_0;replace hx102_1 := (HB.o.cell (lC w _ hx102_1)).trans hx102_1;replace hx102_2 := (HB.o.cell (lC w _ hx102_2)).trans hx102_2;replace p102 := eq_true p102;replace q102 := eq_true q102
       go_wp2_with (first | ((with_reducible refine gate_callee (f := 46) rfl ?_); refine goesL_ (some 23) rfl rfl Tryd.func46 (by kernel_rfl) rfl #[.agg #[.string ((rd_T67 l0 x5_1).f0), .string ((rd_T67 l0 x5_1).f1), .int .i64 ((rd_T67 l0 x5_1).f2)], .int .i64 x1_1] rfl (by (try simp only [zM]); first | done | rfl | (simp only [zL]; rfl)) ?_; (with_reducible refine (laws_szFile.calls ((rd_T67 l0 x5_1).f0) ((rd_T67 l0 x5_1).f1) ((rd_T67 l0 x5_1).f2) x1_1 t103 _ A6.o).mono ?_); rintro e w8 ⟨rfl, hb⟩; refine ⟨_, rfl, ?_⟩; replace HB := aM (below_step (bM HB.o) hb); (try clear hb); skip))
       go_ret
       exact ⟨by first | rfl | (simp [zE] <;> rfl) | (simp [*, zE] <;> rfl), bM HB.o⟩
      ·rw [if_neg c7] at H;have c7b0 : decide (t103 < 0) = false := decide_eq_false c7;clear c7;have H' := aM H;clear H;have p102 : 0 ≤ (x5_1 : Int) := oD;have q102 : x5_1 < (l0.length : Int) := oD;obtain ⟨ad102, e102, hx102_0, hx102_1, hx102_2⟩ := at_T67 HR0.o x5_1 p102 q102
       cases e102
       replace hx102_0 := (HB.o.cell (lC w _ hx102_0)).trans hx102_0;replace hx102_1 := (HB.o.cell (lC w _ hx102_1)).trans hx102_1;replace hx102_2 := (HB.o.cell (lC w _ hx102_2)).trans hx102_2;replace p102 := eq_true p102;replace q102 := eq_true q102
       go_wp2_with (first | ((with_reducible refine gate_callee (f := 46) rfl ?_); refine goesL_ (some 23) rfl rfl Tryd.func46 (by kernel_rfl) rfl #[.agg #[.string ((rd_T67 l0 x5_1).f0), .string ((rd_T67 l0 x5_1).f1), .int .i64 ((rd_T67 l0 x5_1).f2)], .int .i64 x1_1] rfl (by (try simp only [zM]); first | done | rfl | (simp only [zL]; rfl)) ?_; (with_reducible refine (laws_szFile.calls ((rd_T67 l0 x5_1).f0) ((rd_T67 l0 x5_1).f1) ((rd_T67 l0 x5_1).f2) x1_1 t103 _ A6.o).mono ?_); rintro e w9 ⟨rfl, hb⟩; refine ⟨_, rfl, ?_⟩; replace HB := aM (below_step (bM HB.o) hb); (try clear hb); skip))
       go_roundg k1
       case measure => have := HK1.o; omega
       case rel => exact ⟨(t103), (wrap64 (x5_1 + 1)), (by first | rfl | (simp; done) | (simp [*]; done)), (by first | rfl | (simp; done) | (simp [*]; done)), H', ⟨by have := HK1.o; omega⟩, ⟨bM HB.o⟩⟩
     ·rw [if_neg c5] at H;exact absurd H (by simp)
    ·rw [if_neg c4] at H;have c4b0 : decide (x5_1 < (l0.length : Int)) = false := decide_eq_false c4;clear c4;obtain rfl := Option.some.inj H
     go_wp2
     go_ret
     exact ⟨by first | rfl | (simp [zE] <;> rfl) | (simp [*, zE] <;> rfl), bM HB.o⟩
def laws_szDisk.f (k : Nat) (a0_0 : Int) (l0_1 : List (S67)) (a1 : Int) : Option (Int) := (laws_szFileS.f k l0_1 a1).bind fun t105 => (if t105 < 0 then (some (-1)) else (some t105))
theorem laws_szDisk.mono : ∀ a0 a1 a2 k, LeO (laws_szDisk.f k a0 a1 a2) (laws_szDisk.f (k + 1) a0 a1 a2) := by
 intro a0 a1 a2 k
 unfold laws_szDisk.f
 repeat' first
   | (with_reducible exact laws_szFileS.mono _ _ _)
   | (with_reducible exact LeO.refl _)
   | (with_reducible exact LeO.none _)
   | (with_reducible refine LeO.ite ?_ ?_)
   | (with_reducible refine LeO.bind ?_ (fun _ => ?_))
   | exact laws_szFileS.mono _ _ _
   | exact LeO.none _
   | refine LeO.ite ?_ ?_
   | refine LeO.bind ?_ (fun _ => ?_)
set_option maxHeartbeats 8000000 in
set_option maxRecDepth 100000 in
theorem laws_szDisk.calls (k : Nat) (a0_0 : Int) (A0_1 : Option Addr) (c0_1 : Nat) (l0_1 : List (S67)) (a1 : Int) (r : Int) (w : World) (hr0_1 : Kd.C k67 w A0_1 l0_1.length l0_1) (hc0_1 : l0_1.length ≤ c0_1) (h : laws_szDisk.f k a0_0 l0_1 a1 = some r) :
  Calls Tryd.prog 6 #[.agg #[.int .i64 a0_0, .slice A0_1 l0_1.length c0_1], .int .i64 a1] w fun e w' => e = .returned (.int .i64 r) ∧ Below w.heap.size w w' := by
 have hu24 := Tryd.underlying24;have HR0_1 := aM hr0_1;have HC0_1 := aM hc0_1;clear hr0_1 hc0_1;have HB := aM (Below.refl w.heap.size w);have H : ((laws_szFileS.f k l0_1 a1).bind fun t105 => (if t105 < 0 then (some (-1)) else (some t105))) = some r := h;clear h;obtain ⟨t105, A3, H⟩ := bX H;(try dsimp only at H)
 by_cases c4 : t105 < 0
 ·rw [if_pos c4] at H;have c4b0 : decide (t105 < 0) = true := decide_eq_true c4;clear c4;obtain rfl := Option.some.inj H
  go_enter Tryd.func6, Tryd.ntmps6
  go_wp2_with (first | ((with_reducible refine gate_dst (N := 2) rfl ?_); refine box_event ?hg (N := 2) ?hd (cs := #[.int .i64 a0_0, .slice A0_1 l0_1.length c0_1]) (t := 24) ?hr ?_; (case hd => rfl); (case hg => rfl); (case hr => first | (go_simp; done) | (go_simp; rfl)); intro gb104 hg w5 hbox hb; have BK104 := aM (hbox); have GW104 := aM ((by rw [hg]; exact (below_size (bM HB.o)) : w.heap.size ≤ gb104)); have GE104 := aM ((by rw [hg]; exact (below_size (bM HB.o)) : w.heap.size ≤ gb104)); replace HB := aM (below_step (bM HB.o) hb); clear hb hbox hg; have hcz6_0 := cL0 BK104.o; have hcz6_1 := cL1 BK104.o; have hfz6_0 := kF BK104.o 0; have hfz6_1 := kF BK104.o 1) | ((with_reducible refine gate_callee (f := 23) rfl ?_); refine goesL_ (some 8) rfl rfl Tryd.func23 (by kernel_rfl) rfl #[.slice A0_1 l0_1.length c0_1, .int .i64 a1] rfl (by (try simp only [zM]); first | done | rfl | (simp only [zL]; rfl)) ?_; (with_reducible refine (laws_szFileS.calls k _ _ l0_1 a1 t105 _ ?side1 ?side2 A3.o).mono ?_); (case side1 => exact Kd.C_below HR0_1.o (bM HB.o)); (case side2 => exact HC0_1.o); rintro e w7 ⟨rfl, hb⟩; refine ⟨_, rfl, ?_⟩; replace BK104 := aM (blk_below (kM BK104.o) hb); replace HB := aM (below_step (by with_reducible repeat (first | exact HB.o | apply bA | apply bN | apply bD | refine bS ?_ GE104.o)) hb); (try clear hb); skip))
  go_ret
  exact ⟨by first | rfl | (simp [zE] <;> rfl) | (simp [*, zE] <;> rfl), by with_reducible repeat (first | exact HB.o | apply bA | apply bN | apply bD | refine bS ?_ GE104.o)⟩
 ·rw [if_neg c4] at H;have c4b0 : decide (t105 < 0) = false := decide_eq_false c4;clear c4;obtain rfl := Option.some.inj H
  go_enter Tryd.func6, Tryd.ntmps6
  go_wp2_with (first | ((with_reducible refine gate_dst (N := 2) rfl ?_); refine box_event ?hg (N := 2) ?hd (cs := #[.int .i64 a0_0, .slice A0_1 l0_1.length c0_1]) (t := 24) ?hr ?_; (case hd => rfl); (case hg => rfl); (case hr => first | (go_simp; done) | (go_simp; rfl)); intro gb104 hg w8 hbox hb; have BK104 := aM (hbox); have GW104 := aM ((by rw [hg]; exact (below_size (bM HB.o)) : w.heap.size ≤ gb104)); have GE104 := aM ((by rw [hg]; exact (below_size (bM HB.o)) : w.heap.size ≤ gb104)); replace HB := aM (below_step (bM HB.o) hb); clear hb hbox hg; have hcz9_0 := cL0 BK104.o; have hcz9_1 := cL1 BK104.o; have hfz9_0 := kF BK104.o 0; have hfz9_1 := kF BK104.o 1) | ((with_reducible refine gate_callee (f := 23) rfl ?_); refine goesL_ (some 8) rfl rfl Tryd.func23 (by kernel_rfl) rfl #[.slice A0_1 l0_1.length c0_1, .int .i64 a1] rfl (by (try simp only [zM]); first | done | rfl | (simp only [zL]; rfl)) ?_; (with_reducible refine (laws_szFileS.calls k _ _ l0_1 a1 t105 _ ?side1 ?side2 A3.o).mono ?_); (case side1 => exact Kd.C_below HR0_1.o (bM HB.o)); (case side2 => exact HC0_1.o); rintro e w10 ⟨rfl, hb⟩; refine ⟨_, rfl, ?_⟩; replace BK104 := aM (blk_below (kM BK104.o) hb); replace HB := aM (below_step (by with_reducible repeat (first | exact HB.o | apply bA | apply bN | apply bD | refine bS ?_ GE104.o)) hb); (try clear hb); skip))
  go_ret
  exact ⟨by first | rfl | (simp [zE] <;> rfl) | (simp [*, zE] <;> rfl), by with_reducible repeat (first | exact HB.o | apply bA | apply bN | apply bD | refine bS ?_ GE104.o)⟩
def laws_toFile.f (a0_0 : ByteArray) (a0_1 : ByteArray) (a0_2 : Int) : Option (ByteArray × ByteArray × Int) := some (a0_0, a0_1, a0_2)
set_option maxHeartbeats 8000000 in
set_option maxRecDepth 100000 in
theorem laws_toFile.calls (a0_0 : ByteArray) (a0_1 : ByteArray) (a0_2 : Int) (r1 : ByteArray) (r2 : ByteArray) (r3 : Int) (w : World) (h : laws_toFile.f a0_0 a0_1 a0_2 = some (r1, r2, r3)) :
  Calls Tryd.prog 55 #[.agg #[.string a0_0, .string a0_1, .int .i64 a0_2]] w fun e w' => e = .returned (.agg #[.string r1, .string r2, .int .i64 r3]) ∧ Below w.heap.size w w' := by
 have hu67 := Tryd.underlying67;have hu69 := Tryd.underlying69;have HB := aM (Below.refl w.heap.size w);have H : (some (a0_0, a0_1, a0_2)) = some (r1, r2, r3) := h;clear h;simp only [Option.some.injEq, Prod.mk.injEq] at H;obtain ⟨rfl, rfl, rfl⟩ := H
 go_enter Tryd.func55, Tryd.ntmps55
 go_wp2_with (first | ((with_reducible refine gate_dst (N := 1) rfl ?_); refine box_event ?hg (N := 1) ?hd (cs := #[.string a0_0, .string a0_1, .int .i64 a0_2]) (t := 67) ?hr ?_; (case hd => rfl); (case hg => rfl); (case hr => first | (go_simp; done) | (go_simp; rfl)); intro gb106 hg w2 hbox hb; have BK106 := aM (hbox); have GW106 := aM ((by rw [hg]; exact (below_size (bM HB.o)) : w.heap.size ≤ gb106)); have GE106 := aM ((by rw [hg]; exact (below_size (bM HB.o)) : w.heap.size ≤ gb106)); replace HB := aM (below_step (bM HB.o) hb); clear hb hbox hg) | ((with_reducible refine gate_dst (N := 2) rfl ?_); refine box_event ?hg (N := 2) ?hd (cs := #[.string (⟨#[]⟩ : ByteArray), .string (⟨#[]⟩ : ByteArray), .int .i64 0]) (t := 69) ?hr ?_; (case hd => rfl); (case hg => rfl); (case hr => first | (go_simp; done) | (go_simp; rfl)); intro gb107 hg w3 hbox hb; have BK107 := aM (hbox); have GW107 := aM ((by rw [hg]; exact (below_size (by with_reducible repeat (first | exact HB.o | apply bA | apply bN | apply bD | refine bS ?_ GE106.o))) : w.heap.size ≤ gb107)); have GE107 := aM ((by rw [hg]; exact (below_size (by with_reducible repeat (first | exact HB.o | apply bA | apply bN | apply bD | refine bS ?_ GE106.o))) : w.heap.size ≤ gb107)); replace HB := aM (below_step (by with_reducible repeat (first | exact HB.o | apply bA | apply bN | apply bD | refine bS ?_ GE106.o)) hb); have NB106_107 := aM ((by rw [hg]; exact Nat.ne_of_lt (blk_lt (g := gb106) (o := .cells #[.string a0_0, .string a0_1, .int .i64 a0_2] 67 (0, 0)) (kM BK106.o)) : gb106 ≠ gb107)); have NB107_106 := aM ((by rw [hg]; exact Nat.ne_of_gt (blk_lt (g := gb106) (o := .cells #[.string a0_0, .string a0_1, .int .i64 a0_2] 67 (0, 0)) (kM BK106.o)) : gb107 ≠ gb106)); replace BK106 := aM (blk_below (kM BK106.o) hb); clear hb hbox hg) | ((with_reducible refine gate_dst (N := 3) rfl ?_); refine box_event ?hg (N := 3) ?hd (cs := #[.string (⟨#[]⟩ : ByteArray), .string (⟨#[]⟩ : ByteArray), .int .i64 0]) (t := 69) ?hr ?_; (case hd => rfl); (case hg => rfl); (case hr => first | (go_simp; done) | (go_simp; rfl)); intro gb108 hg w4 hbox hb; have BK108 := aM (hbox); have GW108 := aM ((by rw [hg]; exact (below_size (by with_reducible repeat (first | exact HB.o | apply bA | apply bN | apply bD | refine bS ?_ GE106.o | refine bS ?_ GE107.o))) : w.heap.size ≤ gb108)); have GE108 := aM ((by rw [hg]; exact (below_size (by with_reducible repeat (first | exact HB.o | apply bA | apply bN | apply bD | refine bS ?_ GE106.o | refine bS ?_ GE107.o))) : w.heap.size ≤ gb108)); replace HB := aM (below_step (by with_reducible repeat (first | exact HB.o | apply bA | apply bN | apply bD | refine bS ?_ GE106.o | refine bS ?_ GE107.o)) hb); have NB106_108 := aM ((by rw [hg]; exact Nat.ne_of_lt (blk_lt (g := gb106) (o := .cells #[.string a0_0, .string a0_1, .int .i64 a0_2] 67 (0, 0)) (kM BK106.o)) : gb106 ≠ gb108)); have NB108_106 := aM ((by rw [hg]; exact Nat.ne_of_gt (blk_lt (g := gb106) (o := .cells #[.string a0_0, .string a0_1, .int .i64 a0_2] 67 (0, 0)) (kM BK106.o)) : gb108 ≠ gb106)); replace BK106 := aM (blk_below (kM BK106.o) hb); have NB107_108 := aM ((by rw [hg]; exact Nat.ne_of_lt (blk_lt (g := gb107) (o := .cells #[.string (⟨#[]⟩ : ByteArray), .string (⟨#[]⟩ : ByteArray), .int .i64 0] 69 (0, 0)) (kM BK107.o)) : gb107 ≠ gb108)); have NB108_107 := aM ((by rw [hg]; exact Nat.ne_of_gt (blk_lt (g := gb107) (o := .cells #[.string (⟨#[]⟩ : ByteArray), .string (⟨#[]⟩ : ByteArray), .int .i64 0] 69 (0, 0)) (kM BK107.o)) : gb108 ≠ gb107)); replace BK107 := aM (blk_below (g := gb107) (o := .cells #[.string (⟨#[]⟩ : ByteArray), .string (⟨#[]⟩ : ByteArray), .int .i64 0] 69 (0, 0)) (kM BK107.o) hb); clear hb hbox hg; have hnb5 := NB106_107.o; have hnc5 := NB107_106.o; have hnb6 := NB106_108.o; have hnc6 := NB108_106.o; have hcz7_0 := cL0 BK106.o; have hcz7_1 := cL1 BK106.o; have hcz7_2 := cL2 BK106.o; have hfz7_0 := kF BK106.o 0; have hfz7_1 := kF BK106.o 1; have hfz7_2 := kF BK106.o 2; have hnb8 := NB108_107.o; have hnc8 := NB107_108.o; have hcz9_0 := cL0 BK108.o; have hcz9_1 := cL1 BK108.o; have hcz9_2 := cL2 BK108.o; have hfz9_0 := kF BK108.o 0; have hfz9_1 := kF BK108.o 1; have hfz9_2 := kF BK108.o 2; have hcz10_0 := cL0 BK107.o; have hcz10_1 := cL1 BK107.o; have hcz10_2 := cL2 BK107.o; have hfz10_0 := kF BK107.o 0; have hfz10_1 := kF BK107.o 1; have hfz10_2 := kF BK107.o 2))
 refine bodyPost_ret (results_cell_row rfl _ _ gb107 69 #[.string a0_0, .string a0_1, .int .i64 a0_2] (0, 0) _ rfl (by (with_reducible repeat (first | refine kN ?_ _ | refine kD ?_ | refine kA ?_ _)); refine blk_put (cs := #[.string a0_0, .string a0_1, .int .i64 0]) ?_ 2 _ rfl; refine blk_put (cs := #[.string a0_0, .string (⟨#[]⟩ : ByteArray), .int .i64 0]) ?_ 1 _ rfl; refine blk_put (cs := #[.string (⟨#[]⟩ : ByteArray), .string (⟨#[]⟩ : ByteArray), .int .i64 0]) ?_ 0 _ rfl; (with_reducible repeat (first | refine kN ?_ _ | refine kD ?_ | refine kA ?_ _)); refine blk_far ?_ NB107_108.o _; (with_reducible repeat (first | refine kN ?_ _ | refine kD ?_ | refine kA ?_ _)); refine blk_far ?_ NB107_108.o _; (with_reducible repeat (first | refine kN ?_ _ | refine kD ?_ | refine kA ?_ _)); refine blk_far ?_ NB107_108.o _; (with_reducible repeat (first | refine kN ?_ _ | refine kD ?_ | refine kA ?_ _)); exact BK107.o) Tryd.underlying69 rfl (by kernel_rfl)) rfl ?_;exact ⟨by first | rfl | (simp [zE] <;> rfl) | (simp [*, zE] <;> rfl), by with_reducible repeat (first | exact HB.o | apply bA | apply bN | apply bD | refine bS ?_ GE106.o | refine bS ?_ GE107.o | refine bS ?_ GE108.o)⟩
def laws_toFileS.l0 : Nat → List (S67) → List (S69) → Int → Option ((List (S69)))
 | 0, _, _, _ => none
 | k + 1, x0, x3, x4 => if x4 < (x0.length : Int) then (if 0 ≤ x4 then ((laws_toFile.f ((rd_T67 x0 x4).f0) ((rd_T67 x0 x4).f1) ((rd_T67 x0 x4).f2)).bind fun bt113 => (if x4 < (x3.length : Int) then (laws_toFileS.l0 k x0 (x3.set (x4 : Int).toNat (⟨bt113.1, bt113.2.1, bt113.2.2⟩ : S69)) (wrap64 (x4 + 1))) else (none))) else (none)) else (some x3)
def laws_toFileS.f (k : Nat) (l0 : List (S67)) : Option ((List (S69))) := if 0 ≤ (l0.length : Int) then (if ((l0.length : Int) : Int).toNat ≤ 7036874417766 then (laws_toFileS.l0 k l0 (List.replicate ((l0.length : Int) : Int).toNat z69) 0) else (none)) else (none)
theorem laws_toFileS.mono_l : ∀ k, (∀ y0 y1 y2, LeO (laws_toFileS.l0 k y0 y1 y2) (laws_toFileS.l0 (k + 1) y0 y1 y2))
 | 0 => fun _ _ _ r h => by simp [laws_toFileS.l0] at h
 | k + 1 => by
  have ih0 := laws_toFileS.mono_l k
  ·intro y0 y1 y2
   unfold laws_toFileS.l0
   repeat' first
   | (with_reducible exact ih0 _ _ _)
   | (with_reducible exact LeO.refl _)
   | (with_reducible exact LeO.none _)
   | (with_reducible refine LeO.ite ?_ ?_)
   | (with_reducible refine LeO.bind ?_ (fun _ => ?_))
   | exact ih0 _ _ _
   | exact LeO.none _
   | refine LeO.ite ?_ ?_
   | refine LeO.bind ?_ (fun _ => ?_)
theorem laws_toFileS.mono : ∀ a0 k, LeO (laws_toFileS.f k a0) (laws_toFileS.f (k + 1) a0) := by
 intro a0 k;have ih0 := laws_toFileS.mono_l k
 unfold laws_toFileS.f
 repeat' first
   | (with_reducible exact ih0 _ _ _)
   | (with_reducible exact LeO.refl _)
   | (with_reducible exact LeO.none _)
   | (with_reducible refine LeO.ite ?_ ?_)
   | (with_reducible refine LeO.bind ?_ (fun _ => ?_))
   | exact ih0 _ _ _
   | exact LeO.none _
   | refine LeO.ite ?_ ?_
   | refine LeO.bind ?_ (fun _ => ?_)
set_option maxHeartbeats 8000000 in
set_option maxRecDepth 100000 in
theorem laws_toFileS.calls (k : Nat) (A0 : Option Addr) (c0 : Nat) (l0 : List (S67)) (r : List (S69)) (w : World) (hr0 : Kd.C k67 w A0 l0.length l0) (hc0 : l0.length ≤ c0) (h : laws_toFileS.f k l0 = some r) :
  Calls Tryd.prog 26 #[.slice A0 l0.length c0] w fun e w' => ∃ v0_ : Value, e = .returned (v0_) ∧ Kd.R k69 69 w' w.heap.size (fun _ => True) v0_ r ∧ Below w.heap.size w w' := by
 have hu67 := Tryd.underlying67;have hu69 := Tryd.underlying69;have HR0 := aM hr0;have HC0 := aM hc0;clear hr0 hc0;have HB := aM (Below.refl w.heap.size w);have H : (if 0 ≤ (l0.length : Int) then (if ((l0.length : Int) : Int).toNat ≤ 7036874417766 then (laws_toFileS.l0 k l0 (List.replicate ((l0.length : Int) : Int).toNat z69) 0) else (none)) else (none)) = some r := h;clear h
 by_cases c2 : 0 ≤ (l0.length : Int)
 ·rw [if_pos c2] at H;have c2b0 := eq_true c2;have c2b1 : decide (0 ≤ (l0.length : Int)) = true := decide_eq_true c2;clear c2
  by_cases c3 : ((l0.length : Int) : Int).toNat ≤ 7036874417766
  ·rw [if_pos c3] at H;have c3b0 := eq_true c3;have c3b1 : decide (((l0.length : Int) : Int).toNat ≤ 7036874417766) = true := decide_eq_true c3;clear c3;obtain ⟨y109, hy109⟩ : ∃ y_ : List (S69), y_ = (List.replicate ((l0.length : Int) : Int).toNat z69) := ⟨_, rfl⟩
   replace H : (laws_toFileS.l0 k l0 y109 0) = some r := by first | (rw [hy109]; with_reducible exact H) | (have H2_ := (Option.bind_some _ _).symm.trans H; rw [hy109]; with_reducible exact H2_) | (have H2_ := (Option.bind_some _ _).symm.trans H; with_reducible exact H2_) | with_reducible exact H | (rw [hy109]; exact H) | exact H
   have Ny109 := aM hy109;clear hy109;have H' := aM H;clear H
   go_enter Tryd.func26, Tryd.ntmps26
   go_wp2_with (first | ((with_reducible refine gate_dst (N := 7) rfl ?_); refine Kd.R_make k69 _ 69 rfl (N := 7) rfl 31 _ _ rfl (l0.length : Int) rfl rfl Tryd.underlying31 (.agg #[(.string ⟨#[]⟩), (.string ⟨#[]⟩), (.int .i64 0)]) 40 info69 rfl (by decide) (by omega) z69 (ok := fun _ => True) (okp := fun _ => True) (k69_mkM _ _ _ z69 ) (fun _ hk => hk) trivial oD (Nat.le_trans (Nat.mul_le_mul_right _ (oD : (l0.length : Int).toNat ≤ 7036874417766)) (by omega)) (Below.refl _ _) (Nat.le_refl _) ?_; intro v110 w4 ho5 hb hg_ hnew_; clear hg_ hnew_; (first | rw [← Ny109.o] at ho5 | (simp only [Int.reduceToNat] at ho5; rw [← Ny109.o] at ho5)); have HO111 := aM (Kd.R_lower ho5 (below_size (bM HB.o))); replace HB := aM (below_step (bM HB.o) hb); clear hb ho5))
   go_loopg [4] k (fun kq v4 w' => ∃ (x3_1 : List (S69)) (x4_1 : Int), v4 = .int .i64 x4_1 ∧ Aside0 (laws_toFileS.l0 kq l0 x3_1 x4_1 = some r) ∧ Aside0 (kq ≤ k) ∧ Aside0 (Kd.R k69 69 w' w.heap.size (fun _ => True) v110 x3_1) ∧ Aside0 (Below w.heap.size w w'))
   case atStart => exact ⟨(y109), (0), (by first | rfl | (simp; done) | (simp [*]; done)), H', ⟨Nat.le_refl _⟩, ⟨by (with_reducible repeat (first | apply Kd.R_alloc | apply Kd.R_drewN | apply Kd.R_drew)); exact HO111.o⟩, ⟨bM HB.o⟩⟩
   case round =>
    clear H';obtain ⟨x3_1, x4_1, rfl, HA, HK1, HO_3, HB⟩ := hrel
    cases gk with
    | zero => exact absurd HA.o (by simp [laws_toFileS.l0])
    | succ k1 =>
     have H := HA.o;clear HA;simp only [laws_toFileS.l0] at H
     by_cases c6 : x4_1 < (l0.length : Int)
     ·rw [if_pos c6] at H;have c6b0 : decide (x4_1 < (l0.length : Int)) = true := decide_eq_true c6;clear c6
      by_cases c7 : 0 ≤ x4_1
      ·rw [if_pos c7] at H;have c7b0 : decide (0 ≤ x4_1) = true := decide_eq_true c7;clear c7;obtain ⟨⟨t113, t114, t115⟩, A8, H⟩ := bX H;(try dsimp only at H)
       by_cases c9 : x4_1 < (x3_1.length : Int)
       ·rw [if_pos c9] at H;have c9b0 : decide (x4_1 < (x3_1.length : Int)) = true := decide_eq_true c9;clear c9;obtain ⟨y116, hy116⟩ : ∃ y_ : List (S69), y_ = (x3_1.set (x4_1 : Int).toNat (⟨t113, t114, t115⟩ : S69)) := ⟨_, rfl⟩
        replace H : (laws_toFileS.l0 k1 l0 y116 (wrap64 (x4_1 + 1))) = some r := by first | (rw [hy116]; with_reducible exact H) | (have H2_ := (Option.bind_some _ _).symm.trans H; rw [hy116]; with_reducible exact H2_) | (have H2_ := (Option.bind_some _ _).symm.trans H; with_reducible exact H2_) | with_reducible exact H | (rw [hy116]; exact H) | exact H
        have Ny116 := aM hy116;clear hy116;have H' := aM H;clear H;have p112 : 0 ≤ (x4_1 : Int) := oD;have q112 : x4_1 < (l0.length : Int) := oD;obtain ⟨ad112, e112, hx112_0, hx112_1, hx112_2⟩ := at_T67 HR0.o x4_1 p112 q112
        cases e112
        replace hx112_0 := (HB.o.cell (lC w _ hx112_0)).trans hx112_0;replace hx112_1 := (HB.o.cell (lC w _ hx112_1)).trans hx112_1;replace hx112_2 := (HB.o.cell (lC w _ hx112_2)).trans hx112_2;replace p112 := eq_true p112;replace q112 := eq_true q112
        go_wp2_with (first | ((with_reducible refine gate_callee (f := 55) rfl ?_); refine goesL_ (some 20) rfl rfl Tryd.func55 (by kernel_rfl) rfl #[.agg #[.string ((rd_T67 l0 x4_1).f0), .string ((rd_T67 l0 x4_1).f1), .int .i64 ((rd_T67 l0 x4_1).f2)]] rfl (by (try simp only [zM]); first | done | rfl | (simp only [zL]; rfl)) ?_; (with_reducible refine (laws_toFile.calls ((rd_T67 l0 x4_1).f0) ((rd_T67 l0 x4_1).f1) ((rd_T67 l0 x4_1).f2) t113 t114 t115 _ A8.o).mono ?_); rintro e w11 ⟨rfl, hb⟩; refine ⟨_, rfl, ?_⟩; replace HO_3 := aM (Kd.R_below (rM HO_3.o) hb); replace HB := aM (below_step (bM HB.o) hb); (try clear hb); have p10 : 0 ≤ (x4_1 : Int) := oD; have q10 : (x4_1 : Int) < ((x3_1.length : Int) : Int) := oD; obtain ⟨go10, co10, eo10, gb10, gl10, cl10, HG10⟩ := Kd.R_form HO_3.o (by omega); (first | cases eo10 | (injection eo10 with ea_ en_ ec_; (first | subst ea_ | (injection ea_ with ea_; subst ea_)); subst ec_; clear en_)); have GB10 := aM gb10; have GG10 := aM HG10; clear gb10 gl10 HG10; obtain ⟨ce10, hcl10, hM10, hcc10, hfr10⟩ := Kd.R_elem HO_3.o z69 (x4_1 : Int) p10 q10; obtain rfl := k69_openM hM10; have hx10_0 : w11.cell? ⟨go10, (x4_1 : Int).toNat * 3, none⟩ = some (.string ((rd_T69 x3_1 x4_1).f0)) := hcc10 0 _ rfl; have hx10_1 : w11.cell? ⟨go10, (x4_1 : Int).toNat * 3 + 1, none⟩ = some (.string ((rd_T69 x3_1 x4_1).f1)) := hcc10 1 _ rfl; have hx10_2 : w11.cell? ⟨go10, (x4_1 : Int).toNat * 3 + 2, none⟩ = some (.int .i64 ((rd_T69 x3_1 x4_1).f2)) := hcc10 2 _ rfl; have hf10_0 : w11.frozen? ⟨go10, (x4_1 : Int).toNat * 3, none⟩ = false := hfr10 0; have hf10_1 : w11.frozen? ⟨go10, (x4_1 : Int).toNat * 3 + 1, none⟩ = false := hfr10 1; have hf10_2 : w11.frozen? ⟨go10, (x4_1 : Int).toNat * 3 + 2, none⟩ = false := hfr10 2; clear hcl10 hcc10 hfr10 hM10; replace p10 := eq_true p10; replace q10 := eq_true q10; have HX12 := aM (show Kd.R k69 69 w11 w.heap.size (fun _ => True) (.slice (some ⟨go10, 0, none⟩) x3_1.length co10) x3_1 from (rM HO_3.o)); obtain ⟨ce12, hcl12, hM12, hcc12, hfr12⟩ := Kd.R_elem HX12.o z69 (x4_1 : Int) oD (by have h_ : (x4_1 : Int) < ((x3_1.length : Int) : Int) := oD; first | exact h_ | (have e_ := (Kd.R_reads' HO_3.o).1; omega) | simpa using h_); obtain rfl := k69_openM hM12; have HP12 := Kd.R_seg HX12.o (x4_1 : Int) oD (by have h_ : (x4_1 : Int) < ((x3_1.length : Int) : Int) := oD; first | exact h_ | (have e_ := (Kd.R_reads' HO_3.o).1; omega) | simpa using h_) (seg := [.string t113, .string t114, .int .i64 t115]) (j := 0) hcl12 hcc12 (show 3 ≤ 3 from by decide) (x' := (⟨t113, t114, t115⟩ : S69)) (k69_mkM _ _ _ (⟨t113, t114, t115⟩ : S69) ) (fun _ hk => hk); have hx12_0 := hcc12 0 _ rfl; (try simp only [show (k69).sz = 3 from rfl, Nat.mul_one, Nat.add_zero] at hx12_0); have hf12_0 := hfr12 0; (try simp only [show (k69).sz = 3 from rfl, Nat.mul_one, Nat.add_zero] at hf12_0); have hx12_1 := hcc12 1 _ rfl; (try simp only [show (k69).sz = 3 from rfl, Nat.mul_one, Nat.add_zero] at hx12_1); have hf12_1 := hfr12 1; (try simp only [show (k69).sz = 3 from rfl, Nat.mul_one, Nat.add_zero] at hf12_1); have hx12_2 := hcc12 2 _ rfl; (try simp only [show (k69).sz = 3 from rfl, Nat.mul_one, Nat.add_zero] at hx12_2); have hf12_2 := hfr12 2; (try simp only [show (k69).sz = 3 from rfl, Nat.mul_one, Nat.add_zero] at hf12_2); clear hcl12 hcc12 hfr12 hM12) | ((with_reducible refine gate_store (t := 69) (p := 21) rfl ?_); refine store_event (t := 69) (p := 21) (v := ?vo_w13) (w1 := (((w11.setCell ⟨go10, (x4_1 : Int).toNat * 3, none⟩ (.string t113)).setCell ⟨go10, (x4_1 : Int).toNat * 3 + 1, none⟩ (.string t114)).setCell ⟨go10, (x4_1 : Int).toNat * 3 + 2, none⟩ (.int .i64 t115))) ?hg ?ho ?hn ?hr ?_; (case ho => rfl); (case hg => rfl); (case hn => rfl); (case hr => first | (go_simp; done) | (go_simp; rfl)); intro w13 hw; have hg : w11.grownBy w13 (some go10) := (by rw [hw]; exact HP12.2); have hp_ : Kd.R k69 69 w13 w.heap.size (fun _ => True) (.slice (some ⟨go10, 0, none⟩) x3_1.length co10) y116 := (by rw [hw, Ny116.o]; exact HP12.1); clear HP12; replace HO_3 := aM (hp_); replace HB := aM ((by rw [hw]; exact bS (bS (bS (HB.o) GB10.o) GB10.o) GB10.o : Below w.heap.size w w13)); clear hg hw hp_))
        go_roundg k1
        case measure => have := HK1.o; omega
        case rel => exact ⟨(y116), (wrap64 (x4_1 + 1)), (by first | rfl | (simp; done) | (simp [*]; done)), H', ⟨by have := HK1.o; omega⟩, ⟨by (with_reducible repeat (first | apply Kd.R_alloc | apply Kd.R_drewN | apply Kd.R_drew)); exact HO_3.o⟩, ⟨bM HB.o⟩⟩
       ·rw [if_neg c9] at H;exact absurd H (by simp)
      ·rw [if_neg c7] at H;exact absurd H (by simp)
     ·rw [if_neg c6] at H;have c6b0 : decide (x4_1 < (l0.length : Int)) = false := decide_eq_false c6;clear c6;obtain rfl := Option.some.inj H
      go_wp2
      go_ret
      exact ⟨_, by first | rfl | (simp [zE] <;> rfl) | (simp [*, zE] <;> rfl), by (with_reducible repeat (first | apply Kd.R_alloc | apply Kd.R_drewN | apply Kd.R_drew)); exact HO_3.o, bM HB.o⟩
  ·rw [if_neg c3] at H;exact absurd H (by simp)
 ·rw [if_neg c2] at H;exact absurd H (by simp)
def laws_toDisk.f (k : Nat) (a0_0 : Int) (l0_1 : List (S67)) : Option (Int × (List (S69))) := (laws_toFileS.f k l0_1).bind fun t120 => (some (a0_0, t120))
theorem laws_toDisk.mono : ∀ a0 a1 k, LeO (laws_toDisk.f k a0 a1) (laws_toDisk.f (k + 1) a0 a1) := by
 intro a0 a1 k
 unfold laws_toDisk.f
 repeat' first
   | (with_reducible exact laws_toFileS.mono _ _)
   | (with_reducible exact LeO.refl _)
   | (with_reducible exact LeO.none _)
   | (with_reducible refine LeO.ite ?_ ?_)
   | (with_reducible refine LeO.bind ?_ (fun _ => ?_))
   | exact laws_toFileS.mono _ _
   | exact LeO.none _
   | refine LeO.ite ?_ ?_
   | refine LeO.bind ?_ (fun _ => ?_)
set_option maxHeartbeats 8000000 in
set_option maxRecDepth 100000 in
theorem laws_toDisk.calls (k : Nat) (a0_0 : Int) (A0_1 : Option Addr) (c0_1 : Nat) (l0_1 : List (S67)) (r1 : Int) (r2 : List (S69)) (w : World) (hr0_1 : Kd.C k67 w A0_1 l0_1.length l0_1) (hc0_1 : l0_1.length ≤ c0_1) (h : laws_toDisk.f k a0_0 l0_1 = some (r1, r2)) :
  Calls Tryd.prog 8 #[.agg #[.int .i64 a0_0, .slice A0_1 l0_1.length c0_1]] w fun e w' => ∃ v1_ : Value, e = .returned (.agg #[.int .i64 r1, v1_]) ∧ Kd.R k69 69 w' w.heap.size (fun _ => True) v1_ r2 ∧ Below w.heap.size w w' := by
 have hu24 := Tryd.underlying24;have hu33 := Tryd.underlying33;have HR0_1 := aM hr0_1;have HC0_1 := aM hc0_1;clear hr0_1 hc0_1;have HB := aM (Below.refl w.heap.size w);have H : ((laws_toFileS.f k l0_1).bind fun t120 => (some (a0_0, t120))) = some (r1, r2) := h;clear h;obtain ⟨t120, A2, H⟩ := bX H;(try dsimp only at H);simp only [Option.some.injEq, Prod.mk.injEq] at H;obtain ⟨rfl, rfl⟩ := H
 go_enter Tryd.func8, Tryd.ntmps8
 go_wp2_with (first | ((with_reducible refine gate_dst (N := 1) rfl ?_); refine box_event ?hg (N := 1) ?hd (cs := #[.int .i64 a0_0, .slice A0_1 l0_1.length c0_1]) (t := 24) ?hr ?_; (case hd => rfl); (case hg => rfl); (case hr => first | (go_simp; done) | (go_simp; rfl)); intro gb117 hg w3 hbox hb; have BK117 := aM (hbox); have GW117 := aM ((by rw [hg]; exact (below_size (bM HB.o)) : w.heap.size ≤ gb117)); have GE117 := aM ((by rw [hg]; exact (below_size (bM HB.o)) : w.heap.size ≤ gb117)); replace HB := aM (below_step (bM HB.o) hb); clear hb hbox hg) | ((with_reducible refine gate_dst (N := 2) rfl ?_); refine box_event ?hg (N := 2) ?hd (cs := #[.int .i64 0, .slice none 0 0]) (t := 33) ?hr ?_; (case hd => rfl); (case hg => rfl); (case hr => first | (go_simp; done) | (go_simp; rfl)); intro gb118 hg w4 hbox hb; have BK118 := aM (hbox); have GW118 := aM ((by rw [hg]; exact (below_size (by with_reducible repeat (first | exact HB.o | apply bA | apply bN | apply bD | refine bS ?_ GE117.o))) : w.heap.size ≤ gb118)); have GE118 := aM ((by rw [hg]; exact (below_size (by with_reducible repeat (first | exact HB.o | apply bA | apply bN | apply bD | refine bS ?_ GE117.o))) : w.heap.size ≤ gb118)); replace HB := aM (below_step (by with_reducible repeat (first | exact HB.o | apply bA | apply bN | apply bD | refine bS ?_ GE117.o)) hb); have NB117_118 := aM ((by rw [hg]; exact Nat.ne_of_lt (blk_lt (g := gb117) (o := .cells #[.int .i64 a0_0, .slice A0_1 l0_1.length c0_1] 24 (0, 0)) (kM BK117.o)) : gb117 ≠ gb118)); have NB118_117 := aM ((by rw [hg]; exact Nat.ne_of_gt (blk_lt (g := gb117) (o := .cells #[.int .i64 a0_0, .slice A0_1 l0_1.length c0_1] 24 (0, 0)) (kM BK117.o)) : gb118 ≠ gb117)); replace BK117 := aM (blk_below (kM BK117.o) hb); clear hb hbox hg) | ((with_reducible refine gate_dst (N := 3) rfl ?_); refine box_event ?hg (N := 3) ?hd (cs := #[.int .i64 0, .slice none 0 0]) (t := 33) ?hr ?_; (case hd => rfl); (case hg => rfl); (case hr => first | (go_simp; done) | (go_simp; rfl)); intro gb119 hg w5 hbox hb; have BK119 := aM (hbox); have GW119 := aM ((by rw [hg]; exact (below_size (by with_reducible repeat (first | exact HB.o | apply bA | apply bN | apply bD | refine bS ?_ GE117.o | refine bS ?_ GE118.o))) : w.heap.size ≤ gb119)); have GE119 := aM ((by rw [hg]; exact (below_size (by with_reducible repeat (first | exact HB.o | apply bA | apply bN | apply bD | refine bS ?_ GE117.o | refine bS ?_ GE118.o))) : w.heap.size ≤ gb119)); replace HB := aM (below_step (by with_reducible repeat (first | exact HB.o | apply bA | apply bN | apply bD | refine bS ?_ GE117.o | refine bS ?_ GE118.o)) hb); have NB117_119 := aM ((by rw [hg]; exact Nat.ne_of_lt (blk_lt (g := gb117) (o := .cells #[.int .i64 a0_0, .slice A0_1 l0_1.length c0_1] 24 (0, 0)) (kM BK117.o)) : gb117 ≠ gb119)); have NB119_117 := aM ((by rw [hg]; exact Nat.ne_of_gt (blk_lt (g := gb117) (o := .cells #[.int .i64 a0_0, .slice A0_1 l0_1.length c0_1] 24 (0, 0)) (kM BK117.o)) : gb119 ≠ gb117)); replace BK117 := aM (blk_below (kM BK117.o) hb); have NB118_119 := aM ((by rw [hg]; exact Nat.ne_of_lt (blk_lt (g := gb118) (o := .cells #[.int .i64 0, .slice none 0 0] 33 (0, 0)) (kM BK118.o)) : gb118 ≠ gb119)); have NB119_118 := aM ((by rw [hg]; exact Nat.ne_of_gt (blk_lt (g := gb118) (o := .cells #[.int .i64 0, .slice none 0 0] 33 (0, 0)) (kM BK118.o)) : gb119 ≠ gb118)); replace BK118 := aM (blk_below (kM BK118.o) hb); clear hb hbox hg; have hnb6 := NB117_118.o; have hnc6 := NB118_117.o; have hnb7 := NB117_119.o; have hnc7 := NB119_117.o; have hcz8_0 := cL0 BK117.o; have hcz8_1 := cL1 BK117.o; have hfz8_0 := kF BK117.o 0; have hfz8_1 := kF BK117.o 1; have hnb9 := NB119_118.o; have hnc9 := NB118_119.o; have hcz10_0 := cL0 BK119.o; have hcz10_1 := cL1 BK119.o; have hfz10_0 := kF BK119.o 0; have hfz10_1 := kF BK119.o 1) | ((with_reducible refine gate_callee (f := 26) rfl ?_); refine goesL_ (some 9) rfl rfl Tryd.func26 (by kernel_rfl) rfl #[.slice A0_1 l0_1.length c0_1] rfl (by (try simp only [zM]); first | done | rfl | (simp only [zL]; rfl)) ?_; (with_reducible refine (laws_toFileS.calls k _ _ l0_1 t120 _ ?side1 ?side2 A2.o).mono ?_); (case side1 => exact Kd.C_below HR0_1.o (by with_reducible repeat (first | exact HB.o | apply bA | apply bN | apply bD | refine bS ?_ GE117.o | refine bS ?_ GE118.o | refine bS ?_ GE119.o))); (case side2 => exact HC0_1.o); rintro e w11 ⟨v121, rfl, ho0, hb⟩; refine ⟨_, rfl, ?_⟩; have HO122 := aM (Kd.R_lower ho0 (below_size (by with_reducible repeat (first | exact HB.o | apply bA | apply bN | apply bD | refine bS ?_ GE117.o | refine bS ?_ GE118.o | refine bS ?_ GE119.o)))); replace BK117 := aM (blk_below (g := gb117) (o := .cells #[.int .i64 a0_0, .slice A0_1 l0_1.length c0_1] 24 (0, 0)) (by (with_reducible repeat (first | refine kN ?_ _ | refine kD ?_ | refine kA ?_ _)); refine blk_far ?_ NB117_119.o _; (with_reducible repeat (first | refine kN ?_ _ | refine kD ?_ | refine kA ?_ _)); exact BK117.o) hb); replace BK118 := aM (blk_below (g := gb118) (o := .cells #[.int .i64 0, .slice none 0 0] 33 (0, 0)) (by (with_reducible repeat (first | refine kN ?_ _ | refine kD ?_ | refine kA ?_ _)); refine blk_far ?_ NB118_119.o _; (with_reducible repeat (first | refine kN ?_ _ | refine kD ?_ | refine kA ?_ _)); exact BK118.o) hb); replace BK119 := aM (blk_below (g := gb119) (o := .cells #[.int .i64 a0_0, .slice none 0 0] 33 (0, 0)) (by (with_reducible repeat (first | refine kN ?_ _ | refine kD ?_ | refine kA ?_ _)); refine blk_put (cs := #[.int .i64 0, .slice none 0 0]) ?_ 0 _ rfl; exact BK119.o) hb); replace HB := aM (below_step (by with_reducible repeat (first | exact HB.o | apply bA | apply bN | apply bD | refine bS ?_ GE117.o | refine bS ?_ GE118.o | refine bS ?_ GE119.o)) hb); (try clear hb); (try clear ho0); obtain ⟨Ao12, co12, eo12⟩ := Kd.R_slice HO122.o; subst eo12; have hcz13_0 := cL0 BK119.o; have hcz13_1 := cL1 BK119.o; have hfz13_0 := kF BK119.o 0; have hfz13_1 := kF BK119.o 1; have hcz14_0 := cL0 BK118.o; have hcz14_1 := cL1 BK118.o; have hfz14_0 := kF BK118.o 0; have hfz14_1 := kF BK118.o 1))
 refine bodyPost_ret (results_cell_row rfl _ _ gb118 33 #[.int .i64 a0_0, .slice Ao12 t120.length co12] (0, 0) _ rfl (by (with_reducible repeat (first | refine kN ?_ _ | refine kD ?_ | refine kA ?_ _)); refine blk_put (cs := #[.int .i64 a0_0, .slice none 0 0]) ?_ 1 _ rfl; refine blk_put (cs := #[.int .i64 0, .slice none 0 0]) ?_ 0 _ rfl; (with_reducible repeat (first | refine kN ?_ _ | refine kD ?_ | refine kA ?_ _)); refine blk_far ?_ NB118_119.o _; (with_reducible repeat (first | refine kN ?_ _ | refine kD ?_ | refine kA ?_ _)); exact BK118.o) Tryd.underlying33 rfl (by kernel_rfl)) rfl ?_;exact ⟨_, by first | rfl | (simp [zE] <;> rfl) | (simp [*, zE] <;> rfl), by (with_reducible repeat (first | apply Kd.R_alloc | apply Kd.R_drewN | apply Kd.R_drew)); exact Kd.R_mono (Kd.R_far (p := ⟨gb118, 1, none⟩) (Kd.R_far (p := ⟨gb118, 0, none⟩) (Kd.R_far (p := ⟨gb119, 1, none⟩) (Kd.R_types (Kd.R_types HO122.o BK119.o (by decide)) BK118.o (by decide)) (fun _ hk => hk.1.2) (.slice Ao12 t120.length co12)) (fun _ hk => hk.2) (.int .i64 a0_0)) (fun _ hk => hk.2) (.slice Ao12 t120.length co12)) (fun _ hk => trivial), by with_reducible repeat (first | exact HB.o | apply bA | apply bN | apply bD | refine bS ?_ GE117.o | refine bS ?_ GE118.o | refine bS ?_ GE119.o)⟩
def laws_eqFile.f (a0_0 : ByteArray) (a0_1 : ByteArray) (a0_2 : Int) (a1_0 : ByteArray) (a1_1 : ByteArray) (a1_2 : Int) : Option (Bool) := if a0_0.toList = a1_0.toList then (if a0_1.toList = a1_1.toList then (if a0_2 = a1_2 then (some true) else (none)) else (none)) else (none)
set_option maxHeartbeats 8000000 in
set_option maxRecDepth 100000 in
theorem laws_eqFile.calls (a0_0 : ByteArray) (a0_1 : ByteArray) (a0_2 : Int) (a1_0 : ByteArray) (a1_1 : ByteArray) (a1_2 : Int) (r : Bool) (w : World) (h : laws_eqFile.f a0_0 a0_1 a0_2 a1_0 a1_1 a1_2 = some r) :
  Calls Tryd.prog 61 #[.agg #[.string a0_0, .string a0_1, .int .i64 a0_2], .agg #[.string a1_0, .string a1_1, .int .i64 a1_2]] w fun e w' => e = .returned (.bool r) ∧ Below w.heap.size w w' := by
 have hu69 := Tryd.underlying69;have HB := aM (Below.refl w.heap.size w);have H : (if a0_0.toList = a1_0.toList then (if a0_1.toList = a1_1.toList then (if a0_2 = a1_2 then (some true) else (none)) else (none)) else (none)) = some r := h;clear h
 by_cases c3 : a0_0.toList = a1_0.toList
 ·rw [if_pos c3] at H;have c3b0 : (a0_0.toList == a1_0.toList) = true := beq_iff_eq.mpr c3;have c3b1 : (a0_0.toList != a1_0.toList) = false := bne_eq_false_iff_eq.mpr c3;clear c3
  by_cases c4 : a0_1.toList = a1_1.toList
  ·rw [if_pos c4] at H;have c4b0 : (a0_1.toList == a1_1.toList) = true := beq_iff_eq.mpr c4;have c4b1 : (a0_1.toList != a1_1.toList) = false := bne_eq_false_iff_eq.mpr c4;clear c4
   by_cases c5 : a0_2 = a1_2
   ·rw [if_pos c5] at H;have c5b0 : (a0_2 == a1_2) = true := beq_iff_eq.mpr c5;have c5b1 : (a0_2 != a1_2) = false := bne_eq_false_iff_eq.mpr c5;clear c5;obtain rfl := Option.some.inj H
    go_enter Tryd.func61, Tryd.ntmps61
    go_wp2_with (first | ((with_reducible refine gate_dst (N := 2) rfl ?_); refine box_event ?hg (N := 2) ?hd (cs := #[.string a0_0, .string a0_1, .int .i64 a0_2]) (t := 69) ?hr ?_; (case hd => rfl); (case hg => rfl); (case hr => first | (go_simp; done) | (go_simp; rfl)); intro gb123 hg w6 hbox hb; have BK123 := aM (hbox); have GW123 := aM ((by rw [hg]; exact (below_size (bM HB.o)) : w.heap.size ≤ gb123)); have GE123 := aM ((by rw [hg]; exact (below_size (bM HB.o)) : w.heap.size ≤ gb123)); replace HB := aM (below_step (bM HB.o) hb); clear hb hbox hg) | ((with_reducible refine gate_dst (N := 3) rfl ?_); refine box_event ?hg (N := 3) ?hd (cs := #[.string a1_0, .string a1_1, .int .i64 a1_2]) (t := 69) ?hr ?_; (case hd => rfl); (case hg => rfl); (case hr => first | (go_simp; done) | (go_simp; rfl)); intro gb124 hg w7 hbox hb; have BK124 := aM (hbox); have GW124 := aM ((by rw [hg]; exact (below_size (by with_reducible repeat (first | exact HB.o | apply bA | apply bN | apply bD | refine bS ?_ GE123.o))) : w.heap.size ≤ gb124)); have GE124 := aM ((by rw [hg]; exact (below_size (by with_reducible repeat (first | exact HB.o | apply bA | apply bN | apply bD | refine bS ?_ GE123.o))) : w.heap.size ≤ gb124)); replace HB := aM (below_step (by with_reducible repeat (first | exact HB.o | apply bA | apply bN | apply bD | refine bS ?_ GE123.o)) hb); have NB123_124 := aM ((by rw [hg]; exact Nat.ne_of_lt (blk_lt (g := gb123) (o := .cells #[.string a0_0, .string a0_1, .int .i64 a0_2] 69 (0, 0)) (kM BK123.o)) : gb123 ≠ gb124)); have NB124_123 := aM ((by rw [hg]; exact Nat.ne_of_gt (blk_lt (g := gb123) (o := .cells #[.string a0_0, .string a0_1, .int .i64 a0_2] 69 (0, 0)) (kM BK123.o)) : gb124 ≠ gb123)); replace BK123 := aM (blk_below (kM BK123.o) hb); clear hb hbox hg; have hnb8 := NB123_124.o; have hnc8 := NB124_123.o; have hcz9_0 := cL0 BK123.o; have hcz9_1 := cL1 BK123.o; have hcz9_2 := cL2 BK123.o; have hfz9_0 := kF BK123.o 0; have hfz9_1 := kF BK123.o 1; have hfz9_2 := kF BK123.o 2; have hcz10_0 := cL0 BK124.o; have hcz10_1 := cL1 BK124.o; have hcz10_2 := cL2 BK124.o; have hfz10_0 := kF BK124.o 0; have hfz10_1 := kF BK124.o 1; have hfz10_2 := kF BK124.o 2))
    go_ret
    exact ⟨by first | rfl | (simp [zE] <;> rfl) | (simp [*, zE] <;> rfl), by with_reducible repeat (first | exact HB.o | apply bA | apply bN | apply bD | refine bS ?_ GE123.o | refine bS ?_ GE124.o)⟩
   ·rw [if_neg c5] at H;exact absurd H (by simp)
  ·rw [if_neg c4] at H;exact absurd H (by simp)
 ·rw [if_neg c3] at H;exact absurd H (by simp)
def laws_eqFileS.l0 : Nat → List (S69) → List (S69) → Int → Option (Bool)
 | 0, _, _, _ => none
 | k + 1, x0, x1, x5 => if x5 < (x0.length : Int) then (if 0 ≤ x5 then (if x5 < (x1.length : Int) then ((laws_eqFile.f ((rd_T69 x0 x5).f0) ((rd_T69 x0 x5).f1) ((rd_T69 x0 x5).f2) ((rd_T69 x1 x5).f0) ((rd_T69 x1 x5).f1) ((rd_T69 x1 x5).f2)).bind fun t127 => (if t127 = true then (laws_eqFileS.l0 k x0 x1 (wrap64 (x5 + 1))) else (none))) else (none)) else (none)) else (some true)
def laws_eqFileS.f (k : Nat) (l0 : List (S69)) (l1 : List (S69)) : Option (Bool) := if (l0.length : Int) = (l1.length : Int) then (laws_eqFileS.l0 k l0 l1 0) else (none)
theorem laws_eqFileS.mono_l : ∀ k, (∀ y0 y1 y2, LeO (laws_eqFileS.l0 k y0 y1 y2) (laws_eqFileS.l0 (k + 1) y0 y1 y2))
 | 0 => fun _ _ _ r h => by simp [laws_eqFileS.l0] at h
 | k + 1 => by
  have ih0 := laws_eqFileS.mono_l k
  ·intro y0 y1 y2
   unfold laws_eqFileS.l0
   repeat' first
   | (with_reducible exact ih0 _ _ _)
   | (with_reducible exact LeO.refl _)
   | (with_reducible exact LeO.none _)
   | (with_reducible refine LeO.ite ?_ ?_)
   | (with_reducible refine LeO.bind ?_ (fun _ => ?_))
   | exact ih0 _ _ _
   | exact LeO.none _
   | refine LeO.ite ?_ ?_
   | refine LeO.bind ?_ (fun _ => ?_)
theorem laws_eqFileS.mono : ∀ a0 a1 k, LeO (laws_eqFileS.f k a0 a1) (laws_eqFileS.f (k + 1) a0 a1) := by
 intro a0 a1 k;have ih0 := laws_eqFileS.mono_l k
 unfold laws_eqFileS.f
 repeat' first
   | (with_reducible exact ih0 _ _ _)
   | (with_reducible exact LeO.refl _)
   | (with_reducible exact LeO.none _)
   | (with_reducible refine LeO.ite ?_ ?_)
   | (with_reducible refine LeO.bind ?_ (fun _ => ?_))
   | exact ih0 _ _ _
   | exact LeO.none _
   | refine LeO.ite ?_ ?_
   | refine LeO.bind ?_ (fun _ => ?_)
def laws_eqFileS.T6 : Bool × List (List Nat × List Nat) := (true, [([], []), ([], []), ([0, 1], [0, 1]), ([2], [2]), ([], []), ([], []), ([4, 5], [4, 5]), ([6], [6]), ([3, 7], [3, 7]), ([8], [8])])
def laws_eqFileS.B6 : List Nat := [0, 0, 3, 7, 0, 0, 48, 112, 255, 511]
theorem laws_eqFileS.tab6 : rtab .any (opsOf Tryd.f30 6) = laws_eqFileS.T6 := by kernel_rfl
theorem laws_eqFileS.bits6 : waitsOk laws_eqFileS.T6.2 laws_eqFileS.B6 = true := by kernel_rfl
set_option maxHeartbeats 8000000 in
set_option maxRecDepth 100000 in
theorem laws_eqFileS.calls (k : Nat) (A0 : Option Addr) (c0 : Nat) (l0 : List (S69)) (A1 : Option Addr) (c1 : Nat) (l1 : List (S69)) (r : Bool) (w : World) (hr0 : Kd.C k69 w A0 l0.length l0) (hc0 : l0.length ≤ c0) (hr1 : Kd.C k69 w A1 l1.length l1) (hc1 : l1.length ≤ c1) (h : laws_eqFileS.f k l0 l1 = some r) :
  Calls Tryd.prog 30 #[.slice A0 l0.length c0, .slice A1 l1.length c1] w fun e w' => e = .returned (.bool r) ∧ Below w.heap.size w w' := by
 have hu69 := Tryd.underlying69;have HR0 := aM hr0;have HC0 := aM hc0;clear hr0 hc0;have HR1 := aM hr1;have HC1 := aM hc1;clear hr1 hc1;have HB := aM (Below.refl w.heap.size w);have H : (if (l0.length : Int) = (l1.length : Int) then (laws_eqFileS.l0 k l0 l1 0) else (none)) = some r := h;clear h
 by_cases c3 : (l0.length : Int) = (l1.length : Int)
 ·rw [if_pos c3] at H;have c3b0 : ((l0.length : Int) == (l1.length : Int)) = true := beq_iff_eq.mpr c3;have c3b1 : ((l0.length : Int) != (l1.length : Int)) = false := bne_eq_false_iff_eq.mpr c3
  have c3b2 : (l0.length == l1.length) = true := by first | simpa using c3 | (simp at c3 ⊢; omega)
  clear c3;have H' := aM H;clear H
  go_enter Tryd.func30, Tryd.ntmps30
  go_wp2
  go_loopg [5] k (fun kq v5 w' => ∃ (x5_1 : Int), v5 = .int .i64 x5_1 ∧ Aside0 (laws_eqFileS.l0 kq l0 l1 x5_1 = some r) ∧ Aside0 (kq ≤ k) ∧ Aside0 (Below w.heap.size w w'))
  case atStart => exact ⟨(0), (by first | rfl | (simp; done) | (simp [*]; done)), H', ⟨Nat.le_refl _⟩, ⟨bM HB.o⟩⟩
  case round =>
   clear H';obtain ⟨x5_1, rfl, HA, HK1, HB⟩ := hrel
   cases gk with
   | zero => exact absurd HA.o (by simp [laws_eqFileS.l0])
   | succ k1 =>
    have H := HA.o;clear HA;simp only [laws_eqFileS.l0] at H
    by_cases c4 : x5_1 < (l0.length : Int)
    ·rw [if_pos c4] at H;have c4b0 : decide (x5_1 < (l0.length : Int)) = true := decide_eq_true c4;clear c4
     by_cases c5 : 0 ≤ x5_1
     ·rw [if_pos c5] at H;have c5b0 : decide (0 ≤ x5_1) = true := decide_eq_true c5;clear c5
      by_cases c6 : x5_1 < (l1.length : Int)
      ·rw [if_pos c6] at H;have c6b0 : decide (x5_1 < (l1.length : Int)) = true := decide_eq_true c6;clear c6;obtain ⟨t127, A7, H⟩ := bX H;(try dsimp only at H)
       by_cases c8 : t127 = true
       ·subst c8
        rw [if_pos rfl] at H;have H' := aM H;clear H
        try go_wp2
        have n0_ := aM (bD HB.o);clear HB;have HB := n0_;clear n0_;have p125 : 0 ≤ (x5_1 : Int) := oD;have q125 : x5_1 < (l0.length : Int) := oD;obtain ⟨ad125, e125, hx125_0, hx125_1, hx125_2⟩ := at_T69 HR0.o x5_1 p125 q125;have hw125_2 := hx125_2;have hw125_1 := hx125_1;have hw125_0 := hx125_0
        cases e125
        replace hx125_0 := (HB.o.cell (lC w _ hx125_0)).trans hx125_0;replace hx125_1 := (HB.o.cell (lC w _ hx125_1)).trans hx125_1;replace hx125_2 := (HB.o.cell (lC w _ hx125_2)).trans hx125_2;replace p125 := eq_true p125;replace q125 := eq_true q125;have p126 : 0 ≤ (x5_1 : Int) := oD;have q126 : x5_1 < (l1.length : Int) := oD;obtain ⟨ad126, e126, hx126_0, hx126_1, hx126_2⟩ := at_T69 HR1.o x5_1 p126 q126;have hw126_2 := hx126_2;have hw126_1 := hx126_1;have hw126_0 := hx126_0
        cases e126
        replace hx126_0 := (HB.o.cell (lC w _ hx126_0)).trans hx126_0;replace hx126_1 := (HB.o.cell (lC w _ hx126_1)).trans hx126_1;replace hx126_2 := (HB.o.cell (lC w _ hx126_2)).trans hx126_2;replace p126 := eq_true p126;replace q126 := eq_true q126;refine start_ (n := 10) (S := fun w' => w'.cell? (ad125.add ((x5_1).toNat * 3)) = some (.string ((rd_T69 l0 x5_1).f0)) ∧ w'.cell? ⟨(ad125.add ((x5_1).toNat * 3)).block, (ad125.add ((x5_1).toNat * 3)).off + 1, none⟩ = some (.string ((rd_T69 l0 x5_1).f1)) ∧ w'.cell? ⟨(ad125.add ((x5_1).toNat * 3)).block, (ad125.add ((x5_1).toNat * 3)).off + 2, none⟩ = some (.int .i64 ((rd_T69 l0 x5_1).f2)) ∧ w'.cell? (ad126.add ((x5_1).toNat * 3)) = some (.string ((rd_T69 l1 x5_1).f0)) ∧ w'.cell? ⟨(ad126.add ((x5_1).toNat * 3)).block, (ad126.add ((x5_1).toNat * 3)).off + 1, none⟩ = some (.string ((rd_T69 l1 x5_1).f1)) ∧ w'.cell? ⟨(ad126.add ((x5_1).toNat * 3)).block, (ad126.add ((x5_1).toNat * 3)).off + 2, none⟩ = some (.int .i64 ((rd_T69 l1 x5_1).f2))) (ds := []) (fT 0 10) (by kernel_rfl) rfl rfl ⟨((HB.o.cell (lC w _ hw125_0)).trans hw125_0), ((HB.o.cell (lC w _ hw125_1)).trans hw125_1), ((HB.o.cell (lC w _ hw125_2)).trans hw125_2), ((HB.o.cell (lC w _ hw126_0)).trans hw126_0), ((HB.o.cell (lC w _ hw126_1)).trans hw126_1), ((HB.o.cell (lC w _ hw126_2)).trans hw126_2)⟩ (fun hHeld => ?_); refine with_tabW laws_eqFileS.tab6 laws_eqFileS.bits6 (fun HT_ HW_ => ?_);generalize wr.drew = w9 at HB hx125_0 hx125_1 hx125_2 hx126_0 hx126_1 hx126_2 hHeld ⊢;refine pC HT_ 0 17 (fT 1 10) ?_;refine pC HT_ 1 18 (fT 2 10) ?_;refine pC HT_ 2 19 (fT 3 10) ?_;refine pC HT_ 4 21 #[T,T,T,F,T,F,F,F,F,F] ?_;refine pC HT_ 5 22 #[T,T,T,F,T,T,F,F,F,F] ?_;refine pC HT_ 6 23 #[T,T,T,F,T,T,T,F,F,F] ?_;refine tB 3 (some 20) ?_ (fT 7 10) rfl rfl (take_ofW HT_.o HW_.o (by kernel_rfl)) (Or.inl ⟨by rfl, ?_⟩) hHeld ?_ ?_ ?_;rotate_left
        ·rintro w' ⟨s0, s1, s2, s3, s4, s5⟩
         go_simp
         with_reducible rfl
        rotate_left;(·simp only [zA];rfl);refine tB 7 (some 24) ?_ (fT 8 10) rfl rfl (take_ofW HT_.o HW_.o (by kernel_rfl)) (Or.inl ⟨by rfl, ?_⟩) hHeld ?_ ?_ ?_;rotate_left
        ·rintro w' ⟨s0, s1, s2, s3, s4, s5⟩
         go_simp
         with_reducible rfl
        rotate_left;(·simp only [zA];rfl);refine one_ (i := 8) (N := some 25) (fT 9 10) rfl rfl (one_of HT_.o (by kernel_rfl)) (by decide) (fun K hK => ?_);refine goes_ Tryd.func61 (by kernel_rfl) rfl #[.agg #[.string ((rd_T69 l0 x5_1).f0), .string ((rd_T69 l0 x5_1).f1), .int .i64 ((rd_T69 l0 x5_1).f2)], .agg #[.string ((rd_T69 l1 x5_1).f0), .string ((rd_T69 l1 x5_1).f1), .int .i64 ((rd_T69 l1 x5_1).f2)]] (by rfl) rfl rfl (by (try simp only [zM]); first | done | rfl | (simp only [zL]; rfl)) ?_
        with_reducible refine (laws_eqFile.calls ((rd_T69 l0 x5_1).f0) ((rd_T69 l0 x5_1).f1) ((rd_T69 l0 x5_1).f2) ((rd_T69 l1 x5_1).f0) ((rd_T69 l1 x5_1).f1) ((rd_T69 l1 x5_1).f2) true _ A7.o).mono ?_
        rintro e w10 ⟨rfl, hb⟩
        refine ⟨_, rfl, ?_⟩;have n0_ := aM (below_step (bM HB.o) hb);clear HB;have HB := n0_;clear n0_
        (try clear hb)
        (try clear hb2)
        (try clear hk)
        (try clear hi)
        refine hK.out _ _ ⟨((HB.o.cell (lC w _ hw125_0)).trans hw125_0), ((HB.o.cell (lC w _ hw125_1)).trans hw125_1), ((HB.o.cell (lC w _ hw125_2)).trans hw125_2), ((HB.o.cell (lC w _ hw126_0)).trans hw126_0), ((HB.o.cell (lC w _ hw126_1)).trans hw126_1), ((HB.o.cell (lC w _ hw126_2)).trans hw126_2)⟩ (fun hHeld => ?_);clear hK K;refine norm_ (a' := ?_) ?_ ?_;rotate_left
        ·show Act.put _ (some 25) _ = _
         simp only [zA]
         rfl
        refine pC HT_ 9 26 (fT 10 10) ?_;refine done_ (done_of HT_.o (by kernel_rfl)) ?_
        try go_wp2
        go_roundg k1
        case measure => have := HK1.o; omega
        case rel => exact ⟨(wrap64 (x5_1 + 1)), (by first | rfl | (simp; done) | (simp [*]; done)), H', ⟨by have := HK1.o; omega⟩, ⟨bM HB.o⟩⟩
       ·replace c8 := Bool.eq_false_iff.mpr c8;subst c8
        rw [if_neg (show ¬ (false = true) by decide)] at H;exact absurd H (by simp)
      ·rw [if_neg c6] at H;exact absurd H (by simp)
     ·rw [if_neg c5] at H;exact absurd H (by simp)
    ·rw [if_neg c4] at H;have c4b0 : decide (x5_1 < (l0.length : Int)) = false := decide_eq_false c4;clear c4;obtain rfl := Option.some.inj H
     go_wp2
     go_ret
     exact ⟨by first | rfl | (simp [zE] <;> rfl) | (simp [*, zE] <;> rfl), bM HB.o⟩
 ·rw [if_neg c3] at H;exact absurd H (by simp)
def laws_eqDisk.f (k : Nat) (a0_0 : Int) (l0_1 : List (S69)) (a1_0 : Int) (l1_1 : List (S69)) : Option (Bool) := if a0_0 = a1_0 then ((laws_eqFileS.f k l0_1 l1_1).bind fun t130 => (if t130 = true then (some true) else (none))) else (none)
theorem laws_eqDisk.mono : ∀ a0 a1 a2 a3 k, LeO (laws_eqDisk.f k a0 a1 a2 a3) (laws_eqDisk.f (k + 1) a0 a1 a2 a3) := by
 intro a0 a1 a2 a3 k
 unfold laws_eqDisk.f
 repeat' first
   | (with_reducible exact laws_eqFileS.mono _ _ _)
   | (with_reducible exact LeO.refl _)
   | (with_reducible exact LeO.none _)
   | (with_reducible refine LeO.ite ?_ ?_)
   | (with_reducible refine LeO.bind ?_ (fun _ => ?_))
   | exact laws_eqFileS.mono _ _ _
   | exact LeO.none _
   | refine LeO.ite ?_ ?_
   | refine LeO.bind ?_ (fun _ => ?_)
set_option maxHeartbeats 8000000 in
set_option maxRecDepth 100000 in
theorem laws_eqDisk.calls (k : Nat) (a0_0 : Int) (A0_1 : Option Addr) (c0_1 : Nat) (l0_1 : List (S69)) (a1_0 : Int) (A1_1 : Option Addr) (c1_1 : Nat) (l1_1 : List (S69)) (r : Bool) (w : World) (hr0_1 : Kd.C k69 w A0_1 l0_1.length l0_1) (hc0_1 : l0_1.length ≤ c0_1) (hr1_1 : Kd.C k69 w A1_1 l1_1.length l1_1) (hc1_1 : l1_1.length ≤ c1_1) (h : laws_eqDisk.f k a0_0 l0_1 a1_0 l1_1 = some r) :
  Calls Tryd.prog 11 #[.agg #[.int .i64 a0_0, .slice A0_1 l0_1.length c0_1], .agg #[.int .i64 a1_0, .slice A1_1 l1_1.length c1_1]] w fun e w' => e = .returned (.bool r) ∧ Below w.heap.size w w' := by
 have hu33 := Tryd.underlying33;have HR0_1 := aM hr0_1;have HC0_1 := aM hc0_1;clear hr0_1 hc0_1;have HR1_1 := aM hr1_1;have HC1_1 := aM hc1_1;clear hr1_1 hc1_1;have HB := aM (Below.refl w.heap.size w);have H : (if a0_0 = a1_0 then ((laws_eqFileS.f k l0_1 l1_1).bind fun t130 => (if t130 = true then (some true) else (none))) else (none)) = some r := h;clear h
 by_cases c3 : a0_0 = a1_0
 ·rw [if_pos c3] at H;have c3b0 : (a0_0 == a1_0) = true := beq_iff_eq.mpr c3;have c3b1 : (a0_0 != a1_0) = false := bne_eq_false_iff_eq.mpr c3;clear c3;obtain ⟨t130, A4, H⟩ := bX H;(try dsimp only at H)
  by_cases c5 : t130 = true
  ·subst c5
   rw [if_pos rfl] at H;obtain rfl := Option.some.inj H
   go_enter Tryd.func11, Tryd.ntmps11
   go_wp2_with (first | ((with_reducible refine gate_dst (N := 2) rfl ?_); refine box_event ?hg (N := 2) ?hd (cs := #[.int .i64 a0_0, .slice A0_1 l0_1.length c0_1]) (t := 33) ?hr ?_; (case hd => rfl); (case hg => rfl); (case hr => first | (go_simp; done) | (go_simp; rfl)); intro gb128 hg w6 hbox hb; have BK128 := aM (hbox); have GW128 := aM ((by rw [hg]; exact (below_size (bM HB.o)) : w.heap.size ≤ gb128)); have GE128 := aM ((by rw [hg]; exact (below_size (bM HB.o)) : w.heap.size ≤ gb128)); replace HB := aM (below_step (bM HB.o) hb); clear hb hbox hg) | ((with_reducible refine gate_dst (N := 3) rfl ?_); refine box_event ?hg (N := 3) ?hd (cs := #[.int .i64 a1_0, .slice A1_1 l1_1.length c1_1]) (t := 33) ?hr ?_; (case hd => rfl); (case hg => rfl); (case hr => first | (go_simp; done) | (go_simp; rfl)); intro gb129 hg w7 hbox hb; have BK129 := aM (hbox); have GW129 := aM ((by rw [hg]; exact (below_size (by with_reducible repeat (first | exact HB.o | apply bA | apply bN | apply bD | refine bS ?_ GE128.o))) : w.heap.size ≤ gb129)); have GE129 := aM ((by rw [hg]; exact (below_size (by with_reducible repeat (first | exact HB.o | apply bA | apply bN | apply bD | refine bS ?_ GE128.o))) : w.heap.size ≤ gb129)); replace HB := aM (below_step (by with_reducible repeat (first | exact HB.o | apply bA | apply bN | apply bD | refine bS ?_ GE128.o)) hb); have NB128_129 := aM ((by rw [hg]; exact Nat.ne_of_lt (blk_lt (g := gb128) (o := .cells #[.int .i64 a0_0, .slice A0_1 l0_1.length c0_1] 33 (0, 0)) (kM BK128.o)) : gb128 ≠ gb129)); have NB129_128 := aM ((by rw [hg]; exact Nat.ne_of_gt (blk_lt (g := gb128) (o := .cells #[.int .i64 a0_0, .slice A0_1 l0_1.length c0_1] 33 (0, 0)) (kM BK128.o)) : gb129 ≠ gb128)); replace BK128 := aM (blk_below (kM BK128.o) hb); clear hb hbox hg; have hnb8 := NB128_129.o; have hnc8 := NB129_128.o; have hcz9_0 := cL0 BK128.o; have hcz9_1 := cL1 BK128.o; have hfz9_0 := kF BK128.o 0; have hfz9_1 := kF BK128.o 1; have hcz10_0 := cL0 BK129.o; have hcz10_1 := cL1 BK129.o; have hfz10_0 := kF BK129.o 0; have hfz10_1 := kF BK129.o 1) | ((with_reducible refine gate_callee (f := 30) rfl ?_); refine goesL_ (some 14) rfl rfl Tryd.func30 (by kernel_rfl) rfl #[.slice A0_1 l0_1.length c0_1, .slice A1_1 l1_1.length c1_1] rfl (by (try simp only [zM]); first | done | rfl | (simp only [zL]; rfl)) ?_; (with_reducible refine (laws_eqFileS.calls k _ _ l0_1 _ _ l1_1 true _ ?side1 ?side2 ?side3 ?side4 A4.o).mono ?_); (case side1 => exact Kd.C_below HR0_1.o (bM HB.o)); (case side2 => exact HC0_1.o); (case side3 => exact Kd.C_below HR1_1.o (bM HB.o)); (case side4 => exact HC1_1.o); rintro e w11 ⟨rfl, hb⟩; refine ⟨_, rfl, ?_⟩; replace BK128 := aM (blk_below (kM BK128.o) hb); replace BK129 := aM (blk_below (kM BK129.o) hb); replace HB := aM (below_step (by with_reducible repeat (first | exact HB.o | apply bA | apply bN | apply bD | refine bS ?_ GE128.o | refine bS ?_ GE129.o)) hb); (try clear hb); skip))
   go_ret
   exact ⟨by first | rfl | (simp [zE] <;> rfl) | (simp [*, zE] <;> rfl), by with_reducible repeat (first | exact HB.o | apply bA | apply bN | apply bD | refine bS ?_ GE128.o | refine bS ?_ GE129.o)⟩
  ·replace c5 := Bool.eq_false_iff.mpr c5;subst c5
   rw [if_neg (show ¬ (false = true) by decide)] at H;exact absurd H (by simp)
 ·rw [if_neg c3] at H;exact absurd H (by simp)
def laws_markText.l0 : Nat → Int → ByteArray → Option (ByteArray)
 | 0, _, _ => none
 | k + 1, x0, x3 => if x0 > 0 then ((some (([(wrap64 (48 + (Int.tmod x0 10))) % 256] : List Int) : List Int)).bind fun y131 => (if (strOfNums y131).size + x3.size ≤ 9223372036854775807 then (laws_markText.l0 k (wrap64 (Int.tdiv x0 10)) ((strOfNums y131) ++ x3)) else (none))) else (if 1 + x3.size ≤ 9223372036854775807 then (some ((⟨#[109]⟩ : ByteArray) ++ x3)) else (none))
def laws_markText.f (k : Nat) (a0 : Int) : Option (ByteArray) := if a0 ≤ 0 then (some (⟨#[109, 48]⟩ : ByteArray)) else (laws_markText.l0 k a0 (⟨#[]⟩ : ByteArray))
theorem laws_markText.mono_l : ∀ k, (∀ y0 y1, LeO (laws_markText.l0 k y0 y1) (laws_markText.l0 (k + 1) y0 y1))
 | 0 => fun _ _ r h => by simp [laws_markText.l0] at h
 | k + 1 => by
  have ih0 := laws_markText.mono_l k
  ·intro y0 y1
   unfold laws_markText.l0
   repeat' first
   | (with_reducible exact ih0 _ _)
   | (with_reducible exact LeO.refl _)
   | (with_reducible exact LeO.none _)
   | (with_reducible refine LeO.ite ?_ ?_)
   | (with_reducible refine LeO.bind ?_ (fun _ => ?_))
   | exact ih0 _ _
   | exact LeO.none _
   | refine LeO.ite ?_ ?_
   | refine LeO.bind ?_ (fun _ => ?_)
theorem laws_markText.mono : ∀ a0 k, LeO (laws_markText.f k a0) (laws_markText.f (k + 1) a0) := by
 intro a0 k;have ih0 := laws_markText.mono_l k
 unfold laws_markText.f
 repeat' first
   | (with_reducible exact ih0 _ _)
   | (with_reducible exact LeO.refl _)
   | (with_reducible exact LeO.none _)
   | (with_reducible refine LeO.ite ?_ ?_)
   | (with_reducible refine LeO.bind ?_ (fun _ => ?_))
   | exact ih0 _ _
   | exact LeO.none _
   | refine LeO.ite ?_ ?_
   | refine LeO.bind ?_ (fun _ => ?_)
set_option maxHeartbeats 8000000 in
set_option maxRecDepth 100000 in
theorem laws_markText.calls (k : Nat) (a0 : Int) (r : ByteArray) (w : World) (h : laws_markText.f k a0 = some r) :
  Calls Tryd.prog 39 #[.int .i64 a0] w fun e w' => e = .returned (.string r) ∧ Below w.heap.size w w' := by
 have HB := aM (Below.refl w.heap.size w);have H : (if a0 ≤ 0 then (some (⟨#[109, 48]⟩ : ByteArray)) else (laws_markText.l0 k a0 (⟨#[]⟩ : ByteArray))) = some r := h;clear h
 by_cases c2 : a0 ≤ 0
 ·rw [if_pos c2] at H;have c2b0 : decide (a0 ≤ 0) = true := decide_eq_true c2;clear c2;obtain rfl := Option.some.inj H
  go_enter Tryd.func39, Tryd.ntmps39
  go_wp2
  go_ret
  exact ⟨by first | rfl | (simp [zE] <;> rfl) | (simp [*, zE] <;> rfl), bM HB.o⟩
 ·rw [if_neg c2] at H;have c2b0 : decide (a0 ≤ 0) = false := decide_eq_false c2;clear c2;have H' := aM H;clear H
  go_enter Tryd.func39, Tryd.ntmps39
  go_wp2
  go_loopg [0, 3] k (fun kq v0 v3 w' => ∃ (x0_1 : Int) (x3_1 : ByteArray), v0 = .int .i64 x0_1 ∧ v3 = .string x3_1 ∧ Aside0 (laws_markText.l0 kq x0_1 x3_1 = some r) ∧ Aside0 (kq ≤ k) ∧ Aside0 (Below w.heap.size w w'))
  case atStart => exact ⟨(a0), ((⟨#[]⟩ : ByteArray)), (by first | rfl | (simp; done) | (simp [*]; done)), (by first | rfl | (simp; done) | (simp [*]; done)), H', ⟨Nat.le_refl _⟩, ⟨bM HB.o⟩⟩
  case round =>
   clear H';obtain ⟨x0_1, x3_1, rfl, rfl, HA, HK1, HB⟩ := hrel
   cases gk with
   | zero => exact absurd HA.o (by simp [laws_markText.l0])
   | succ k1 =>
    have H := HA.o;clear HA;simp only [laws_markText.l0] at H
    by_cases c3 : x0_1 > 0
    ·rw [if_pos c3] at H;have c3b0 : decide (0 < x0_1) = true := decide_eq_true c3;clear c3;obtain ⟨y131, hy131⟩ : ∃ y_ : List Int, y_ = (([(wrap64 (48 + (Int.tmod x0_1 10))) % 256] : List Int)) := ⟨_, rfl⟩
     replace H : (if (strOfNums y131).size + x3_1.size ≤ 9223372036854775807 then (laws_markText.l0 k1 (wrap64 (Int.tdiv x0_1 10)) ((strOfNums y131) ++ x3_1)) else (none)) = some r := by first | (rw [hy131]; with_reducible exact H) | (have H2_ := (Option.bind_some _ _).symm.trans H; rw [hy131]; with_reducible exact H2_) | (have H2_ := (Option.bind_some _ _).symm.trans H; with_reducible exact H2_) | with_reducible exact H | (rw [hy131]; exact H) | exact H
     have Ny131 := aM hy131;clear hy131
     by_cases c4 : (strOfNums y131).size + x3_1.size ≤ 9223372036854775807
     ·rw [if_pos c4] at H;have c4b0 := eq_true c4;have c4b1 : decide ((strOfNums y131).size + x3_1.size ≤ 9223372036854775807) = true := decide_eq_true c4
      try have c4b2 : (9223372036854775807 < (strOfNums y131).size + x3_1.size) = False := eq_false (Nat.not_lt.2 c4)
      have H' := aM H;clear H
      go_wp2_with (first | ((with_reducible refine gate_dst (N := 12) rfl ?_); refine Kd.R_lit (Kd.int .u8) _ 5 ?hg (N := 12) ?hd (xs := ([(wrap64 (48 + (Int.tmod x0_1 10))) % 256] : List Int)) (inner := [.int .u8 ((wrap64 (48 + (Int.tmod x0_1 10))) % 256)]) (ok := fun _ => True) (okp := fun _ => True) ?hr ?hp (fun _ hk => hk) trivial (Below.refl _ _) (Nat.le_refl _) (by simp) ?_; (case hd => rfl); (case hg => rfl); (case hr => first | (go_simp; done) | (go_simp; rfl)); (case hp => exact (Reps.one (show Kd.M (Kd.int .u8) _ _ _ ((wrap64 (48 + (Int.tmod x0_1 10))) % 256) [.int .u8 ((wrap64 (48 + (Int.tmod x0_1 10))) % 256)] from rfl) (Reps.none _ _))); intro v132 w5 ho6 hb hg_ hnew_; clear hg_ hnew_; (first | rw [← Ny131.o] at ho6 | (simp only [Int.reduceToNat] at ho6; rw [← Ny131.o] at ho6)); have HO133 := aM (Kd.R_lower ho6 (below_size (bM HB.o))); replace HB := aM (below_step (bM HB.o) hb); clear hb ho6; have hcv7 := own_string (P := Tryd.prog) Tryd.underlying76 Tryd.underlying5 Tryd.underlying9 (Kd.own_of_R HO133.o)))
      go_roundg k1
      case measure => have := HK1.o; omega
      case rel => exact ⟨(wrap64 (Int.tdiv x0_1 10)), ((strOfNums y131) ++ x3_1), (by first | rfl | (simp; done) | (simp [*]; done)), (by first | rfl | (simp; done) | (simp [*]; done)), H', ⟨by have := HK1.o; omega⟩, ⟨bM HB.o⟩⟩
     ·rw [if_neg c4] at H;exact absurd H (by simp)
    ·rw [if_neg c3] at H;have c3b0 : decide (0 < x0_1) = false := decide_eq_false c3;clear c3
     by_cases c8 : 1 + x3_1.size ≤ 9223372036854775807
     ·rw [if_pos c8] at H;have c8b0 := eq_true c8;have c8b1 : decide (1 + x3_1.size ≤ 9223372036854775807) = true := decide_eq_true c8
      try have c8b2 : (9223372036854775807 < 1 + x3_1.size) = False := eq_false (Nat.not_lt.2 c8)
      obtain rfl := Option.some.inj H
      go_wp2
      go_ret
      exact ⟨by first | rfl | (simp [zE] <;> rfl) | (simp [*, zE] <;> rfl), bM HB.o⟩
     ·rw [if_neg c8] at H;exact absurd H (by simp)
end Go.Proofs.YtpdhfoegbannkaaDoor.PFnExactWalPlan
