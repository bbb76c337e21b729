import Derived.Test.YtpdhfoegbannkaaDoorMFnExactWalPlanPx0
import Derived.Test.YtpdhfoegbannkaaDoorMFnExactWalPlanPx1
namespace Go.Proofs.YtpdhfoegbannkaaDoor.PFnExactWalPlan
open Go.RowKit Go.Proofs.YtpdhfoegbannkaaDoorW.PrintWords Go.Proofs.YtpdhfoegbannkaaDoorW.PrintLast Go.Proofs.YtpdhfoegbannkaaDoorW.PrintMore
attribute [local go_sem] max2_int min2_int max_two min_two max_three min_three max_four min_four
set_option linter.unusedVariables false
set_option linter.unusedSimpArgs false
def laws_heldIntS.l0 : Nat → List Int → Int → Int → Option (Int)
 | 0, _, _, _ => none
 | k + 1, x0, x1, x5 => if x5 < (x0.length : Int) then (if 0 ≤ x5 then (if (rd x0 x5) = x1 then (laws_heldIntS.l0 k x0 (wrap64 (x1 + 1)) (wrap64 (x5 + 1))) else (none)) else (none)) else (some x1)
def laws_heldIntS.f (k : Nat) (l0 : List Int) (a1 : Int) : Option (Int) := laws_heldIntS.l0 k l0 a1 0
theorem laws_heldIntS.mono_l : ∀ k, (∀ y0 y1 y2, LeO (laws_heldIntS.l0 k y0 y1 y2) (laws_heldIntS.l0 (k + 1) y0 y1 y2))
 | 0 => fun _ _ _ r h => by simp [laws_heldIntS.l0] at h
 | k + 1 => by
  have ih0 := laws_heldIntS.mono_l k
  ·intro y0 y1 y2
   unfold laws_heldIntS.l0
   repeat' first
   | (with_reducible exact ih0 _ _ _)
   | (with_reducible exact LeO.refl _)
   | (with_reducible exact LeO.none _)
   | (with_reducible refine LeO.ite ?_ ?_)
   | (with_reducible refine LeO.bind ?_ (fun _ => ?_))
   | exact ih0 _ _ _
   | exact LeO.none _
   | refine LeO.ite ?_ ?_
   | refine LeO.bind ?_ (fun _ => ?_)
theorem laws_heldIntS.mono : ∀ a0 a1 k, LeO (laws_heldIntS.f k a0 a1) (laws_heldIntS.f (k + 1) a0 a1) := by
 intro a0 a1 k;have ih0 := laws_heldIntS.mono_l k
 unfold laws_heldIntS.f
 repeat' first
   | (with_reducible exact ih0 _ _ _)
   | (with_reducible exact LeO.refl _)
   | (with_reducible exact LeO.none _)
   | (with_reducible refine LeO.ite ?_ ?_)
   | (with_reducible refine LeO.bind ?_ (fun _ => ?_))
   | exact ih0 _ _ _
   | exact LeO.none _
   | refine LeO.ite ?_ ?_
   | refine LeO.bind ?_ (fun _ => ?_)
set_option maxHeartbeats 8000000 in
set_option maxRecDepth 100000 in
theorem laws_heldIntS.calls (k : Nat) (A0 : Option Addr) (c0 : Nat) (l0 : List Int) (a1 : Int) (r : Int) (w : World) (hr0 : Kd.C (Kd.int .i64) w A0 l0.length l0) (hc0 : l0.length ≤ c0) (h : laws_heldIntS.f k l0 a1 = some r) :
  Calls Tryd.prog 41 #[.slice A0 l0.length c0, .int .i64 a1] w fun e w' => e = .returned (.int .i64 r) ∧ Drawn0 w w' := by
 have HR0 := aM hr0;have HC0 := aM hc0;clear hr0 hc0;have H : (laws_heldIntS.l0 k l0 a1 0) = some r := h;clear h;have H' := aM H;clear H
 go_enter Tryd.func41, Tryd.ntmps41
 go_wp2
 go_loopg [1, 5] k (fun kq v1 v5 w' => ∃ (x1_1 : Int) (x5_1 : Int), v1 = .int .i64 x1_1 ∧ v5 = .int .i64 x5_1 ∧ Aside0 (laws_heldIntS.l0 kq l0 x1_1 x5_1 = some r) ∧ Aside0 (kq ≤ k) ∧ Drawn0 w w')
 case atStart => exact ⟨(a1), (0), (by first | rfl | (simp; done) | (simp [*]; done)), (by first | rfl | (simp; done) | (simp [*]; done)), H', ⟨Nat.le_refl _⟩, by repeat (first | exact Drawn0.refl _ | apply Drawn0.step)⟩
 case round =>
  clear H';obtain ⟨x1_1, x5_1, rfl, rfl, HA, HK1, ⟨m1, rfl⟩⟩ := hrel
  cases gk with
  | zero => exact absurd HA.o (by simp [laws_heldIntS.l0])
  | succ k1 =>
   have H := HA.o;clear HA;simp only [laws_heldIntS.l0] at H
   by_cases c3 : x5_1 < (l0.length : Int)
   ·rw [if_pos c3] at H;have c3b0 : decide (x5_1 < (l0.length : Int)) = true := decide_eq_true c3;clear c3
    by_cases c4 : 0 ≤ x5_1
    ·rw [if_pos c4] at H;have c4b0 : decide (0 ≤ x5_1) = true := decide_eq_true c4;clear c4
     by_cases c5 : (rd l0 x5_1) = x1_1
     ·rw [if_pos c5] at H;have c5b0 : ((rd l0 x5_1) == x1_1) = true := beq_iff_eq.mpr c5;have c5b1 : ((rd l0 x5_1) != x1_1) = false := bne_eq_false_iff_eq.mpr c5;clear c5;have H' := aM H;clear H;have p369 : 0 ≤ (x5_1 : Int) := oD;have q369 : x5_1 < (l0.length : Int) := oD;obtain ⟨ad369, e369, hx369_0⟩ := Kd.at_int HR0.o x5_1 p369 q369
      cases e369
      replace p369 := eq_true p369;replace q369 := eq_true q369
      go_wp2
      go_roundg k1
      case measure => have := HK1.o; omega
      case rel => exact ⟨(wrap64 (x1_1 + 1)), (wrap64 (x5_1 + 1)), (by first | rfl | (simp; done) | (simp [*]; done)), (by first | rfl | (simp; done) | (simp [*]; done)), H', ⟨by have := HK1.o; omega⟩, by repeat (first | exact Drawn0.refl _ | apply Drawn0.step)⟩
     ·rw [if_neg c5] at H;exact absurd H (by simp)
    ·rw [if_neg c4] at H;exact absurd H (by simp)
   ·rw [if_neg c3] at H;have c3b0 : decide (x5_1 < (l0.length : Int)) = false := decide_eq_false c3;clear c3;obtain rfl := Option.some.inj H
    go_wp2
    go_ret
    exact ⟨by first | rfl | (simp; done) | (simp [*]; done), by repeat (first | exact Drawn0.refl _ | apply Drawn0.step)⟩
def laws_heldFileActS.l0 : Nat → List (S61) → Int → Int → Option (Int)
 | 0, _, _, _ => none
 | k + 1, x0, x1, x5 => if x5 < (x0.length : Int) then (if 0 ≤ x5 then (if ((rd_T61 x0 x5).f0) = x1 then (if ((rd_T61 x0 x5).f1) = (wrap64 (x1 + 1)) then ((laws_markText.f k (wrap64 ((wrap64 (x1 + 1)) + 1))).bind fun t373 => (if ((rd_T61 x0 x5).f2).toList = t373.toList then ((laws_markText.f k (wrap64 ((wrap64 ((wrap64 (x1 + 1)) + 1)) + 1))).bind fun t375 => (if ((rd_T61 x0 x5).f3).toList = t375.toList then ((laws_markText.f k (wrap64 ((wrap64 ((wrap64 ((wrap64 (x1 + 1)) + 1)) + 1)) + 1))).bind fun t377 => (if ((rd_T61 x0 x5).f4).toList = t377.toList then ((laws_heldIntS.f k ((rd_T61 x0 x5).f5) (wrap64 ((wrap64 ((wrap64 ((wrap64 ((wrap64 (x1 + 1)) + 1)) + 1)) + 1)) + 1))).bind fun t379 => (if t379 < 0 then (none) else (laws_heldFileActS.l0 k x0 t379 (wrap64 (x5 + 1))))) else (none))) else (none))) else (none))) else (none)) else (none)) else (none)) else (some x1)
def laws_heldFileActS.f (k : Nat) (l0 : List (S61)) (a1 : Int) : Option (Int) := laws_heldFileActS.l0 k l0 a1 0
theorem laws_heldFileActS.mono_l : ∀ k, (∀ y0 y1 y2, LeO (laws_heldFileActS.l0 k y0 y1 y2) (laws_heldFileActS.l0 (k + 1) y0 y1 y2))
 | 0 => fun _ _ _ r h => by simp [laws_heldFileActS.l0] at h
 | k + 1 => by
  have ih0 := laws_heldFileActS.mono_l k
  ·intro y0 y1 y2
   unfold laws_heldFileActS.l0
   repeat' first
   | (with_reducible exact ih0 _ _ _)
   | (with_reducible exact laws_heldIntS.mono _ _ _)
   | (with_reducible exact laws_markText.mono _ _)
   | (with_reducible exact LeO.refl _)
   | (with_reducible exact LeO.none _)
   | (with_reducible refine LeO.ite ?_ ?_)
   | (with_reducible refine LeO.bind ?_ (fun _ => ?_))
   | exact ih0 _ _ _
   | exact laws_heldIntS.mono _ _ _
   | exact laws_markText.mono _ _
   | exact LeO.none _
   | refine LeO.ite ?_ ?_
   | refine LeO.bind ?_ (fun _ => ?_)
theorem laws_heldFileActS.mono : ∀ a0 a1 k, LeO (laws_heldFileActS.f k a0 a1) (laws_heldFileActS.f (k + 1) a0 a1) := by
 intro a0 a1 k;have ih0 := laws_heldFileActS.mono_l k
 unfold laws_heldFileActS.f
 repeat' first
   | (with_reducible exact ih0 _ _ _)
   | (with_reducible exact laws_heldIntS.mono _ _ _)
   | (with_reducible exact laws_markText.mono _ _)
   | (with_reducible exact LeO.refl _)
   | (with_reducible exact LeO.none _)
   | (with_reducible refine LeO.ite ?_ ?_)
   | (with_reducible refine LeO.bind ?_ (fun _ => ?_))
   | exact ih0 _ _ _
   | exact laws_heldIntS.mono _ _ _
   | exact laws_markText.mono _ _
   | exact LeO.none _
   | refine LeO.ite ?_ ?_
   | refine LeO.bind ?_ (fun _ => ?_)
def laws_heldFileActS.T10 : Bool × List (List Nat × List Nat) := (true, [([], []), ([], []), ([0, 1], [0, 1]), ([2], [2]), ([3], [3]), ([], []), ([5], [5]), ([4, 6], [4, 6])])
def laws_heldFileActS.B10 : List Nat := [0, 0, 3, 7, 15, 0, 32, 127]
theorem laws_heldFileActS.tab10 : rtab .any (opsOf Tryd.f19 10) = laws_heldFileActS.T10 := by kernel_rfl
theorem laws_heldFileActS.bits10 : waitsOk laws_heldFileActS.T10.2 laws_heldFileActS.B10 = true := by kernel_rfl
def laws_heldFileActS.T13 : Bool × List (List Nat × List Nat) := (true, [([], []), ([], []), ([0, 1], [0, 1]), ([2], [2]), ([3], [3]), ([], []), ([5], [5]), ([4, 6], [4, 6])])
def laws_heldFileActS.B13 : List Nat := [0, 0, 3, 7, 15, 0, 32, 127]
theorem laws_heldFileActS.tab13 : rtab .any (opsOf Tryd.f19 13) = laws_heldFileActS.T13 := by kernel_rfl
theorem laws_heldFileActS.bits13 : waitsOk laws_heldFileActS.T13.2 laws_heldFileActS.B13 = true := by kernel_rfl
def laws_heldFileActS.T16 : Bool × List (List Nat × List Nat) := (true, [([], []), ([], []), ([0, 1], [0, 1]), ([2], [2]), ([3], [3]), ([], []), ([5], [5]), ([4, 6], [4, 6])])
def laws_heldFileActS.B16 : List Nat := [0, 0, 3, 7, 15, 0, 32, 127]
theorem laws_heldFileActS.tab16 : rtab .any (opsOf Tryd.f19 16) = laws_heldFileActS.T16 := by kernel_rfl
theorem laws_heldFileActS.bits16 : waitsOk laws_heldFileActS.T16.2 laws_heldFileActS.B16 = true := by kernel_rfl
set_option maxHeartbeats 8000000 in
set_option maxRecDepth 100000 in
theorem laws_heldFileActS.calls (k : Nat) (A0 : Option Addr) (c0 : Nat) (l0 : List (S61)) (a1 : Int) (r : Int) (w : World) (hr0 : Kd.C k61 w A0 l0.length l0) (hc0 : l0.length ≤ c0) (h : laws_heldFileActS.f k l0 a1 = some r) :
  Calls Tryd.prog 19 #[.slice A0 l0.length c0, .int .i64 a1] w fun e w' => e = .returned (.int .i64 r) ∧ Below w.heap.size w w' := by
 have HR0 := aM hr0;have HC0 := aM hc0;clear hr0 hc0;have HB := aM (Below.refl w.heap.size w);have H : (laws_heldFileActS.l0 k l0 a1 0) = some r := h;clear h;have H' := aM H;clear H
 go_enter Tryd.func19, Tryd.ntmps19
 go_wp2
 go_loopg [1, 5] k (fun kq v1 v5 w' => ∃ (x1_1 : Int) (x5_1 : Int), v1 = .int .i64 x1_1 ∧ v5 = .int .i64 x5_1 ∧ Aside0 (laws_heldFileActS.l0 kq l0 x1_1 x5_1 = some r) ∧ Aside0 (kq ≤ k) ∧ Aside0 (Below w.heap.size w w'))
 case atStart => exact ⟨(a1), (0), (by first | rfl | (simp; done) | (simp [*]; done)), (by first | rfl | (simp; done) | (simp [*]; done)), H', ⟨Nat.le_refl _⟩, ⟨bM HB.o⟩⟩
 case round =>
  clear H';obtain ⟨x1_1, x5_1, rfl, rfl, HA, HK1, HB⟩ := hrel
  cases gk with
  | zero => exact absurd HA.o (by simp [laws_heldFileActS.l0])
  | succ k1 =>
   have H := HA.o;clear HA;simp only [laws_heldFileActS.l0] at H
   by_cases c3 : x5_1 < (l0.length : Int)
   ·rw [if_pos c3] at H;have c3b0 : decide (x5_1 < (l0.length : Int)) = true := decide_eq_true c3;clear c3
    by_cases c4 : 0 ≤ x5_1
    ·rw [if_pos c4] at H;have c4b0 : decide (0 ≤ x5_1) = true := decide_eq_true c4;clear c4
     by_cases c5 : ((rd_T61 l0 x5_1).f0) = x1_1
     ·rw [if_pos c5] at H;have c5b0 : (((rd_T61 l0 x5_1).f0) == x1_1) = true := beq_iff_eq.mpr c5;have c5b1 : (((rd_T61 l0 x5_1).f0) != x1_1) = false := bne_eq_false_iff_eq.mpr c5;clear c5
      by_cases c6 : ((rd_T61 l0 x5_1).f1) = (wrap64 (x1_1 + 1))
      ·rw [if_pos c6] at H;have c6b0 : (((rd_T61 l0 x5_1).f1) == (wrap64 (x1_1 + 1))) = true := beq_iff_eq.mpr c6;have c6b1 : (((rd_T61 l0 x5_1).f1) != (wrap64 (x1_1 + 1))) = false := bne_eq_false_iff_eq.mpr c6;clear c6;obtain ⟨t373, A7, H⟩ := bX H;(try dsimp only at H)
       by_cases c8 : ((rd_T61 l0 x5_1).f2).toList = t373.toList
       ·rw [if_pos c8] at H;have c8b0 : (((rd_T61 l0 x5_1).f2).toList == t373.toList) = true := beq_iff_eq.mpr c8;have c8b1 : (((rd_T61 l0 x5_1).f2).toList != t373.toList) = false := bne_eq_false_iff_eq.mpr c8;clear c8;obtain ⟨t375, A9, H⟩ := bX H;(try dsimp only at H)
        by_cases c10 : ((rd_T61 l0 x5_1).f3).toList = t375.toList
        ·rw [if_pos c10] at H;have c10b0 : (((rd_T61 l0 x5_1).f3).toList == t375.toList) = true := beq_iff_eq.mpr c10;have c10b1 : (((rd_T61 l0 x5_1).f3).toList != t375.toList) = false := bne_eq_false_iff_eq.mpr c10;clear c10;obtain ⟨t377, A11, H⟩ := bX H;(try dsimp only at H)
         by_cases c12 : ((rd_T61 l0 x5_1).f4).toList = t377.toList
         ·rw [if_pos c12] at H;have c12b0 : (((rd_T61 l0 x5_1).f4).toList == t377.toList) = true := beq_iff_eq.mpr c12;have c12b1 : (((rd_T61 l0 x5_1).f4).toList != t377.toList) = false := bne_eq_false_iff_eq.mpr c12;clear c12;obtain ⟨t379, A13, H⟩ := bX H;(try dsimp only at H)
          by_cases c14 : t379 < 0
          ·rw [if_pos c14] at H;exact absurd H (by simp)
          ·rw [if_neg c14] at H;have c14b0 : decide (t379 < 0) = false := decide_eq_false c14;clear c14;have H' := aM H;clear H;have p370 : 0 ≤ (x5_1 : Int) := oD;have q370 : x5_1 < (l0.length : Int) := oD;obtain ⟨ad370, A370_5, c370_5, e370, hx370_0, hx370_1, hx370_2, hx370_3, hx370_4, hx370_5, hl370_5, hi370_5⟩ := at_T61 HR0.o x5_1 p370 q370
           cases e370
           replace hx370_0 := (HB.o.cell (lC w _ hx370_0)).trans hx370_0;replace hx370_1 := (HB.o.cell (lC w _ hx370_1)).trans hx370_1;replace hx370_2 := (HB.o.cell (lC w _ hx370_2)).trans hx370_2;replace hx370_3 := (HB.o.cell (lC w _ hx370_3)).trans hx370_3;replace hx370_4 := (HB.o.cell (lC w _ hx370_4)).trans hx370_4;replace hx370_5 := (HB.o.cell (lC w _ hx370_5)).trans hx370_5;have HR370_5 := aM hi370_5;have HC370_5 := aM hl370_5;clear hi370_5 hl370_5;replace p370 := eq_true p370;replace q370 := eq_true q370;have p371 : 0 ≤ (x5_1 : Int) := oD;have q371 : x5_1 < (l0.length : Int) := oD;obtain ⟨ad371, A371_5, c371_5, e371, hx371_0, hx371_1, hx371_2, hx371_3, hx371_4, hx371_5, hl371_5, hi371_5⟩ := at_T61 HR0.o x5_1 p371 q371;obtain rfl : ad370 = ad371 := (by injection e371);replace hx371_0 := (HB.o.cell (lC w _ hx371_0)).trans hx371_0;replace hx371_1 := (HB.o.cell (lC w _ hx371_1)).trans hx371_1;replace hx371_2 := (HB.o.cell (lC w _ hx371_2)).trans hx371_2;replace hx371_3 := (HB.o.cell (lC w _ hx371_3)).trans hx371_3;replace hx371_4 := (HB.o.cell (lC w _ hx371_4)).trans hx371_4;replace hx371_5 := (HB.o.cell (lC w _ hx371_5)).trans hx371_5;have HR371_5 := aM hi371_5;have HC371_5 := aM hl371_5;clear hi371_5 hl371_5;replace p371 := eq_true p371;replace q371 := eq_true q371;have ea_ := Option.some.inj (hx370_5.symm.trans hx371_5)
           injection ea_ with ea_ en_ ec_
           subst ea_;subst ec_;clear en_
           try go_wp2
           have n0_ := aM (bD HB.o);clear HB;have HB := n0_;clear n0_;have p372 : 0 ≤ (x5_1 : Int) := oD;have q372 : x5_1 < (l0.length : Int) := oD;obtain ⟨ad372, A372_5, c372_5, e372, hx372_0, hx372_1, hx372_2, hx372_3, hx372_4, hx372_5, hl372_5, hi372_5⟩ := at_T61 HR0.o x5_1 p372 q372;have hw372_5 := hx372_5;have hw372_4 := hx372_4;have hw372_3 := hx372_3;have hw372_2 := hx372_2;have hw372_1 := hx372_1;have hw372_0 := hx372_0;obtain rfl : ad370 = ad372 := (by injection e372);replace hx372_0 := (HB.o.cell (lC w _ hx372_0)).trans hx372_0;replace hx372_1 := (HB.o.cell (lC w _ hx372_1)).trans hx372_1;replace hx372_2 := (HB.o.cell (lC w _ hx372_2)).trans hx372_2;replace hx372_3 := (HB.o.cell (lC w _ hx372_3)).trans hx372_3;replace hx372_4 := (HB.o.cell (lC w _ hx372_4)).trans hx372_4;replace hx372_5 := (HB.o.cell (lC w _ hx372_5)).trans hx372_5;have HR372_5 := aM hi372_5;have HC372_5 := aM hl372_5;clear hi372_5 hl372_5;replace p372 := eq_true p372;replace q372 := eq_true q372;refine start_ (n := 8) (S := fun w' => w'.cell? (ad370.add ((x5_1).toNat * 6)) = some (.int .i64 ((rd_T61 l0 x5_1).f0)) ∧ w'.cell? ⟨(ad370.add ((x5_1).toNat * 6)).block, (ad370.add ((x5_1).toNat * 6)).off + 1, none⟩ = some (.int .i64 ((rd_T61 l0 x5_1).f1)) ∧ w'.cell? ⟨(ad370.add ((x5_1).toNat * 6)).block, (ad370.add ((x5_1).toNat * 6)).off + 2, none⟩ = some (.string ((rd_T61 l0 x5_1).f2)) ∧ w'.cell? ⟨(ad370.add ((x5_1).toNat * 6)).block, (ad370.add ((x5_1).toNat * 6)).off + 3, none⟩ = some (.string ((rd_T61 l0 x5_1).f3)) ∧ w'.cell? ⟨(ad370.add ((x5_1).toNat * 6)).block, (ad370.add ((x5_1).toNat * 6)).off + 4, none⟩ = some (.string ((rd_T61 l0 x5_1).f4)) ∧ w'.cell? ⟨(ad370.add ((x5_1).toNat * 6)).block, (ad370.add ((x5_1).toNat * 6)).off + 5, none⟩ = some (.slice A372_5 ((rd_T61 l0 x5_1).f5).length c372_5)) (ds := []) (fT 0 8) (by kernel_rfl) rfl rfl ⟨((HB.o.cell (lC w _ hw372_0)).trans hw372_0), ((HB.o.cell (lC w _ hw372_1)).trans hw372_1), ((HB.o.cell (lC w _ hw372_2)).trans hw372_2), ((HB.o.cell (lC w _ hw372_3)).trans hw372_3), ((HB.o.cell (lC w _ hw372_4)).trans hw372_4), ((HB.o.cell (lC w _ hw372_5)).trans hw372_5)⟩ (fun hHeld => ?_); refine with_tabW laws_heldFileActS.tab10 laws_heldFileActS.bits10 (fun HT_ HW_ => ?_);generalize wr.drew = w15 at HB HR372_5 hx372_0 hx372_1 hx372_2 hx372_3 hx372_4 hx372_5 hHeld ⊢;refine pC HT_ 0 30 (fT 1 8) ?_;refine pC HT_ 1 31 (fT 2 8) ?_;refine pC HT_ 2 32 (fT 3 8) ?_;refine pC HT_ 3 33 (fT 4 8) ?_;refine pC HT_ 5 35 #[T,T,T,T,F,T,F,F] ?_;refine tB 4 (some 34) ?_ (fT 6 8) rfl rfl (take_ofW HT_.o HW_.o (by kernel_rfl)) (Or.inl ⟨by rfl, ?_⟩) hHeld ?_ ?_ ?_;rotate_left
           ·rintro w' ⟨s0, s1, s2, s3, s4, s5⟩
            go_simp
            with_reducible rfl
           rotate_left;(·simp only [zA];rfl);refine one_ (i := 6) (N := some 36) (fT 7 8) rfl rfl (one_of HT_.o (by kernel_rfl)) (by decide) (fun K hK => ?_);refine goes_ Tryd.func39 (by kernel_rfl) rfl #[.int .i64 (wrap64 ((wrap64 (x1_1 + 1)) + 1))] (by rfl) rfl rfl (by (try simp only [zM]); first | done | rfl | (simp only [zL]; rfl)) ?_
           with_reducible refine (laws_markText.calls k1 (wrap64 ((wrap64 (x1_1 + 1)) + 1)) t373 _ A7.o).mono ?_
           rintro e w16 ⟨rfl, hb⟩
           refine ⟨_, rfl, ?_⟩;have n0_ := aM (below_step (bM HB.o) hb);clear HB;have HB := n0_;clear n0_
           (try clear hb)
           (try clear hb2)
           (try clear hk)
           (try clear hi)
           refine hK.out _ _ ⟨((HB.o.cell (lC w _ hw372_0)).trans hw372_0), ((HB.o.cell (lC w _ hw372_1)).trans hw372_1), ((HB.o.cell (lC w _ hw372_2)).trans hw372_2), ((HB.o.cell (lC w _ hw372_3)).trans hw372_3), ((HB.o.cell (lC w _ hw372_4)).trans hw372_4), ((HB.o.cell (lC w _ hw372_5)).trans hw372_5)⟩ (fun hHeld => ?_);clear hK K;refine norm_ (a' := ?_) ?_ ?_;rotate_left
           ·show Act.put _ (some 36) _ = _
            simp only [zA]
            rfl
           refine pC HT_ 7 37 (fT 8 8) ?_;refine done_ (done_of HT_.o (by kernel_rfl)) ?_
           try go_wp2
           have n0_ := aM (bD HB.o);clear HB;have HB := n0_;clear n0_;have p374 : 0 ≤ (x5_1 : Int) := oD;have q374 : x5_1 < (l0.length : Int) := oD;obtain ⟨ad374, A374_5, c374_5, e374, hx374_0, hx374_1, hx374_2, hx374_3, hx374_4, hx374_5, hl374_5, hi374_5⟩ := at_T61 HR0.o x5_1 p374 q374;have hw374_5 := hx374_5;have hw374_4 := hx374_4;have hw374_3 := hx374_3;have hw374_2 := hx374_2;have hw374_1 := hx374_1;have hw374_0 := hx374_0;obtain rfl : ad370 = ad374 := (by injection e374);replace hx374_0 := (HB.o.cell (lC w _ hx374_0)).trans hx374_0;replace hx374_1 := (HB.o.cell (lC w _ hx374_1)).trans hx374_1;replace hx374_2 := (HB.o.cell (lC w _ hx374_2)).trans hx374_2;replace hx374_3 := (HB.o.cell (lC w _ hx374_3)).trans hx374_3;replace hx374_4 := (HB.o.cell (lC w _ hx374_4)).trans hx374_4;replace hx374_5 := (HB.o.cell (lC w _ hx374_5)).trans hx374_5;have HR374_5 := aM hi374_5;have HC374_5 := aM hl374_5;clear hi374_5 hl374_5;replace p374 := eq_true p374;replace q374 := eq_true q374;refine start_ (n := 8) (S := fun w' => w'.cell? (ad370.add ((x5_1).toNat * 6)) = some (.int .i64 ((rd_T61 l0 x5_1).f0)) ∧ w'.cell? ⟨(ad370.add ((x5_1).toNat * 6)).block, (ad370.add ((x5_1).toNat * 6)).off + 1, none⟩ = some (.int .i64 ((rd_T61 l0 x5_1).f1)) ∧ w'.cell? ⟨(ad370.add ((x5_1).toNat * 6)).block, (ad370.add ((x5_1).toNat * 6)).off + 2, none⟩ = some (.string ((rd_T61 l0 x5_1).f2)) ∧ w'.cell? ⟨(ad370.add ((x5_1).toNat * 6)).block, (ad370.add ((x5_1).toNat * 6)).off + 3, none⟩ = some (.string ((rd_T61 l0 x5_1).f3)) ∧ w'.cell? ⟨(ad370.add ((x5_1).toNat * 6)).block, (ad370.add ((x5_1).toNat * 6)).off + 4, none⟩ = some (.string ((rd_T61 l0 x5_1).f4)) ∧ w'.cell? ⟨(ad370.add ((x5_1).toNat * 6)).block, (ad370.add ((x5_1).toNat * 6)).off + 5, none⟩ = some (.slice A374_5 ((rd_T61 l0 x5_1).f5).length c374_5)) (ds := []) (fT 0 8) (by kernel_rfl) rfl rfl ⟨((HB.o.cell (lC w _ hw374_0)).trans hw374_0), ((HB.o.cell (lC w _ hw374_1)).trans hw374_1), ((HB.o.cell (lC w _ hw374_2)).trans hw374_2), ((HB.o.cell (lC w _ hw374_3)).trans hw374_3), ((HB.o.cell (lC w _ hw374_4)).trans hw374_4), ((HB.o.cell (lC w _ hw374_5)).trans hw374_5)⟩ (fun hHeld => ?_); refine with_tabW laws_heldFileActS.tab13 laws_heldFileActS.bits13 (fun HT_ HW_ => ?_);generalize w16.drew = w17 at HB HR374_5 hx374_0 hx374_1 hx374_2 hx374_3 hx374_4 hx374_5 hHeld ⊢;refine pC HT_ 0 40 (fT 1 8) ?_;refine pC HT_ 1 41 (fT 2 8) ?_;refine pC HT_ 2 42 (fT 3 8) ?_;refine pC HT_ 3 43 (fT 4 8) ?_;refine pC HT_ 5 45 #[T,T,T,T,F,T,F,F] ?_;refine tB 4 (some 44) ?_ (fT 6 8) rfl rfl (take_ofW HT_.o HW_.o (by kernel_rfl)) (Or.inl ⟨by rfl, ?_⟩) hHeld ?_ ?_ ?_;rotate_left
           ·rintro w' ⟨s0, s1, s2, s3, s4, s5⟩
            go_simp
            with_reducible rfl
           rotate_left;(·simp only [zA];rfl);refine one_ (i := 6) (N := some 46) (fT 7 8) rfl rfl (one_of HT_.o (by kernel_rfl)) (by decide) (fun K hK => ?_);refine goes_ Tryd.func39 (by kernel_rfl) rfl #[.int .i64 (wrap64 ((wrap64 ((wrap64 (x1_1 + 1)) + 1)) + 1))] (by rfl) rfl rfl (by (try simp only [zM]); first | done | rfl | (simp only [zL]; rfl)) ?_
           with_reducible refine (laws_markText.calls k1 (wrap64 ((wrap64 ((wrap64 (x1_1 + 1)) + 1)) + 1)) t375 _ A9.o).mono ?_
           rintro e w18 ⟨rfl, hb⟩
           refine ⟨_, rfl, ?_⟩;have n0_ := aM (below_step (bM HB.o) hb);clear HB;have HB := n0_;clear n0_
           (try clear hb)
           (try clear hb2)
           (try clear hk)
           (try clear hi)
           refine hK.out _ _ ⟨((HB.o.cell (lC w _ hw374_0)).trans hw374_0), ((HB.o.cell (lC w _ hw374_1)).trans hw374_1), ((HB.o.cell (lC w _ hw374_2)).trans hw374_2), ((HB.o.cell (lC w _ hw374_3)).trans hw374_3), ((HB.o.cell (lC w _ hw374_4)).trans hw374_4), ((HB.o.cell (lC w _ hw374_5)).trans hw374_5)⟩ (fun hHeld => ?_);clear hK K;refine norm_ (a' := ?_) ?_ ?_;rotate_left
           ·show Act.put _ (some 46) _ = _
            simp only [zA]
            rfl
           refine pC HT_ 7 47 (fT 8 8) ?_;refine done_ (done_of HT_.o (by kernel_rfl)) ?_
           try go_wp2
           have n0_ := aM (bD HB.o);clear HB;have HB := n0_;clear n0_;have p376 : 0 ≤ (x5_1 : Int) := oD;have q376 : x5_1 < (l0.length : Int) := oD;obtain ⟨ad376, A376_5, c376_5, e376, hx376_0, hx376_1, hx376_2, hx376_3, hx376_4, hx376_5, hl376_5, hi376_5⟩ := at_T61 HR0.o x5_1 p376 q376;have hw376_5 := hx376_5;have hw376_4 := hx376_4;have hw376_3 := hx376_3;have hw376_2 := hx376_2;have hw376_1 := hx376_1;have hw376_0 := hx376_0;obtain rfl : ad370 = ad376 := (by injection e376);replace hx376_0 := (HB.o.cell (lC w _ hx376_0)).trans hx376_0;replace hx376_1 := (HB.o.cell (lC w _ hx376_1)).trans hx376_1;replace hx376_2 := (HB.o.cell (lC w _ hx376_2)).trans hx376_2;replace hx376_3 := (HB.o.cell (lC w _ hx376_3)).trans hx376_3;replace hx376_4 := (HB.o.cell (lC w _ hx376_4)).trans hx376_4;replace hx376_5 := (HB.o.cell (lC w _ hx376_5)).trans hx376_5;have HR376_5 := aM hi376_5;have HC376_5 := aM hl376_5;clear hi376_5 hl376_5;replace p376 := eq_true p376;replace q376 := eq_true q376;refine start_ (n := 8) (S := fun w' => w'.cell? (ad370.add ((x5_1).toNat * 6)) = some (.int .i64 ((rd_T61 l0 x5_1).f0)) ∧ w'.cell? ⟨(ad370.add ((x5_1).toNat * 6)).block, (ad370.add ((x5_1).toNat * 6)).off + 1, none⟩ = some (.int .i64 ((rd_T61 l0 x5_1).f1)) ∧ w'.cell? ⟨(ad370.add ((x5_1).toNat * 6)).block, (ad370.add ((x5_1).toNat * 6)).off + 2, none⟩ = some (.string ((rd_T61 l0 x5_1).f2)) ∧ w'.cell? ⟨(ad370.add ((x5_1).toNat * 6)).block, (ad370.add ((x5_1).toNat * 6)).off + 3, none⟩ = some (.string ((rd_T61 l0 x5_1).f3)) ∧ w'.cell? ⟨(ad370.add ((x5_1).toNat * 6)).block, (ad370.add ((x5_1).toNat * 6)).off + 4, none⟩ = some (.string ((rd_T61 l0 x5_1).f4)) ∧ w'.cell? ⟨(ad370.add ((x5_1).toNat * 6)).block, (ad370.add ((x5_1).toNat * 6)).off + 5, none⟩ = some (.slice A376_5 ((rd_T61 l0 x5_1).f5).length c376_5)) (ds := []) (fT 0 8) (by kernel_rfl) rfl rfl ⟨((HB.o.cell (lC w _ hw376_0)).trans hw376_0), ((HB.o.cell (lC w _ hw376_1)).trans hw376_1), ((HB.o.cell (lC w _ hw376_2)).trans hw376_2), ((HB.o.cell (lC w _ hw376_3)).trans hw376_3), ((HB.o.cell (lC w _ hw376_4)).trans hw376_4), ((HB.o.cell (lC w _ hw376_5)).trans hw376_5)⟩ (fun hHeld => ?_); refine with_tabW laws_heldFileActS.tab16 laws_heldFileActS.bits16 (fun HT_ HW_ => ?_);generalize w18.drew = w19 at HB HR376_5 hx376_0 hx376_1 hx376_2 hx376_3 hx376_4 hx376_5 hHeld ⊢;refine pC HT_ 0 50 (fT 1 8) ?_;refine pC HT_ 1 51 (fT 2 8) ?_;refine pC HT_ 2 52 (fT 3 8) ?_;refine pC HT_ 3 53 (fT 4 8) ?_;refine pC HT_ 5 55 #[T,T,T,T,F,T,F,F] ?_;refine tB 4 (some 54) ?_ (fT 6 8) rfl rfl (take_ofW HT_.o HW_.o (by kernel_rfl)) (Or.inl ⟨by rfl, ?_⟩) hHeld ?_ ?_ ?_;rotate_left
           ·rintro w' ⟨s0, s1, s2, s3, s4, s5⟩
            go_simp
            with_reducible rfl
           rotate_left;(·simp only [zA];rfl);refine one_ (i := 6) (N := some 56) (fT 7 8) rfl rfl (one_of HT_.o (by kernel_rfl)) (by decide) (fun K hK => ?_);refine goes_ Tryd.func39 (by kernel_rfl) rfl #[.int .i64 (wrap64 ((wrap64 ((wrap64 ((wrap64 (x1_1 + 1)) + 1)) + 1)) + 1))] (by rfl) rfl rfl (by (try simp only [zM]); first | done | rfl | (simp only [zL]; rfl)) ?_
           with_reducible refine (laws_markText.calls k1 (wrap64 ((wrap64 ((wrap64 ((wrap64 (x1_1 + 1)) + 1)) + 1)) + 1)) t377 _ A11.o).mono ?_
           rintro e w20 ⟨rfl, hb⟩
           refine ⟨_, rfl, ?_⟩;have n0_ := aM (below_step (bM HB.o) hb);clear HB;have HB := n0_;clear n0_
           (try clear hb)
           (try clear hb2)
           (try clear hk)
           (try clear hi)
           refine hK.out _ _ ⟨((HB.o.cell (lC w _ hw376_0)).trans hw376_0), ((HB.o.cell (lC w _ hw376_1)).trans hw376_1), ((HB.o.cell (lC w _ hw376_2)).trans hw376_2), ((HB.o.cell (lC w _ hw376_3)).trans hw376_3), ((HB.o.cell (lC w _ hw376_4)).trans hw376_4), ((HB.o.cell (lC w _ hw376_5)).trans hw376_5)⟩ (fun hHeld => ?_);clear hK K;refine norm_ (a' := ?_) ?_ ?_;rotate_left
           ·show Act.put _ (some 56) _ = _
            simp only [zA]
            rfl
           refine pC HT_ 7 57 (fT 8 8) ?_;refine done_ (done_of HT_.o (by kernel_rfl)) ?_;have p378 : 0 ≤ (x5_1 : Int) := oD;have q378 : x5_1 < (l0.length : Int) := oD;obtain ⟨ad378, A378_5, c378_5, e378, hx378_0, hx378_1, hx378_2, hx378_3, hx378_4, hx378_5, hl378_5, hi378_5⟩ := at_T61 HR0.o x5_1 p378 q378;obtain rfl : ad370 = ad378 := (by injection e378);replace hx378_0 := (HB.o.cell (lC w _ hx378_0)).trans hx378_0;replace hx378_1 := (HB.o.cell (lC w _ hx378_1)).trans hx378_1;replace hx378_2 := (HB.o.cell (lC w _ hx378_2)).trans hx378_2;replace hx378_3 := (HB.o.cell (lC w _ hx378_3)).trans hx378_3;replace hx378_4 := (HB.o.cell (lC w _ hx378_4)).trans hx378_4;replace hx378_5 := (HB.o.cell (lC w _ hx378_5)).trans hx378_5;have HR378_5 := aM hi378_5;have HC378_5 := aM hl378_5;clear hi378_5 hl378_5;replace p378 := eq_true p378;replace q378 := eq_true q378
           try go_wp2_with (first | ((with_reducible refine gate_callee (f := 41) rfl ?_); refine goesL_ (some 66) rfl rfl Tryd.func41 (by kernel_rfl) rfl #[.slice A376_5 ((rd_T61 l0 x5_1).f5).length c376_5, .int .i64 (wrap64 ((wrap64 ((wrap64 ((wrap64 ((wrap64 (x1_1 + 1)) + 1)) + 1)) + 1)) + 1))] rfl (by (try simp only [zM]); first | done | rfl | (simp only [zL]; rfl)) ?_; (with_reducible refine (laws_heldIntS.calls k1 _ _ ((rd_T61 l0 x5_1).f5) (wrap64 ((wrap64 ((wrap64 ((wrap64 ((wrap64 (x1_1 + 1)) + 1)) + 1)) + 1)) + 1)) t379 _ ?side1 ?side2 A13.o).mono ?_); (case side1 => exact Kd.C_below HR376_5.o (bM HB.o)); (case side2 => exact HC376_5.o); rintro e w' ⟨rfl, ⟨nd, rfl⟩⟩; refine ⟨_, rfl, ?_⟩))
           go_roundg k1
           case measure => have := HK1.o; omega
           case rel => exact ⟨(t379), (wrap64 (x5_1 + 1)), (by first | rfl | (simp; done) | (simp [*]; done)), (by first | rfl | (simp; done) | (simp [*]; done)), H', ⟨by have := HK1.o; omega⟩, ⟨bM HB.o⟩⟩
         ·rw [if_neg c12] at H;exact absurd H (by simp)
        ·rw [if_neg c10] at H;exact absurd H (by simp)
       ·rw [if_neg c8] at H;exact absurd H (by simp)
      ·rw [if_neg c6] at H;exact absurd H (by simp)
     ·rw [if_neg c5] at H;exact absurd H (by simp)
    ·rw [if_neg c4] at H;exact absurd H (by simp)
   ·rw [if_neg c3] at H;have c3b0 : decide (x5_1 < (l0.length : Int)) = false := decide_eq_false c3;clear c3;obtain rfl := Option.some.inj H
    go_wp2
    go_ret
    exact ⟨by first | rfl | (simp [zE] <;> rfl) | (simp [*, zE] <;> rfl), bM HB.o⟩
end Go.Proofs.YtpdhfoegbannkaaDoor.PFnExactWalPlan
