/- Written by a program (a session's own form of the print): plain functions with the answers of the Go functions, and the walks that show it. Lean checks it. -/
import Derived.Test.YtjkdmegpjdfcaaaMFnExactMapListPx0
import Derived.Test.YtjkdmegpjdfcaaaMFnExactMapListPx5
namespace Go.Proofs.Ytjkdmegpjdfcaaa.PFnExactMapList
open Go.RowKit Go.Proofs.YtjkdmegpjdfcaaaW.PrintWords Go.Proofs.YtjkdmegpjdfcaaaW.PrintLast Go.Proofs.YtjkdmegpjdfcaaaW.PrintMore
attribute [local go_sem] max2_int min2_int max_two min_two max_three min_three max_four min_four   -- for this text's walks alone
set_option linter.unusedVariables false
set_option linter.unusedSimpArgs false

/-! ### laws_eqCommandS: function 15 -/
def laws_eqCommandS.l0 : Nat → List (S53) → List (S53) → Int → Option (Bool)
 | 0, _, _, _ => none
 | k + 1, x0, x1, x5 => if x5 < (x0.length : Int) then (if 0 ≤ x5 then (if x5 < (x1.length : Int) then ((laws_eqCommand.f ((rd_T53 x0 x5).f0) ((rd_T53 x0 x5).f1) ((rd_T53 x0 x5).f2) ((rd_T53 x0 x5).f3) ((rd_T53 x0 x5).f4) ((rd_T53 x1 x5).f0) ((rd_T53 x1 x5).f1) ((rd_T53 x1 x5).f2) ((rd_T53 x1 x5).f3) ((rd_T53 x1 x5).f4)).bind fun t138 => (if t138 = true then (laws_eqCommandS.l0 k x0 x1 (wrap64 (x5 + 1))) else (none))) else (none)) else (none)) else (some true)
def laws_eqCommandS.f (k : Nat) (l0 : List (S53)) (l1 : List (S53)) : Option (Bool) := if (l0.length : Int) = (l1.length : Int) then (laws_eqCommandS.l0 k l0 l1 0) else (none)
theorem laws_eqCommandS.mono_l : ∀ k, (∀ y0 y1 y2, LeO (laws_eqCommandS.l0 k y0 y1 y2) (laws_eqCommandS.l0 (k + 1) y0 y1 y2))
 | 0 => fun _ _ _ r h => by simp [laws_eqCommandS.l0] at h
 | k + 1 => by
  have ih0 := laws_eqCommandS.mono_l k
  ·intro y0 y1 y2
   unfold laws_eqCommandS.l0
   repeat' first
   | (with_reducible exact ih0 _ _ _)
   | (with_reducible exact LeO.refl _)
   | (with_reducible exact LeO.none _)
   | (with_reducible refine LeO.ite ?_ ?_)
   | (with_reducible refine LeO.bind ?_ (fun _ => ?_))
   | exact ih0 _ _ _
   | exact LeO.none _
   | refine LeO.ite ?_ ?_
   | refine LeO.bind ?_ (fun _ => ?_)
theorem laws_eqCommandS.mono : ∀ a0 a1 k, LeO (laws_eqCommandS.f k a0 a1) (laws_eqCommandS.f (k + 1) a0 a1) := by
 intro a0 a1 k
 have ih0 := laws_eqCommandS.mono_l k
 unfold laws_eqCommandS.f
 repeat' first
   | (with_reducible exact ih0 _ _ _)
   | (with_reducible exact LeO.refl _)
   | (with_reducible exact LeO.none _)
   | (with_reducible refine LeO.ite ?_ ?_)
   | (with_reducible refine LeO.bind ?_ (fun _ => ?_))
   | exact ih0 _ _ _
   | exact LeO.none _
   | refine LeO.ite ?_ ?_
   | refine LeO.bind ?_ (fun _ => ?_)
def laws_eqCommandS.T6 : Bool × List (List Nat × List Nat) := (true, [([], []), ([], []), ([0, 1], [0, 1]), ([2], [2]), ([], []), ([], []), ([4, 5], [4, 5]), ([6], [6]), ([3, 7], [3, 7]), ([8], [8])])
def laws_eqCommandS.B6 : List Nat := [0, 0, 3, 7, 0, 0, 48, 112, 255, 511]
theorem laws_eqCommandS.tab6 : rtab .any (opsOf Try.f15 6) = laws_eqCommandS.T6 := by kernel_rfl
theorem laws_eqCommandS.bits6 : waitsOk laws_eqCommandS.T6.2 laws_eqCommandS.B6 = true := by kernel_rfl
set_option maxHeartbeats 8000000 in
set_option maxRecDepth 100000 in
theorem laws_eqCommandS.calls (k : Nat) (A0 : Option Addr) (c0 : Nat) (l0 : List (S53)) (A1 : Option Addr) (c1 : Nat) (l1 : List (S53)) (r : Bool) (w : World) (hr0 : Kd.C k53 w A0 l0.length l0) (hc0 : l0.length ≤ c0) (hr1 : Kd.C k53 w A1 l1.length l1) (hc1 : l1.length ≤ c1) (h : laws_eqCommandS.f k l0 l1 = some r) :
  Calls Try.prog 15 #[.slice A0 l0.length c0, .slice A1 l1.length c1] w fun e w' => e = .returned (.bool r) ∧ Below w.heap.size w w' := by
 have hu53 := Try.underlying53
 have HR0 := Aside0.mk hr0
 have HC0 := Aside0.mk hc0
 clear hr0 hc0
 have HR1 := Aside0.mk hr1
 have HC1 := Aside0.mk hc1
 clear hr1 hc1
 have HB := Aside0.mk (Below.refl w.heap.size w)
 have H : (if (l0.length : Int) = (l1.length : Int) then (laws_eqCommandS.l0 k l0 l1 0) else (none)) = some r := h
 clear h
 by_cases c3 : (l0.length : Int) = (l1.length : Int)
 ·rw [if_pos c3] at H
  have c3b0 : ((l0.length : Int) == (l1.length : Int)) = true := beq_iff_eq.mpr c3
  have c3b1 : ((l0.length : Int) != (l1.length : Int)) = false := bne_eq_false_iff_eq.mpr c3
  have c3b2 : (l0.length == l1.length) = true := by first | simpa using c3 | (simp at c3 ⊢; omega)
  clear c3
  have H' := Aside0.mk H
  clear H
  go_enter Try.func15, Try.ntmps15
  go_wp2
  go_loopg [5] k (fun kq v5 w' => ∃ (x5_1 : Int), v5 = .int .i64 x5_1 ∧ Aside0 (laws_eqCommandS.l0 kq l0 l1 x5_1 = some r) ∧ Aside0 (kq ≤ k) ∧ Aside0 (Below w.heap.size w w'))
  case atStart => exact ⟨(0), (by first | rfl | (simp; done) | (simp [*]; done)), H', ⟨Nat.le_refl _⟩, ⟨by repeat (first | (with_reducible first | exact HB.out | apply below_alloc | apply pw_below_drewN | apply below_drew1) | exact HB.out)⟩⟩
  case round =>
   clear H'
   try clear c1
   try clear p2
   try clear c3
   try clear c3b0
   try clear c3b1
   try clear c3b2
   obtain ⟨x5_1, rfl, HA, HK1, HB⟩ := hrel
   cases gk with
   | zero => exact absurd HA.out (by simp [laws_eqCommandS.l0])
   | succ k1 =>
    have H := HA.out
    clear HA
    simp only [laws_eqCommandS.l0] at H
    by_cases c4 : x5_1 < (l0.length : Int)
    ·rw [if_pos c4] at H
     have c4b0 : decide (x5_1 < (l0.length : Int)) = true := decide_eq_true c4
     clear c4
     by_cases c5 : 0 ≤ x5_1
     ·rw [if_pos c5] at H
      have c5b0 : decide (0 ≤ x5_1) = true := decide_eq_true c5
      clear c5
      by_cases c6 : x5_1 < (l1.length : Int)
      ·rw [if_pos c6] at H
       have c6b0 : decide (x5_1 < (l1.length : Int)) = true := decide_eq_true c6
       clear c6
       replace H := Option.bind_eq_some_iff.mp H
       obtain ⟨t138, A70, H⟩ := H
       replace H : (if t138 = true then (laws_eqCommandS.l0 k1 l0 l1 (wrap64 (x5_1 + 1))) else (none)) = some r := H
       have A7 := Aside0.mk A70
       clear A70
       by_cases c8 : t138 = true
       ·subst c8
        have H1 : (laws_eqCommandS.l0 k1 l0 l1 (wrap64 (x5_1 + 1))) = some r := by rw [if_pos rfl] at H; exact H
        clear H
        have H := H1
        clear H1
        have H' := Aside0.mk H
        clear H
        try go_wp2
        have n0_ := Aside0.mk (below_drew1 HB.out)
        clear HB
        have HB := n0_
        clear n0_
        have p136 : 0 ≤ (x5_1 : Int) := of_decide_eq_true (by assumption)
        have q136 : x5_1 < (l0.length : Int) := of_decide_eq_true (by assumption)
        obtain ⟨ad136, e136, hx136_0, hx136_1, hx136_2, hx136_3, hx136_4⟩ := at_T53 HR0.out x5_1 p136 q136
        have hw136_4 := hx136_4
        have hw136_3 := hx136_3
        have hw136_2 := hx136_2
        have hw136_1 := hx136_1
        have hw136_0 := hx136_0
        cases e136
        replace hx136_0 := (HB.out.cell (World.block_lt_of_cell? w _ hx136_0)).trans hx136_0
        replace hx136_1 := (HB.out.cell (World.block_lt_of_cell? w _ hx136_1)).trans hx136_1
        replace hx136_2 := (HB.out.cell (World.block_lt_of_cell? w _ hx136_2)).trans hx136_2
        replace hx136_3 := (HB.out.cell (World.block_lt_of_cell? w _ hx136_3)).trans hx136_3
        replace hx136_4 := (HB.out.cell (World.block_lt_of_cell? w _ hx136_4)).trans hx136_4
        replace p136 := eq_true p136
        replace q136 := eq_true q136
        have p137 : 0 ≤ (x5_1 : Int) := of_decide_eq_true (by assumption)
        have q137 : x5_1 < (l1.length : Int) := of_decide_eq_true (by assumption)
        obtain ⟨ad137, e137, hx137_0, hx137_1, hx137_2, hx137_3, hx137_4⟩ := at_T53 HR1.out x5_1 p137 q137
        have hw137_4 := hx137_4
        have hw137_3 := hx137_3
        have hw137_2 := hx137_2
        have hw137_1 := hx137_1
        have hw137_0 := hx137_0
        cases e137
        replace hx137_0 := (HB.out.cell (World.block_lt_of_cell? w _ hx137_0)).trans hx137_0
        replace hx137_1 := (HB.out.cell (World.block_lt_of_cell? w _ hx137_1)).trans hx137_1
        replace hx137_2 := (HB.out.cell (World.block_lt_of_cell? w _ hx137_2)).trans hx137_2
        replace hx137_3 := (HB.out.cell (World.block_lt_of_cell? w _ hx137_3)).trans hx137_3
        replace hx137_4 := (HB.out.cell (World.block_lt_of_cell? w _ hx137_4)).trans hx137_4
        replace p137 := eq_true p137
        replace q137 := eq_true q137
        refine start_ (n := 10) (S := fun w' => w'.cell? (ad136.add ((x5_1).toNat * 5)) = some (.int .i64 ((rd_T53 l0 x5_1).f0)) ∧ w'.cell? ⟨(ad136.add ((x5_1).toNat * 5)).block, (ad136.add ((x5_1).toNat * 5)).off + 1, none⟩ = some (.int .i64 ((rd_T53 l0 x5_1).f1)) ∧ w'.cell? ⟨(ad136.add ((x5_1).toNat * 5)).block, (ad136.add ((x5_1).toNat * 5)).off + 2, none⟩ = some (.int .i64 ((rd_T53 l0 x5_1).f2)) ∧ w'.cell? ⟨(ad136.add ((x5_1).toNat * 5)).block, (ad136.add ((x5_1).toNat * 5)).off + 3, none⟩ = some (.string ((rd_T53 l0 x5_1).f3)) ∧ w'.cell? ⟨(ad136.add ((x5_1).toNat * 5)).block, (ad136.add ((x5_1).toNat * 5)).off + 4, none⟩ = some (.string ((rd_T53 l0 x5_1).f4)) ∧ w'.cell? (ad137.add ((x5_1).toNat * 5)) = some (.int .i64 ((rd_T53 l1 x5_1).f0)) ∧ w'.cell? ⟨(ad137.add ((x5_1).toNat * 5)).block, (ad137.add ((x5_1).toNat * 5)).off + 1, none⟩ = some (.int .i64 ((rd_T53 l1 x5_1).f1)) ∧ w'.cell? ⟨(ad137.add ((x5_1).toNat * 5)).block, (ad137.add ((x5_1).toNat * 5)).off + 2, none⟩ = some (.int .i64 ((rd_T53 l1 x5_1).f2)) ∧ w'.cell? ⟨(ad137.add ((x5_1).toNat * 5)).block, (ad137.add ((x5_1).toNat * 5)).off + 3, none⟩ = some (.string ((rd_T53 l1 x5_1).f3)) ∧ w'.cell? ⟨(ad137.add ((x5_1).toNat * 5)).block, (ad137.add ((x5_1).toNat * 5)).off + 4, none⟩ = some (.string ((rd_T53 l1 x5_1).f4))) (ds := []) #[false, false, false, false, false, false, false, false, false, false] (by kernel_rfl) rfl rfl ⟨((HB.out.cell (World.block_lt_of_cell? w _ hw136_0)).trans hw136_0), ((HB.out.cell (World.block_lt_of_cell? w _ hw136_1)).trans hw136_1), ((HB.out.cell (World.block_lt_of_cell? w _ hw136_2)).trans hw136_2), ((HB.out.cell (World.block_lt_of_cell? w _ hw136_3)).trans hw136_3), ((HB.out.cell (World.block_lt_of_cell? w _ hw136_4)).trans hw136_4), ((HB.out.cell (World.block_lt_of_cell? w _ hw137_0)).trans hw137_0), ((HB.out.cell (World.block_lt_of_cell? w _ hw137_1)).trans hw137_1), ((HB.out.cell (World.block_lt_of_cell? w _ hw137_2)).trans hw137_2), ((HB.out.cell (World.block_lt_of_cell? w _ hw137_3)).trans hw137_3), ((HB.out.cell (World.block_lt_of_cell? w _ hw137_4)).trans hw137_4)⟩ (fun hHeld => ?_); refine with_tabW laws_eqCommandS.tab6 laws_eqCommandS.bits6 (fun HT_ HW_ => ?_)
        generalize wr.drew = w9 at HB hx136_0 hx136_1 hx136_2 hx136_3 hx136_4 hx137_0 hx137_1 hx137_2 hx137_3 hx137_4 hHeld ⊢
        refine pure_ (i := 0) (N := some 17) (v := ?_) (a' := ?_) #[true, false, false, false, false, false, false, false, false, false] rfl rfl (any_of HT_.out (by kernel_rfl)) (fun _ _ _ h => h) (Or.inl ⟨by rfl, ?_⟩) ?_ ?_
        rotate_left
        ·intro w'
         go_simp
         with_reducible rfl
        rotate_left
        ·simp only [Act.put, List.setIfInBounds_toArray, List.set_cons_zero, List.set_cons_succ, i64_w, i32_w]
         rfl
        refine pure_ (i := 1) (N := some 18) (v := ?_) (a' := ?_) #[true, true, false, false, false, false, false, false, false, false] rfl rfl (any_of HT_.out (by kernel_rfl)) (fun _ _ _ h => h) (Or.inl ⟨by rfl, ?_⟩) ?_ ?_
        rotate_left
        ·intro w'
         go_simp
         with_reducible rfl
        rotate_left
        ·simp only [Act.put, List.setIfInBounds_toArray, List.set_cons_zero, List.set_cons_succ, i64_w, i32_w]
         rfl
        refine pure_ (i := 2) (N := some 19) (v := ?_) (a' := ?_) #[true, true, true, false, false, false, false, false, false, false] rfl rfl (any_of HT_.out (by kernel_rfl)) (fun _ _ _ h => h) (Or.inl ⟨by rfl, ?_⟩) ?_ ?_
        rotate_left
        ·intro w'
         go_simp
         with_reducible rfl
        rotate_left
        ·simp only [Act.put, List.setIfInBounds_toArray, List.set_cons_zero, List.set_cons_succ, i64_w, i32_w]
         rfl
        refine pure_ (i := 4) (N := some 21) (v := ?_) (a' := ?_) #[true, true, true, false, true, false, false, false, false, false] rfl rfl (any_of HT_.out (by kernel_rfl)) (fun _ _ _ h => h) (Or.inl ⟨by rfl, ?_⟩) ?_ ?_
        rotate_left
        ·intro w'
         go_simp
         with_reducible rfl
        rotate_left
        ·simp only [Act.put, List.setIfInBounds_toArray, List.set_cons_zero, List.set_cons_succ, i64_w, i32_w]
         rfl
        refine pure_ (i := 5) (N := some 22) (v := ?_) (a' := ?_) #[true, true, true, false, true, true, false, false, false, false] rfl rfl (any_of HT_.out (by kernel_rfl)) (fun _ _ _ h => h) (Or.inl ⟨by rfl, ?_⟩) ?_ ?_
        rotate_left
        ·intro w'
         go_simp
         with_reducible rfl
        rotate_left
        ·simp only [Act.put, List.setIfInBounds_toArray, List.set_cons_zero, List.set_cons_succ, i64_w, i32_w]
         rfl
        refine pure_ (i := 6) (N := some 23) (v := ?_) (a' := ?_) #[true, true, true, false, true, true, true, false, false, false] rfl rfl (any_of HT_.out (by kernel_rfl)) (fun _ _ _ h => h) (Or.inl ⟨by rfl, ?_⟩) ?_ ?_
        rotate_left
        ·intro w'
         go_simp
         with_reducible rfl
        rotate_left
        ·simp only [Act.put, List.setIfInBounds_toArray, List.set_cons_zero, List.set_cons_succ, i64_w, i32_w]
         rfl
        refine take_ (i := 3) (N := some 20) (v := ?_) (a' := ?_) #[true, true, true, true, true, true, true, false, false, false] rfl rfl (take_ofW HT_.out HW_.out (by kernel_rfl)) (fun _ _ _ h => h) (Or.inl ⟨by rfl, ?_⟩) hHeld ?_ ?_
        rotate_left
        ·rintro w' ⟨s0, s1, s2, s3, s4, s5, s6, s7, s8, s9⟩
         go_simp
         with_reducible rfl
        rotate_left
        ·simp only [Act.put, List.setIfInBounds_toArray, List.set_cons_zero, List.set_cons_succ, i64_w, i32_w]
         rfl
        refine take_ (i := 7) (N := some 24) (v := ?_) (a' := ?_) #[true, true, true, true, true, true, true, true, false, false] rfl rfl (take_ofW HT_.out HW_.out (by kernel_rfl)) (fun _ _ _ h => h) (Or.inl ⟨by rfl, ?_⟩) hHeld ?_ ?_
        rotate_left
        ·rintro w' ⟨s0, s1, s2, s3, s4, s5, s6, s7, s8, s9⟩
         go_simp
         with_reducible rfl
        rotate_left
        ·simp only [Act.put, List.setIfInBounds_toArray, List.set_cons_zero, List.set_cons_succ, i64_w, i32_w]
         rfl
        refine one_ (i := 8) (N := some 25) #[true, true, true, true, true, true, true, true, true, false] rfl rfl (one_of HT_.out (by kernel_rfl)) (by decide) (fun K hK => ?_)
        refine goes_ Try.func28 (by kernel_rfl) rfl #[.agg #[.int .i64 ((rd_T53 l0 x5_1).f0), .int .i64 ((rd_T53 l0 x5_1).f1), .int .i64 ((rd_T53 l0 x5_1).f2), .string ((rd_T53 l0 x5_1).f3), .string ((rd_T53 l0 x5_1).f4)], .agg #[.int .i64 ((rd_T53 l1 x5_1).f0), .int .i64 ((rd_T53 l1 x5_1).f1), .int .i64 ((rd_T53 l1 x5_1).f2), .string ((rd_T53 l1 x5_1).f3), .string ((rd_T53 l1 x5_1).f4)]] (by rfl) rfl rfl (by (try simp only [List.map_toArray, List.map_cons, List.map_nil]); first | done | rfl | (simp only [List.length_drop, List.length_take]; rfl)) ?_
        with_reducible refine (laws_eqCommand.calls ((rd_T53 l0 x5_1).f0) ((rd_T53 l0 x5_1).f1) ((rd_T53 l0 x5_1).f2) ((rd_T53 l0 x5_1).f3) ((rd_T53 l0 x5_1).f4) ((rd_T53 l1 x5_1).f0) ((rd_T53 l1 x5_1).f1) ((rd_T53 l1 x5_1).f2) ((rd_T53 l1 x5_1).f3) ((rd_T53 l1 x5_1).f4) true _ A7.out).mono ?_
        rintro e w10 ⟨rfl, hb⟩
        refine ⟨_, rfl, ?_⟩
        have n0_ := Aside0.mk (below_step (by repeat (first | (with_reducible first | exact HB.out | apply below_alloc | apply pw_below_drewN | apply below_drew1) | exact HB.out)) hb)
        clear HB
        have HB := n0_
        clear n0_
        (try clear hb)
        (try clear hb2)
        (try clear hk)
        (try clear hi)
        refine hK.out _ _ ⟨((HB.out.cell (World.block_lt_of_cell? w _ hw136_0)).trans hw136_0), ((HB.out.cell (World.block_lt_of_cell? w _ hw136_1)).trans hw136_1), ((HB.out.cell (World.block_lt_of_cell? w _ hw136_2)).trans hw136_2), ((HB.out.cell (World.block_lt_of_cell? w _ hw136_3)).trans hw136_3), ((HB.out.cell (World.block_lt_of_cell? w _ hw136_4)).trans hw136_4), ((HB.out.cell (World.block_lt_of_cell? w _ hw137_0)).trans hw137_0), ((HB.out.cell (World.block_lt_of_cell? w _ hw137_1)).trans hw137_1), ((HB.out.cell (World.block_lt_of_cell? w _ hw137_2)).trans hw137_2), ((HB.out.cell (World.block_lt_of_cell? w _ hw137_3)).trans hw137_3), ((HB.out.cell (World.block_lt_of_cell? w _ hw137_4)).trans hw137_4)⟩ (fun hHeld => ?_)
        clear hK K
        refine norm_ (a' := ?_) ?_ ?_
        rotate_left
        ·show Act.put _ (some 25) _ = _
         simp only [Act.put, List.setIfInBounds_toArray, List.set_cons_zero, List.set_cons_succ, i64_w, i32_w]
         rfl
        refine pure_ (i := 9) (N := some 26) (v := ?_) (a' := ?_) #[true, true, true, true, true, true, true, true, true, true] rfl rfl (any_of HT_.out (by kernel_rfl)) (fun _ _ _ h => h) (Or.inl ⟨by rfl, ?_⟩) ?_ ?_
        rotate_left
        ·intro w'
         go_simp
         with_reducible rfl
        rotate_left
        ·simp only [Act.put, List.setIfInBounds_toArray, List.set_cons_zero, List.set_cons_succ, i64_w, i32_w]
         rfl
        refine done_ (done_of HT_.out (by kernel_rfl)) ?_
        try go_wp2
        go_roundg k1
        case measure => have := HK1.out; omega
        case rel => exact ⟨(wrap64 (x5_1 + 1)), (by first | rfl | (simp; done) | (simp [*]; done)), H', ⟨by have := HK1.out; omega⟩, ⟨by repeat (first | (with_reducible first | exact HB.out | apply below_alloc | apply pw_below_drewN | apply below_drew1) | exact HB.out)⟩⟩
       ·replace c8 := Bool.eq_false_iff.mpr c8
        subst c8
        have H1 : (none) = some r := by rw [if_neg (show ¬ (false = true) by decide)] at H; exact H
        clear H
        have H := H1
        clear H1
        exact absurd H (by simp)
      ·rw [if_neg c6] at H
       exact absurd H (by simp)
     ·rw [if_neg c5] at H
      exact absurd H (by simp)
    ·rw [if_neg c4] at H
     have c4b0 : decide (x5_1 < (l0.length : Int)) = false := decide_eq_false c4
     clear c4
     obtain rfl := Option.some.inj H
     go_wp2
     go_ret
     exact ⟨by first | rfl | (simp [errW_none, errW_some] <;> rfl) | (simp [*, errW_none, errW_some] <;> rfl), by repeat (first | (with_reducible first | exact HB.out | apply below_alloc | apply pw_below_drewN | apply below_drew1) | exact HB.out)⟩
 ·rw [if_neg c3] at H
  exact absurd H (by simp)

/-! ### laws_markText: function 30 -/
def laws_markText.l0 : Nat → Int → ByteArray → Option (ByteArray)
 | 0, _, _ => none
 | k + 1, x0, x3 => if x0 > 0 then ((some (([(wrap64 (48 + (Int.tmod x0 10))) % 256] : List Int) : List Int)).bind fun y139 => (if (strOfNums y139).size + x3.size ≤ 9223372036854775807 then (laws_markText.l0 k (wrap64 (Int.tdiv x0 10)) ((strOfNums y139) ++ x3)) else (none))) else (if 1 + x3.size ≤ 9223372036854775807 then (some ((⟨#[109]⟩ : ByteArray) ++ x3)) else (none))
def laws_markText.f (k : Nat) (a0 : Int) : Option (ByteArray) := if a0 ≤ 0 then (some (⟨#[109, 48]⟩ : ByteArray)) else (laws_markText.l0 k a0 (⟨#[]⟩ : ByteArray))
theorem laws_markText.mono_l : ∀ k, (∀ y0 y1, LeO (laws_markText.l0 k y0 y1) (laws_markText.l0 (k + 1) y0 y1))
 | 0 => fun _ _ r h => by simp [laws_markText.l0] at h
 | k + 1 => by
  have ih0 := laws_markText.mono_l k
  ·intro y0 y1
   unfold laws_markText.l0
   repeat' first
   | (with_reducible exact ih0 _ _)
   | (with_reducible exact LeO.refl _)
   | (with_reducible exact LeO.none _)
   | (with_reducible refine LeO.ite ?_ ?_)
   | (with_reducible refine LeO.bind ?_ (fun _ => ?_))
   | exact ih0 _ _
   | exact LeO.none _
   | refine LeO.ite ?_ ?_
   | refine LeO.bind ?_ (fun _ => ?_)
theorem laws_markText.mono : ∀ a0 k, LeO (laws_markText.f k a0) (laws_markText.f (k + 1) a0) := by
 intro a0 k
 have ih0 := laws_markText.mono_l k
 unfold laws_markText.f
 repeat' first
   | (with_reducible exact ih0 _ _)
   | (with_reducible exact LeO.refl _)
   | (with_reducible exact LeO.none _)
   | (with_reducible refine LeO.ite ?_ ?_)
   | (with_reducible refine LeO.bind ?_ (fun _ => ?_))
   | exact ih0 _ _
   | exact LeO.none _
   | refine LeO.ite ?_ ?_
   | refine LeO.bind ?_ (fun _ => ?_)
set_option maxHeartbeats 8000000 in
set_option maxRecDepth 100000 in
theorem laws_markText.calls (k : Nat) (a0 : Int) (r : ByteArray) (w : World) (h : laws_markText.f k a0 = some r) :
  Calls Try.prog 30 #[.int .i64 a0] w fun e w' => e = .returned (.string r) ∧ Below w.heap.size w w' := by
 have HB := Aside0.mk (Below.refl w.heap.size w)
 have H : (if a0 ≤ 0 then (some (⟨#[109, 48]⟩ : ByteArray)) else (laws_markText.l0 k a0 (⟨#[]⟩ : ByteArray))) = some r := h
 clear h
 by_cases c2 : a0 ≤ 0
 ·rw [if_pos c2] at H
  have c2b0 : decide (a0 ≤ 0) = true := decide_eq_true c2
  clear c2
  obtain rfl := Option.some.inj H
  go_enter Try.func30, Try.ntmps30
  go_wp2
  go_ret
  exact ⟨by first | rfl | (simp [errW_none, errW_some] <;> rfl) | (simp [*, errW_none, errW_some] <;> rfl), by repeat (first | (with_reducible first | exact HB.out | apply below_alloc | apply pw_below_drewN | apply below_drew1) | exact HB.out)⟩
 ·rw [if_neg c2] at H
  have c2b0 : decide (a0 ≤ 0) = false := decide_eq_false c2
  clear c2
  have H' := Aside0.mk H
  clear H
  go_enter Try.func30, Try.ntmps30
  go_wp2
  go_loopg [0, 3] k (fun kq v0 v3 w' => ∃ (x0_1 : Int) (x3_1 : ByteArray), v0 = .int .i64 x0_1 ∧ v3 = .string x3_1 ∧ Aside0 (laws_markText.l0 kq x0_1 x3_1 = some r) ∧ Aside0 (kq ≤ k) ∧ Aside0 (Below w.heap.size w w'))
  case atStart => exact ⟨(a0), ((⟨#[]⟩ : ByteArray)), (by first | rfl | (simp; done) | (simp [*]; done)), (by first | rfl | (simp; done) | (simp [*]; done)), H', ⟨Nat.le_refl _⟩, ⟨by repeat (first | (with_reducible first | exact HB.out | apply below_alloc | apply pw_below_drewN | apply below_drew1) | exact HB.out)⟩⟩
  case round =>
   clear H'
   try clear c2
   try clear c2b0
   try clear p2
   obtain ⟨x0_1, x3_1, rfl, rfl, HA, HK1, HB⟩ := hrel
   cases gk with
   | zero => exact absurd HA.out (by simp [laws_markText.l0])
   | succ k1 =>
    have H := HA.out
    clear HA
    simp only [laws_markText.l0] at H
    by_cases c3 : x0_1 > 0
    ·rw [if_pos c3] at H
     have c3b0 : decide (0 < x0_1) = true := decide_eq_true c3
     clear c3
     obtain ⟨y139, hy139⟩ : ∃ y_ : List Int, y_ = (([(wrap64 (48 + (Int.tmod x0_1 10))) % 256] : List Int)) := ⟨_, rfl⟩
     replace H : (if (strOfNums y139).size + x3_1.size ≤ 9223372036854775807 then (laws_markText.l0 k1 (wrap64 (Int.tdiv x0_1 10)) ((strOfNums y139) ++ x3_1)) else (none)) = some r := by first | (rw [hy139]; with_reducible exact H) | (have H2_ := (Option.bind_some _ _).symm.trans H; rw [hy139]; with_reducible exact H2_) | (have H2_ := (Option.bind_some _ _).symm.trans H; with_reducible exact H2_) | with_reducible exact H | (rw [hy139]; exact H) | exact H
     have Ny139 := Aside0.mk hy139
     clear hy139
     by_cases c4 : (strOfNums y139).size + x3_1.size ≤ 9223372036854775807
     ·rw [if_pos c4] at H
      have c4b0 := eq_true c4
      have c4b1 : decide ((strOfNums y139).size + x3_1.size ≤ 9223372036854775807) = true := decide_eq_true c4
      try have c4b2 : (9223372036854775807 < (strOfNums y139).size + x3_1.size) = False := eq_false (Nat.not_lt.2 c4)
      have H' := Aside0.mk H
      clear H
      go_wp2_with (first | ((with_reducible refine gate_dst (N := 12) rfl ?_); refine Kd.R_lit (Kd.int .u8) _ 5 ?hg (N := 12) ?hd (xs := ([(wrap64 (48 + (Int.tmod x0_1 10))) % 256] : List Int)) (inner := [.int .u8 ((wrap64 (48 + (Int.tmod x0_1 10))) % 256)]) (ok := fun _ => True) (okp := fun _ => True) ?hr ?hp (fun _ hk => hk) trivial (Below.refl _ _) (Nat.le_refl _) (by simp) ?_; (case hd => rfl); (case hg => rfl); (case hr => first | (go_simp; done) | (go_simp; rfl)); (case hp => exact (Reps.one (show Kd.M (Kd.int .u8) _ _ _ ((wrap64 (48 + (Int.tmod x0_1 10))) % 256) [.int .u8 ((wrap64 (48 + (Int.tmod x0_1 10))) % 256)] from rfl) (Reps.none _ _))); intro v140 w5 ho6 hb hg_ hnew_; clear hg_ hnew_; (first | rw [← Ny139.out] at ho6 | (simp only [Int.reduceToNat] at ho6; rw [← Ny139.out] at ho6)); have n0_ := Aside0.mk (Kd.R_lower ho6 (below_size (by repeat (first | (with_reducible first | exact HB.out | apply below_alloc | apply pw_below_drewN | apply below_drew1) | exact HB.out)))); have n1_ := Aside0.mk (below_step (by repeat (first | (with_reducible first | exact HB.out | apply below_alloc | apply pw_below_drewN | apply below_drew1) | exact HB.out)) hb); clear HB; have HO141 := n0_; have HB := n1_; clear n0_ n1_; clear hb ho6; have hcv7 := own_string (P := Try.prog) Try.underlying60 Try.underlying5 Try.underlying9 (Kd.own_of_R HO141.out)))
      go_roundg k1
      case measure => have := HK1.out; omega
      case rel => exact ⟨(wrap64 (Int.tdiv x0_1 10)), ((strOfNums y139) ++ x3_1), (by first | rfl | (simp; done) | (simp [*]; done)), (by first | rfl | (simp; done) | (simp [*]; done)), H', ⟨by have := HK1.out; omega⟩, ⟨by repeat (first | (with_reducible first | exact HB.out | apply below_alloc | apply pw_below_drewN | apply below_drew1) | exact HB.out)⟩⟩
     ·rw [if_neg c4] at H
      exact absurd H (by simp)
    ·rw [if_neg c3] at H
     have c3b0 : decide (0 < x0_1) = false := decide_eq_false c3
     clear c3
     by_cases c8 : 1 + x3_1.size ≤ 9223372036854775807
     ·rw [if_pos c8] at H
      have c8b0 := eq_true c8
      have c8b1 : decide (1 + x3_1.size ≤ 9223372036854775807) = true := decide_eq_true c8
      try have c8b2 : (9223372036854775807 < 1 + x3_1.size) = False := eq_false (Nat.not_lt.2 c8)
      obtain rfl := Option.some.inj H
      go_wp2
      go_ret
      exact ⟨by first | rfl | (simp [errW_none, errW_some] <;> rfl) | (simp [*, errW_none, errW_some] <;> rfl), by repeat (first | (with_reducible first | exact HB.out | apply below_alloc | apply pw_below_drewN | apply below_drew1) | exact HB.out)⟩
     ·rw [if_neg c8] at H
      exact absurd H (by simp)

/-! ### laws_markBranch: function 16: by hand -/
def laws_markBranchS.l (T : Int → Option ByteArray) (F : List (S29) → Int → Option Int) : List (S29) → Int → Option Int
 | [], a => some a
 | x :: r, a => (T a).bind fun _ => (T (wrap64 (a + 1))).bind fun _ => (F x.f3 (wrap64 (wrap64 (wrap64 (a + 1) + 1) + 1))).bind fun b => laws_markBranchS.l T F r b
def laws_markBranchS.f : Nat → List (S29) → Int → Option Int
 | 0, _, _ => none
 | k + 1, l, a => laws_markBranchS.l (laws_markText.f k) (laws_markBranchS.f k) l a
theorem laws_markBranchS.l_mono {T T' : Int → Option ByteArray} {F F' : List (S29) → Int → Option Int} (hT : ∀ a, LeO (T a) (T' a)) (hF : ∀ l a, LeO (F l a) (F' l a)) : ∀ l a, LeO (laws_markBranchS.l T F l a) (laws_markBranchS.l T' F' l a)
 | [], _ => LeO.refl _
 | x :: r, a => by
  unfold laws_markBranchS.l
  exact LeO.bind (hT _) (fun _ => LeO.bind (hT _) (fun _ => LeO.bind (hF _ _) (fun _ => laws_markBranchS.l_mono hT hF r _)))
theorem laws_markBranchS.mono : ∀ k l a, LeO (laws_markBranchS.f k l a) (laws_markBranchS.f (k + 1) l a)
 | 0, _, _ => LeO.none _
 | k + 1, l, a => by
  rw [laws_markBranchS.f, laws_markBranchS.f]
  exact laws_markBranchS.l_mono (fun a => laws_markText.mono a k) (laws_markBranchS.mono k) l a
def laws_markBranch.f (k : Nat) (a0_0 : ByteArray) (a0_1 : ByteArray) (a0_2 : Int) (l0_3 : List (S29)) (a1 : Int) : Option (Int) := laws_markBranchS.f k l0_3 a1
theorem laws_markBranch.mono : ∀ a0_0 a0_1 a0_2 l0_3 a1 k, LeO (laws_markBranch.f k a0_0 a0_1 a0_2 l0_3 a1) (laws_markBranch.f (k + 1) a0_0 a0_1 a0_2 l0_3 a1) := fun _ _ _ l a k => laws_markBranchS.mono k l a
/-- Two cells of one kind. -/
def laws_markBranch.Alike (u u' : Value) : Prop := u = u' ∨ (∃ a b, u = .string a ∧ u' = .string b) ∨ (∃ a b, u = .int .i64 a ∧ u' = .int .i64 b)
/-- The marks' frame: below base nothing, blocks of other types as they were, in blocks of type 29 each cell of its kind. -/
structure laws_markBranch.Keep (base : Nat) (W W' : World) : Prop where
 below : Below base W W'
 ch : ∀ (g : Nat) (cs : Array Value), W.heap[g]? = some (.cells cs 29 (0, 0)) → ∃ cs', W'.heap[g]? = some (.cells cs' 29 (0, 0)) ∧ cs'.size = cs.size ∧ ∀ (p : Nat) u, cs[p]? = some u → ∃ u', cs'[p]? = some u' ∧ laws_markBranch.Alike u u'
 oth : ∀ (k : Nat) (cs : Array Value) (q : TypeId), q ≠ 29 → W.heap[k]? = some (.cells cs q (0, 0)) → W'.heap[k]? = some (.cells cs q (0, 0))
theorem laws_markBranch.Alike.trans {a b c : Value} (h : laws_markBranch.Alike a b) (k : laws_markBranch.Alike b c) : laws_markBranch.Alike a c := by
 rcases h with rfl | ⟨x, y, rfl, rfl⟩ | ⟨x, y, rfl, rfl⟩
 ·exact k
 ·rcases k with rfl | ⟨x', y', h1, rfl⟩ | ⟨x', y', h1, rfl⟩
  ·exact .inr (.inl ⟨_, _, rfl, rfl⟩)
  ·exact .inr (.inl ⟨_, _, rfl, rfl⟩)
  ·cases h1
 ·rcases k with rfl | ⟨x', y', h1, rfl⟩ | ⟨x', y', h1, rfl⟩
  ·exact .inr (.inr ⟨_, _, rfl, rfl⟩)
  ·cases h1
  ·exact .inr (.inr ⟨_, _, rfl, rfl⟩)
theorem laws_markBranch.Keep.refl (base : Nat) (W : World) : laws_markBranch.Keep base W W := ⟨Below.refl _ _, fun g cs h => ⟨cs, h, rfl, fun p u hu => ⟨u, hu, .inl rfl⟩⟩, fun _ _ _ _ h => h⟩
theorem laws_markBranch.Keep.trans {base : Nat} {A B C : World} (h : laws_markBranch.Keep base A B) (k : laws_markBranch.Keep base B C) : laws_markBranch.Keep base A C := by
 refine ⟨h.below.trans k.below, fun g cs hg => ?_, fun i cs q hq hi => k.oth i cs q hq (h.oth i cs q hq hi)⟩
 obtain ⟨cs1, h1, z1, a1⟩ := h.ch g cs hg
 obtain ⟨cs2, h2, z2, a2⟩ := k.ch g cs1 h1
 refine ⟨cs2, h2, z2.trans z1, fun p u hu => ?_⟩
 obtain ⟨u1, e1, l1⟩ := a1 p u hu
 obtain ⟨u2, e2, l2⟩ := a2 p u1 e1
 exact ⟨u2, e2, l1.trans l2⟩
theorem laws_markBranch.Keep.of_below {base : Nat} {W W' : World} (h : Below W.heap.size W W') (hb : base ≤ W.heap.size) : laws_markBranch.Keep base W W' := ⟨h.mono hb, fun g cs hg => ⟨cs, blk_below hg h, rfl, fun p u hu => ⟨u, hu, .inl rfl⟩⟩, fun _ _ _ _ hi => blk_below hi h⟩
theorem laws_markBranch.Keep.store {base : Nat} {W : World} {g p : Nat} {cs : Array Value} {u u' : Value} (hg : W.heap[g]? = some (.cells cs 29 (0, 0))) (hb : base ≤ g) (hu : cs[p]? = some u) (ha : laws_markBranch.Alike u u') : laws_markBranch.Keep base W (W.setCell ⟨g, p, none⟩ u') := by
 refine ⟨(Below.refl base W).setCell (p := ⟨g, p, none⟩) hb _, fun g1 cs1 h1 => ?_, fun i cs1 q hq hi => ?_⟩
 ·by_cases he : g1 = g
  ·subst he
   rw [hg] at h1
   injection h1 with h1
   injection h1 with h1
   subst h1
   refine ⟨_, blk_set hg p u', by simp, fun p1 u1 hu1 => ?_⟩
   by_cases hp : p = p1
   ·subst hp
    rw [hu] at hu1
    injection hu1 with hu1
    subst hu1
    refine ⟨u', ?_, ha⟩
    rw [Array.getElem?_setIfInBounds]
    have := (Array.getElem?_eq_some_iff.1 hu).1
    simp [this]
   ·refine ⟨u1, ?_, .inl rfl⟩
    rw [Array.getElem?_setIfInBounds, if_neg hp]
    exact hu1
  ·exact ⟨cs1, blk_far h1 (p := ⟨g, p, none⟩) he _, rfl, fun p1 u1 hu1 => ⟨u1, hu1, .inl rfl⟩⟩
 ·refine blk_far hi (p := ⟨g, p, none⟩) ?_ _
  intro he
  have he : i = g := he
  subst he
  rw [hg] at hi
  injection hi with hi
  injection hi with _ hi
  exact hq hi.symm
/-- A box of a branch behind the marks. -/
theorem laws_markBranch.box {base g : Nat} {W W' : World} {a b : ByteArray} {m : Int} {A : Option Addr} {n c : Nat} (h : W.heap[g]? = some (.cells #[.string a, .string b, .int .i64 m, .slice A n c] 29 (0, 0))) (hk : laws_markBranch.Keep base W W') : ∃ (a' b' : ByteArray) (m' : Int), W'.heap[g]? = some (.cells #[.string a', .string b', .int .i64 m', .slice A n c] 29 (0, 0)) := by
 obtain ⟨cs', h', hz, ha⟩ := hk.ch g _ h
 obtain ⟨u0, e0, l0⟩ := ha 0 _ rfl
 obtain ⟨u1, e1, l1⟩ := ha 1 _ rfl
 obtain ⟨u2, e2, l2⟩ := ha 2 _ rfl
 obtain ⟨u3, e3, l3⟩ := ha 3 _ rfl
 obtain ⟨a', rfl⟩ : ∃ a', u0 = .string a' := by rcases l0 with rfl | ⟨x, y, _, rfl⟩ | ⟨x, y, hx, _⟩; exact ⟨_, rfl⟩; exact ⟨_, rfl⟩; cases hx
 obtain ⟨b', rfl⟩ : ∃ a', u1 = .string a' := by rcases l1 with rfl | ⟨x, y, _, rfl⟩ | ⟨x, y, hx, _⟩; exact ⟨_, rfl⟩; exact ⟨_, rfl⟩; cases hx
 obtain ⟨m', rfl⟩ : ∃ a', u2 = .int .i64 a' := by rcases l2 with rfl | ⟨x, y, hx, _⟩ | ⟨x, y, _, rfl⟩; exact ⟨_, rfl⟩; cases hx; exact ⟨_, rfl⟩
 have e4 : u3 = .slice A n c := by rcases l3 with rfl | ⟨x, y, hx, _⟩ | ⟨x, y, hx, _⟩; rfl; cases hx; cases hx
 subst e4
 refine ⟨a', b', m', h'.trans ?_⟩
 have he : cs' = #[.string a', .string b', .int .i64 m', .slice A n c] := by
  apply Array.ext_getElem?
  intro i
  match i with
  | 0 => exact e0
  | 1 => exact e1
  | 2 => exact e2
  | 3 => exact e3
  | i + 4 =>
   rw [Array.getElem?_eq_none (by rw [hz]; simp), Array.getElem?_eq_none (by simp)]
 rw [he]
/-- A tree's shape: rows at the head of blocks of type 29, cells of their kinds. -/
inductive laws_markBranch.Sh (W : World) (base : Nat) : Value → List S29 → Prop
 | nil (A : Option Addr) (c : Nat) : laws_markBranch.Sh W base (.slice A 0 c) []
 | row (g cap : Nat) (xs : List S29) (cs : Array Value) (vs : Nat → Value) : W.heap[g]? = some (.cells cs 29 (0, 0)) → base ≤ g → xs.length ≤ 9223372036854775807 → (∀ j, j < xs.length → (∃ a, cs[j * 4]? = some (.string a)) ∧ (∃ a, cs[j * 4 + 1]? = some (.string a)) ∧ (∃ a, cs[j * 4 + 2]? = some (.int .i64 a)) ∧ cs[j * 4 + 3]? = some (vs j) ∧ ∃ A n c, vs j = .slice A n c) → (∀ j x, xs[j]? = some x → laws_markBranch.Sh W base (vs j) x.f3) → laws_markBranch.Sh W base (.slice (some ⟨g, 0, none⟩) xs.length cap) xs
theorem laws_markBranch.Sh.keep {W W' : World} {base b : Nat} {v : Value} {xs : List S29} (h : laws_markBranch.Sh W base v xs) (hk : laws_markBranch.Keep b W W') : laws_markBranch.Sh W' base v xs := by
 induction h with
 | nil A c => exact .nil A c
 | row g cap xs cs vs hg hb hm hc _ ih =>
  obtain ⟨cs', hg', _, ha⟩ := hk.ch g cs hg
  refine .row g cap xs cs' vs hg' hb hm (fun j hj => ?_) ih
  obtain ⟨⟨a, h0⟩, ⟨a1, h1⟩, ⟨a2, h2⟩, h3, A, n, c, h4⟩ := hc j hj
  obtain ⟨u0, e0, l0⟩ := ha _ _ h0
  obtain ⟨u1, e1, l1⟩ := ha _ _ h1
  obtain ⟨u2, e2, l2⟩ := ha _ _ h2
  obtain ⟨u3, e3, l3⟩ := ha _ _ h3
  refine ⟨?_, ?_, ?_, ?_, A, n, c, h4⟩
  ·rcases l0 with rfl | ⟨x, y, _, rfl⟩ | ⟨x, y, hx, _⟩
   ·exact ⟨_, e0⟩
   ·exact ⟨_, e0⟩
   ·cases hx
  ·rcases l1 with rfl | ⟨x, y, _, rfl⟩ | ⟨x, y, hx, _⟩
   ·exact ⟨_, e1⟩
   ·exact ⟨_, e1⟩
   ·cases hx
  ·rcases l2 with rfl | ⟨x, y, hx, _⟩ | ⟨x, y, _, rfl⟩
   ·exact ⟨_, e2⟩
   ·cases hx
   ·exact ⟨_, e2⟩
  ·rw [h4] at l3
   rcases l3 with rfl | ⟨x, y, hx, _⟩ | ⟨x, y, hx, _⟩
   ·rw [e3, h4]
   ·cases hx
   ·cases hx
theorem laws_markBranch.Sh.of_R (n : Nat) : ∀ {W : World} {base : Nat} {ok : Nat → Prop} {v : Value} {xs : List S29}, SizeOf.sizeOf xs ≤ n → Kd.R k29 29 W base ok v xs → laws_markBranch.Sh W base v xs := by
 induction n with
 | zero => intro W base ok v xs hs h; cases xs <;> simp at hs
 | succ n ih =>
  intro W base ok v xs hs h
  by_cases hx : xs = []
  ·subst hx
   obtain ⟨A, c, rfl⟩ := Kd.R_slice h
   exact .nil A c
  ·have hp : 0 < xs.length := List.length_pos_iff.2 hx
   obtain ⟨g, cap, rfl, hb, hl, cs, hg⟩ := Kd.R_form h hp
   have hm : xs.length ≤ 9223372036854775807 := (Kd.R_reads' h).2.2.2.1
   have el : ∀ j : Nat, j < xs.length → ∃ v3 ok', cs[j * 4]? = some (.string (rd_T29 xs (j : Int)).f0) ∧ cs[j * 4 + 1]? = some (.string (rd_T29 xs (j : Int)).f1) ∧ cs[j * 4 + 2]? = some (.int .i64 (rd_T29 xs (j : Int)).f2) ∧ cs[j * 4 + 3]? = some v3 ∧ Kd.R k29 29 W base ok' v3 (rd_T29 xs (j : Int)).f3 := by
    intro j hj
    obtain ⟨c, _, hM, hcc, _⟩ := Kd.R_elem h z29 (j : Int) (by omega) (by omega)
    obtain ⟨v3, rfl, h3⟩ := k29_openM hM
    have q : ∀ m u, [Value.string (rd_T29 xs (j : Int)).f0, .string (rd_T29 xs (j : Int)).f1, .int .i64 (rd_T29 xs (j : Int)).f2, v3][m]? = some u → cs[j * 4 + m]? = some u := fun m u hu => by
     have h4 := hcc m u hu
     rw [Int.toNat_natCast] at h4
     exact (blk_cell hg _).symm.trans h4
    exact ⟨v3, _, q 0 _ rfl, q 1 _ rfl, q 2 _ rfl, q 3 _ rfl, h3⟩
   refine .row g cap xs cs (fun j => (cs[j * 4 + 3]?).getD undef) hg hb hm (fun j hj => ?_) (fun j x hx => ?_)
   ·obtain ⟨v3, ok', h0, h1, h2, h3, h4⟩ := el j hj
    obtain ⟨A, c, rfl⟩ := Kd.R_slice h4
    refine ⟨⟨_, h0⟩, ⟨_, h1⟩, ⟨_, h2⟩, ?_, A, (rd_T29 xs (j : Int)).f3.length, c, ?_⟩
    ·show cs[j * 4 + 3]? = some ((cs[j * 4 + 3]?).getD undef)
     rw [h3]; rfl
    ·show (cs[j * 4 + 3]?).getD undef = _
     rw [h3]; rfl
   ·obtain ⟨hj, hxe⟩ := List.getElem?_eq_some_iff.1 hx
    obtain ⟨v3, ok', h0, h1, h2, h3, h4⟩ := el j hj
    have he : rd_T29 xs (j : Int) = x := by
     unfold rd_T29
     rw [Int.toNat_natCast, List.getD_eq_getElem?_getD, hx, Option.getD_some]
    rw [he] at h4
    show laws_markBranch.Sh W base ((cs[j * 4 + 3]?).getD undef) x.f3
    rw [h3]
    refine ih ?_ h4
    have h5 := List.sizeOf_lt_of_mem (List.mem_of_getElem? hx)
    cases x
    simp at h5 ⊢
    omega
theorem laws_markBranch.Sh.at_ {W : World} {base g cap : Nat} {xs : List S29} (h : laws_markBranch.Sh W base (.slice (some ⟨g, 0, none⟩) xs.length cap) xs) (i : Nat) (hi : i < xs.length) : ∃ (cs : Array Value) (a b : ByteArray) (m : Int) (A : Option Addr) (n c : Nat), W.heap[g]? = some (.cells cs 29 (0, 0)) ∧ base ≤ g ∧ cs[i * 4]? = some (.string a) ∧ cs[i * 4 + 1]? = some (.string b) ∧ cs[i * 4 + 2]? = some (.int .i64 m) ∧ cs[i * 4 + 3]? = some (.slice A n c) ∧ laws_markBranch.Sh W base (.slice A n c) (rd_T29 xs (i : Int)).f3 := by
 generalize hv : (Value.slice (some ⟨g, 0, none⟩) xs.length cap) = v at h
 cases h with
 | nil A c => simp at hi
 | row g' cap' _ cs vs hg hb hm hc hk =>
  injection hv with h1 h2 h3
  injection h1 with h1
  injection h1 with h1
  subst h1
  obtain ⟨⟨a, e0⟩, ⟨b, e1⟩, ⟨m, e2⟩, e3, A, n, c, e4⟩ := hc i hi
  have hx : rd_T29 xs (i : Int) = xs[i] := by
   unfold rd_T29
   rw [Int.toNat_natCast, List.getD_eq_getElem?_getD, List.getElem?_eq_getElem hi, Option.getD_some]
  have h5 := hk i _ (List.getElem?_eq_getElem hi)
  rw [e4] at h5 e3
  exact ⟨cs, a, b, m, A, n, c, hg, hb, e0, e1, e2, e3, by rw [hx]; exact h5⟩
def laws_markBranchS.Con (k : Nat) : Prop := ∀ (v : Value) (xs : List S29) (a r : Int) (base : Nat) (w : World), base ≤ w.heap.size → laws_markBranch.Sh w base v xs → laws_markBranchS.f k xs a = some r → Calls Try.prog 29 #[v, .int .i64 a] w fun e w' => e = .returned (.int .i64 r) ∧ laws_markBranch.Keep base w w'
set_option maxHeartbeats 1000000 in
set_option maxRecDepth 100000 in
theorem laws_markBranchS.rowWalk (k : Nat) (ih : laws_markBranchS.Con k) (g cap : Nat) (xs : List S29) (a0 r : Int) (base : Nat) (w : World) (hb : base ≤ w.heap.size) (hm : xs.length ≤ 9223372036854775807) (hS : laws_markBranch.Sh w base (.slice (some ⟨g, 0, none⟩) xs.length cap) xs) (h : laws_markBranchS.l (laws_markText.f k) (laws_markBranchS.f k) xs a0 = some r) :
  Calls Try.prog 29 #[.slice (some ⟨g, 0, none⟩) xs.length cap, .int .i64 a0] w fun e w' => e = .returned (.int .i64 r) ∧ laws_markBranch.Keep base w w' := by
 have hu29 := Try.underlying29
 have HBS := Aside0.mk hb
 have HS := Aside0.mk hS
 have HH := Aside0.mk h
 have IH := Aside0.mk ih
 clear hb hS h ih
 go_enter Try.func29, Try.ntmps29
 go_wp2
 go_loopw [1, 5] (fun v1 v5 W => ∃ (i : Nat) (a : Int), i ≤ xs.length ∧ v1 = .int .i64 a ∧ v5 = .int .i64 i ∧ Aside0 (laws_markBranchS.l (laws_markText.f k) (laws_markBranchS.f k) (xs.drop i) a = some r) ∧ Aside0 (laws_markBranch.Keep base w W)) (fun _ v5 _ => xs.length - (intOf v5).toNat)
 case atStart => exact ⟨0, a0, Nat.zero_le _, rfl, rfl, ⟨by rw [List.drop_zero]; exact HH.out⟩, ⟨laws_markBranch.Keep.refl _ _⟩⟩
 case round =>
  clear HH
  obtain ⟨i, a, hi, rfl, rfl, HA, HK⟩ := hrel
  by_cases hlt : i < xs.length
  ·have p1 : (0 : Int) ≤ (i : Int) := by omega
   have q1 : (i : Int) < (xs.length : Int) := by omega
   have hA := HA.out
   have hx : rd_T29 xs (i : Int) = xs[i] := by
    unfold rd_T29
    rw [Int.toNat_natCast, List.getD_eq_getElem?_getD, List.getElem?_eq_getElem hlt, Option.getD_some]
   rw [List.drop_eq_getElem_cons hlt, ← hx] at hA
   simp only [laws_markBranchS.l] at hA
   obtain ⟨t0, h0, hA⟩ := Option.bind_eq_some_iff.mp hA
   obtain ⟨t1, h1, hA⟩ := Option.bind_eq_some_iff.mp hA
   obtain ⟨b, h2, hA⟩ := Option.bind_eq_some_iff.mp hA
   have H0 := Aside0.mk h0
   have H1 := Aside0.mk h1
   have H2 := Aside0.mk h2
   have HN := Aside0.mk hA
   have HLT := Aside0.mk hlt
   clear h0 h1 h2 hA hx HA hlt
   go_upto_region 5 with ((go_at_call 30; refine (laws_markText.calls k a t0 _ H0.out).mono ?_; rintro e w1 ⟨rfl, hb1⟩; have HK1 := Aside0.mk (HK.out.trans (laws_markBranch.Keep.of_below hb1 (Nat.le_trans HBS.out HK.out.below.size))); clear hb1; obtain ⟨cs, c0, c1, c2, A3, n3, c3, hg, hgb, e0, e1, e2, e3, hs3⟩ := (HS.out.keep HK1.out).at_ i HLT.out; have HG := Aside0.mk hg; have HGB := Aside0.mk hgb; have E0 := Aside0.mk e0; have hz : w1.cell? ⟨g, i * 4, none⟩ = some (.string c0) := (blk_cell HG.out _).trans E0.out; have hf : w1.frozen? ⟨g, i * 4, none⟩ = false := blk_frozen HG.out _; clear hg hgb e0 e1 e2 e3 hs3))
   obtain ⟨W2, hW2⟩ : ∃ W2, W2 = w1.setCell ⟨g, i * 4, none⟩ (.string t0) := ⟨_, rfl⟩
   rw [← hW2]
   have HK2 : Aside0 (laws_markBranch.Keep base w W2) := ⟨by rw [hW2]; exact HK1.out.trans (laws_markBranch.Keep.store HG.out HGB.out E0.out (.inr (.inl ⟨_, _, rfl, rfl⟩)))⟩
   clear hW2 hz hf HG HGB E0 HK1
   go_upto_region 7 with ((go_at_call 30; refine (laws_markText.calls k (wrap64 (a + 1)) t1 _ H1.out).mono ?_; rintro e w3 ⟨rfl, hb3⟩; have HK3 := Aside0.mk (HK2.out.trans (laws_markBranch.Keep.of_below hb3 (Nat.le_trans HBS.out HK2.out.below.size))); clear hb3; obtain ⟨cs, c0, c1, c2, A3, n3, c3, hg, hgb, e0, e1, e2, e3, hs3⟩ := (HS.out.keep HK3.out).at_ i HLT.out; have HG := Aside0.mk hg; have HGB := Aside0.mk hgb; have E1 := Aside0.mk e1; have hz : w3.cell? ⟨g, i * 4 + 1, none⟩ = some (.string c1) := (blk_cell HG.out _).trans E1.out; have hf : w3.frozen? ⟨g, i * 4 + 1, none⟩ = false := blk_frozen HG.out _; clear hg hgb e0 e1 e2 e3 hs3))
   obtain ⟨W4, hW4⟩ : ∃ W4, W4 = w3.setCell ⟨g, i * 4 + 1, none⟩ (.string t1) := ⟨_, rfl⟩
   rw [← hW4]
   have HK4 : Aside0 (laws_markBranch.Keep base w W4) := ⟨by rw [hW4]; exact HK3.out.trans (laws_markBranch.Keep.store HG.out HGB.out E1.out (.inr (.inl ⟨_, _, rfl, rfl⟩)))⟩
   clear hW4 hz hf HG HGB E1 HK3 HK2 HK
   obtain ⟨cs, c0, c1, c2, A3, n3, c3, hg, hgb, e0, e1, e2, e3, hs3⟩ := (HS.out.keep HK4.out).at_ i HLT.out
   have HG := Aside0.mk hg
   have HGB := Aside0.mk hgb
   have E2 := Aside0.mk e2
   clear hg hgb e0 e1 e2 e3 hs3
   have hz : W4.cell? ⟨g, i * 4 + 2, none⟩ = some (.int .i64 c2) := (blk_cell HG.out _).trans E2.out
   have hf : W4.frozen? ⟨g, i * 4 + 2, none⟩ = false := blk_frozen HG.out _
   go_upto_region 9 with (fail)
   obtain ⟨W5, hW5⟩ : ∃ W5, W5 = W4.setCell ⟨g, i * 4 + 2, none⟩ (.int .i64 (wrap64 (wrap64 (a + 1) + 1))) := ⟨_, rfl⟩
   rw [← hW5]
   have HK5 : Aside0 (laws_markBranch.Keep base w W5) := ⟨by rw [hW5]; exact HK4.out.trans (laws_markBranch.Keep.store HG.out HGB.out E2.out (.inr (.inr ⟨_, _, rfl, rfl⟩)))⟩
   clear hW5 hz hf HG HGB E2 HK4
   obtain ⟨cs', d0, d1, d2, A5, n5, c5, hg, hgb, e0, e1, e2, e3, hs3⟩ := (HS.out.keep HK5.out).at_ i HLT.out
   have hz : W5.cell? ⟨g, i * 4 + 3, none⟩ = some (.slice A5 n5 c5) := (blk_cell hg _).trans e3
   have HS3 := Aside0.mk hs3
   clear hg hgb e0 e1 e2 e3 hs3
   have hlt := HLT.out
   go_wp2_with ((go_at_call 29; refine (IH.out (.slice A5 n5 c5) (rd_T29 xs (i : Int)).f3 _ b base _ (Nat.le_trans HBS.out HK5.out.below.size) HS3.out H2.out).mono ?_; rintro e w6 ⟨rfl, hk6⟩; have HK6 := Aside0.mk (HK5.out.trans hk6); clear hk6))
   go_roundw
   case rel => exact ⟨i + 1, b, HLT.out, rfl, by go_num, HN, HK6⟩
   case measure => have := HLT.out; simp [intOf]; omega
  ·have hA := HA.out
   rw [List.drop_eq_nil_of_le (by omega)] at hA
   have e : a = r := Option.some.inj hA
   subst e
   clear hA HA
   go_wp2
   go_ret
   exact ⟨rfl, HK.out⟩
set_option maxHeartbeats 1000000 in
set_option maxRecDepth 100000 in
theorem laws_markBranchS.nilWalk (A : Option Addr) (c : Nat) (a : Int) (base : Nat) (w : World) : Calls Try.prog 29 #[.slice A 0 c, .int .i64 a] w fun e w' => e = .returned (.int .i64 a) ∧ laws_markBranch.Keep base w w' := by
 go_enter Try.func29, Try.ntmps29
 go_wp2
 go_loopw [1, 5] (fun v1 v5 W => v1 = .int .i64 a ∧ v5 = .int .i64 0 ∧ Aside0 (laws_markBranch.Keep base w W)) (fun _ _ _ => 0)
 case atStart => exact ⟨rfl, rfl, ⟨laws_markBranch.Keep.refl _ _⟩⟩
 case round =>
  obtain ⟨rfl, rfl, HK⟩ := hrel
  go_wp2
  go_ret
  exact ⟨rfl, HK.out⟩
theorem laws_markBranchS.con : ∀ k, laws_markBranchS.Con k
 | 0 => by
  intro v xs a r base w hb hS h
  rw [laws_markBranchS.f] at h
  cases h
 | k + 1 => by
  intro v xs a r base w hb hS h
  rw [laws_markBranchS.f] at h
  cases hS with
  | nil A c =>
   have e : a = r := Option.some.inj h
   subst e
   exact laws_markBranchS.nilWalk A c a base w
  | row g cap _ cs vs hg hgb hm hc hk => exact laws_markBranchS.rowWalk k (laws_markBranchS.con k) g cap xs a r base w hb hm (.row g cap xs cs vs hg hgb hm hc hk) h
set_option maxHeartbeats 1000000 in
set_option maxRecDepth 100000 in
/-- The tree is one of the call's own (from base on). -/
theorem laws_markBranch.calls (k : Nat) (a0_0 : ByteArray) (a0_1 : ByteArray) (a0_2 : Int) (A0_3 : Option Addr) (c0_3 : Nat) (l0_3 : List (S29)) (a1 : Int) (r : Int) (base : Nat) (ok : Nat → Prop) (w : World) (hb : base ≤ w.heap.size) (hr : Kd.R k29 29 w base ok (.slice A0_3 l0_3.length c0_3) l0_3) (h : laws_markBranch.f k a0_0 a0_1 a0_2 l0_3 a1 = some r) :
  Calls Try.prog 16 #[.agg #[.string a0_0, .string a0_1, .int .i64 a0_2, .slice A0_3 l0_3.length c0_3], .int .i64 a1] w fun e w' => e = .returned (.int .i64 r) ∧ laws_markBranch.Keep base w w' := by
 have hu29 := Try.underlying29
 have HBS := Aside0.mk hb
 have HS := Aside0.mk (laws_markBranch.Sh.of_R _ (Nat.le_refl _) hr)
 have H := Aside0.mk (show laws_markBranchS.f k l0_3 a1 = some r from h)
 clear hb hr h
 go_enter Try.func16, Try.ntmps16
 go_wp2_with (first
  | ((with_reducible refine gate_dst (N := 2) rfl ?_); refine box_event ?hg (N := 2) ?hd (cs := #[.string a0_0, .string a0_1, .int .i64 a0_2, .slice A0_3 l0_3.length c0_3]) (t := 29) ?hr ?_; (case hd => rfl); (case hg => rfl); (case hr => first | (go_simp; done) | (go_simp; rfl)); intro gb hgb wb hbox hb1; have HB1 := Aside0.mk (laws_markBranch.Keep.of_below hb1 HBS.out); have hz3 : wb.cell? ⟨gb, 3, none⟩ = some (.slice A0_3 l0_3.length c0_3) := (blk_cell hbox 3).trans rfl; clear hb1 hbox hgb)
  | (go_at_call 29; refine (laws_markBranchS.con k _ l0_3 a1 r base _ (Nat.le_trans HBS.out HB1.out.below.size) (HS.out.keep HB1.out) H.out).mono ?_; rintro e w2 ⟨rfl, hk2⟩; have HK2 := Aside0.mk (HB1.out.trans hk2); clear hk2))
 go_ret
 exact ⟨rfl, HK2.out⟩

/-! ### laws_markCommandS: function 17 -/
def laws_markCommandS.l0 : Nat → List (S53) → Int → Int → Option (Int × (List (S53)))
 | 0, _, _, _ => none
 | k + 1, x0, x1, x5 => if x5 < (x0.length : Int) then (if 0 ≤ x5 then ((some (x0.set (x5 : Int).toNat (⟨x1, (rd_T53 x0 x5).f1, (rd_T53 x0 x5).f2, (rd_T53 x0 x5).f3, (rd_T53 x0 x5).f4⟩ : S53) : List (S53))).bind fun y142 => ((some (y142.set (x5 : Int).toNat (⟨(rd_T53 y142 x5).f0, wrap64 (x1 + 1), (rd_T53 y142 x5).f2, (rd_T53 y142 x5).f3, (rd_T53 y142 x5).f4⟩ : S53) : List (S53))).bind fun y143 => ((some (y143.set (x5 : Int).toNat (⟨(rd_T53 y143 x5).f0, (rd_T53 y143 x5).f1, wrap64 ((wrap64 (x1 + 1)) + 1), (rd_T53 y143 x5).f3, (rd_T53 y143 x5).f4⟩ : S53) : List (S53))).bind fun y144 => ((laws_markText.f k (wrap64 ((wrap64 ((wrap64 (x1 + 1)) + 1)) + 1))).bind fun t145 => ((some (y144.set (x5 : Int).toNat (⟨(rd_T53 y144 x5).f0, (rd_T53 y144 x5).f1, (rd_T53 y144 x5).f2, t145, (rd_T53 y144 x5).f4⟩ : S53) : List (S53))).bind fun y146 => ((laws_markText.f k (wrap64 ((wrap64 ((wrap64 ((wrap64 (x1 + 1)) + 1)) + 1)) + 1))).bind fun t147 => (laws_markCommandS.l0 k (y146.set (x5 : Int).toNat (⟨(rd_T53 y146 x5).f0, (rd_T53 y146 x5).f1, (rd_T53 y146 x5).f2, (rd_T53 y146 x5).f3, t147⟩ : S53)) (wrap64 ((wrap64 ((wrap64 ((wrap64 ((wrap64 (x1 + 1)) + 1)) + 1)) + 1)) + 1)) (wrap64 (x5 + 1))))))))) else (none)) else (some (x1, x0))
def laws_markCommandS.f (k : Nat) (l0 : List (S53)) (a1 : Int) : Option (Int × (List (S53))) := laws_markCommandS.l0 k l0 a1 0
theorem laws_markCommandS.mono_l : ∀ k, (∀ y0 y1 y2, LeO (laws_markCommandS.l0 k y0 y1 y2) (laws_markCommandS.l0 (k + 1) y0 y1 y2))
 | 0 => fun _ _ _ r h => by simp [laws_markCommandS.l0] at h
 | k + 1 => by
  have ih0 := laws_markCommandS.mono_l k
  ·intro y0 y1 y2
   unfold laws_markCommandS.l0
   repeat' first
   | (with_reducible exact ih0 _ _ _)
   | (with_reducible exact laws_markText.mono _ _)
   | (with_reducible exact LeO.refl _)
   | (with_reducible exact LeO.none _)
   | (with_reducible refine LeO.ite ?_ ?_)
   | (with_reducible refine LeO.bind ?_ (fun _ => ?_))
   | exact ih0 _ _ _
   | exact laws_markText.mono _ _
   | exact LeO.none _
   | refine LeO.ite ?_ ?_
   | refine LeO.bind ?_ (fun _ => ?_)
theorem laws_markCommandS.mono : ∀ a0 a1 k, LeO (laws_markCommandS.f k a0 a1) (laws_markCommandS.f (k + 1) a0 a1) := by
 intro a0 a1 k
 have ih0 := laws_markCommandS.mono_l k
 unfold laws_markCommandS.f
 repeat' first
   | (with_reducible exact ih0 _ _ _)
   | (with_reducible exact laws_markText.mono _ _)
   | (with_reducible exact LeO.refl _)
   | (with_reducible exact LeO.none _)
   | (with_reducible refine LeO.ite ?_ ?_)
   | (with_reducible refine LeO.bind ?_ (fun _ => ?_))
   | exact ih0 _ _ _
   | exact laws_markText.mono _ _
   | exact LeO.none _
   | refine LeO.ite ?_ ?_
   | refine LeO.bind ?_ (fun _ => ?_)
set_option maxHeartbeats 8000000 in
set_option maxRecDepth 100000 in
theorem laws_markCommandS.calls (k : Nat) (P0_ : Nat → Prop) (u9000_ : Value) (l0 : List (S53)) (a1 : Int) (r1 : Int) (r2 : List (S53)) (w0 w : World) (hB : Below w0.heap.size w0 w) (ho0 : Kd.R k53 53 w w0.heap.size P0_ u9000_ l0) (h : laws_markCommandS.f k l0 a1 = some (r1, r2)) :
  Calls Try.prog 17 #[u9000_, .int .i64 a1] w fun e w' => e = .returned (.int .i64 r1) ∧ Kd.R k53 53 w' w0.heap.size (fun k_ => (P0_ k_ ∨ w.heap.size ≤ k_)) u9000_ r2 ∧ Below w0.heap.size w0 w' ∧ Kept w w' (fun k_ => P0_ k_) := by
 have HO0 := Aside0.mk (show Kd.R k53 53 w w0.heap.size (fun k_ => (P0_ k_ ∨ w.heap.size ≤ k_)) u9000_ l0 from Kd.R_mono ho0 (fun k_ hk => (.inl hk)))
 have HK := Aside0.mk (Kept.refl w (fun k_ => P0_ k_))
 have HW0 := Aside0.mk hB.size
 have HB := Aside0.mk hB
 clear hB
 have H : (laws_markCommandS.l0 k l0 a1 0) = some (r1, r2) := h
 clear h
 have H' := Aside0.mk H
 clear H
 go_enter Try.func17, Try.ntmps17
 go_wp2
 go_loopg [1, 5] k (fun kq v1 v5 w' => ∃ (x0_1 : List (S53)) (x1_1 : Int) (x5_1 : Int), v1 = .int .i64 x1_1 ∧ v5 = .int .i64 x5_1 ∧ Aside0 (laws_markCommandS.l0 kq x0_1 x1_1 x5_1 = some (r1, r2)) ∧ Aside0 (kq ≤ k) ∧ Aside0 (Kd.R k53 53 w' w0.heap.size (fun k_ => (P0_ k_ ∨ w.heap.size ≤ k_)) u9000_ x0_1) ∧ Aside0 (Kept w w' (fun k_ => P0_ k_)) ∧ Aside0 (Below w0.heap.size w0 w'))
 case atStart => exact ⟨(l0), (a1), (0), (by first | rfl | (simp; done) | (simp [*]; done)), (by first | rfl | (simp; done) | (simp [*]; done)), H', ⟨Nat.le_refl _⟩, ⟨by (with_reducible repeat (first | apply Kd.R_alloc | apply Kd.R_drewN | apply Kd.R_drew)); exact HO0.out⟩, ⟨by repeat (first | (with_reducible first | exact HK.out | apply Kept.alloc | apply Kept.drewN | apply Kept.drew) | exact HK.out)⟩, ⟨by repeat (first | (with_reducible first | exact HB.out | apply below_alloc | apply pw_below_drewN | apply below_drew1) | exact HB.out)⟩⟩
 case round =>
  clear H'
  try clear c1
  try clear p2
  obtain ⟨x0_1, x1_1, x5_1, rfl, rfl, HA, HK1, HO_0, HK, HB⟩ := hrel
  cases gk with
  | zero => exact absurd HA.out (by simp [laws_markCommandS.l0])
  | succ k1 =>
   have H := HA.out
   clear HA
   simp only [laws_markCommandS.l0] at H
   by_cases c3 : x5_1 < (x0_1.length : Int)
   ·rw [if_pos c3] at H
    have c3b0 : decide (x5_1 < (x0_1.length : Int)) = true := decide_eq_true c3
    clear c3
    by_cases c4 : 0 ≤ x5_1
    ·rw [if_pos c4] at H
     have c4b0 : decide (0 ≤ x5_1) = true := decide_eq_true c4
     clear c4
     obtain ⟨y142, hy142⟩ : ∃ y_ : List (S53), y_ = (x0_1.set (x5_1 : Int).toNat (⟨x1_1, (rd_T53 x0_1 x5_1).f1, (rd_T53 x0_1 x5_1).f2, (rd_T53 x0_1 x5_1).f3, (rd_T53 x0_1 x5_1).f4⟩ : S53)) := ⟨_, rfl⟩
     replace H : ((some (y142.set (x5_1 : Int).toNat (⟨(rd_T53 y142 x5_1).f0, wrap64 (x1_1 + 1), (rd_T53 y142 x5_1).f2, (rd_T53 y142 x5_1).f3, (rd_T53 y142 x5_1).f4⟩ : S53) : List (S53))).bind fun y143 => ((some (y143.set (x5_1 : Int).toNat (⟨(rd_T53 y143 x5_1).f0, (rd_T53 y143 x5_1).f1, wrap64 ((wrap64 (x1_1 + 1)) + 1), (rd_T53 y143 x5_1).f3, (rd_T53 y143 x5_1).f4⟩ : S53) : List (S53))).bind fun y144 => ((laws_markText.f k1 (wrap64 ((wrap64 ((wrap64 (x1_1 + 1)) + 1)) + 1))).bind fun t145 => ((some (y144.set (x5_1 : Int).toNat (⟨(rd_T53 y144 x5_1).f0, (rd_T53 y144 x5_1).f1, (rd_T53 y144 x5_1).f2, t145, (rd_T53 y144 x5_1).f4⟩ : S53) : List (S53))).bind fun y146 => ((laws_markText.f k1 (wrap64 ((wrap64 ((wrap64 ((wrap64 (x1_1 + 1)) + 1)) + 1)) + 1))).bind fun t147 => (laws_markCommandS.l0 k1 (y146.set (x5_1 : Int).toNat (⟨(rd_T53 y146 x5_1).f0, (rd_T53 y146 x5_1).f1, (rd_T53 y146 x5_1).f2, (rd_T53 y146 x5_1).f3, t147⟩ : S53)) (wrap64 ((wrap64 ((wrap64 ((wrap64 ((wrap64 (x1_1 + 1)) + 1)) + 1)) + 1)) + 1)) (wrap64 (x5_1 + 1)))))))) = some (r1, r2) := by first | (rw [hy142]; with_reducible exact H) | (have H2_ := (Option.bind_some _ _).symm.trans H; rw [hy142]; with_reducible exact H2_) | (have H2_ := (Option.bind_some _ _).symm.trans H; with_reducible exact H2_) | with_reducible exact H | (rw [hy142]; exact H) | exact H
     have Ny142 := Aside0.mk hy142
     clear hy142
     obtain ⟨y143, hy143⟩ : ∃ y_ : List (S53), y_ = (y142.set (x5_1 : Int).toNat (⟨(rd_T53 y142 x5_1).f0, wrap64 (x1_1 + 1), (rd_T53 y142 x5_1).f2, (rd_T53 y142 x5_1).f3, (rd_T53 y142 x5_1).f4⟩ : S53)) := ⟨_, rfl⟩
     replace H : ((some (y143.set (x5_1 : Int).toNat (⟨(rd_T53 y143 x5_1).f0, (rd_T53 y143 x5_1).f1, wrap64 ((wrap64 (x1_1 + 1)) + 1), (rd_T53 y143 x5_1).f3, (rd_T53 y143 x5_1).f4⟩ : S53) : List (S53))).bind fun y144 => ((laws_markText.f k1 (wrap64 ((wrap64 ((wrap64 (x1_1 + 1)) + 1)) + 1))).bind fun t145 => ((some (y144.set (x5_1 : Int).toNat (⟨(rd_T53 y144 x5_1).f0, (rd_T53 y144 x5_1).f1, (rd_T53 y144 x5_1).f2, t145, (rd_T53 y144 x5_1).f4⟩ : S53) : List (S53))).bind fun y146 => ((laws_markText.f k1 (wrap64 ((wrap64 ((wrap64 ((wrap64 (x1_1 + 1)) + 1)) + 1)) + 1))).bind fun t147 => (laws_markCommandS.l0 k1 (y146.set (x5_1 : Int).toNat (⟨(rd_T53 y146 x5_1).f0, (rd_T53 y146 x5_1).f1, (rd_T53 y146 x5_1).f2, (rd_T53 y146 x5_1).f3, t147⟩ : S53)) (wrap64 ((wrap64 ((wrap64 ((wrap64 ((wrap64 (x1_1 + 1)) + 1)) + 1)) + 1)) + 1)) (wrap64 (x5_1 + 1))))))) = some (r1, r2) := by first | (rw [hy143]; with_reducible exact H) | (have H2_ := (Option.bind_some _ _).symm.trans H; rw [hy143]; with_reducible exact H2_) | (have H2_ := (Option.bind_some _ _).symm.trans H; with_reducible exact H2_) | with_reducible exact H | (rw [hy143]; exact H) | exact H
     have Ny143 := Aside0.mk hy143
     clear hy143
     obtain ⟨y144, hy144⟩ : ∃ y_ : List (S53), y_ = (y143.set (x5_1 : Int).toNat (⟨(rd_T53 y143 x5_1).f0, (rd_T53 y143 x5_1).f1, wrap64 ((wrap64 (x1_1 + 1)) + 1), (rd_T53 y143 x5_1).f3, (rd_T53 y143 x5_1).f4⟩ : S53)) := ⟨_, rfl⟩
     replace H : ((laws_markText.f k1 (wrap64 ((wrap64 ((wrap64 (x1_1 + 1)) + 1)) + 1))).bind fun t145 => ((some (y144.set (x5_1 : Int).toNat (⟨(rd_T53 y144 x5_1).f0, (rd_T53 y144 x5_1).f1, (rd_T53 y144 x5_1).f2, t145, (rd_T53 y144 x5_1).f4⟩ : S53) : List (S53))).bind fun y146 => ((laws_markText.f k1 (wrap64 ((wrap64 ((wrap64 ((wrap64 (x1_1 + 1)) + 1)) + 1)) + 1))).bind fun t147 => (laws_markCommandS.l0 k1 (y146.set (x5_1 : Int).toNat (⟨(rd_T53 y146 x5_1).f0, (rd_T53 y146 x5_1).f1, (rd_T53 y146 x5_1).f2, (rd_T53 y146 x5_1).f3, t147⟩ : S53)) (wrap64 ((wrap64 ((wrap64 ((wrap64 ((wrap64 (x1_1 + 1)) + 1)) + 1)) + 1)) + 1)) (wrap64 (x5_1 + 1)))))) = some (r1, r2) := by first | (rw [hy144]; with_reducible exact H) | (have H2_ := (Option.bind_some _ _).symm.trans H; rw [hy144]; with_reducible exact H2_) | (have H2_ := (Option.bind_some _ _).symm.trans H; with_reducible exact H2_) | with_reducible exact H | (rw [hy144]; exact H) | exact H
     have Ny144 := Aside0.mk hy144
     clear hy144
     replace H := Option.bind_eq_some_iff.mp H
     obtain ⟨t145, A80, H⟩ := H
     replace H : ((some (y144.set (x5_1 : Int).toNat (⟨(rd_T53 y144 x5_1).f0, (rd_T53 y144 x5_1).f1, (rd_T53 y144 x5_1).f2, t145, (rd_T53 y144 x5_1).f4⟩ : S53) : List (S53))).bind fun y146 => ((laws_markText.f k1 (wrap64 ((wrap64 ((wrap64 ((wrap64 (x1_1 + 1)) + 1)) + 1)) + 1))).bind fun t147 => (laws_markCommandS.l0 k1 (y146.set (x5_1 : Int).toNat (⟨(rd_T53 y146 x5_1).f0, (rd_T53 y146 x5_1).f1, (rd_T53 y146 x5_1).f2, (rd_T53 y146 x5_1).f3, t147⟩ : S53)) (wrap64 ((wrap64 ((wrap64 ((wrap64 ((wrap64 (x1_1 + 1)) + 1)) + 1)) + 1)) + 1)) (wrap64 (x5_1 + 1))))) = some (r1, r2) := H
     have A8 := Aside0.mk A80
     clear A80
     obtain ⟨y146, hy146⟩ : ∃ y_ : List (S53), y_ = (y144.set (x5_1 : Int).toNat (⟨(rd_T53 y144 x5_1).f0, (rd_T53 y144 x5_1).f1, (rd_T53 y144 x5_1).f2, t145, (rd_T53 y144 x5_1).f4⟩ : S53)) := ⟨_, rfl⟩
     replace H : ((laws_markText.f k1 (wrap64 ((wrap64 ((wrap64 ((wrap64 (x1_1 + 1)) + 1)) + 1)) + 1))).bind fun t147 => (laws_markCommandS.l0 k1 (y146.set (x5_1 : Int).toNat (⟨(rd_T53 y146 x5_1).f0, (rd_T53 y146 x5_1).f1, (rd_T53 y146 x5_1).f2, (rd_T53 y146 x5_1).f3, t147⟩ : S53)) (wrap64 ((wrap64 ((wrap64 ((wrap64 ((wrap64 (x1_1 + 1)) + 1)) + 1)) + 1)) + 1)) (wrap64 (x5_1 + 1)))) = some (r1, r2) := by first | (rw [hy146]; with_reducible exact H) | (have H2_ := (Option.bind_some _ _).symm.trans H; rw [hy146]; with_reducible exact H2_) | (have H2_ := (Option.bind_some _ _).symm.trans H; with_reducible exact H2_) | with_reducible exact H | (rw [hy146]; exact H) | exact H
     have Ny146 := Aside0.mk hy146
     clear hy146
     replace H := Option.bind_eq_some_iff.mp H
     obtain ⟨t147, A100, H⟩ := H
     replace H : (laws_markCommandS.l0 k1 (y146.set (x5_1 : Int).toNat (⟨(rd_T53 y146 x5_1).f0, (rd_T53 y146 x5_1).f1, (rd_T53 y146 x5_1).f2, (rd_T53 y146 x5_1).f3, t147⟩ : S53)) (wrap64 ((wrap64 ((wrap64 ((wrap64 ((wrap64 (x1_1 + 1)) + 1)) + 1)) + 1)) + 1)) (wrap64 (x5_1 + 1))) = some (r1, r2) := H
     have A10 := Aside0.mk A100
     clear A100
     obtain ⟨y148, hy148⟩ : ∃ y_ : List (S53), y_ = (y146.set (x5_1 : Int).toNat (⟨(rd_T53 y146 x5_1).f0, (rd_T53 y146 x5_1).f1, (rd_T53 y146 x5_1).f2, (rd_T53 y146 x5_1).f3, t147⟩ : S53)) := ⟨_, rfl⟩
     replace H : (laws_markCommandS.l0 k1 y148 (wrap64 ((wrap64 ((wrap64 ((wrap64 ((wrap64 (x1_1 + 1)) + 1)) + 1)) + 1)) + 1)) (wrap64 (x5_1 + 1))) = some (r1, r2) := by first | (rw [hy148]; with_reducible exact H) | (have H2_ := (Option.bind_some _ _).symm.trans H; rw [hy148]; with_reducible exact H2_) | (have H2_ := (Option.bind_some _ _).symm.trans H; with_reducible exact H2_) | with_reducible exact H | (rw [hy148]; exact H) | exact H
     have Ny148 := Aside0.mk hy148
     clear hy148
     have H' := Aside0.mk H
     clear H
     obtain ⟨Ao12, co12, eo12⟩ := Kd.R_slice HO_0.out
     subst eo12
     have p5 : 0 ≤ (x5_1 : Int) := of_decide_eq_true (by assumption)
     have q5 : (x5_1 : Int) < ((x0_1.length : Int) : Int) := of_decide_eq_true (by assumption)
     obtain ⟨go5, co5, eo5, gb5, gl5, cl5, HG5⟩ := Kd.R_form HO_0.out (by omega)
     (first | cases eo5 | (injection eo5 with ea_ en_ ec_; (first | subst ea_ | (injection ea_ with ea_; subst ea_)); subst ec_; clear en_))
     have GB5 := Aside0.mk gb5
     have GG5 := Aside0.mk HG5
     clear gb5 gl5 HG5
     have HMgo5 := Aside0.mk (show (P0_ go5 ∨ w.heap.size ≤ go5) from (HO_0.out.1 _ rfl))
     obtain ⟨ce5, hcl5, hM5, hcc5, hfr5⟩ := Kd.R_elem HO_0.out z53 (x5_1 : Int) p5 q5
     obtain rfl := k53_openM hM5
     have hx5_0 : wr.cell? ⟨go5, (x5_1 : Int).toNat * 5, none⟩ = some (.int .i64 ((rd_T53 x0_1 x5_1).f0)) := hcc5 0 _ rfl
     have hx5_1 : wr.cell? ⟨go5, (x5_1 : Int).toNat * 5 + 1, none⟩ = some (.int .i64 ((rd_T53 x0_1 x5_1).f1)) := hcc5 1 _ rfl
     have hx5_2 : wr.cell? ⟨go5, (x5_1 : Int).toNat * 5 + 2, none⟩ = some (.int .i64 ((rd_T53 x0_1 x5_1).f2)) := hcc5 2 _ rfl
     have hx5_3 : wr.cell? ⟨go5, (x5_1 : Int).toNat * 5 + 3, none⟩ = some (.string ((rd_T53 x0_1 x5_1).f3)) := hcc5 3 _ rfl
     have hx5_4 : wr.cell? ⟨go5, (x5_1 : Int).toNat * 5 + 4, none⟩ = some (.string ((rd_T53 x0_1 x5_1).f4)) := hcc5 4 _ rfl
     have hf5_0 : wr.frozen? ⟨go5, (x5_1 : Int).toNat * 5, none⟩ = false := hfr5 0
     have hf5_1 : wr.frozen? ⟨go5, (x5_1 : Int).toNat * 5 + 1, none⟩ = false := hfr5 1
     have hf5_2 : wr.frozen? ⟨go5, (x5_1 : Int).toNat * 5 + 2, none⟩ = false := hfr5 2
     have hf5_3 : wr.frozen? ⟨go5, (x5_1 : Int).toNat * 5 + 3, none⟩ = false := hfr5 3
     have hf5_4 : wr.frozen? ⟨go5, (x5_1 : Int).toNat * 5 + 4, none⟩ = false := hfr5 4
     clear hcl5 hcc5 hfr5 hM5
     replace p5 := eq_true p5
     replace q5 := eq_true q5
     have HX13 := Aside0.mk (show Kd.R k53 53 wr w0.heap.size (fun k_ => (P0_ k_ ∨ w.heap.size ≤ k_)) (.slice (some ⟨go5, 0, none⟩) x0_1.length co12) x0_1 from (by (with_reducible repeat (first | apply Kd.R_alloc | apply Kd.R_drewN | apply Kd.R_drew)); exact HO_0.out))
     obtain ⟨ce13, hcl13, hM13, hcc13, hfr13⟩ := Kd.R_elem HX13.out z53 (x5_1 : Int) (of_decide_eq_true (by assumption)) (by have h_ : (x5_1 : Int) < ((x0_1.length : Int) : Int) := of_decide_eq_true (by assumption); first | exact h_ | (have e_ := (Kd.R_reads' HO_0.out).1; omega) | simpa using h_)
     obtain rfl := k53_openM hM13
     have HP13 := Kd.R_seg HX13.out (x5_1 : Int) (of_decide_eq_true (by assumption)) (by have h_ : (x5_1 : Int) < ((x0_1.length : Int) : Int) := of_decide_eq_true (by assumption); first | exact h_ | (have e_ := (Kd.R_reads' HO_0.out).1; omega) | simpa using h_) (seg := [.int .i64 x1_1]) (j := 0) hcl13 hcc13 (show 1 ≤ 5 from by decide) (x' := (⟨x1_1, (rd_T53 x0_1 x5_1).f1, (rd_T53 x0_1 x5_1).f2, (rd_T53 x0_1 x5_1).f3, (rd_T53 x0_1 x5_1).f4⟩ : S53)) (k53_mkM _ _ _ (⟨x1_1, (rd_T53 x0_1 x5_1).f1, (rd_T53 x0_1 x5_1).f2, (rd_T53 x0_1 x5_1).f3, (rd_T53 x0_1 x5_1).f4⟩ : S53) ) (fun _ hk => hk)
     have hx13_0 := hcc13 0 _ rfl
     (try simp only [show (k53).sz = 5 from rfl, Nat.mul_one, Nat.add_zero] at hx13_0)
     have hf13_0 := hfr13 0
     (try simp only [show (k53).sz = 5 from rfl, Nat.mul_one, Nat.add_zero] at hf13_0)
     clear hcl13 hcc13 hfr13 hM13
     go_wp2_with (first | ((with_reducible refine gate_store (t := 3) (p := 16) rfl ?_); refine store_event (t := 3) (p := 16) (v := ?vo_w14) (w1 := (wr.setCell ⟨go5, (x5_1 : Int).toNat * 5, none⟩ (.int .i64 x1_1))) ?hg ?ho ?hn ?hr ?_; (case ho => rfl); (case hg => rfl); (case hn => rfl); (case hr => first | (go_simp; done) | (go_simp; rfl)); intro w14 hw; have hg : wr.grownBy w14 (some go5) := (by rw [hw]; exact HP13.2); have hp_ : Kd.R k53 53 w14 w0.heap.size (fun k_ => (P0_ k_ ∨ w.heap.size ≤ k_)) (.slice (some ⟨go5, 0, none⟩) x0_1.length co12) y142 := (by rw [hw, Ny142.out]; exact HP13.1); clear HP13; have n0_ := Aside0.mk (hp_); have n1_ := Aside0.mk ((by rw [hw]; exact below_set (HB.out) GB5.out : Below w0.heap.size w0 w14)); have n2_ := Aside0.mk (Kept.of_grown (S := (fun k_ => P0_ k_)) hg (by repeat (first | (with_reducible first | exact HK.out | apply Kept.alloc | apply Kept.drewN | apply Kept.drew) | exact HK.out)) (fun k_ e_ => (HO_0.out.1 k_ e_))); clear HO_0; clear HB; clear HK; have HO_0 := n0_; have HB := n1_; have HK := n2_; clear n0_ n1_ n2_; clear hg hw hp_; have p6 : 0 ≤ (x5_1 : Int) := of_decide_eq_true (by assumption); have q6 : (x5_1 : Int) < ((x0_1.length : Int) : Int) := of_decide_eq_true (by assumption); obtain ⟨ce6, hcl6, hM6, hcc6, hfr6⟩ := Kd.R_elem HO_0.out z53 (x5_1 : Int) p6 q6; obtain rfl := k53_openM hM6; have hx6_0 : w14.cell? ⟨go5, (x5_1 : Int).toNat * 5, none⟩ = some (.int .i64 ((rd_T53 y142 x5_1).f0)) := hcc6 0 _ rfl; have hx6_1 : w14.cell? ⟨go5, (x5_1 : Int).toNat * 5 + 1, none⟩ = some (.int .i64 ((rd_T53 y142 x5_1).f1)) := hcc6 1 _ rfl; have hx6_2 : w14.cell? ⟨go5, (x5_1 : Int).toNat * 5 + 2, none⟩ = some (.int .i64 ((rd_T53 y142 x5_1).f2)) := hcc6 2 _ rfl; have hx6_3 : w14.cell? ⟨go5, (x5_1 : Int).toNat * 5 + 3, none⟩ = some (.string ((rd_T53 y142 x5_1).f3)) := hcc6 3 _ rfl; have hx6_4 : w14.cell? ⟨go5, (x5_1 : Int).toNat * 5 + 4, none⟩ = some (.string ((rd_T53 y142 x5_1).f4)) := hcc6 4 _ rfl; have hf6_0 : w14.frozen? ⟨go5, (x5_1 : Int).toNat * 5, none⟩ = false := hfr6 0; have hf6_1 : w14.frozen? ⟨go5, (x5_1 : Int).toNat * 5 + 1, none⟩ = false := hfr6 1; have hf6_2 : w14.frozen? ⟨go5, (x5_1 : Int).toNat * 5 + 2, none⟩ = false := hfr6 2; have hf6_3 : w14.frozen? ⟨go5, (x5_1 : Int).toNat * 5 + 3, none⟩ = false := hfr6 3; have hf6_4 : w14.frozen? ⟨go5, (x5_1 : Int).toNat * 5 + 4, none⟩ = false := hfr6 4; clear hcl6 hcc6 hfr6 hM6; replace p6 := eq_true p6; replace q6 := eq_true q6; have HX15 := Aside0.mk (show Kd.R k53 53 w14 w0.heap.size (fun k_ => (P0_ k_ ∨ w.heap.size ≤ k_)) (.slice (some ⟨go5, 0, none⟩) x0_1.length co12) y142 from (by (with_reducible repeat (first | apply Kd.R_alloc | apply Kd.R_drewN | apply Kd.R_drew)); exact HO_0.out)); obtain ⟨ce15, hcl15, hM15, hcc15, hfr15⟩ := Kd.R_elem HX15.out z53 (x5_1 : Int) (of_decide_eq_true (by assumption)) (by have h_ : (x5_1 : Int) < ((x0_1.length : Int) : Int) := of_decide_eq_true (by assumption); first | exact h_ | (have e_ := (Kd.R_reads' HO_0.out).1; omega) | simpa using h_); obtain rfl := k53_openM hM15; have HP15 := Kd.R_seg HX15.out (x5_1 : Int) (of_decide_eq_true (by assumption)) (by have h_ : (x5_1 : Int) < ((x0_1.length : Int) : Int) := of_decide_eq_true (by assumption); first | exact h_ | (have e_ := (Kd.R_reads' HO_0.out).1; omega) | simpa using h_) (seg := [.int .i64 (wrap64 (x1_1 + 1))]) (j := 1) hcl15 hcc15 (show 2 ≤ 5 from by decide) (x' := (⟨(rd_T53 y142 x5_1).f0, wrap64 (x1_1 + 1), (rd_T53 y142 x5_1).f2, (rd_T53 y142 x5_1).f3, (rd_T53 y142 x5_1).f4⟩ : S53)) (k53_mkM _ _ _ (⟨(rd_T53 y142 x5_1).f0, wrap64 (x1_1 + 1), (rd_T53 y142 x5_1).f2, (rd_T53 y142 x5_1).f3, (rd_T53 y142 x5_1).f4⟩ : S53) ) (fun _ hk => hk); have hx15_1 := hcc15 1 _ rfl; (try simp only [show (k53).sz = 5 from rfl, Nat.mul_one, Nat.add_zero] at hx15_1); have hf15_1 := hfr15 1; (try simp only [show (k53).sz = 5 from rfl, Nat.mul_one, Nat.add_zero] at hf15_1); clear hcl15 hcc15 hfr15 hM15) | ((with_reducible refine gate_store (t := 3) (p := 23) rfl ?_); refine store_event (t := 3) (p := 23) (v := ?vo_w16) (w1 := (w14.setCell ⟨go5, (x5_1 : Int).toNat * 5 + 1, none⟩ (.int .i64 (wrap64 (x1_1 + 1))))) ?hg ?ho ?hn ?hr ?_; (case ho => rfl); (case hg => rfl); (case hn => rfl); (case hr => first | (go_simp; done) | (go_simp; rfl)); intro w16 hw; have hg : w14.grownBy w16 (some go5) := (by rw [hw]; exact HP15.2); have hp_ : Kd.R k53 53 w16 w0.heap.size (fun k_ => (P0_ k_ ∨ w.heap.size ≤ k_)) (.slice (some ⟨go5, 0, none⟩) x0_1.length co12) y143 := (by rw [hw, Ny143.out]; exact HP15.1); clear HP15; have n0_ := Aside0.mk (hp_); have n1_ := Aside0.mk ((by rw [hw]; exact below_set (HB.out) GB5.out : Below w0.heap.size w0 w16)); have n2_ := Aside0.mk (Kept.of_grown (S := (fun k_ => P0_ k_)) hg (by repeat (first | (with_reducible first | exact HK.out | apply Kept.alloc | apply Kept.drewN | apply Kept.drew) | exact HK.out)) (fun k_ e_ => (HO_0.out.1 k_ e_))); clear HO_0; clear HB; clear HK; have HO_0 := n0_; have HB := n1_; have HK := n2_; clear n0_ n1_ n2_; clear hg hw hp_; have p7 : 0 ≤ (x5_1 : Int) := of_decide_eq_true (by assumption); have q7 : (x5_1 : Int) < ((x0_1.length : Int) : Int) := of_decide_eq_true (by assumption); obtain ⟨ce7, hcl7, hM7, hcc7, hfr7⟩ := Kd.R_elem HO_0.out z53 (x5_1 : Int) p7 q7; obtain rfl := k53_openM hM7; have hx7_0 : w16.cell? ⟨go5, (x5_1 : Int).toNat * 5, none⟩ = some (.int .i64 ((rd_T53 y143 x5_1).f0)) := hcc7 0 _ rfl; have hx7_1 : w16.cell? ⟨go5, (x5_1 : Int).toNat * 5 + 1, none⟩ = some (.int .i64 ((rd_T53 y143 x5_1).f1)) := hcc7 1 _ rfl; have hx7_2 : w16.cell? ⟨go5, (x5_1 : Int).toNat * 5 + 2, none⟩ = some (.int .i64 ((rd_T53 y143 x5_1).f2)) := hcc7 2 _ rfl; have hx7_3 : w16.cell? ⟨go5, (x5_1 : Int).toNat * 5 + 3, none⟩ = some (.string ((rd_T53 y143 x5_1).f3)) := hcc7 3 _ rfl; have hx7_4 : w16.cell? ⟨go5, (x5_1 : Int).toNat * 5 + 4, none⟩ = some (.string ((rd_T53 y143 x5_1).f4)) := hcc7 4 _ rfl; have hf7_0 : w16.frozen? ⟨go5, (x5_1 : Int).toNat * 5, none⟩ = false := hfr7 0; have hf7_1 : w16.frozen? ⟨go5, (x5_1 : Int).toNat * 5 + 1, none⟩ = false := hfr7 1; have hf7_2 : w16.frozen? ⟨go5, (x5_1 : Int).toNat * 5 + 2, none⟩ = false := hfr7 2; have hf7_3 : w16.frozen? ⟨go5, (x5_1 : Int).toNat * 5 + 3, none⟩ = false := hfr7 3; have hf7_4 : w16.frozen? ⟨go5, (x5_1 : Int).toNat * 5 + 4, none⟩ = false := hfr7 4; clear hcl7 hcc7 hfr7 hM7; replace p7 := eq_true p7; replace q7 := eq_true q7; have HX17 := Aside0.mk (show Kd.R k53 53 w16 w0.heap.size (fun k_ => (P0_ k_ ∨ w.heap.size ≤ k_)) (.slice (some ⟨go5, 0, none⟩) x0_1.length co12) y143 from (by (with_reducible repeat (first | apply Kd.R_alloc | apply Kd.R_drewN | apply Kd.R_drew)); exact HO_0.out)); obtain ⟨ce17, hcl17, hM17, hcc17, hfr17⟩ := Kd.R_elem HX17.out z53 (x5_1 : Int) (of_decide_eq_true (by assumption)) (by have h_ : (x5_1 : Int) < ((x0_1.length : Int) : Int) := of_decide_eq_true (by assumption); first | exact h_ | (have e_ := (Kd.R_reads' HO_0.out).1; omega) | simpa using h_); obtain rfl := k53_openM hM17; have HP17 := Kd.R_seg HX17.out (x5_1 : Int) (of_decide_eq_true (by assumption)) (by have h_ : (x5_1 : Int) < ((x0_1.length : Int) : Int) := of_decide_eq_true (by assumption); first | exact h_ | (have e_ := (Kd.R_reads' HO_0.out).1; omega) | simpa using h_) (seg := [.int .i64 (wrap64 ((wrap64 (x1_1 + 1)) + 1))]) (j := 2) hcl17 hcc17 (show 3 ≤ 5 from by decide) (x' := (⟨(rd_T53 y143 x5_1).f0, (rd_T53 y143 x5_1).f1, wrap64 ((wrap64 (x1_1 + 1)) + 1), (rd_T53 y143 x5_1).f3, (rd_T53 y143 x5_1).f4⟩ : S53)) (k53_mkM _ _ _ (⟨(rd_T53 y143 x5_1).f0, (rd_T53 y143 x5_1).f1, wrap64 ((wrap64 (x1_1 + 1)) + 1), (rd_T53 y143 x5_1).f3, (rd_T53 y143 x5_1).f4⟩ : S53) ) (fun _ hk => hk); have hx17_2 := hcc17 2 _ rfl; (try simp only [show (k53).sz = 5 from rfl, Nat.mul_one, Nat.add_zero] at hx17_2); have hf17_2 := hfr17 2; (try simp only [show (k53).sz = 5 from rfl, Nat.mul_one, Nat.add_zero] at hf17_2); clear hcl17 hcc17 hfr17 hM17) | ((with_reducible refine gate_store (t := 3) (p := 30) rfl ?_); refine store_event (t := 3) (p := 30) (v := ?vo_w18) (w1 := (w16.setCell ⟨go5, (x5_1 : Int).toNat * 5 + 2, none⟩ (.int .i64 (wrap64 ((wrap64 (x1_1 + 1)) + 1))))) ?hg ?ho ?hn ?hr ?_; (case ho => rfl); (case hg => rfl); (case hn => rfl); (case hr => first | (go_simp; done) | (go_simp; rfl)); intro w18 hw; have hg : w16.grownBy w18 (some go5) := (by rw [hw]; exact HP17.2); have hp_ : Kd.R k53 53 w18 w0.heap.size (fun k_ => (P0_ k_ ∨ w.heap.size ≤ k_)) (.slice (some ⟨go5, 0, none⟩) x0_1.length co12) y144 := (by rw [hw, Ny144.out]; exact HP17.1); clear HP17; have n0_ := Aside0.mk (hp_); have n1_ := Aside0.mk ((by rw [hw]; exact below_set (HB.out) GB5.out : Below w0.heap.size w0 w18)); have n2_ := Aside0.mk (Kept.of_grown (S := (fun k_ => P0_ k_)) hg (by repeat (first | (with_reducible first | exact HK.out | apply Kept.alloc | apply Kept.drewN | apply Kept.drew) | exact HK.out)) (fun k_ e_ => (HO_0.out.1 k_ e_))); clear HO_0; clear HB; clear HK; have HO_0 := n0_; have HB := n1_; have HK := n2_; clear n0_ n1_ n2_; clear hg hw hp_) | ((with_reducible refine gate_callee (f := 30) rfl ?_); refine goesL_ (some 36) rfl rfl Try.func30 (by kernel_rfl) rfl #[.int .i64 (wrap64 ((wrap64 ((wrap64 (x1_1 + 1)) + 1)) + 1))] rfl (by (try simp only [List.map_toArray, List.map_cons, List.map_nil]); first | done | rfl | (simp only [List.length_drop, List.length_take]; rfl)) ?_; (with_reducible refine (laws_markText.calls k1 (wrap64 ((wrap64 ((wrap64 (x1_1 + 1)) + 1)) + 1)) t145 _ A8.out).mono ?_); rintro e w19 ⟨rfl, hb⟩; refine ⟨_, rfl, ?_⟩; have n0_ := Aside0.mk (Kd.R_below (by (with_reducible repeat (first | apply Kd.R_alloc | apply Kd.R_drewN | apply Kd.R_drew)); exact HO_0.out) hb); have n1_ := Aside0.mk (Kept.below (S := (fun k_ => P0_ k_)) (by repeat (first | (with_reducible first | exact HK.out | apply Kept.alloc | apply Kept.drewN | apply Kept.drew) | exact HK.out)) hb); have n2_ := Aside0.mk (below_step (by repeat (first | (with_reducible first | exact HB.out | apply below_alloc | apply pw_below_drewN | apply below_drew1) | exact HB.out)) hb); clear HO_0; clear HK; clear HB; have HO_0 := n0_; have HK := n1_; have HB := n2_; clear n0_ n1_ n2_; (try clear hb); (try clear hb2); (try clear hk); (try clear hi); have p9 : 0 ≤ (x5_1 : Int) := of_decide_eq_true (by assumption); have q9 : (x5_1 : Int) < ((x0_1.length : Int) : Int) := of_decide_eq_true (by assumption); obtain ⟨ce9, hcl9, hM9, hcc9, hfr9⟩ := Kd.R_elem HO_0.out z53 (x5_1 : Int) p9 q9; obtain rfl := k53_openM hM9; have hx9_0 : w19.cell? ⟨go5, (x5_1 : Int).toNat * 5, none⟩ = some (.int .i64 ((rd_T53 y144 x5_1).f0)) := hcc9 0 _ rfl; have hx9_1 : w19.cell? ⟨go5, (x5_1 : Int).toNat * 5 + 1, none⟩ = some (.int .i64 ((rd_T53 y144 x5_1).f1)) := hcc9 1 _ rfl; have hx9_2 : w19.cell? ⟨go5, (x5_1 : Int).toNat * 5 + 2, none⟩ = some (.int .i64 ((rd_T53 y144 x5_1).f2)) := hcc9 2 _ rfl; have hx9_3 : w19.cell? ⟨go5, (x5_1 : Int).toNat * 5 + 3, none⟩ = some (.string ((rd_T53 y144 x5_1).f3)) := hcc9 3 _ rfl; have hx9_4 : w19.cell? ⟨go5, (x5_1 : Int).toNat * 5 + 4, none⟩ = some (.string ((rd_T53 y144 x5_1).f4)) := hcc9 4 _ rfl; have hf9_0 : w19.frozen? ⟨go5, (x5_1 : Int).toNat * 5, none⟩ = false := hfr9 0; have hf9_1 : w19.frozen? ⟨go5, (x5_1 : Int).toNat * 5 + 1, none⟩ = false := hfr9 1; have hf9_2 : w19.frozen? ⟨go5, (x5_1 : Int).toNat * 5 + 2, none⟩ = false := hfr9 2; have hf9_3 : w19.frozen? ⟨go5, (x5_1 : Int).toNat * 5 + 3, none⟩ = false := hfr9 3; have hf9_4 : w19.frozen? ⟨go5, (x5_1 : Int).toNat * 5 + 4, none⟩ = false := hfr9 4; clear hcl9 hcc9 hfr9 hM9; replace p9 := eq_true p9; replace q9 := eq_true q9; have HX20 := Aside0.mk (show Kd.R k53 53 w19 w0.heap.size (fun k_ => (P0_ k_ ∨ w.heap.size ≤ k_)) (.slice (some ⟨go5, 0, none⟩) x0_1.length co12) y144 from (by (with_reducible repeat (first | apply Kd.R_alloc | apply Kd.R_drewN | apply Kd.R_drew)); exact HO_0.out)); obtain ⟨ce20, hcl20, hM20, hcc20, hfr20⟩ := Kd.R_elem HX20.out z53 (x5_1 : Int) (of_decide_eq_true (by assumption)) (by have h_ : (x5_1 : Int) < ((x0_1.length : Int) : Int) := of_decide_eq_true (by assumption); first | exact h_ | (have e_ := (Kd.R_reads' HO_0.out).1; omega) | simpa using h_); obtain rfl := k53_openM hM20; have HP20 := Kd.R_seg HX20.out (x5_1 : Int) (of_decide_eq_true (by assumption)) (by have h_ : (x5_1 : Int) < ((x0_1.length : Int) : Int) := of_decide_eq_true (by assumption); first | exact h_ | (have e_ := (Kd.R_reads' HO_0.out).1; omega) | simpa using h_) (seg := [.string t145]) (j := 3) hcl20 hcc20 (show 4 ≤ 5 from by decide) (x' := (⟨(rd_T53 y144 x5_1).f0, (rd_T53 y144 x5_1).f1, (rd_T53 y144 x5_1).f2, t145, (rd_T53 y144 x5_1).f4⟩ : S53)) (k53_mkM _ _ _ (⟨(rd_T53 y144 x5_1).f0, (rd_T53 y144 x5_1).f1, (rd_T53 y144 x5_1).f2, t145, (rd_T53 y144 x5_1).f4⟩ : S53) ) (fun _ hk => hk); have hx20_3 := hcc20 3 _ rfl; (try simp only [show (k53).sz = 5 from rfl, Nat.mul_one, Nat.add_zero] at hx20_3); have hf20_3 := hfr20 3; (try simp only [show (k53).sz = 5 from rfl, Nat.mul_one, Nat.add_zero] at hf20_3); clear hcl20 hcc20 hfr20 hM20) | ((with_reducible refine gate_store (t := 9) (p := 38) rfl ?_); refine store_event (t := 9) (p := 38) (v := ?vo_w21) (w1 := (w19.setCell ⟨go5, (x5_1 : Int).toNat * 5 + 3, none⟩ (.string t145))) ?hg ?ho ?hn ?hr ?_; (case ho => rfl); (case hg => rfl); (case hn => rfl); (case hr => first | (go_simp; done) | (go_simp; rfl)); intro w21 hw; have hg : w19.grownBy w21 (some go5) := (by rw [hw]; exact HP20.2); have hp_ : Kd.R k53 53 w21 w0.heap.size (fun k_ => (P0_ k_ ∨ w.heap.size ≤ k_)) (.slice (some ⟨go5, 0, none⟩) x0_1.length co12) y146 := (by rw [hw, Ny146.out]; exact HP20.1); clear HP20; have n0_ := Aside0.mk (hp_); have n1_ := Aside0.mk ((by rw [hw]; exact below_set (HB.out) GB5.out : Below w0.heap.size w0 w21)); have n2_ := Aside0.mk (Kept.of_grown (S := (fun k_ => P0_ k_)) hg (by repeat (first | (with_reducible first | exact HK.out | apply Kept.alloc | apply Kept.drewN | apply Kept.drew) | exact HK.out)) (fun k_ e_ => (HO_0.out.1 k_ e_))); clear HO_0; clear HB; clear HK; have HO_0 := n0_; have HB := n1_; have HK := n2_; clear n0_ n1_ n2_; clear hg hw hp_) | ((with_reducible refine gate_callee (f := 30) rfl ?_); refine goesL_ (some 44) rfl rfl Try.func30 (by kernel_rfl) rfl #[.int .i64 (wrap64 ((wrap64 ((wrap64 ((wrap64 (x1_1 + 1)) + 1)) + 1)) + 1))] rfl (by (try simp only [List.map_toArray, List.map_cons, List.map_nil]); first | done | rfl | (simp only [List.length_drop, List.length_take]; rfl)) ?_; (with_reducible refine (laws_markText.calls k1 (wrap64 ((wrap64 ((wrap64 ((wrap64 (x1_1 + 1)) + 1)) + 1)) + 1)) t147 _ A10.out).mono ?_); rintro e w22 ⟨rfl, hb⟩; refine ⟨_, rfl, ?_⟩; have n0_ := Aside0.mk (Kd.R_below (by (with_reducible repeat (first | apply Kd.R_alloc | apply Kd.R_drewN | apply Kd.R_drew)); exact HO_0.out) hb); have n1_ := Aside0.mk (Kept.below (S := (fun k_ => P0_ k_)) (by repeat (first | (with_reducible first | exact HK.out | apply Kept.alloc | apply Kept.drewN | apply Kept.drew) | exact HK.out)) hb); have n2_ := Aside0.mk (below_step (by repeat (first | (with_reducible first | exact HB.out | apply below_alloc | apply pw_below_drewN | apply below_drew1) | exact HB.out)) hb); clear HO_0; clear HK; clear HB; have HO_0 := n0_; have HK := n1_; have HB := n2_; clear n0_ n1_ n2_; (try clear hb); (try clear hb2); (try clear hk); (try clear hi); have p11 : 0 ≤ (x5_1 : Int) := of_decide_eq_true (by assumption); have q11 : (x5_1 : Int) < ((x0_1.length : Int) : Int) := of_decide_eq_true (by assumption); obtain ⟨ce11, hcl11, hM11, hcc11, hfr11⟩ := Kd.R_elem HO_0.out z53 (x5_1 : Int) p11 q11; obtain rfl := k53_openM hM11; have hx11_0 : w22.cell? ⟨go5, (x5_1 : Int).toNat * 5, none⟩ = some (.int .i64 ((rd_T53 y146 x5_1).f0)) := hcc11 0 _ rfl; have hx11_1 : w22.cell? ⟨go5, (x5_1 : Int).toNat * 5 + 1, none⟩ = some (.int .i64 ((rd_T53 y146 x5_1).f1)) := hcc11 1 _ rfl; have hx11_2 : w22.cell? ⟨go5, (x5_1 : Int).toNat * 5 + 2, none⟩ = some (.int .i64 ((rd_T53 y146 x5_1).f2)) := hcc11 2 _ rfl; have hx11_3 : w22.cell? ⟨go5, (x5_1 : Int).toNat * 5 + 3, none⟩ = some (.string ((rd_T53 y146 x5_1).f3)) := hcc11 3 _ rfl; have hx11_4 : w22.cell? ⟨go5, (x5_1 : Int).toNat * 5 + 4, none⟩ = some (.string ((rd_T53 y146 x5_1).f4)) := hcc11 4 _ rfl; have hf11_0 : w22.frozen? ⟨go5, (x5_1 : Int).toNat * 5, none⟩ = false := hfr11 0; have hf11_1 : w22.frozen? ⟨go5, (x5_1 : Int).toNat * 5 + 1, none⟩ = false := hfr11 1; have hf11_2 : w22.frozen? ⟨go5, (x5_1 : Int).toNat * 5 + 2, none⟩ = false := hfr11 2; have hf11_3 : w22.frozen? ⟨go5, (x5_1 : Int).toNat * 5 + 3, none⟩ = false := hfr11 3; have hf11_4 : w22.frozen? ⟨go5, (x5_1 : Int).toNat * 5 + 4, none⟩ = false := hfr11 4; clear hcl11 hcc11 hfr11 hM11; replace p11 := eq_true p11; replace q11 := eq_true q11; have HX23 := Aside0.mk (show Kd.R k53 53 w22 w0.heap.size (fun k_ => (P0_ k_ ∨ w.heap.size ≤ k_)) (.slice (some ⟨go5, 0, none⟩) x0_1.length co12) y146 from (by (with_reducible repeat (first | apply Kd.R_alloc | apply Kd.R_drewN | apply Kd.R_drew)); exact HO_0.out)); obtain ⟨ce23, hcl23, hM23, hcc23, hfr23⟩ := Kd.R_elem HX23.out z53 (x5_1 : Int) (of_decide_eq_true (by assumption)) (by have h_ : (x5_1 : Int) < ((x0_1.length : Int) : Int) := of_decide_eq_true (by assumption); first | exact h_ | (have e_ := (Kd.R_reads' HO_0.out).1; omega) | simpa using h_); obtain rfl := k53_openM hM23; have HP23 := Kd.R_seg HX23.out (x5_1 : Int) (of_decide_eq_true (by assumption)) (by have h_ : (x5_1 : Int) < ((x0_1.length : Int) : Int) := of_decide_eq_true (by assumption); first | exact h_ | (have e_ := (Kd.R_reads' HO_0.out).1; omega) | simpa using h_) (seg := [.string t147]) (j := 4) hcl23 hcc23 (show 5 ≤ 5 from by decide) (x' := (⟨(rd_T53 y146 x5_1).f0, (rd_T53 y146 x5_1).f1, (rd_T53 y146 x5_1).f2, (rd_T53 y146 x5_1).f3, t147⟩ : S53)) (k53_mkM _ _ _ (⟨(rd_T53 y146 x5_1).f0, (rd_T53 y146 x5_1).f1, (rd_T53 y146 x5_1).f2, (rd_T53 y146 x5_1).f3, t147⟩ : S53) ) (fun _ hk => hk); have hx23_4 := hcc23 4 _ rfl; (try simp only [show (k53).sz = 5 from rfl, Nat.mul_one, Nat.add_zero] at hx23_4); have hf23_4 := hfr23 4; (try simp only [show (k53).sz = 5 from rfl, Nat.mul_one, Nat.add_zero] at hf23_4); clear hcl23 hcc23 hfr23 hM23) | ((with_reducible refine gate_store (t := 9) (p := 46) rfl ?_); refine store_event (t := 9) (p := 46) (v := ?vo_w24) (w1 := (w22.setCell ⟨go5, (x5_1 : Int).toNat * 5 + 4, none⟩ (.string t147))) ?hg ?ho ?hn ?hr ?_; (case ho => rfl); (case hg => rfl); (case hn => rfl); (case hr => first | (go_simp; done) | (go_simp; rfl)); intro w24 hw; have hg : w22.grownBy w24 (some go5) := (by rw [hw]; exact HP23.2); have hp_ : Kd.R k53 53 w24 w0.heap.size (fun k_ => (P0_ k_ ∨ w.heap.size ≤ k_)) (.slice (some ⟨go5, 0, none⟩) x0_1.length co12) y148 := (by rw [hw, Ny148.out]; exact HP23.1); clear HP23; have n0_ := Aside0.mk (hp_); have n1_ := Aside0.mk ((by rw [hw]; exact below_set (HB.out) GB5.out : Below w0.heap.size w0 w24)); have n2_ := Aside0.mk (Kept.of_grown (S := (fun k_ => P0_ k_)) hg (by repeat (first | (with_reducible first | exact HK.out | apply Kept.alloc | apply Kept.drewN | apply Kept.drew) | exact HK.out)) (fun k_ e_ => (HO_0.out.1 k_ e_))); clear HO_0; clear HB; clear HK; have HO_0 := n0_; have HB := n1_; have HK := n2_; clear n0_ n1_ n2_; clear hg hw hp_))
     go_roundg k1
     case measure => have := HK1.out; omega
     case rel => exact ⟨(y148), (wrap64 ((wrap64 ((wrap64 ((wrap64 ((wrap64 (x1_1 + 1)) + 1)) + 1)) + 1)) + 1)), (wrap64 (x5_1 + 1)), (by first | rfl | (simp; done) | (simp [*]; done)), (by first | rfl | (simp; done) | (simp [*]; done)), H', ⟨by have := HK1.out; omega⟩, ⟨by (with_reducible repeat (first | apply Kd.R_alloc | apply Kd.R_drewN | apply Kd.R_drew)); exact HO_0.out⟩, ⟨by repeat (first | (with_reducible first | exact HK.out | apply Kept.alloc | apply Kept.drewN | apply Kept.drew) | exact HK.out)⟩, ⟨by repeat (first | (with_reducible first | exact HB.out | apply below_alloc | apply pw_below_drewN | apply below_drew1) | exact HB.out)⟩⟩
    ·rw [if_neg c4] at H
     exact absurd H (by simp)
   ·rw [if_neg c3] at H
    have c3b0 : decide (x5_1 < (x0_1.length : Int)) = false := decide_eq_false c3
    clear c3
    simp only [Option.some.injEq, Prod.mk.injEq] at H
    obtain ⟨rfl, rfl⟩ := H
    obtain ⟨Ao25, co25, eo25⟩ := Kd.R_slice HO_0.out
    subst eo25
    go_wp2
    go_ret
    exact ⟨by first | rfl | (simp [errW_none, errW_some] <;> rfl) | (simp [*, errW_none, errW_some] <;> rfl), by (with_reducible repeat (first | apply Kd.R_alloc | apply Kd.R_drewN | apply Kd.R_drew)); exact HO_0.out, by repeat (first | (with_reducible first | exact HB.out | apply below_alloc | apply pw_below_drewN | apply below_drew1) | exact HB.out), by repeat (first | (with_reducible first | exact HK.out | apply Kept.alloc | apply Kept.drewN | apply Kept.drew) | exact HK.out)⟩

end Go.Proofs.Ytjkdmegpjdfcaaa.PFnExactMapList
