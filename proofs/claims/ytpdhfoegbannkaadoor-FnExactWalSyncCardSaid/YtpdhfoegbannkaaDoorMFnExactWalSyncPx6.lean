/- Written by a program (a session's own form of the print): plain functions with the answers of the Go functions, and the walks that show it. Lean checks it. -/
import Derived.Test.YtpdhfoegbannkaaDoorMFnExactWalSyncPx0
namespace Go.Proofs.YtpdhfoegbannkaaDoor.PFnExactWalSync
open Go.RowKit Go.Proofs.YtpdhfoegbannkaaDoorW.PrintWords Go.Proofs.YtpdhfoegbannkaaDoorW.PrintLast Go.Proofs.YtpdhfoegbannkaaDoorW.PrintMore
attribute [local go_sem] max2_int min2_int max_two min_two max_three min_three max_four min_four   -- for this text's walks alone
set_option linter.unusedVariables false
set_option linter.unusedSimpArgs false

/-! ### spec_l03Put: function 89 -/
mutual
def spec_l03Put.l0 : Nat → Bool → Int → Int → List (S69) → ByteArray → ByteArray → Int → Int → List (S69) → Option (Int × (List (S69)))
 | 0, _, _, _, _, _, _, _, _, _ => none
 | k + 1, x6, x7, x188000, x188001, x189000, x189001, x189002, x194000, x194001 => if x7 < (x188001.length : Int) then (if x6 = true then (spec_l03Put.j1 k x6 x7 false x188000 x188001 x189000 x189001 x189002 x194000 x194001) else (if 0 ≤ x7 then (spec_l03Put.j1 k x6 x7 (!(Op.bytesLess (((rd_T69 x188001 x7).f0).toList) x189000.toList)) x188000 x188001 x189000 x189001 x189002 x194000 x194001) else (none))) else (if x6 = true then (some (x194000, x194001)) else (if x194001.length < 3518437208883 then (some (x194000, (x194001 ++ [(⟨x189000, x189001, x189002⟩ : S69)]))) else (none)))
def spec_l03Put.j1 : Nat → Bool → Int → Bool → Int → List (S69) → ByteArray → ByteArray → Int → Int → List (S69) → Option (Int × (List (S69)))
 | 0, _, _, _, _, _, _, _, _, _, _ => none
 | k + 1, x6, x7, x31, x188000, x188001, x189000, x189001, x189002, x194000, x194001 => if x31 = true then (if x194001.length < 3518437208883 then ((some (x194001 ++ [(⟨x189000, x189001, x189002⟩ : S69)] : List (S69))).bind fun y198 => (if 0 ≤ x7 then (if x7 < (x188001.length : Int) then (if ((rd_T69 x188001 x7).f0).toList = x189000.toList then (spec_l03Put.l0 k true (wrap64 (x7 + 1)) x188000 x188001 x189000 x189001 x189002 x194000 y198) else (if y198.length < 3518437208883 then (spec_l03Put.l0 k true (wrap64 (x7 + 1)) x188000 x188001 x189000 x189001 x189002 x194000 (y198 ++ [(⟨(rd_T69 x188001 x7).f0, (rd_T69 x188001 x7).f1, (rd_T69 x188001 x7).f2⟩ : S69)])) else (none))) else (none)) else (none))) else (none)) else (if 0 ≤ x7 then (if x7 < (x188001.length : Int) then (if ((rd_T69 x188001 x7).f0).toList = x189000.toList then (spec_l03Put.l0 k x6 (wrap64 (x7 + 1)) x188000 x188001 x189000 x189001 x189002 x194000 x194001) else (if x194001.length < 3518437208883 then (spec_l03Put.l0 k x6 (wrap64 (x7 + 1)) x188000 x188001 x189000 x189001 x189002 x194000 (x194001 ++ [(⟨(rd_T69 x188001 x7).f0, (rd_T69 x188001 x7).f1, (rd_T69 x188001 x7).f2⟩ : S69)])) else (none))) else (none)) else (none))
end
def spec_l03Put.f (k : Nat) (a0_0 : Int) (l0_1 : List (S69)) (a1_0 : ByteArray) (a1_1 : ByteArray) (a1_2 : Int) : Option (Int × (List (S69))) := spec_l03Put.l0 k false 0 a0_0 l0_1 a1_0 a1_1 a1_2 a0_0 (([] : List (S69)))
theorem spec_l03Put.mono_l : ∀ k, (∀ y0 y1 y2 y3 y4 y5 y6 y7 y8, LeO (spec_l03Put.l0 k y0 y1 y2 y3 y4 y5 y6 y7 y8) (spec_l03Put.l0 (k + 1) y0 y1 y2 y3 y4 y5 y6 y7 y8)) ∧ (∀ y0 y1 y2 y3 y4 y5 y6 y7 y8 y9, LeO (spec_l03Put.j1 k y0 y1 y2 y3 y4 y5 y6 y7 y8 y9) (spec_l03Put.j1 (k + 1) y0 y1 y2 y3 y4 y5 y6 y7 y8 y9))
 | 0 => ⟨fun _ _ _ _ _ _ _ _ _ r h => by simp [spec_l03Put.l0] at h, fun _ _ _ _ _ _ _ _ _ _ r h => by simp [spec_l03Put.j1] at h⟩
 | k + 1 => by
  obtain ⟨ih0, ih1⟩ := spec_l03Put.mono_l k
  refine ⟨?_, ?_⟩
  ·intro y0 y1 y2 y3 y4 y5 y6 y7 y8
   unfold spec_l03Put.l0
   repeat' first
   | (with_reducible exact ih0 _ _ _ _ _ _ _ _ _)
   | (with_reducible exact ih1 _ _ _ _ _ _ _ _ _ _)
   | (with_reducible exact LeO.refl _)
   | (with_reducible exact LeO.none _)
   | (with_reducible refine LeO.ite ?_ ?_)
   | (with_reducible refine LeO.bind ?_ (fun _ => ?_))
   | exact ih0 _ _ _ _ _ _ _ _ _
   | exact ih1 _ _ _ _ _ _ _ _ _ _
   | exact LeO.none _
   | refine LeO.ite ?_ ?_
   | refine LeO.bind ?_ (fun _ => ?_)
  ·intro y0 y1 y2 y3 y4 y5 y6 y7 y8 y9
   unfold spec_l03Put.j1
   repeat' first
   | (with_reducible exact ih0 _ _ _ _ _ _ _ _ _)
   | (with_reducible exact ih1 _ _ _ _ _ _ _ _ _ _)
   | (with_reducible exact LeO.refl _)
   | (with_reducible exact LeO.none _)
   | (with_reducible refine LeO.ite ?_ ?_)
   | (with_reducible refine LeO.bind ?_ (fun _ => ?_))
   | exact ih0 _ _ _ _ _ _ _ _ _
   | exact ih1 _ _ _ _ _ _ _ _ _ _
   | exact LeO.none _
   | refine LeO.ite ?_ ?_
   | refine LeO.bind ?_ (fun _ => ?_)
theorem spec_l03Put.mono : ∀ a0 a1 a2 a3 a4 k, LeO (spec_l03Put.f k a0 a1 a2 a3 a4) (spec_l03Put.f (k + 1) a0 a1 a2 a3 a4) := by
 intro a0 a1 a2 a3 a4 k
 obtain ⟨ih0, ih1⟩ := spec_l03Put.mono_l k
 unfold spec_l03Put.f
 repeat' first
   | (with_reducible exact ih0 _ _ _ _ _ _ _ _ _)
   | (with_reducible exact ih1 _ _ _ _ _ _ _ _ _ _)
   | (with_reducible exact LeO.refl _)
   | (with_reducible exact LeO.none _)
   | (with_reducible refine LeO.ite ?_ ?_)
   | (with_reducible refine LeO.bind ?_ (fun _ => ?_))
   | exact ih0 _ _ _ _ _ _ _ _ _
   | exact ih1 _ _ _ _ _ _ _ _ _ _
   | exact LeO.none _
   | refine LeO.ite ?_ ?_
   | refine LeO.bind ?_ (fun _ => ?_)
def spec_l03Put.T6 : Bool × List (List Nat × List Nat) := (true, [([], []), ([0], [0]), ([1], [1]), ([2], [2]), ([3, 2], [2, 3]), ([2], [2]), ([4, 5, 2], [2, 4, 5]), ([6, 2], [2, 6]), ([7, 2], [2, 7]), ([2], [2]), ([9, 2], [2, 9]), ([8, 10, 2], [2, 8, 10]), ([2, 11], [2, 11])])
def spec_l03Put.B6 : List Nat := [0, 1, 3, 7, 15, 7, 63, 127, 255, 7, 519, 2047, 4095]
theorem spec_l03Put.tab6 : rtab .any (opsOf Tryd.f89 6) = spec_l03Put.T6 := by kernel_rfl
theorem spec_l03Put.bits6 : waitsOk spec_l03Put.T6.2 spec_l03Put.B6 = true := by kernel_rfl
def spec_l03Put.T9 : Bool × List (List Nat × List Nat) := (true, [([], []), ([0], [0]), ([], []), ([1, 2], [1, 2]), ([3], [3]), ([4], [4]), ([], []), ([6], [6]), ([5, 7], [5, 7])])
def spec_l03Put.B9 : List Nat := [0, 1, 0, 7, 15, 31, 0, 64, 255]
theorem spec_l03Put.tab9 : rtab .any (opsOf Tryd.f89 9) = spec_l03Put.T9 := by kernel_rfl
theorem spec_l03Put.bits9 : waitsOk spec_l03Put.T9.2 spec_l03Put.B9 = true := by kernel_rfl
def spec_l03Put.T10 : Bool × List (List Nat × List Nat) := (true, [([], []), ([0], [0]), ([], []), ([2], [2]), ([], []), ([3, 4], [3, 4]), ([5], [5]), ([6], [6]), ([1, 7], [1, 7]), ([0, 1, 2, 3, 4, 5, 6, 7, 8], []), ([9, 8, 8, 0, 1, 2, 3, 4, 5, 6, 7, 8], [8, 9])])
def spec_l03Put.B10 : List Nat := [0, 1, 0, 4, 0, 28, 60, 124, 255, 511, 1023]
theorem spec_l03Put.tab10 : rtab .any (opsOf Tryd.f89 10) = spec_l03Put.T10 := by kernel_rfl
theorem spec_l03Put.bits10 : waitsOk spec_l03Put.T10.2 spec_l03Put.B10 = true := by kernel_rfl
set_option maxHeartbeats 8000000 in
set_option maxRecDepth 100000 in
theorem spec_l03Put.calls (k : Nat) (a0_0 : Int) (A0_1 : Option Addr) (c0_1 : Nat) (l0_1 : List (S69)) (a1_0 : ByteArray) (a1_1 : ByteArray) (a1_2 : Int) (r1 : Int) (r2 : List (S69)) (w : World) (hr0_1 : Kd.C k69 w A0_1 l0_1.length l0_1) (hc0_1 : l0_1.length ≤ c0_1) (h : spec_l03Put.f k a0_0 l0_1 a1_0 a1_1 a1_2 = some (r1, r2)) :
  Calls Tryd.prog 89 #[.agg #[.int .i64 a0_0, .slice A0_1 l0_1.length c0_1], .agg #[.string a1_0, .string a1_1, .int .i64 a1_2]] w fun e w' => ∃ v1_ : Value, e = .returned (.agg #[.int .i64 r1, v1_]) ∧ Kd.R k69 69 w' w.heap.size (fun _ => True) v1_ r2 ∧ Below w.heap.size w w' := by
 have hu33 := Tryd.underlying33
 have hu69 := Tryd.underlying69
 have HR0_1 := aM hr0_1
 have HC0_1 := aM hc0_1
 clear hr0_1 hc0_1
 have HB := aM (Below.refl w.heap.size w)
 have H : (spec_l03Put.l0 k false 0 a0_0 l0_1 a1_0 a1_1 a1_2 a0_0 (([] : List (S69)))) = some (r1, r2) := h
 clear h
 obtain ⟨y190, hy190⟩ : ∃ y_ : List (S69), y_ = (([] : List (S69))) := ⟨_, rfl⟩
 replace H : (spec_l03Put.l0 k false 0 a0_0 l0_1 a1_0 a1_1 a1_2 a0_0 y190) = some (r1, r2) := by first | (rw [hy190]; with_reducible exact H) | (have H2_ := (Option.bind_some _ _).symm.trans H; rw [hy190]; with_reducible exact H2_) | (have H2_ := (Option.bind_some _ _).symm.trans H; with_reducible exact H2_) | with_reducible exact H | (rw [hy190]; exact H) | exact H
 have Ny190 := aM hy190
 clear hy190
 have H' := aM H
 clear H
 go_enter Tryd.func89, Tryd.ntmps89
 go_wp2_with (first | ((with_reducible refine gate_dst (N := 2) rfl ?_); refine box_event ?hg (N := 2) ?hd (cs := #[.int .i64 a0_0, .slice A0_1 l0_1.length c0_1]) (t := 33) ?hr ?_; (case hd => rfl); (case hg => rfl); (case hr => first | (go_simp; done) | (go_simp; rfl)); intro gb187 hg w3 hbox hb; have n0_ := aM (below_step (by repeat (first | (with_reducible first | exact HB.out | apply bA | apply bN | apply bD) | exact HB.out)) hb); have n1_ := aM (hbox); have n2_ := aM ((by rw [hg]; exact (below_size (by repeat (first | (with_reducible first | exact HB.out | apply bA | apply bN | apply bD) | exact HB.out))) : w.heap.size ≤ gb187)); have n3_ := aM ((by rw [hg]; exact (below_size (by repeat (first | (with_reducible first | exact HB.out | apply bA | apply bN | apply bD) | exact HB.out))) : w.heap.size ≤ gb187)); clear HB; have HB := n0_; have BK187 := n1_; have GW187 := n2_; have GE187 := n3_; clear n0_ n1_ n2_ n3_; clear hb hbox hg) | ((with_reducible refine gate_dst (N := 3) rfl ?_); refine box_event ?hg (N := 3) ?hd (cs := #[.string a1_0, .string a1_1, .int .i64 a1_2]) (t := 69) ?hr ?_; (case hd => rfl); (case hg => rfl); (case hr => first | (go_simp; done) | (go_simp; rfl)); intro gb188 hg w4 hbox hb; have n0_ := aM (blk_below (g := gb187) (o := .cells #[.int .i64 a0_0, .slice A0_1 l0_1.length c0_1] 33 (0, 0)) (by (with_reducible repeat (first | refine kN ?_ _ | refine kD ?_ | refine kA ?_ _)); exact BK187.out) hb); have n1_ := aM (below_step (by repeat (first | (with_reducible first | exact HB.out | apply bA | apply bN | apply bD | refine bS ?_ GE187.out) | exact HB.out)) hb); have n2_ := aM (hbox); have n3_ := aM ((by rw [hg]; exact (below_size (by repeat (first | (with_reducible first | exact HB.out | apply bA | apply bN | apply bD | refine bS ?_ GE187.out) | exact HB.out))) : w.heap.size ≤ gb188)); have n4_ := aM ((by rw [hg]; exact (below_size (by repeat (first | (with_reducible first | exact HB.out | apply bA | apply bN | apply bD | refine bS ?_ GE187.out) | exact HB.out))) : w.heap.size ≤ gb188)); have n5_ := aM ((by rw [hg]; exact Nat.ne_of_lt (blk_lt (g := gb187) (o := .cells #[.int .i64 a0_0, .slice A0_1 l0_1.length c0_1] 33 (0, 0)) (by (with_reducible repeat (first | refine kN ?_ _ | refine kD ?_ | refine kA ?_ _)); exact BK187.out)) : gb187 ≠ gb188)); have n6_ := aM ((by rw [hg]; exact Nat.ne_of_gt (blk_lt (g := gb187) (o := .cells #[.int .i64 a0_0, .slice A0_1 l0_1.length c0_1] 33 (0, 0)) (by (with_reducible repeat (first | refine kN ?_ _ | refine kD ?_ | refine kA ?_ _)); exact BK187.out)) : gb188 ≠ gb187)); clear BK187; clear HB; have BK187 := n0_; have HB := n1_; have BK188 := n2_; have GW188 := n3_; have GE188 := n4_; have NB187_188 := n5_; have NB188_187 := n6_; clear n0_ n1_ n2_ n3_ n4_ n5_ n6_; clear hb hbox hg) | ((with_reducible refine gate_dst (N := 4) rfl ?_); refine box_event ?hg (N := 4) ?hd (cs := #[.int .i64 0, .slice none 0 0]) (t := 33) ?hr ?_; (case hd => rfl); (case hg => rfl); (case hr => first | (go_simp; done) | (go_simp; rfl)); intro gb189 hg w5 hbox hb; have n0_ := aM (blk_below (g := gb187) (o := .cells #[.int .i64 a0_0, .slice A0_1 l0_1.length c0_1] 33 (0, 0)) (by (with_reducible repeat (first | refine kN ?_ _ | refine kD ?_ | refine kA ?_ _)); exact BK187.out) hb); have n1_ := aM (blk_below (g := gb188) (o := .cells #[.string a1_0, .string a1_1, .int .i64 a1_2] 69 (0, 0)) (by (with_reducible repeat (first | refine kN ?_ _ | refine kD ?_ | refine kA ?_ _)); exact BK188.out) hb); have n2_ := aM (below_step (by repeat (first | (with_reducible first | exact HB.out | apply bA | apply bN | apply bD | refine bS ?_ GE187.out | refine bS ?_ GE188.out) | exact HB.out)) hb); have n3_ := aM (hbox); have n4_ := aM ((by rw [hg]; exact (below_size (by repeat (first | (with_reducible first | exact HB.out | apply bA | apply bN | apply bD | refine bS ?_ GE187.out | refine bS ?_ GE188.out) | exact HB.out))) : w.heap.size ≤ gb189)); have n5_ := aM ((by rw [hg]; exact (below_size (by repeat (first | (with_reducible first | exact HB.out | apply bA | apply bN | apply bD | refine bS ?_ GE187.out | refine bS ?_ GE188.out) | exact HB.out))) : w.heap.size ≤ gb189)); have n6_ := aM ((by rw [hg]; exact Nat.ne_of_lt (blk_lt (g := gb187) (o := .cells #[.int .i64 a0_0, .slice A0_1 l0_1.length c0_1] 33 (0, 0)) (by (with_reducible repeat (first | refine kN ?_ _ | refine kD ?_ | refine kA ?_ _)); exact BK187.out)) : gb187 ≠ gb189)); have n7_ := aM ((by rw [hg]; exact Nat.ne_of_gt (blk_lt (g := gb187) (o := .cells #[.int .i64 a0_0, .slice A0_1 l0_1.length c0_1] 33 (0, 0)) (by (with_reducible repeat (first | refine kN ?_ _ | refine kD ?_ | refine kA ?_ _)); exact BK187.out)) : gb189 ≠ gb187)); have n8_ := aM ((by rw [hg]; exact Nat.ne_of_lt (blk_lt (g := gb188) (o := .cells #[.string a1_0, .string a1_1, .int .i64 a1_2] 69 (0, 0)) (by (with_reducible repeat (first | refine kN ?_ _ | refine kD ?_ | refine kA ?_ _)); exact BK188.out)) : gb188 ≠ gb189)); have n9_ := aM ((by rw [hg]; exact Nat.ne_of_gt (blk_lt (g := gb188) (o := .cells #[.string a1_0, .string a1_1, .int .i64 a1_2] 69 (0, 0)) (by (with_reducible repeat (first | refine kN ?_ _ | refine kD ?_ | refine kA ?_ _)); exact BK188.out)) : gb189 ≠ gb188)); clear BK187; clear BK188; clear HB; have BK187 := n0_; have BK188 := n1_; have HB := n2_; have BK189 := n3_; have GW189 := n4_; have GE189 := n5_; have NB187_189 := n6_; have NB189_187 := n7_; have NB188_189 := n8_; have NB189_188 := n9_; clear n0_ n1_ n2_ n3_ n4_ n5_ n6_ n7_ n8_ n9_; clear hb hbox hg; have hnb6 := NB187_188.out; have hnc6 := NB188_187.out; have hnb7 := NB187_189.out; have hnc7 := NB189_187.out; have hcz8_0 : w5.cell? ⟨gb187, 0, none⟩ = some (.int .i64 a0_0) := (kC BK187.out 0).trans rfl; have hcz8_1 : w5.cell? ⟨gb187, 1, none⟩ = some (.slice A0_1 l0_1.length c0_1) := (kC BK187.out 1).trans rfl; have hfz8_0 := kF BK187.out 0; have hfz8_1 := kF BK187.out 1) | ((with_reducible refine gate_dst (N := 10) rfl ?_); refine Kd.R_lit k69 _ 69 ?hg (N := 10) ?hd (xs := ([] : List (S69))) (inner := []) (ok := fun _ => True) (okp := fun _ => True) ?hr ?hp (fun _ hk => hk) trivial (Below.refl _ _) (Nat.le_refl _) (by simp) ?_; (case hd => rfl); (case hg => rfl); (case hr => first | (go_simp; done) | (go_simp; rfl)); (case hp => exact (Reps.none _ _)); intro v191 w9 ho10 hb hg_ hnew_; clear hg_ hnew_; (first | rw [← Ny190.out] at ho10 | (simp only [Int.reduceToNat] at ho10; rw [← Ny190.out] at ho10)); have n0_ := aM (Kd.R_lower (Kd.R_newB ho10 (g := gb188) (o := .cells #[.string a1_0, .string a1_1, .int .i64 a1_2] 69 (0, 0)) (by (with_reducible repeat (first | refine kN ?_ _ | refine kD ?_ | refine kA ?_ _)); exact BK188.out)) (below_size (by repeat (first | (with_reducible first | exact HB.out | apply bA | apply bN | apply bD | refine bS ?_ GE187.out | refine bS ?_ GE188.out | refine bS ?_ GE189.out) | exact HB.out)))); have n1_ := aM (blk_below (g := gb187) (o := .cells #[.int .i64 a0_0, .slice A0_1 l0_1.length c0_1] 33 (0, 0)) (by (with_reducible repeat (first | refine kN ?_ _ | refine kD ?_ | refine kA ?_ _)); exact BK187.out) hb); have n2_ := aM (blk_below (g := gb188) (o := .cells #[.string a1_0, .string a1_1, .int .i64 a1_2] 69 (0, 0)) (by (with_reducible repeat (first | refine kN ?_ _ | refine kD ?_ | refine kA ?_ _)); exact BK188.out) hb); have n3_ := aM (blk_below (g := gb189) (o := .cells #[.int .i64 0, .slice none 0 0] 33 (0, 0)) (by (with_reducible repeat (first | refine kN ?_ _ | refine kD ?_ | refine kA ?_ _)); exact BK189.out) hb); have n4_ := aM (below_step (by repeat (first | (with_reducible first | exact HB.out | apply bA | apply bN | apply bD | refine bS ?_ GE187.out | refine bS ?_ GE188.out | refine bS ?_ GE189.out) | exact HB.out)) hb); clear BK187; clear BK188; clear BK189; clear HB; have HO192 := n0_; have BK187 := n1_; have BK188 := n2_; have BK189 := n3_; have HB := n4_; clear n0_ n1_ n2_ n3_ n4_; clear hb ho10; obtain ⟨Ao11, co11, eo11⟩ := Kd.R_slice HO192.out; subst eo11) | ((with_reducible refine gate_dst (N := 5) rfl ?_); refine box_event ?hg (N := 5) ?hd (cs := #[.int .i64 0, .slice none 0 0]) (t := 33) ?hr ?_; (case hd => rfl); (case hg => rfl); (case hr => first | (go_simp; done) | (go_simp; rfl)); intro gb193 hg w12 hbox hb; have n0_ := aM (Kd.R_below (by (with_reducible repeat (first | apply Kd.R_alloc | apply Kd.R_drewN | apply Kd.R_drew)); exact HO192.out) hb); have n1_ := aM (blk_below (g := gb187) (o := .cells #[.int .i64 a0_0, .slice A0_1 l0_1.length c0_1] 33 (0, 0)) (by (with_reducible repeat (first | refine kN ?_ _ | refine kD ?_ | refine kA ?_ _)); exact BK187.out) hb); have n2_ := aM (blk_below (g := gb188) (o := .cells #[.string a1_0, .string a1_1, .int .i64 a1_2] 69 (0, 0)) (by (with_reducible repeat (first | refine kN ?_ _ | refine kD ?_ | refine kA ?_ _)); exact BK188.out) hb); have n3_ := aM (blk_below (g := gb189) (o := .cells #[.int .i64 0, .slice none 0 0] 33 (0, 0)) (by (with_reducible repeat (first | refine kN ?_ _ | refine kD ?_ | refine kA ?_ _)); exact BK189.out) hb); have n4_ := aM (below_step (by repeat (first | (with_reducible first | exact HB.out | apply bA | apply bN | apply bD | refine bS ?_ GE187.out | refine bS ?_ GE188.out | refine bS ?_ GE189.out) | exact HB.out)) hb); have n5_ := aM (hbox); have n6_ := aM ((by rw [hg]; exact (below_size (by repeat (first | (with_reducible first | exact HB.out | apply bA | apply bN | apply bD | refine bS ?_ GE187.out | refine bS ?_ GE188.out | refine bS ?_ GE189.out) | exact HB.out))) : w.heap.size ≤ gb193)); have n7_ := aM ((by rw [hg]; exact (below_size (by repeat (first | (with_reducible first | exact HB.out | apply bA | apply bN | apply bD | refine bS ?_ GE187.out | refine bS ?_ GE188.out | refine bS ?_ GE189.out) | exact HB.out))) : w.heap.size ≤ gb193)); have n8_ := aM ((by rw [hg]; exact Nat.ne_of_lt (blk_lt (g := gb187) (o := .cells #[.int .i64 a0_0, .slice A0_1 l0_1.length c0_1] 33 (0, 0)) (by (with_reducible repeat (first | refine kN ?_ _ | refine kD ?_ | refine kA ?_ _)); exact BK187.out)) : gb187 ≠ gb193)); have n9_ := aM ((by rw [hg]; exact Nat.ne_of_gt (blk_lt (g := gb187) (o := .cells #[.int .i64 a0_0, .slice A0_1 l0_1.length c0_1] 33 (0, 0)) (by (with_reducible repeat (first | refine kN ?_ _ | refine kD ?_ | refine kA ?_ _)); exact BK187.out)) : gb193 ≠ gb187)); have n10_ := aM ((by rw [hg]; exact Nat.ne_of_lt (blk_lt (g := gb188) (o := .cells #[.string a1_0, .string a1_1, .int .i64 a1_2] 69 (0, 0)) (by (with_reducible repeat (first | refine kN ?_ _ | refine kD ?_ | refine kA ?_ _)); exact BK188.out)) : gb188 ≠ gb193)); have n11_ := aM ((by rw [hg]; exact Nat.ne_of_gt (blk_lt (g := gb188) (o := .cells #[.string a1_0, .string a1_1, .int .i64 a1_2] 69 (0, 0)) (by (with_reducible repeat (first | refine kN ?_ _ | refine kD ?_ | refine kA ?_ _)); exact BK188.out)) : gb193 ≠ gb188)); have n12_ := aM ((by rw [hg]; exact Nat.ne_of_lt (blk_lt (g := gb189) (o := .cells #[.int .i64 0, .slice none 0 0] 33 (0, 0)) (by (with_reducible repeat (first | refine kN ?_ _ | refine kD ?_ | refine kA ?_ _)); exact BK189.out)) : gb189 ≠ gb193)); have n13_ := aM ((by rw [hg]; exact Nat.ne_of_gt (blk_lt (g := gb189) (o := .cells #[.int .i64 0, .slice none 0 0] 33 (0, 0)) (by (with_reducible repeat (first | refine kN ?_ _ | refine kD ?_ | refine kA ?_ _)); exact BK189.out)) : gb193 ≠ gb189)); clear HO192; clear BK187; clear BK188; clear BK189; clear HB; have HO192 := n0_; have BK187 := n1_; have BK188 := n2_; have BK189 := n3_; have HB := n4_; have BK193 := n5_; have GW193 := n6_; have GE193 := n7_; have NB187_193 := n8_; have NB193_187 := n9_; have NB188_193 := n10_; have NB193_188 := n11_; have NB189_193 := n12_; have NB193_189 := n13_; clear n0_ n1_ n2_ n3_ n4_ n5_ n6_ n7_ n8_ n9_ n10_ n11_ n12_ n13_; clear hb hbox hg; have hnb13 := NB193_187.out; have hnc13 := NB187_193.out; have hnb14 := NB193_188.out; have hnc14 := NB188_193.out; have hnb15 := NB193_189.out; have hnc15 := NB189_193.out; have hcz16_0 : w12.cell? ⟨gb193, 0, none⟩ = some (.int .i64 0) := (kC BK193.out 0).trans rfl; have hcz16_1 : w12.cell? ⟨gb193, 1, none⟩ = some (.slice none 0 0) := (kC BK193.out 1).trans rfl; have hfz16_0 := kF BK193.out 0; have hfz16_1 := kF BK193.out 1))
 go_loopg [6, 7] k (fun kq v6 v7 w' => ∃ (x6_1 : Bool) (x7_1 : Int) (x194001_1 : List (S69)) (u194001 : Value), v6 = .bool x6_1 ∧ v7 = .int .i64 x7_1 ∧ Aside0 (spec_l03Put.l0 kq x6_1 x7_1 a0_0 l0_1 a1_0 a1_1 a1_2 a0_0 x194001_1 = some (r1, r2)) ∧ Aside0 (kq ≤ k) ∧ Aside0 (Kd.R k69 69 w' w.heap.size (fun k_ => k_ ≠ gb188) u194001 x194001_1) ∧ Aside0 (w'.heap[gb187]? = some (.cells #[.int .i64 a0_0, (.slice A0_1 l0_1.length c0_1)] 33 (0, 0))) ∧ Aside0 (w'.heap[gb188]? = some (.cells #[.string a1_0, .string a1_1, .int .i64 a1_2] 69 (0, 0))) ∧ Aside0 (w'.heap[gb189]? = some (.cells #[.int .i64 0, (.slice none 0 0)] 33 (0, 0))) ∧ Aside0 (w'.heap[gb193]? = some (.cells #[.int .i64 a0_0, u194001] 33 (0, 0))) ∧ Aside0 (Below w.heap.size w w'))
 case atStart => exact ⟨(false), (0), (y190), (.slice Ao11 y190.length co11), (by first | rfl | (simp; done) | (simp [*]; done)), (by first | rfl | (simp; done) | (simp [*]; done)), H', ⟨Nat.le_refl _⟩, ⟨by (with_reducible repeat (first | apply Kd.R_alloc | apply Kd.R_drewN | apply Kd.R_drew)); exact Kd.R_mono (Kd.R_far (p := ⟨gb193, 1, none⟩) (Kd.R_far (p := ⟨gb193, 0, none⟩) (Kd.R_types HO192.out BK193.out (by decide)) (fun _ hk => hk.2) (.int .i64 a0_0)) (fun _ hk => hk.2) (.slice Ao11 y190.length co11)) (fun _ hk => hk.1.2)⟩, ⟨by (with_reducible repeat (first | refine kN ?_ _ | refine kD ?_ | refine kA ?_ _)); refine blk_far ?_ NB187_193.out _; (with_reducible repeat (first | refine kN ?_ _ | refine kD ?_ | refine kA ?_ _)); refine blk_far ?_ NB187_193.out _; (with_reducible repeat (first | refine kN ?_ _ | refine kD ?_ | refine kA ?_ _)); exact BK187.out⟩, ⟨by (with_reducible repeat (first | refine kN ?_ _ | refine kD ?_ | refine kA ?_ _)); refine blk_far ?_ NB188_193.out _; (with_reducible repeat (first | refine kN ?_ _ | refine kD ?_ | refine kA ?_ _)); refine blk_far ?_ NB188_193.out _; (with_reducible repeat (first | refine kN ?_ _ | refine kD ?_ | refine kA ?_ _)); exact BK188.out⟩, ⟨by (with_reducible repeat (first | refine kN ?_ _ | refine kD ?_ | refine kA ?_ _)); refine blk_far ?_ NB189_193.out _; (with_reducible repeat (first | refine kN ?_ _ | refine kD ?_ | refine kA ?_ _)); refine blk_far ?_ NB189_193.out _; (with_reducible repeat (first | refine kN ?_ _ | refine kD ?_ | refine kA ?_ _)); exact BK189.out⟩, ⟨by (with_reducible repeat (first | refine kN ?_ _ | refine kD ?_ | refine kA ?_ _)); refine blk_put (cs := #[.int .i64 a0_0, .slice none 0 0]) ?_ 1 _ rfl; (with_reducible repeat (first | refine kN ?_ _ | refine kD ?_ | refine kA ?_ _)); refine blk_put (cs := #[.int .i64 0, .slice none 0 0]) ?_ 0 _ rfl; (with_reducible repeat (first | refine kN ?_ _ | refine kD ?_ | refine kA ?_ _)); exact BK193.out⟩, ⟨by repeat (first | (with_reducible first | exact HB.out | apply bA | apply bN | apply bD | refine bS ?_ GE187.out | refine bS ?_ GE188.out | refine bS ?_ GE189.out | refine bS ?_ GE193.out) | exact HB.out)⟩⟩
 case round =>
  clear H'
  obtain ⟨x6_1, x7_1, x194001_1, u194001, rfl, rfl, HA, HK1, HO_194001, BK187, BK188, BK189, BK193, HB⟩ := hrel
  cases gk with
  | zero => exact absurd HA.out (by simp [spec_l03Put.l0])
  | succ k1 =>
   have H := HA.out
   clear HA
   simp only [spec_l03Put.l0] at H
   by_cases c17 : x7_1 < (l0_1.length : Int)
   ·rw [if_pos c17] at H
    have c17b0 : decide (x7_1 < (l0_1.length : Int)) = true := decide_eq_true c17
    clear c17
    have HC18 := aM H
    clear H
    have hnb19 := NB187_188.out
    have hnc19 := NB188_187.out
    have hnb20 := NB187_189.out
    have hnc20 := NB189_187.out
    have hnb21 := NB187_193.out
    have hnc21 := NB193_187.out
    have hcz22_0 : wr.cell? ⟨gb187, 0, none⟩ = some (.int .i64 a0_0) := (kC BK187.out 0).trans rfl
    have hcz22_1 : wr.cell? ⟨gb187, 1, none⟩ = some (.slice A0_1 l0_1.length c0_1) := (kC BK187.out 1).trans rfl
    have hfz22_0 := kF BK187.out 0
    have hfz22_1 := kF BK187.out 1
    go_upto_region 6 with (fail)
    go_cut [31] (fun v31 wc => ∃ (kq : Nat) (x31_17 : Bool), v31 = .bool x31_17 ∧ Aside0 (spec_l03Put.j1 kq x6_1 x7_1 x31_17 a0_0 l0_1 a1_0 a1_1 a1_2 a0_0 x194001_1 = some (r1, r2)) ∧ Aside0 (kq ≤ k1) ∧ Aside0 (Kd.R k69 69 wc w.heap.size (fun k_ => k_ ≠ gb188) u194001 x194001_1) ∧ Aside0 (wc.heap[gb187]? = some (.cells #[.int .i64 a0_0, (.slice A0_1 l0_1.length c0_1)] 33 (0, 0))) ∧ Aside0 (wc.heap[gb188]? = some (.cells #[.string a1_0, .string a1_1, .int .i64 a1_2] 69 (0, 0))) ∧ Aside0 (wc.heap[gb189]? = some (.cells #[.int .i64 0, (.slice none 0 0)] 33 (0, 0))) ∧ Aside0 (wc.heap[gb193]? = some (.cells #[.int .i64 a0_0, u194001] 33 (0, 0))) ∧ Aside0 (Below w.heap.size w wc))
    case first =>
     have H := HC18.out
     clear HC18
     by_cases c23 : x6_1 = true
     ·subst c23
      have H1 : (spec_l03Put.j1 k1 true x7_1 false a0_0 l0_1 a1_0 a1_1 a1_2 a0_0 x194001_1) = some (r1, r2) := by rw [if_pos rfl] at H; exact H
      clear H
      have H := H1
      clear H1
      have H' := aM H
      clear H
      try go_wp2
      have n0_ := aM (Kd.R_drew HO_194001.out)
      have n1_ := aM (kD BK187.out)
      have n2_ := aM (kD BK188.out)
      have n3_ := aM (kD BK189.out)
      have n4_ := aM (kD BK193.out)
      have n5_ := aM (bD HB.out)
      clear HO_194001
      clear BK187
      clear BK188
      clear BK189
      clear BK193
      clear HB
      have HO_194001 := n0_
      have BK187 := n1_
      have BK188 := n2_
      have BK189 := n3_
      have BK193 := n4_
      have HB := n5_
      clear n0_ n1_ n2_ n3_ n4_ n5_
      refine start_ (n := 13) (S := fun w' => True) (ds := []) #[F,F,F,F,F,F,F,F,F,F,F,F,F] (by kernel_rfl) rfl rfl trivial (fun hHeld => ?_); refine with_tabW spec_l03Put.tab6 spec_l03Put.bits6 (fun HT_ HW_ => ?_)
      generalize wr.drew = w24 at HO_194001 BK187 BK188 BK189 BK193 HB hHeld ⊢
      refine pure_ (i := 0) (N := some 19) (v := ?_) (a' := ?_) #[T,F,F,F,F,F,F,F,F,F,F,F,F] rfl rfl (any_of HT_.out (by kernel_rfl)) (fun _ _ _ h => h) (Or.inl ⟨by rfl, ?_⟩) ?_ ?_
      rotate_left
      ·intro w'
       go_simp
       with_reducible rfl
      rotate_left
      ·simp only [Act.put, s1, s2, s3, i64_w, i32_w]
       rfl
      refine pure_ (i := 1) (N := some 20) (v := ?_) (a' := ?_) #[T,T,F,F,F,F,F,F,F,F,F,F,F] rfl rfl (any_of HT_.out (by kernel_rfl)) (fun _ _ _ h => h) (Or.inl ⟨by rfl, ?_⟩) ?_ ?_
      rotate_left
      ·intro w'
       go_simp
       with_reducible rfl
      rotate_left
      ·simp only [Act.put, s1, s2, s3, i64_w, i32_w]
       rfl
      refine pure_ (i := 2) (N := some 21) (v := ?_) (a' := ?_) #[T,T,T,F,F,F,F,F,F,F,F,F,F] rfl rfl (any_of HT_.out (by kernel_rfl)) (fun _ _ _ h => h) (Or.inl ⟨by rfl, ?_⟩) ?_ ?_
      rotate_left
      ·intro w'
       go_simp
       with_reducible rfl
      rotate_left
      ·simp only [Act.put, s1, s2, s3, i64_w, i32_w]
       rfl
      refine pure_ (i := 3) (N := some 22) (v := undef) (a' := ?_) #[T,T,T,T,F,F,F,F,F,F,F,F,F] rfl rfl (any_of HT_.out (by kernel_rfl)) (fun _ _ _ h => h) (Or.inr ⟨by rfl, rfl⟩) ?_ ?_
      rotate_left
      ·simp only [Act.put, s1, s2, s3, i64_w, i32_w]
       rfl
      refine pure_ (i := 4) (N := some 23) (v := undef) (a' := ?_) #[T,T,T,T,T,F,F,F,F,F,F,F,F] rfl rfl (any_of HT_.out (by kernel_rfl)) (fun _ _ _ h => h) (Or.inr ⟨by rfl, rfl⟩) ?_ ?_
      rotate_left
      ·simp only [Act.put, s1, s2, s3, i64_w, i32_w]
       rfl
      refine pure_ (i := 5) (N := some 24) (v := undef) (a' := ?_) #[T,T,T,T,T,T,F,F,F,F,F,F,F] rfl rfl (any_of HT_.out (by kernel_rfl)) (fun _ _ _ h => h) (Or.inr ⟨by rfl, rfl⟩) ?_ ?_
      rotate_left
      ·simp only [Act.put, s1, s2, s3, i64_w, i32_w]
       rfl
      refine pure_ (i := 6) (N := some 25) (v := undef) (a' := ?_) #[T,T,T,T,T,T,T,F,F,F,F,F,F] rfl rfl (any_of HT_.out (by kernel_rfl)) (fun _ _ _ h => h) (Or.inr ⟨by rfl, rfl⟩) ?_ ?_
      rotate_left
      ·simp only [Act.put, s1, s2, s3, i64_w, i32_w]
       rfl
      refine pure_ (i := 7) (N := some 26) (v := undef) (a' := ?_) #[T,T,T,T,T,T,T,T,F,F,F,F,F] rfl rfl (any_of HT_.out (by kernel_rfl)) (fun _ _ _ h => h) (Or.inr ⟨by rfl, rfl⟩) ?_ ?_
      rotate_left
      ·simp only [Act.put, s1, s2, s3, i64_w, i32_w]
       rfl
      refine pure_ (i := 8) (N := some 27) (v := undef) (a' := ?_) #[T,T,T,T,T,T,T,T,T,F,F,F,F] rfl rfl (any_of HT_.out (by kernel_rfl)) (fun _ _ _ h => h) (Or.inr ⟨by rfl, rfl⟩) ?_ ?_
      rotate_left
      ·simp only [Act.put, s1, s2, s3, i64_w, i32_w]
       rfl
      refine pure_ (i := 9) (N := some 28) (v := undef) (a' := ?_) #[T,T,T,T,T,T,T,T,T,T,F,F,F] rfl rfl (any_of HT_.out (by kernel_rfl)) (fun _ _ _ h => h) (Or.inr ⟨by rfl, rfl⟩) ?_ ?_
      rotate_left
      ·simp only [Act.put, s1, s2, s3, i64_w, i32_w]
       rfl
      refine pure_ (i := 10) (N := some 29) (v := undef) (a' := ?_) #[T,T,T,T,T,T,T,T,T,T,T,F,F] rfl rfl (any_of HT_.out (by kernel_rfl)) (fun _ _ _ h => h) (Or.inr ⟨by rfl, rfl⟩) ?_ ?_
      rotate_left
      ·simp only [Act.put, s1, s2, s3, i64_w, i32_w]
       rfl
      refine pure_ (i := 11) (N := some 30) (v := undef) (a' := ?_) #[T,T,T,T,T,T,T,T,T,T,T,T,F] rfl rfl (any_of HT_.out (by kernel_rfl)) (fun _ _ _ h => h) (Or.inr ⟨by rfl, rfl⟩) ?_ ?_
      rotate_left
      ·simp only [Act.put, s1, s2, s3, i64_w, i32_w]
       rfl
      refine pure_ (i := 12) (N := some 31) (v := ?_) (a' := ?_) #[T,T,T,T,T,T,T,T,T,T,T,T,T] rfl rfl (any_of HT_.out (by kernel_rfl)) (fun _ _ _ h => h) (Or.inl ⟨by rfl, ?_⟩) ?_ ?_
      rotate_left
      ·intro w'
       go_simp
       with_reducible rfl
      rotate_left
      ·simp only [Act.put, s1, s2, s3, i64_w, i32_w]
       rfl
      refine done_ (done_of HT_.out (by kernel_rfl)) ?_
      try go_wp2
      go_meet
      case rel => exact ⟨_, (false), (by first | rfl | (simp; done) | (simp [*]; done)), H', ⟨by have := HK1.out; first | omega | exact Nat.le_refl _⟩, ⟨by (with_reducible repeat (first | apply Kd.R_alloc | apply Kd.R_drewN | apply Kd.R_drew)); exact HO_194001.out⟩, ⟨by (with_reducible repeat (first | refine kN ?_ _ | refine kD ?_ | refine kA ?_ _)); exact BK187.out⟩, ⟨by (with_reducible repeat (first | refine kN ?_ _ | refine kD ?_ | refine kA ?_ _)); exact BK188.out⟩, ⟨by (with_reducible repeat (first | refine kN ?_ _ | refine kD ?_ | refine kA ?_ _)); exact BK189.out⟩, ⟨by (with_reducible repeat (first | refine kN ?_ _ | refine kD ?_ | refine kA ?_ _)); exact BK193.out⟩, ⟨by repeat (first | (with_reducible first | exact HB.out | apply bA | apply bN | apply bD | refine bS ?_ GE187.out | refine bS ?_ GE188.out | refine bS ?_ GE189.out | refine bS ?_ GE193.out) | exact HB.out)⟩⟩
     ·replace c23 := Bool.eq_false_iff.mpr c23
      subst c23
      have H1 : (if 0 ≤ x7_1 then (spec_l03Put.j1 k1 false x7_1 (!(Op.bytesLess (((rd_T69 l0_1 x7_1).f0).toList) a1_0.toList)) a0_0 l0_1 a1_0 a1_1 a1_2 a0_0 x194001_1) else (none)) = some (r1, r2) := by rw [if_neg (show ¬ (false = true) by decide)] at H; exact H
      clear H
      have H := H1
      clear H1
      by_cases c25 : 0 ≤ x7_1
      ·rw [if_pos c25] at H
       have c25b0 : decide (0 ≤ x7_1) = true := decide_eq_true c25
       clear c25
       (first | rw [c25b0] | (simp only [i64_w, i32_w]; rw [c25b0]) | skip)
       have H' := aM H
       clear H
       try go_wp2
       have n0_ := aM (Kd.R_drew HO_194001.out)
       have n1_ := aM (kD BK187.out)
       have n2_ := aM (kD BK188.out)
       have n3_ := aM (kD BK189.out)
       have n4_ := aM (kD BK193.out)
       have n5_ := aM (bD HB.out)
       clear HO_194001
       clear BK187
       clear BK188
       clear BK189
       clear BK193
       clear HB
       have HO_194001 := n0_
       have BK187 := n1_
       have BK188 := n2_
       have BK189 := n3_
       have BK193 := n4_
       have HB := n5_
       clear n0_ n1_ n2_ n3_ n4_ n5_
       have p197 : 0 ≤ (x7_1 : Int) := of_decide_eq_true (by assumption)
       have q197 : x7_1 < (l0_1.length : Int) := of_decide_eq_true (by assumption)
       obtain ⟨ad197, e197, hx197_0, hx197_1, hx197_2⟩ := at_T69 HR0_1.out x7_1 p197 q197
       have hw197_2 := hx197_2
       have hw197_1 := hx197_1
       have hw197_0 := hx197_0
       cases e197
       replace hx197_0 := (HB.out.cell (lC w _ hx197_0)).trans hx197_0
       replace hx197_1 := (HB.out.cell (lC w _ hx197_1)).trans hx197_1
       replace hx197_2 := (HB.out.cell (lC w _ hx197_2)).trans hx197_2
       replace p197 := eq_true p197
       replace q197 := eq_true q197
       refine start_ (n := 13) (S := fun w' => w'.cell? ⟨gb187, 0, none⟩ = some (.int .i64 a0_0) ∧ w'.cell? ⟨gb187, 1, none⟩ = some (.slice (some ad197) l0_1.length c0_1) ∧ w'.cell? ⟨gb188, 0, none⟩ = some (.string a1_0) ∧ w'.cell? ⟨gb188, 1, none⟩ = some (.string a1_1) ∧ w'.cell? ⟨gb188, 2, none⟩ = some (.int .i64 a1_2) ∧ w'.cell? (ad197.add ((x7_1).toNat * 3)) = some (.string ((rd_T69 l0_1 x7_1).f0)) ∧ w'.cell? ⟨(ad197.add ((x7_1).toNat * 3)).block, (ad197.add ((x7_1).toNat * 3)).off + 1, none⟩ = some (.string ((rd_T69 l0_1 x7_1).f1)) ∧ w'.cell? ⟨(ad197.add ((x7_1).toNat * 3)).block, (ad197.add ((x7_1).toNat * 3)).off + 2, none⟩ = some (.int .i64 ((rd_T69 l0_1 x7_1).f2))) (ds := []) #[F,F,F,F,F,F,F,F,F,F,F,F,F] (by kernel_rfl) rfl rfl ⟨(kC BK187.out 0).trans rfl, (kC BK187.out 1).trans rfl, (kC BK188.out 0).trans rfl, (kC BK188.out 1).trans rfl, (kC BK188.out 2).trans rfl, ((HB.out.cell (lC w _ hw197_0)).trans hw197_0), ((HB.out.cell (lC w _ hw197_1)).trans hw197_1), ((HB.out.cell (lC w _ hw197_2)).trans hw197_2)⟩ (fun hHeld => ?_); refine with_tabW spec_l03Put.tab6 spec_l03Put.bits6 (fun HT_ HW_ => ?_)
       generalize wr.drew = w26 at HO_194001 BK187 BK188 BK189 BK193 HB hx197_0 hx197_1 hx197_2 hHeld ⊢
       refine pure_ (i := 0) (N := some 19) (v := ?_) (a' := ?_) #[T,F,F,F,F,F,F,F,F,F,F,F,F] rfl rfl (any_of HT_.out (by kernel_rfl)) (fun _ _ _ h => h) (Or.inl ⟨by rfl, ?_⟩) ?_ ?_
       rotate_left
       ·intro w'
        go_simp
        with_reducible rfl
       rotate_left
       ·simp only [Act.put, s1, s2, s3, i64_w, i32_w]
        rfl
       refine pure_ (i := 1) (N := some 20) (v := ?_) (a' := ?_) #[T,T,F,F,F,F,F,F,F,F,F,F,F] rfl rfl (any_of HT_.out (by kernel_rfl)) (fun _ _ _ h => h) (Or.inl ⟨by rfl, ?_⟩) ?_ ?_
       rotate_left
       ·intro w'
        go_simp
        with_reducible rfl
       rotate_left
       ·simp only [Act.put, s1, s2, s3, i64_w, i32_w]
        rfl
       refine pure_ (i := 2) (N := some 21) (v := ?_) (a' := ?_) #[T,T,T,F,F,F,F,F,F,F,F,F,F] rfl rfl (any_of HT_.out (by kernel_rfl)) (fun _ _ _ h => h) (Or.inl ⟨by rfl, ?_⟩) ?_ ?_
       rotate_left
       ·intro w'
        go_simp
        with_reducible rfl
       rotate_left
       ·simp only [Act.put, s1, s2, s3, i64_w, i32_w]
        rfl
       refine pure_ (i := 3) (N := some 22) (v := ?_) (a' := ?_) #[T,T,T,T,F,F,F,F,F,F,F,F,F] rfl rfl (any_of HT_.out (by kernel_rfl)) (fun _ _ _ h => h) (Or.inl ⟨by rfl, ?_⟩) ?_ ?_
       rotate_left
       ·intro w'
        go_simp
        with_reducible rfl
       rotate_left
       ·simp only [Act.put, s1, s2, s3, i64_w, i32_w]
        rfl
       refine pure_ (i := 5) (N := some 24) (v := ?_) (a' := ?_) #[T,T,T,T,F,T,F,F,F,F,F,F,F] rfl rfl (any_of HT_.out (by kernel_rfl)) (fun _ _ _ h => h) (Or.inl ⟨by rfl, ?_⟩) ?_ ?_
       rotate_left
       ·intro w'
        go_simp
        with_reducible rfl
       rotate_left
       ·simp only [Act.put, s1, s2, s3, i64_w, i32_w]
        rfl
       refine pure_ (i := 9) (N := some 28) (v := ?_) (a' := ?_) #[T,T,T,T,F,T,F,F,F,T,F,F,F] rfl rfl (any_of HT_.out (by kernel_rfl)) (fun _ _ _ h => h) (Or.inl ⟨by rfl, ?_⟩) ?_ ?_
       rotate_left
       ·intro w'
        go_simp
        with_reducible rfl
       rotate_left
       ·simp only [Act.put, s1, s2, s3, i64_w, i32_w]
        rfl
       refine take_ (i := 4) (N := some 23) (v := ?_) (a' := ?_) #[T,T,T,T,T,T,F,F,F,T,F,F,F] rfl rfl (take_ofW HT_.out HW_.out (by kernel_rfl)) (fun _ _ _ h => h) (Or.inl ⟨by rfl, ?_⟩) hHeld ?_ ?_
       rotate_left
       ·rintro w' ⟨s0, s1, s2, s3, s4, s5, s6, s7⟩
        go_simp
        with_reducible rfl
       rotate_left
       ·simp only [Act.put, s1, s2, s3, i64_w, i32_w]
        rfl
       refine pure_ (i := 6) (N := some 25) (v := ?_) (a' := ?_) #[T,T,T,T,T,T,T,F,F,T,F,F,F] rfl rfl (any_of HT_.out (by kernel_rfl)) (fun _ _ _ h => h) (Or.inl ⟨by rfl, ?_⟩) ?_ ?_
       rotate_left
       ·intro w'
        go_simp
        with_reducible rfl
       rotate_left
       ·simp only [Act.put, s1, s2, s3, i64_w, i32_w]
        rfl
       refine pure_ (i := 7) (N := some 26) (v := ?_) (a' := ?_) #[T,T,T,T,T,T,T,T,F,T,F,F,F] rfl rfl (any_of HT_.out (by kernel_rfl)) (fun _ _ _ h => h) (Or.inl ⟨by rfl, ?_⟩) ?_ ?_
       rotate_left
       ·intro w'
        go_simp
        with_reducible rfl
       rotate_left
       ·simp only [Act.put, s1, s2, s3, i64_w, i32_w]
        rfl
       refine take_ (i := 8) (N := some 27) (v := ?_) (a' := ?_) #[T,T,T,T,T,T,T,T,T,T,F,F,F] rfl rfl (take_ofW HT_.out HW_.out (by kernel_rfl)) (fun _ _ _ h => h) (Or.inl ⟨by rfl, ?_⟩) hHeld ?_ ?_
       rotate_left
       ·rintro w' ⟨s0, s1, s2, s3, s4, s5, s6, s7⟩
        go_simp
        with_reducible rfl
       rotate_left
       ·simp only [Act.put, s1, s2, s3, i64_w, i32_w]
        rfl
       refine take_ (i := 10) (N := some 29) (v := ?_) (a' := ?_) #[T,T,T,T,T,T,T,T,T,T,T,F,F] rfl rfl (take_ofW HT_.out HW_.out (by kernel_rfl)) (fun _ _ _ h => h) (Or.inl ⟨by rfl, ?_⟩) hHeld ?_ ?_
       rotate_left
       ·rintro w' ⟨s0, s1, s2, s3, s4, s5, s6, s7⟩
        go_simp
        with_reducible rfl
       rotate_left
       ·simp only [Act.put, s1, s2, s3, i64_w, i32_w]
        rfl
       refine pure_ (i := 11) (N := some 30) (v := ?_) (a' := ?_) #[T,T,T,T,T,T,T,T,T,T,T,T,F] rfl rfl (any_of HT_.out (by kernel_rfl)) (fun _ _ _ h => h) (Or.inl ⟨by rfl, ?_⟩) ?_ ?_
       rotate_left
       ·intro w'
        go_simp
        with_reducible rfl
       rotate_left
       ·simp only [Act.put, s1, s2, s3, i64_w, i32_w]
        rfl
       refine pure_ (i := 12) (N := some 31) (v := ?_) (a' := ?_) #[T,T,T,T,T,T,T,T,T,T,T,T,T] rfl rfl (any_of HT_.out (by kernel_rfl)) (fun _ _ _ h => h) (Or.inl ⟨by rfl, ?_⟩) ?_ ?_
       rotate_left
       ·intro w'
        go_simp
        with_reducible rfl
       rotate_left
       ·simp only [Act.put, s1, s2, s3, i64_w, i32_w]
        rfl
       refine done_ (done_of HT_.out (by kernel_rfl)) ?_
       try go_wp2
       go_meet
       case rel => exact ⟨_, (!(Op.bytesLess (((rd_T69 l0_1 x7_1).f0).toList) a1_0.toList)), (by first | rfl | (simp; done) | (simp [*]; done)), H', ⟨by have := HK1.out; first | omega | exact Nat.le_refl _⟩, ⟨by (with_reducible repeat (first | apply Kd.R_alloc | apply Kd.R_drewN | apply Kd.R_drew)); exact HO_194001.out⟩, ⟨by (with_reducible repeat (first | refine kN ?_ _ | refine kD ?_ | refine kA ?_ _)); exact BK187.out⟩, ⟨by (with_reducible repeat (first | refine kN ?_ _ | refine kD ?_ | refine kA ?_ _)); exact BK188.out⟩, ⟨by (with_reducible repeat (first | refine kN ?_ _ | refine kD ?_ | refine kA ?_ _)); exact BK189.out⟩, ⟨by (with_reducible repeat (first | refine kN ?_ _ | refine kD ?_ | refine kA ?_ _)); exact BK193.out⟩, ⟨by repeat (first | (with_reducible first | exact HB.out | apply bA | apply bN | apply bD | refine bS ?_ GE187.out | refine bS ?_ GE188.out | refine bS ?_ GE189.out | refine bS ?_ GE193.out) | exact HB.out)⟩⟩
      ·rw [if_neg c25] at H
       exact absurd H (by simp)
    case rest =>
     clear HC18
     obtain ⟨kq, x31_17, rfl, HA, HJ17, HO_194001, BK187, BK188, BK189, BK193, HB⟩ := hcut
     cases kq with
     | zero => exact absurd HA.out (by simp [spec_l03Put.j1])
     | succ kj17 =>
      have H := HA.out
      clear HA
      simp only [spec_l03Put.j1] at H
      by_cases c27 : x31_17 = true
      ·subst c27
       have H1 : (if x194001_1.length < 3518437208883 then ((some (x194001_1 ++ [(⟨a1_0, a1_1, a1_2⟩ : S69)] : List (S69))).bind fun y198 => (if 0 ≤ x7_1 then (if x7_1 < (l0_1.length : Int) then (if ((rd_T69 l0_1 x7_1).f0).toList = a1_0.toList then (spec_l03Put.l0 kj17 true (wrap64 (x7_1 + 1)) a0_0 l0_1 a1_0 a1_1 a1_2 a0_0 y198) else (if y198.length < 3518437208883 then (spec_l03Put.l0 kj17 true (wrap64 (x7_1 + 1)) a0_0 l0_1 a1_0 a1_1 a1_2 a0_0 (y198 ++ [(⟨(rd_T69 l0_1 x7_1).f0, (rd_T69 l0_1 x7_1).f1, (rd_T69 l0_1 x7_1).f2⟩ : S69)])) else (none))) else (none)) else (none))) else (none)) = some (r1, r2) := by rw [if_pos rfl] at H; exact H
       clear H
       have H := H1
       clear H1
       by_cases c28 : x194001_1.length < 3518437208883
       ·rw [if_pos c28] at H
        have LMc28 := aM c28
        clear c28
        obtain ⟨y198, hy198⟩ : ∃ y_ : List (S69), y_ = (x194001_1 ++ [(⟨a1_0, a1_1, a1_2⟩ : S69)]) := ⟨_, rfl⟩
        replace H : (if 0 ≤ x7_1 then (if x7_1 < (l0_1.length : Int) then (if ((rd_T69 l0_1 x7_1).f0).toList = a1_0.toList then (spec_l03Put.l0 kj17 true (wrap64 (x7_1 + 1)) a0_0 l0_1 a1_0 a1_1 a1_2 a0_0 y198) else (if y198.length < 3518437208883 then (spec_l03Put.l0 kj17 true (wrap64 (x7_1 + 1)) a0_0 l0_1 a1_0 a1_1 a1_2 a0_0 (y198 ++ [(⟨(rd_T69 l0_1 x7_1).f0, (rd_T69 l0_1 x7_1).f1, (rd_T69 l0_1 x7_1).f2⟩ : S69)])) else (none))) else (none)) else (none)) = some (r1, r2) := by first | (rw [hy198]; with_reducible exact H) | (have H2_ := (Option.bind_some _ _).symm.trans H; rw [hy198]; with_reducible exact H2_) | (have H2_ := (Option.bind_some _ _).symm.trans H; with_reducible exact H2_) | with_reducible exact H | (rw [hy198]; exact H) | exact H
        have Ny198 := aM hy198
        clear hy198
        by_cases c29 : 0 ≤ x7_1
        ·rw [if_pos c29] at H
         have c29b0 : decide (0 ≤ x7_1) = true := decide_eq_true c29
         clear c29
         by_cases c30 : x7_1 < (l0_1.length : Int)
         ·rw [if_pos c30] at H
          have c30b0 : decide (x7_1 < (l0_1.length : Int)) = true := decide_eq_true c30
          clear c30
          by_cases c31 : ((rd_T69 l0_1 x7_1).f0).toList = a1_0.toList
          ·rw [if_pos c31] at H
           have c31b0 : (((rd_T69 l0_1 x7_1).f0).toList == a1_0.toList) = true := beq_iff_eq.mpr c31
           have c31b1 : (((rd_T69 l0_1 x7_1).f0).toList != a1_0.toList) = false := bne_eq_false_iff_eq.mpr c31
           clear c31
           have H' := aM H
           clear H
           have hnb32 := NB193_187.out
           have hnc32 := NB187_193.out
           have hnb33 := NB193_188.out
           have hnc33 := NB188_193.out
           have hnb34 := NB193_189.out
           have hnc34 := NB189_193.out
           have hcz35_0 : wc.cell? ⟨gb193, 0, none⟩ = some (.int .i64 a0_0) := (kC BK193.out 0).trans rfl
           have hcz35_1 : wc.cell? ⟨gb193, 1, none⟩ = some (u194001) := (kC BK193.out 1).trans rfl
           have hfz35_0 := kF BK193.out 0
           have hfz35_1 := kF BK193.out 1
           have hnb36 := NB188_187.out
           have hnc36 := NB187_188.out
           have hnb37 := NB188_189.out
           have hnc37 := NB189_188.out
           have hcz38_0 : wc.cell? ⟨gb188, 0, none⟩ = some (.string a1_0) := (kC BK188.out 0).trans rfl
           have hcz38_1 : wc.cell? ⟨gb188, 1, none⟩ = some (.string a1_1) := (kC BK188.out 1).trans rfl
           have hcz38_2 : wc.cell? ⟨gb188, 2, none⟩ = some (.int .i64 a1_2) := (kC BK188.out 2).trans rfl
           have hfz38_0 := kF BK188.out 0
           have hfz38_1 := kF BK188.out 1
           have hfz38_2 := kF BK188.out 2
           try go_wp2_with (first | ((with_reducible refine gate_builtin (b := .append) (xs := #[.tmp 33, .tmp 35]) rfl ?_); at_builtin; refine Kd.R_append k69 (w0 := w) w.heap.size rfl (.tmp 33) (.tmp 35) 31 69 (.agg #[(.string ⟨#[]⟩), (.string ⟨#[]⟩), (.int .i64 0)]) 40 rfl Tryd.underlying31 info69 rfl (by decide) (by omega) u194001 x194001_1 (⟨a1_0, a1_1, a1_2⟩ : S69) [.string a1_0, .string a1_1, .int .i64 a1_2] (fun k_ => k_ ≠ gb188) (fun _ => False) rfl rfl ?aP (fun _ hk => hk.elim) ?aF ?aO ?aB ?aS ?aL ?_; (case aP => exact k69_mkM _ _ _ (⟨a1_0, a1_1, a1_2⟩ : S69)); (case aB => exact (by repeat (first | (with_reducible first | exact HB.out | apply bA | apply bN | apply bD | refine bS ?_ GE187.out | refine bS ?_ GE188.out | refine bS ?_ GE189.out | refine bS ?_ GE193.out) | exact HB.out))); (case aF => exact (fun k_ hk => Kd.freshB (g := gb188) (o := .cells #[.string a1_0, .string a1_1, .int .i64 a1_2] 69 (0, 0)) (by (with_reducible repeat (first | refine kN ?_ _ | refine kD ?_ | refine kA ?_ _)); exact BK188.out) k_ hk)); (case aO => exact (by (with_reducible repeat (first | apply Kd.R_alloc | apply Kd.R_drewN | apply Kd.R_drew)); exact HO_194001.out)); (case aS => exact (below_size (by repeat (first | (with_reducible first | exact HB.out | apply bA | apply bN | apply bD | refine bS ?_ GE187.out | refine bS ?_ GE188.out | refine bS ?_ GE189.out | refine bS ?_ GE193.out) | exact HB.out)))); (case aL => have := LMc28.out; omega); intro v199 w39 ho hb hg hat; rw [← Ny198.out] at ho; have n0_ := aM (blk_grown (g := gb187) (o := .cells #[.int .i64 a0_0, .slice A0_1 l0_1.length c0_1] 33 (0, 0)) (by (with_reducible repeat (first | refine kN ?_ _ | refine kD ?_ | refine kA ?_ _)); exact BK187.out) hg (Kd.R_ne HO_194001.out BK187.out (by decide))); have n1_ := aM (blk_grown (g := gb188) (o := .cells #[.string a1_0, .string a1_1, .int .i64 a1_2] 69 (0, 0)) (by (with_reducible repeat (first | refine kN ?_ _ | refine kD ?_ | refine kA ?_ _)); exact BK188.out) hg (Kd.R_away HO_194001.out (fun _ hk => hk))); have n2_ := aM (blk_grown (g := gb189) (o := .cells #[.int .i64 0, .slice none 0 0] 33 (0, 0)) (by (with_reducible repeat (first | refine kN ?_ _ | refine kD ?_ | refine kA ?_ _)); exact BK189.out) hg (Kd.R_ne HO_194001.out BK189.out (by decide))); have n3_ := aM (blk_grown (g := gb193) (o := .cells #[.int .i64 a0_0, u194001] 33 (0, 0)) (by (with_reducible repeat (first | refine kN ?_ _ | refine kD ?_ | refine kA ?_ _)); exact BK193.out) hg (Kd.R_ne HO_194001.out BK193.out (by decide))); have n4_ := aM (hb); have n5_ := aM (ho); clear BK187; clear BK188; clear BK189; clear BK193; clear HB; clear HO_194001; have BK187 := n0_; have BK188 := n1_; have BK189 := n2_; have BK193 := n3_; have HB := n4_; have HO200 := n5_; clear n0_ n1_ n2_ n3_ n4_ n5_; clear ho hb hg hat; obtain ⟨Ao40, co40, eo40⟩ := Kd.R_slice HO200.out; subst eo40; have hcz41_0 : w39.cell? ⟨gb193, 0, none⟩ = some (.int .i64 a0_0) := (kC BK193.out 0).trans rfl; have hcz41_1 : w39.cell? ⟨gb193, 1, none⟩ = some (u194001) := (kC BK193.out 1).trans rfl; have hfz41_0 := kF BK193.out 0; have hfz41_1 := kF BK193.out 1))
           have n0_ : Aside0 (Kd.R k69 69 (w39.setCell ⟨gb193, 1, none⟩ (.slice Ao40 y198.length co40)) w.heap.size (fun k_ => k_ ≠ gb188) (.slice Ao40 y198.length co40) y198) := ⟨by (with_reducible repeat (first | apply Kd.R_alloc | apply Kd.R_drewN | apply Kd.R_drew)); exact Kd.R_mono (Kd.R_far (p := ⟨gb193, 1, none⟩) (Kd.R_types HO200.out BK193.out (by decide)) (fun _ hk => hk.2) (.slice Ao40 y198.length co40)) (fun _ hk => hk.1)⟩
           have n1_ : Aside0 ((w39.setCell ⟨gb193, 1, none⟩ (.slice Ao40 y198.length co40)).heap[gb187]? = some (.cells #[.int .i64 a0_0, .slice A0_1 l0_1.length c0_1] 33 (0, 0))) := ⟨by (with_reducible repeat (first | refine kN ?_ _ | refine kD ?_ | refine kA ?_ _)); refine blk_far ?_ NB187_193.out _; (with_reducible repeat (first | refine kN ?_ _ | refine kD ?_ | refine kA ?_ _)); exact BK187.out⟩
           have n2_ : Aside0 ((w39.setCell ⟨gb193, 1, none⟩ (.slice Ao40 y198.length co40)).heap[gb188]? = some (.cells #[.string a1_0, .string a1_1, .int .i64 a1_2] 69 (0, 0))) := ⟨by (with_reducible repeat (first | refine kN ?_ _ | refine kD ?_ | refine kA ?_ _)); refine blk_far ?_ NB188_193.out _; (with_reducible repeat (first | refine kN ?_ _ | refine kD ?_ | refine kA ?_ _)); exact BK188.out⟩
           have n3_ : Aside0 ((w39.setCell ⟨gb193, 1, none⟩ (.slice Ao40 y198.length co40)).heap[gb189]? = some (.cells #[.int .i64 0, .slice none 0 0] 33 (0, 0))) := ⟨by (with_reducible repeat (first | refine kN ?_ _ | refine kD ?_ | refine kA ?_ _)); refine blk_far ?_ NB189_193.out _; (with_reducible repeat (first | refine kN ?_ _ | refine kD ?_ | refine kA ?_ _)); exact BK189.out⟩
           have n4_ : Aside0 ((w39.setCell ⟨gb193, 1, none⟩ (.slice Ao40 y198.length co40)).heap[gb193]? = some (.cells #[.int .i64 a0_0, .slice Ao40 y198.length co40] 33 (0, 0))) := ⟨by (with_reducible repeat (first | refine kN ?_ _ | refine kD ?_ | refine kA ?_ _)); refine blk_put (cs := #[.int .i64 a0_0, u194001]) ?_ 1 _ rfl; (with_reducible repeat (first | refine kN ?_ _ | refine kD ?_ | refine kA ?_ _)); exact BK193.out⟩
           have n5_ : Aside0 (Below w.heap.size w (w39.setCell ⟨gb193, 1, none⟩ (.slice Ao40 y198.length co40))) := ⟨by repeat (first | (with_reducible first | exact HB.out | apply bA | apply bN | apply bD | refine bS ?_ GE187.out | refine bS ?_ GE188.out | refine bS ?_ GE189.out | refine bS ?_ GE193.out) | exact HB.out)⟩
           (try clear HO200)
           (try clear BK187)
           (try clear BK188)
           (try clear BK189)
           (try clear BK193)
           (try clear HB)
           generalize (w39.setCell ⟨gb193, 1, none⟩ (.slice Ao40 y198.length co40)) = w42 at n0_ n1_ n2_ n3_ n4_ n5_ ⊢
           have HO200 := n0_
           have BK187 := n1_
           have BK188 := n2_
           have BK189 := n3_
           have BK193 := n4_
           have HB := n5_
           clear n0_ n1_ n2_ n3_ n4_ n5_
           have n0_ := aM (Kd.R_drew HO200.out)
           have n1_ := aM (kD BK187.out)
           have n2_ := aM (kD BK188.out)
           have n3_ := aM (kD BK189.out)
           have n4_ := aM (kD BK193.out)
           have n5_ := aM (bD HB.out)
           clear HO200
           clear BK187
           clear BK188
           clear BK189
           clear BK193
           clear HB
           have HO200 := n0_
           have BK187 := n1_
           have BK188 := n2_
           have BK189 := n3_
           have BK193 := n4_
           have HB := n5_
           clear n0_ n1_ n2_ n3_ n4_ n5_
           have p201 : 0 ≤ (x7_1 : Int) := of_decide_eq_true (by assumption)
           have q201 : x7_1 < (l0_1.length : Int) := of_decide_eq_true (by assumption)
           obtain ⟨ad201, e201, hx201_0, hx201_1, hx201_2⟩ := at_T69 HR0_1.out x7_1 p201 q201
           have hw201_2 := hx201_2
           have hw201_1 := hx201_1
           have hw201_0 := hx201_0
           cases e201
           replace hx201_0 := (HB.out.cell (lC w _ hx201_0)).trans hx201_0
           replace hx201_1 := (HB.out.cell (lC w _ hx201_1)).trans hx201_1
           replace hx201_2 := (HB.out.cell (lC w _ hx201_2)).trans hx201_2
           replace p201 := eq_true p201
           replace q201 := eq_true q201
           refine start_ (n := 9) (S := fun w' => w'.cell? ⟨gb187, 0, none⟩ = some (.int .i64 a0_0) ∧ w'.cell? ⟨gb187, 1, none⟩ = some (.slice (some ad201) l0_1.length c0_1) ∧ w'.cell? ⟨gb188, 0, none⟩ = some (.string a1_0) ∧ w'.cell? ⟨gb188, 1, none⟩ = some (.string a1_1) ∧ w'.cell? ⟨gb188, 2, none⟩ = some (.int .i64 a1_2) ∧ w'.cell? (ad201.add ((x7_1).toNat * 3)) = some (.string ((rd_T69 l0_1 x7_1).f0)) ∧ w'.cell? ⟨(ad201.add ((x7_1).toNat * 3)).block, (ad201.add ((x7_1).toNat * 3)).off + 1, none⟩ = some (.string ((rd_T69 l0_1 x7_1).f1)) ∧ w'.cell? ⟨(ad201.add ((x7_1).toNat * 3)).block, (ad201.add ((x7_1).toNat * 3)).off + 2, none⟩ = some (.int .i64 ((rd_T69 l0_1 x7_1).f2))) (ds := []) #[F,F,F,F,F,F,F,F,F] (by kernel_rfl) rfl rfl ⟨(kC BK187.out 0).trans rfl, (kC BK187.out 1).trans rfl, (kC BK188.out 0).trans rfl, (kC BK188.out 1).trans rfl, (kC BK188.out 2).trans rfl, ((HB.out.cell (lC w _ hw201_0)).trans hw201_0), ((HB.out.cell (lC w _ hw201_1)).trans hw201_1), ((HB.out.cell (lC w _ hw201_2)).trans hw201_2)⟩ (fun hHeld => ?_); refine with_tabW spec_l03Put.tab9 spec_l03Put.bits9 (fun HT_ HW_ => ?_)
           generalize w42.drew = w43 at HO200 BK187 BK188 BK189 BK193 HB hx201_0 hx201_1 hx201_2 hHeld ⊢
           refine pure_ (i := 0) (N := some 38) (v := ?_) (a' := ?_) #[T,F,F,F,F,F,F,F,F] rfl rfl (any_of HT_.out (by kernel_rfl)) (fun _ _ _ h => h) (Or.inl ⟨by rfl, ?_⟩) ?_ ?_
           rotate_left
           ·intro w'
            go_simp
            with_reducible rfl
           rotate_left
           ·simp only [Act.put, s1, s2, s3, i64_w, i32_w]
            rfl
           refine pure_ (i := 2) (N := some 40) (v := ?_) (a' := ?_) #[T,F,T,F,F,F,F,F,F] rfl rfl (any_of HT_.out (by kernel_rfl)) (fun _ _ _ h => h) (Or.inl ⟨by rfl, ?_⟩) ?_ ?_
           rotate_left
           ·intro w'
            go_simp
            with_reducible rfl
           rotate_left
           ·simp only [Act.put, s1, s2, s3, i64_w, i32_w]
            rfl
           refine pure_ (i := 6) (N := some 44) (v := ?_) (a' := ?_) #[T,F,T,F,F,F,T,F,F] rfl rfl (any_of HT_.out (by kernel_rfl)) (fun _ _ _ h => h) (Or.inl ⟨by rfl, ?_⟩) ?_ ?_
           rotate_left
           ·intro w'
            go_simp
            with_reducible rfl
           rotate_left
           ·simp only [Act.put, s1, s2, s3, i64_w, i32_w]
            rfl
           refine take_ (i := 1) (N := some 39) (v := ?_) (a' := ?_) #[T,T,T,F,F,F,T,F,F] rfl rfl (take_ofW HT_.out HW_.out (by kernel_rfl)) (fun _ _ _ h => h) (Or.inl ⟨by rfl, ?_⟩) hHeld ?_ ?_
           rotate_left
           ·rintro w' ⟨s0, s1, s2, s3, s4, s5, s6, s7⟩
            go_simp
            with_reducible rfl
           rotate_left
           ·simp only [Act.put, s1, s2, s3, i64_w, i32_w]
            rfl
           refine pure_ (i := 3) (N := some 41) (v := ?_) (a' := ?_) #[T,T,T,T,F,F,T,F,F] rfl rfl (any_of HT_.out (by kernel_rfl)) (fun _ _ _ h => h) (Or.inl ⟨by rfl, ?_⟩) ?_ ?_
           rotate_left
           ·intro w'
            go_simp
            with_reducible rfl
           rotate_left
           ·simp only [Act.put, s1, s2, s3, i64_w, i32_w]
            rfl
           refine pure_ (i := 4) (N := some 42) (v := ?_) (a' := ?_) #[T,T,T,T,T,F,T,F,F] rfl rfl (any_of HT_.out (by kernel_rfl)) (fun _ _ _ h => h) (Or.inl ⟨by rfl, ?_⟩) ?_ ?_
           rotate_left
           ·intro w'
            go_simp
            with_reducible rfl
           rotate_left
           ·simp only [Act.put, s1, s2, s3, i64_w, i32_w]
            rfl
           refine take_ (i := 5) (N := some 43) (v := ?_) (a' := ?_) #[T,T,T,T,T,T,T,F,F] rfl rfl (take_ofW HT_.out HW_.out (by kernel_rfl)) (fun _ _ _ h => h) (Or.inl ⟨by rfl, ?_⟩) hHeld ?_ ?_
           rotate_left
           ·rintro w' ⟨s0, s1, s2, s3, s4, s5, s6, s7⟩
            go_simp
            with_reducible rfl
           rotate_left
           ·simp only [Act.put, s1, s2, s3, i64_w, i32_w]
            rfl
           refine take_ (i := 7) (N := some 45) (v := ?_) (a' := ?_) #[T,T,T,T,T,T,T,T,F] rfl rfl (take_ofW HT_.out HW_.out (by kernel_rfl)) (fun _ _ _ h => h) (Or.inl ⟨by rfl, ?_⟩) hHeld ?_ ?_
           rotate_left
           ·rintro w' ⟨s0, s1, s2, s3, s4, s5, s6, s7⟩
            go_simp
            with_reducible rfl
           rotate_left
           ·simp only [Act.put, s1, s2, s3, i64_w, i32_w]
            rfl
           refine pure_ (i := 8) (N := some 46) (v := ?_) (a' := ?_) #[T,T,T,T,T,T,T,T,T] rfl rfl (any_of HT_.out (by kernel_rfl)) (fun _ _ _ h => h) (Or.inl ⟨by rfl, ?_⟩) ?_ ?_
           rotate_left
           ·intro w'
            go_simp
            with_reducible rfl
           rotate_left
           ·simp only [Act.put, s1, s2, s3, i64_w, i32_w]
            rfl
           refine done_ (done_of HT_.out (by kernel_rfl)) ?_
           try go_wp2
           go_roundg kj17
           case measure => have := HK1.out; have := HJ17.out; omega
           case rel => exact ⟨(true), (wrap64 (x7_1 + 1)), (y198), (.slice Ao40 y198.length co40), (by first | rfl | (simp; done) | (simp [*]; done)), (by first | rfl | (simp; done) | (simp [*]; done)), H', ⟨by have := HK1.out; have := HJ17.out; omega⟩, ⟨by (with_reducible repeat (first | apply Kd.R_alloc | apply Kd.R_drewN | apply Kd.R_drew)); exact HO200.out⟩, ⟨by (with_reducible repeat (first | refine kN ?_ _ | refine kD ?_ | refine kA ?_ _)); exact BK187.out⟩, ⟨by (with_reducible repeat (first | refine kN ?_ _ | refine kD ?_ | refine kA ?_ _)); exact BK188.out⟩, ⟨by (with_reducible repeat (first | refine kN ?_ _ | refine kD ?_ | refine kA ?_ _)); exact BK189.out⟩, ⟨by (with_reducible repeat (first | refine kN ?_ _ | refine kD ?_ | refine kA ?_ _)); exact BK193.out⟩, ⟨by repeat (first | (with_reducible first | exact HB.out | apply bA | apply bN | apply bD | refine bS ?_ GE187.out | refine bS ?_ GE188.out | refine bS ?_ GE189.out | refine bS ?_ GE193.out) | exact HB.out)⟩⟩
          ·rw [if_neg c31] at H
           have c31b0 : (((rd_T69 l0_1 x7_1).f0).toList == a1_0.toList) = false := beq_eq_false_iff_ne.mpr c31
           have c31b1 : (((rd_T69 l0_1 x7_1).f0).toList != a1_0.toList) = true := bne_iff_ne.mpr c31
           by_cases c44 : y198.length < 3518437208883
           ·rw [if_pos c44] at H
            have LMc44 := aM c44
            clear c44
            obtain ⟨y203, hy203⟩ : ∃ y_ : List (S69), y_ = (y198 ++ [(⟨(rd_T69 l0_1 x7_1).f0, (rd_T69 l0_1 x7_1).f1, (rd_T69 l0_1 x7_1).f2⟩ : S69)]) := ⟨_, rfl⟩
            replace H : (spec_l03Put.l0 kj17 true (wrap64 (x7_1 + 1)) a0_0 l0_1 a1_0 a1_1 a1_2 a0_0 y203) = some (r1, r2) := by first | (rw [hy203]; with_reducible exact H) | (have H2_ := (Option.bind_some _ _).symm.trans H; rw [hy203]; with_reducible exact H2_) | (have H2_ := (Option.bind_some _ _).symm.trans H; with_reducible exact H2_) | with_reducible exact H | (rw [hy203]; exact H) | exact H
            have Ny203 := aM hy203
            clear hy203
            have H' := aM H
            clear H
            have hnb45 := NB193_187.out
            have hnc45 := NB187_193.out
            have hnb46 := NB193_188.out
            have hnc46 := NB188_193.out
            have hnb47 := NB193_189.out
            have hnc47 := NB189_193.out
            have hcz48_0 : wc.cell? ⟨gb193, 0, none⟩ = some (.int .i64 a0_0) := (kC BK193.out 0).trans rfl
            have hcz48_1 : wc.cell? ⟨gb193, 1, none⟩ = some (u194001) := (kC BK193.out 1).trans rfl
            have hfz48_0 := kF BK193.out 0
            have hfz48_1 := kF BK193.out 1
            have hnb49 := NB188_187.out
            have hnc49 := NB187_188.out
            have hnb50 := NB188_189.out
            have hnc50 := NB189_188.out
            have hcz51_0 : wc.cell? ⟨gb188, 0, none⟩ = some (.string a1_0) := (kC BK188.out 0).trans rfl
            have hcz51_1 : wc.cell? ⟨gb188, 1, none⟩ = some (.string a1_1) := (kC BK188.out 1).trans rfl
            have hcz51_2 : wc.cell? ⟨gb188, 2, none⟩ = some (.int .i64 a1_2) := (kC BK188.out 2).trans rfl
            have hfz51_0 := kF BK188.out 0
            have hfz51_1 := kF BK188.out 1
            have hfz51_2 := kF BK188.out 2
            try go_wp2_with (first | ((with_reducible refine gate_builtin (b := .append) (xs := #[.tmp 33, .tmp 35]) rfl ?_); at_builtin; refine Kd.R_append k69 (w0 := w) w.heap.size rfl (.tmp 33) (.tmp 35) 31 69 (.agg #[(.string ⟨#[]⟩), (.string ⟨#[]⟩), (.int .i64 0)]) 40 rfl Tryd.underlying31 info69 rfl (by decide) (by omega) u194001 x194001_1 (⟨a1_0, a1_1, a1_2⟩ : S69) [.string a1_0, .string a1_1, .int .i64 a1_2] (fun k_ => k_ ≠ gb188) (fun _ => False) rfl rfl ?aP (fun _ hk => hk.elim) ?aF ?aO ?aB ?aS ?aL ?_; (case aP => exact k69_mkM _ _ _ (⟨a1_0, a1_1, a1_2⟩ : S69)); (case aB => exact (by repeat (first | (with_reducible first | exact HB.out | apply bA | apply bN | apply bD | refine bS ?_ GE187.out | refine bS ?_ GE188.out | refine bS ?_ GE189.out | refine bS ?_ GE193.out) | exact HB.out))); (case aF => exact (fun k_ hk => Kd.freshB (g := gb188) (o := .cells #[.string a1_0, .string a1_1, .int .i64 a1_2] 69 (0, 0)) (by (with_reducible repeat (first | refine kN ?_ _ | refine kD ?_ | refine kA ?_ _)); exact BK188.out) k_ hk)); (case aO => exact (by (with_reducible repeat (first | apply Kd.R_alloc | apply Kd.R_drewN | apply Kd.R_drew)); exact HO_194001.out)); (case aS => exact (below_size (by repeat (first | (with_reducible first | exact HB.out | apply bA | apply bN | apply bD | refine bS ?_ GE187.out | refine bS ?_ GE188.out | refine bS ?_ GE189.out | refine bS ?_ GE193.out) | exact HB.out)))); (case aL => have := LMc28.out; omega); intro v199 w52 ho hb hg hat; rw [← Ny198.out] at ho; have n0_ := aM (blk_grown (g := gb187) (o := .cells #[.int .i64 a0_0, .slice A0_1 l0_1.length c0_1] 33 (0, 0)) (by (with_reducible repeat (first | refine kN ?_ _ | refine kD ?_ | refine kA ?_ _)); exact BK187.out) hg (Kd.R_ne HO_194001.out BK187.out (by decide))); have n1_ := aM (blk_grown (g := gb188) (o := .cells #[.string a1_0, .string a1_1, .int .i64 a1_2] 69 (0, 0)) (by (with_reducible repeat (first | refine kN ?_ _ | refine kD ?_ | refine kA ?_ _)); exact BK188.out) hg (Kd.R_away HO_194001.out (fun _ hk => hk))); have n2_ := aM (blk_grown (g := gb189) (o := .cells #[.int .i64 0, .slice none 0 0] 33 (0, 0)) (by (with_reducible repeat (first | refine kN ?_ _ | refine kD ?_ | refine kA ?_ _)); exact BK189.out) hg (Kd.R_ne HO_194001.out BK189.out (by decide))); have n3_ := aM (blk_grown (g := gb193) (o := .cells #[.int .i64 a0_0, u194001] 33 (0, 0)) (by (with_reducible repeat (first | refine kN ?_ _ | refine kD ?_ | refine kA ?_ _)); exact BK193.out) hg (Kd.R_ne HO_194001.out BK193.out (by decide))); have n4_ := aM (hb); have n5_ := aM (ho); clear BK187; clear BK188; clear BK189; clear BK193; clear HB; clear HO_194001; have BK187 := n0_; have BK188 := n1_; have BK189 := n2_; have BK193 := n3_; have HB := n4_; have HO200 := n5_; clear n0_ n1_ n2_ n3_ n4_ n5_; clear ho hb hg hat; obtain ⟨Ao53, co53, eo53⟩ := Kd.R_slice HO200.out; subst eo53; have hcz54_0 : w52.cell? ⟨gb193, 0, none⟩ = some (.int .i64 a0_0) := (kC BK193.out 0).trans rfl; have hcz54_1 : w52.cell? ⟨gb193, 1, none⟩ = some (u194001) := (kC BK193.out 1).trans rfl; have hfz54_0 := kF BK193.out 0; have hfz54_1 := kF BK193.out 1))
            have n0_ : Aside0 (Kd.R k69 69 (w52.setCell ⟨gb193, 1, none⟩ (.slice Ao53 y198.length co53)) w.heap.size (fun k_ => k_ ≠ gb188) (.slice Ao53 y198.length co53) y198) := ⟨by (with_reducible repeat (first | apply Kd.R_alloc | apply Kd.R_drewN | apply Kd.R_drew)); exact Kd.R_mono (Kd.R_far (p := ⟨gb193, 1, none⟩) (Kd.R_types HO200.out BK193.out (by decide)) (fun _ hk => hk.2) (.slice Ao53 y198.length co53)) (fun _ hk => hk.1)⟩
            have n1_ : Aside0 ((w52.setCell ⟨gb193, 1, none⟩ (.slice Ao53 y198.length co53)).heap[gb187]? = some (.cells #[.int .i64 a0_0, .slice A0_1 l0_1.length c0_1] 33 (0, 0))) := ⟨by (with_reducible repeat (first | refine kN ?_ _ | refine kD ?_ | refine kA ?_ _)); refine blk_far ?_ NB187_193.out _; (with_reducible repeat (first | refine kN ?_ _ | refine kD ?_ | refine kA ?_ _)); exact BK187.out⟩
            have n2_ : Aside0 ((w52.setCell ⟨gb193, 1, none⟩ (.slice Ao53 y198.length co53)).heap[gb188]? = some (.cells #[.string a1_0, .string a1_1, .int .i64 a1_2] 69 (0, 0))) := ⟨by (with_reducible repeat (first | refine kN ?_ _ | refine kD ?_ | refine kA ?_ _)); refine blk_far ?_ NB188_193.out _; (with_reducible repeat (first | refine kN ?_ _ | refine kD ?_ | refine kA ?_ _)); exact BK188.out⟩
            have n3_ : Aside0 ((w52.setCell ⟨gb193, 1, none⟩ (.slice Ao53 y198.length co53)).heap[gb189]? = some (.cells #[.int .i64 0, .slice none 0 0] 33 (0, 0))) := ⟨by (with_reducible repeat (first | refine kN ?_ _ | refine kD ?_ | refine kA ?_ _)); refine blk_far ?_ NB189_193.out _; (with_reducible repeat (first | refine kN ?_ _ | refine kD ?_ | refine kA ?_ _)); exact BK189.out⟩
            have n4_ : Aside0 ((w52.setCell ⟨gb193, 1, none⟩ (.slice Ao53 y198.length co53)).heap[gb193]? = some (.cells #[.int .i64 a0_0, .slice Ao53 y198.length co53] 33 (0, 0))) := ⟨by (with_reducible repeat (first | refine kN ?_ _ | refine kD ?_ | refine kA ?_ _)); refine blk_put (cs := #[.int .i64 a0_0, u194001]) ?_ 1 _ rfl; (with_reducible repeat (first | refine kN ?_ _ | refine kD ?_ | refine kA ?_ _)); exact BK193.out⟩
            have n5_ : Aside0 (Below w.heap.size w (w52.setCell ⟨gb193, 1, none⟩ (.slice Ao53 y198.length co53))) := ⟨by repeat (first | (with_reducible first | exact HB.out | apply bA | apply bN | apply bD | refine bS ?_ GE187.out | refine bS ?_ GE188.out | refine bS ?_ GE189.out | refine bS ?_ GE193.out) | exact HB.out)⟩
            (try clear HO200)
            (try clear BK187)
            (try clear BK188)
            (try clear BK189)
            (try clear BK193)
            (try clear HB)
            generalize (w52.setCell ⟨gb193, 1, none⟩ (.slice Ao53 y198.length co53)) = w55 at n0_ n1_ n2_ n3_ n4_ n5_ ⊢
            have HO200 := n0_
            have BK187 := n1_
            have BK188 := n2_
            have BK189 := n3_
            have BK193 := n4_
            have HB := n5_
            clear n0_ n1_ n2_ n3_ n4_ n5_
            have n0_ := aM (Kd.R_drew HO200.out)
            have n1_ := aM (kD BK187.out)
            have n2_ := aM (kD BK188.out)
            have n3_ := aM (kD BK189.out)
            have n4_ := aM (kD BK193.out)
            have n5_ := aM (bD HB.out)
            clear HO200
            clear BK187
            clear BK188
            clear BK189
            clear BK193
            clear HB
            have HO200 := n0_
            have BK187 := n1_
            have BK188 := n2_
            have BK189 := n3_
            have BK193 := n4_
            have HB := n5_
            clear n0_ n1_ n2_ n3_ n4_ n5_
            have p201 : 0 ≤ (x7_1 : Int) := of_decide_eq_true (by assumption)
            have q201 : x7_1 < (l0_1.length : Int) := of_decide_eq_true (by assumption)
            obtain ⟨ad201, e201, hx201_0, hx201_1, hx201_2⟩ := at_T69 HR0_1.out x7_1 p201 q201
            have hw201_2 := hx201_2
            have hw201_1 := hx201_1
            have hw201_0 := hx201_0
            cases e201
            replace hx201_0 := (HB.out.cell (lC w _ hx201_0)).trans hx201_0
            replace hx201_1 := (HB.out.cell (lC w _ hx201_1)).trans hx201_1
            replace hx201_2 := (HB.out.cell (lC w _ hx201_2)).trans hx201_2
            replace p201 := eq_true p201
            replace q201 := eq_true q201
            refine start_ (n := 9) (S := fun w' => w'.cell? ⟨gb187, 0, none⟩ = some (.int .i64 a0_0) ∧ w'.cell? ⟨gb187, 1, none⟩ = some (.slice (some ad201) l0_1.length c0_1) ∧ w'.cell? ⟨gb188, 0, none⟩ = some (.string a1_0) ∧ w'.cell? ⟨gb188, 1, none⟩ = some (.string a1_1) ∧ w'.cell? ⟨gb188, 2, none⟩ = some (.int .i64 a1_2) ∧ w'.cell? (ad201.add ((x7_1).toNat * 3)) = some (.string ((rd_T69 l0_1 x7_1).f0)) ∧ w'.cell? ⟨(ad201.add ((x7_1).toNat * 3)).block, (ad201.add ((x7_1).toNat * 3)).off + 1, none⟩ = some (.string ((rd_T69 l0_1 x7_1).f1)) ∧ w'.cell? ⟨(ad201.add ((x7_1).toNat * 3)).block, (ad201.add ((x7_1).toNat * 3)).off + 2, none⟩ = some (.int .i64 ((rd_T69 l0_1 x7_1).f2))) (ds := []) #[F,F,F,F,F,F,F,F,F] (by kernel_rfl) rfl rfl ⟨(kC BK187.out 0).trans rfl, (kC BK187.out 1).trans rfl, (kC BK188.out 0).trans rfl, (kC BK188.out 1).trans rfl, (kC BK188.out 2).trans rfl, ((HB.out.cell (lC w _ hw201_0)).trans hw201_0), ((HB.out.cell (lC w _ hw201_1)).trans hw201_1), ((HB.out.cell (lC w _ hw201_2)).trans hw201_2)⟩ (fun hHeld => ?_); refine with_tabW spec_l03Put.tab9 spec_l03Put.bits9 (fun HT_ HW_ => ?_)
            generalize w55.drew = w56 at HO200 BK187 BK188 BK189 BK193 HB hx201_0 hx201_1 hx201_2 hHeld ⊢
            refine pure_ (i := 0) (N := some 38) (v := ?_) (a' := ?_) #[T,F,F,F,F,F,F,F,F] rfl rfl (any_of HT_.out (by kernel_rfl)) (fun _ _ _ h => h) (Or.inl ⟨by rfl, ?_⟩) ?_ ?_
            rotate_left
            ·intro w'
             go_simp
             with_reducible rfl
            rotate_left
            ·simp only [Act.put, s1, s2, s3, i64_w, i32_w]
             rfl
            refine pure_ (i := 2) (N := some 40) (v := ?_) (a' := ?_) #[T,F,T,F,F,F,F,F,F] rfl rfl (any_of HT_.out (by kernel_rfl)) (fun _ _ _ h => h) (Or.inl ⟨by rfl, ?_⟩) ?_ ?_
            rotate_left
            ·intro w'
             go_simp
             with_reducible rfl
            rotate_left
            ·simp only [Act.put, s1, s2, s3, i64_w, i32_w]
             rfl
            refine pure_ (i := 6) (N := some 44) (v := ?_) (a' := ?_) #[T,F,T,F,F,F,T,F,F] rfl rfl (any_of HT_.out (by kernel_rfl)) (fun _ _ _ h => h) (Or.inl ⟨by rfl, ?_⟩) ?_ ?_
            rotate_left
            ·intro w'
             go_simp
             with_reducible rfl
            rotate_left
            ·simp only [Act.put, s1, s2, s3, i64_w, i32_w]
             rfl
            refine take_ (i := 1) (N := some 39) (v := ?_) (a' := ?_) #[T,T,T,F,F,F,T,F,F] rfl rfl (take_ofW HT_.out HW_.out (by kernel_rfl)) (fun _ _ _ h => h) (Or.inl ⟨by rfl, ?_⟩) hHeld ?_ ?_
            rotate_left
            ·rintro w' ⟨s0, s1, s2, s3, s4, s5, s6, s7⟩
             go_simp
             with_reducible rfl
            rotate_left
            ·simp only [Act.put, s1, s2, s3, i64_w, i32_w]
             rfl
            refine pure_ (i := 3) (N := some 41) (v := ?_) (a' := ?_) #[T,T,T,T,F,F,T,F,F] rfl rfl (any_of HT_.out (by kernel_rfl)) (fun _ _ _ h => h) (Or.inl ⟨by rfl, ?_⟩) ?_ ?_
            rotate_left
            ·intro w'
             go_simp
             with_reducible rfl
            rotate_left
            ·simp only [Act.put, s1, s2, s3, i64_w, i32_w]
             rfl
            refine pure_ (i := 4) (N := some 42) (v := ?_) (a' := ?_) #[T,T,T,T,T,F,T,F,F] rfl rfl (any_of HT_.out (by kernel_rfl)) (fun _ _ _ h => h) (Or.inl ⟨by rfl, ?_⟩) ?_ ?_
            rotate_left
            ·intro w'
             go_simp
             with_reducible rfl
            rotate_left
            ·simp only [Act.put, s1, s2, s3, i64_w, i32_w]
             rfl
            refine take_ (i := 5) (N := some 43) (v := ?_) (a' := ?_) #[T,T,T,T,T,T,T,F,F] rfl rfl (take_ofW HT_.out HW_.out (by kernel_rfl)) (fun _ _ _ h => h) (Or.inl ⟨by rfl, ?_⟩) hHeld ?_ ?_
            rotate_left
            ·rintro w' ⟨s0, s1, s2, s3, s4, s5, s6, s7⟩
             go_simp
             with_reducible rfl
            rotate_left
            ·simp only [Act.put, s1, s2, s3, i64_w, i32_w]
             rfl
            refine take_ (i := 7) (N := some 45) (v := ?_) (a' := ?_) #[T,T,T,T,T,T,T,T,F] rfl rfl (take_ofW HT_.out HW_.out (by kernel_rfl)) (fun _ _ _ h => h) (Or.inl ⟨by rfl, ?_⟩) hHeld ?_ ?_
            rotate_left
            ·rintro w' ⟨s0, s1, s2, s3, s4, s5, s6, s7⟩
             go_simp
             with_reducible rfl
            rotate_left
            ·simp only [Act.put, s1, s2, s3, i64_w, i32_w]
             rfl
            refine pure_ (i := 8) (N := some 46) (v := ?_) (a' := ?_) #[T,T,T,T,T,T,T,T,T] rfl rfl (any_of HT_.out (by kernel_rfl)) (fun _ _ _ h => h) (Or.inl ⟨by rfl, ?_⟩) ?_ ?_
            rotate_left
            ·intro w'
             go_simp
             with_reducible rfl
            rotate_left
            ·simp only [Act.put, s1, s2, s3, i64_w, i32_w]
             rfl
            refine done_ (done_of HT_.out (by kernel_rfl)) ?_
            try go_wp2
            have n0_ := aM (Kd.R_drew HO200.out)
            have n1_ := aM (kD BK187.out)
            have n2_ := aM (kD BK188.out)
            have n3_ := aM (kD BK189.out)
            have n4_ := aM (kD BK193.out)
            have n5_ := aM (bD HB.out)
            clear HO200
            clear BK187
            clear BK188
            clear BK189
            clear BK193
            clear HB
            have HO200 := n0_
            have BK187 := n1_
            have BK188 := n2_
            have BK189 := n3_
            have BK193 := n4_
            have HB := n5_
            clear n0_ n1_ n2_ n3_ n4_ n5_
            have p202 : 0 ≤ (x7_1 : Int) := of_decide_eq_true (by assumption)
            have q202 : x7_1 < (l0_1.length : Int) := of_decide_eq_true (by assumption)
            obtain ⟨ad202, e202, hx202_0, hx202_1, hx202_2⟩ := at_T69 HR0_1.out x7_1 p202 q202
            have hw202_2 := hx202_2
            have hw202_1 := hx202_1
            have hw202_0 := hx202_0
            obtain rfl : ad201 = ad202 := (by injection e202)
            replace hx202_0 := (HB.out.cell (lC w _ hx202_0)).trans hx202_0
            replace hx202_1 := (HB.out.cell (lC w _ hx202_1)).trans hx202_1
            replace hx202_2 := (HB.out.cell (lC w _ hx202_2)).trans hx202_2
            replace p202 := eq_true p202
            replace q202 := eq_true q202
            refine start_ (n := 11) (S := fun w' => w'.cell? ⟨gb193, 0, none⟩ = some (.int .i64 a0_0) ∧ w'.cell? ⟨gb193, 1, none⟩ = some (.slice Ao53 y198.length co53) ∧ w'.cell? ⟨gb187, 0, none⟩ = some (.int .i64 a0_0) ∧ w'.cell? ⟨gb187, 1, none⟩ = some (.slice (some ad201) l0_1.length c0_1) ∧ w'.cell? (ad201.add ((x7_1).toNat * 3)) = some (.string ((rd_T69 l0_1 x7_1).f0)) ∧ w'.cell? ⟨(ad201.add ((x7_1).toNat * 3)).block, (ad201.add ((x7_1).toNat * 3)).off + 1, none⟩ = some (.string ((rd_T69 l0_1 x7_1).f1)) ∧ w'.cell? ⟨(ad201.add ((x7_1).toNat * 3)).block, (ad201.add ((x7_1).toNat * 3)).off + 2, none⟩ = some (.int .i64 ((rd_T69 l0_1 x7_1).f2))) (ds := [10]) #[F,F,F,F,F,F,F,F,F,F,F] (by kernel_rfl) rfl rfl ⟨(kC BK193.out 0).trans rfl, (kC BK193.out 1).trans rfl, (kC BK187.out 0).trans rfl, (kC BK187.out 1).trans rfl, ((HB.out.cell (lC w _ hw202_0)).trans hw202_0), ((HB.out.cell (lC w _ hw202_1)).trans hw202_1), ((HB.out.cell (lC w _ hw202_2)).trans hw202_2)⟩ (fun hHeld => ?_); refine with_tabW spec_l03Put.tab10 spec_l03Put.bits10 (fun HT_ HW_ => ?_)
            generalize w56.drew = w57 at HO200 BK187 BK188 BK189 BK193 HB hx202_0 hx202_1 hx202_2 hHeld ⊢
            refine pure_ (i := 0) (N := some 47) (v := ?_) (a' := ?_) #[T,F,F,F,F,F,F,F,F,F,F] rfl rfl (any_of HT_.out (by kernel_rfl)) (fun _ _ _ h => h) (Or.inl ⟨by rfl, ?_⟩) ?_ ?_
            rotate_left
            ·intro w'
             go_simp
             with_reducible rfl
            rotate_left
            ·simp only [Act.put, s1, s2, s3, i64_w, i32_w]
             rfl
            refine pure_ (i := 2) (N := some 49) (v := ?_) (a' := ?_) #[T,F,T,F,F,F,F,F,F,F,F] rfl rfl (any_of HT_.out (by kernel_rfl)) (fun _ _ _ h => h) (Or.inl ⟨by rfl, ?_⟩) ?_ ?_
            rotate_left
            ·intro w'
             go_simp
             with_reducible rfl
            rotate_left
            ·simp only [Act.put, s1, s2, s3, i64_w, i32_w]
             rfl
            refine pure_ (i := 4) (N := some 51) (v := ?_) (a' := ?_) #[T,F,T,F,T,F,F,F,F,F,F] rfl rfl (any_of HT_.out (by kernel_rfl)) (fun _ _ _ h => h) (Or.inl ⟨by rfl, ?_⟩) ?_ ?_
            rotate_left
            ·intro w'
             go_simp
             with_reducible rfl
            rotate_left
            ·simp only [Act.put, s1, s2, s3, i64_w, i32_w]
             rfl
            refine take_ (i := 1) (N := some 48) (v := ?_) (a' := ?_) #[T,T,T,F,T,F,F,F,F,F,F] rfl rfl (take_ofW HT_.out HW_.out (by kernel_rfl)) (fun _ _ _ h => h) (Or.inl ⟨by rfl, ?_⟩) hHeld ?_ ?_
            rotate_left
            ·rintro w' ⟨s0, s1, s2, s3, s4, s5, s6⟩
             go_simp
             with_reducible rfl
            rotate_left
            ·simp only [Act.put, s1, s2, s3, i64_w, i32_w]
             rfl
            refine take_ (i := 3) (N := some 50) (v := ?_) (a' := ?_) #[T,T,T,T,T,F,F,F,F,F,F] rfl rfl (take_ofW HT_.out HW_.out (by kernel_rfl)) (fun _ _ _ h => h) (Or.inl ⟨by rfl, ?_⟩) hHeld ?_ ?_
            rotate_left
            ·rintro w' ⟨s0, s1, s2, s3, s4, s5, s6⟩
             go_simp
             with_reducible rfl
            rotate_left
            ·simp only [Act.put, s1, s2, s3, i64_w, i32_w]
             rfl
            refine pure_ (i := 5) (N := some 52) (v := ?_) (a' := ?_) #[T,T,T,T,T,T,F,F,F,F,F] rfl rfl (any_of HT_.out (by kernel_rfl)) (fun _ _ _ h => h) (Or.inl ⟨by rfl, ?_⟩) ?_ ?_
            rotate_left
            ·intro w'
             go_simp
             with_reducible rfl
            rotate_left
            ·simp only [Act.put, s1, s2, s3, i64_w, i32_w]
             rfl
            refine take_ (i := 6) (N := some 53) (v := ?_) (a' := ?_) #[T,T,T,T,T,T,T,F,F,F,F] rfl rfl (take_ofW HT_.out HW_.out (by kernel_rfl)) (fun _ _ _ h => h) (Or.inl ⟨by rfl, ?_⟩) hHeld ?_ ?_
            rotate_left
            ·rintro w' ⟨s0, s1, s2, s3, s4, s5, s6⟩
             go_simp
             with_reducible rfl
            rotate_left
            ·simp only [Act.put, s1, s2, s3, i64_w, i32_w]
             rfl
            refine one_ (i := 7) (N := some 54) #[T,T,T,T,T,T,T,T,F,F,F] rfl rfl (one_of HT_.out (by kernel_rfl)) (by decide) (fun K hK => ?_)
            refine value_ (w1 := ?_) (v := ?_) (by rfl) rfl ?_ ?_
            rotate_left 2
            ·go_simp
             constructor
             ·rfl
             ·rfl
            refine hK.out _ _ ⟨(kC (kA BK193.out _) 0).trans rfl, (kC (kA BK193.out _) 1).trans rfl, (kC (kA BK187.out _) 0).trans rfl, (kC (kA BK187.out _) 1).trans rfl, (World.cell?_alloc_lt _ _ _ (lC _ _ (((HB.out.cell (lC w _ hw202_0)).trans hw202_0)))).trans (((HB.out.cell (lC w _ hw202_0)).trans hw202_0)), (World.cell?_alloc_lt _ _ _ (lC _ _ (((HB.out.cell (lC w _ hw202_1)).trans hw202_1)))).trans (((HB.out.cell (lC w _ hw202_1)).trans hw202_1)), (World.cell?_alloc_lt _ _ _ (lC _ _ (((HB.out.cell (lC w _ hw202_2)).trans hw202_2)))).trans (((HB.out.cell (lC w _ hw202_2)).trans hw202_2))⟩ (fun hHeld => ?_)
            clear hK K
            refine norm_ (a' := ?_) ?_ ?_
            rotate_left
            ·show Act.put _ (some 54) _ = _
             simp only [Act.put, s1, s2, s3, i64_w, i32_w]
             rfl
            refine one_ (i := 8) (N := some 55) #[T,T,T,T,T,T,T,T,T,F,F] rfl rfl (one_of HT_.out (by kernel_rfl)) (by decide) (fun K hK => ?_)
            refine Kd.R_append_step k69 (w0 := w) w.heap.size (by rfl) (.tmp 48) (.tmp 54) 31 69 (.agg #[(.string ⟨#[]⟩), (.string ⟨#[]⟩), (.int .i64 0)]) 40 rfl Tryd.underlying31 info69 rfl (by decide) (by omega) (.slice Ao53 y198.length co53) y198 (⟨(rd_T69 l0_1 x7_1).f0, (rd_T69 l0_1 x7_1).f1, (rd_T69 l0_1 x7_1).f2⟩ : S69) [.string ((rd_T69 l0_1 x7_1).f0), .string ((rd_T69 l0_1 x7_1).f1), .int .i64 ((rd_T69 l0_1 x7_1).f2)] (fun k_ => k_ ≠ gb188) (fun _ => False) rfl rfl ?aP (fun _ hk => hk.elim) ?aF ?aO ?aB ?aS ?aL ?_
            (case aP => exact k69_mkM _ _ _ (⟨(rd_T69 l0_1 x7_1).f0, (rd_T69 l0_1 x7_1).f1, (rd_T69 l0_1 x7_1).f2⟩ : S69))
            (case aB => exact (by repeat (first | (with_reducible first | exact HB.out | apply bA | apply bN | apply bD | refine bS ?_ GE187.out | refine bS ?_ GE188.out | refine bS ?_ GE189.out | refine bS ?_ GE193.out) | exact HB.out)))
            (case aF => exact (fun k_ hk => Kd.freshB (g := gb188) (o := .cells #[.string a1_0, .string a1_1, .int .i64 a1_2] 69 (0, 0)) (by (with_reducible repeat (first | refine kN ?_ _ | refine kD ?_ | refine kA ?_ _)); exact BK188.out) k_ hk))
            (case aO => exact (by (with_reducible repeat (first | apply Kd.R_alloc | apply Kd.R_drewN | apply Kd.R_drew)); exact HO200.out))
            (case aS => exact (below_size (by repeat (first | (with_reducible first | exact HB.out | apply bA | apply bN | apply bD | refine bS ?_ GE187.out | refine bS ?_ GE188.out | refine bS ?_ GE189.out | refine bS ?_ GE193.out) | exact HB.out))))
            (case aL => have := LMc44.out; omega)
            intro v204 w58 ho hb hg hat
            rw [← Ny203.out] at ho
            have n0_ := aM (blk_grown (g := gb187) (o := .cells #[.int .i64 a0_0, .slice (some ad201) l0_1.length c0_1] 33 (0, 0)) (by (with_reducible repeat (first | refine kN ?_ _ | refine kD ?_ | refine kA ?_ _)); exact BK187.out) hg (Kd.R_ne HO200.out BK187.out (by decide)))
            have n1_ := aM (blk_grown (g := gb188) (o := .cells #[.string a1_0, .string a1_1, .int .i64 a1_2] 69 (0, 0)) (by (with_reducible repeat (first | refine kN ?_ _ | refine kD ?_ | refine kA ?_ _)); exact BK188.out) hg (Kd.R_away HO200.out (fun _ hk => hk)))
            have n2_ := aM (blk_grown (g := gb189) (o := .cells #[.int .i64 0, .slice none 0 0] 33 (0, 0)) (by (with_reducible repeat (first | refine kN ?_ _ | refine kD ?_ | refine kA ?_ _)); exact BK189.out) hg (Kd.R_ne HO200.out BK189.out (by decide)))
            have n3_ := aM (blk_grown (g := gb193) (o := .cells #[.int .i64 a0_0, .slice Ao53 y198.length co53] 33 (0, 0)) (by (with_reducible repeat (first | refine kN ?_ _ | refine kD ?_ | refine kA ?_ _)); exact BK193.out) hg (Kd.R_ne HO200.out BK193.out (by decide)))
            have n4_ := aM (hb)
            have n5_ := aM (ho)
            clear BK187
            clear BK188
            clear BK189
            clear BK193
            clear HB
            clear HO200
            have BK187 := n0_
            have BK188 := n1_
            have BK189 := n2_
            have BK193 := n3_
            have HB := n4_
            have HO205 := n5_
            clear n0_ n1_ n2_ n3_ n4_ n5_
            clear ho hb hg hat
            obtain ⟨Ao59, co59, eo59⟩ := Kd.R_slice HO205.out
            (first | subst eo59 | (injection eo59 with f1_ f2_ f3_; have f4_ := f1_.symm; have f5_ := f3_.symm; clear f1_ f2_ f3_; subst f4_; subst f5_))
            refine hK.out _ _ ⟨(kC BK193.out 0).trans rfl, (kC BK193.out 1).trans rfl, (kC BK187.out 0).trans rfl, (kC BK187.out 1).trans rfl, ((HB.out.cell (lC w _ hw202_0)).trans hw202_0), ((HB.out.cell (lC w _ hw202_1)).trans hw202_1), ((HB.out.cell (lC w _ hw202_2)).trans hw202_2)⟩ (fun hHeld => ?_)
            clear hK K
            refine norm_ (a' := ?_) ?_ ?_
            rotate_left
            ·show Act.put _ (some 55) _ = _
             simp only [Act.put, s1, s2, s3, i64_w, i32_w]
             rfl
            refine pure_ (i := 9) (N := some 56) (v := ?_) (a' := ?_) #[T,T,T,T,T,T,T,T,T,T,F] rfl rfl (any_of HT_.out (by kernel_rfl)) (fun _ _ _ h => h) (Or.inl ⟨by rfl, ?_⟩) ?_ ?_
            rotate_left
            ·intro w'
             go_simp
             with_reducible rfl
            rotate_left
            ·simp only [Act.put, s1, s2, s3, i64_w, i32_w]
             rfl
            refine last_ (i := 10) (N := none) #[T,T,T,T,T,T,T,T,T,T,T] rfl rfl (one_of HT_.out (by kernel_rfl)) (by decide) (fun K hK => ?_)
            have hs60 : w58.cell? ⟨gb193, 1, none⟩ = some (.slice Ao53 y198.length co53) := (kC BK193.out 1).trans rfl
            have hfs60 := kF BK193.out 1
            have hns60_0 := NB187_193.out
            have hns60_1 := NB188_193.out
            have hns60_2 := NB189_193.out
            have hms60_0 := NB193_187.out
            have hms60_1 := NB193_188.out
            have hms60_2 := NB193_189.out
            refine skip_ (w1 := ?_) (by rfl) rfl ?_ ?_
            rotate_left
            ·go_simp
             rfl
            refine hK.out _ _ ?_
            clear hK K
            refine done_ (done_of HT_.out (by kernel_rfl)) ?_
            try go_wp2
            go_roundg kj17
            case measure => have := HK1.out; have := HJ17.out; omega
            case rel => exact ⟨(true), (wrap64 (x7_1 + 1)), (y203), (.slice Ao59 y203.length co59), (by first | rfl | (simp; done) | (simp [*]; done)), (by first | rfl | (simp; done) | (simp [*]; done)), H', ⟨by have := HK1.out; have := HJ17.out; omega⟩, ⟨by (with_reducible repeat (first | apply Kd.R_alloc | apply Kd.R_drewN | apply Kd.R_drew)); exact Kd.R_mono (Kd.R_far (p := ⟨gb193, 1, none⟩) (Kd.R_types HO205.out BK193.out (by decide)) (fun _ hk => hk.2) (.slice Ao59 y203.length co59)) (fun _ hk => hk.1)⟩, ⟨by (with_reducible repeat (first | refine kN ?_ _ | refine kD ?_ | refine kA ?_ _)); refine blk_far ?_ NB187_193.out _; (with_reducible repeat (first | refine kN ?_ _ | refine kD ?_ | refine kA ?_ _)); exact BK187.out⟩, ⟨by (with_reducible repeat (first | refine kN ?_ _ | refine kD ?_ | refine kA ?_ _)); refine blk_far ?_ NB188_193.out _; (with_reducible repeat (first | refine kN ?_ _ | refine kD ?_ | refine kA ?_ _)); exact BK188.out⟩, ⟨by (with_reducible repeat (first | refine kN ?_ _ | refine kD ?_ | refine kA ?_ _)); refine blk_far ?_ NB189_193.out _; (with_reducible repeat (first | refine kN ?_ _ | refine kD ?_ | refine kA ?_ _)); exact BK189.out⟩, ⟨by (with_reducible repeat (first | refine kN ?_ _ | refine kD ?_ | refine kA ?_ _)); refine blk_put (cs := #[.int .i64 a0_0, .slice Ao53 y198.length co53]) ?_ 1 _ rfl; (with_reducible repeat (first | refine kN ?_ _ | refine kD ?_ | refine kA ?_ _)); exact BK193.out⟩, ⟨by repeat (first | (with_reducible first | exact HB.out | apply bA | apply bN | apply bD | refine bS ?_ GE187.out | refine bS ?_ GE188.out | refine bS ?_ GE189.out | refine bS ?_ GE193.out) | exact HB.out)⟩⟩
           ·rw [if_neg c44] at H
            exact absurd H (by simp)
         ·rw [if_neg c30] at H
          exact absurd H (by simp)
        ·rw [if_neg c29] at H
         exact absurd H (by simp)
       ·rw [if_neg c28] at H
        exact absurd H (by simp)
      ·replace c27 := Bool.eq_false_iff.mpr c27
       subst c27
       have H1 : (if 0 ≤ x7_1 then (if x7_1 < (l0_1.length : Int) then (if ((rd_T69 l0_1 x7_1).f0).toList = a1_0.toList then (spec_l03Put.l0 kj17 x6_1 (wrap64 (x7_1 + 1)) a0_0 l0_1 a1_0 a1_1 a1_2 a0_0 x194001_1) else (if x194001_1.length < 3518437208883 then (spec_l03Put.l0 kj17 x6_1 (wrap64 (x7_1 + 1)) a0_0 l0_1 a1_0 a1_1 a1_2 a0_0 (x194001_1 ++ [(⟨(rd_T69 l0_1 x7_1).f0, (rd_T69 l0_1 x7_1).f1, (rd_T69 l0_1 x7_1).f2⟩ : S69)])) else (none))) else (none)) else (none)) = some (r1, r2) := by rw [if_neg (show ¬ (false = true) by decide)] at H; exact H
       clear H
       have H := H1
       clear H1
       by_cases c61 : 0 ≤ x7_1
       ·rw [if_pos c61] at H
        have c61b0 : decide (0 ≤ x7_1) = true := decide_eq_true c61
        clear c61
        by_cases c62 : x7_1 < (l0_1.length : Int)
        ·rw [if_pos c62] at H
         have c62b0 : decide (x7_1 < (l0_1.length : Int)) = true := decide_eq_true c62
         clear c62
         by_cases c63 : ((rd_T69 l0_1 x7_1).f0).toList = a1_0.toList
         ·rw [if_pos c63] at H
          have c63b0 : (((rd_T69 l0_1 x7_1).f0).toList == a1_0.toList) = true := beq_iff_eq.mpr c63
          have c63b1 : (((rd_T69 l0_1 x7_1).f0).toList != a1_0.toList) = false := bne_eq_false_iff_eq.mpr c63
          clear c63
          have H' := aM H
          clear H
          try go_wp2
          have n0_ := aM (Kd.R_drew HO_194001.out)
          have n1_ := aM (kD BK187.out)
          have n2_ := aM (kD BK188.out)
          have n3_ := aM (kD BK189.out)
          have n4_ := aM (kD BK193.out)
          have n5_ := aM (bD HB.out)
          clear HO_194001
          clear BK187
          clear BK188
          clear BK189
          clear BK193
          clear HB
          have HO_194001 := n0_
          have BK187 := n1_
          have BK188 := n2_
          have BK189 := n3_
          have BK193 := n4_
          have HB := n5_
          clear n0_ n1_ n2_ n3_ n4_ n5_
          have p206 : 0 ≤ (x7_1 : Int) := of_decide_eq_true (by assumption)
          have q206 : x7_1 < (l0_1.length : Int) := of_decide_eq_true (by assumption)
          obtain ⟨ad206, e206, hx206_0, hx206_1, hx206_2⟩ := at_T69 HR0_1.out x7_1 p206 q206
          have hw206_2 := hx206_2
          have hw206_1 := hx206_1
          have hw206_0 := hx206_0
          cases e206
          replace hx206_0 := (HB.out.cell (lC w _ hx206_0)).trans hx206_0
          replace hx206_1 := (HB.out.cell (lC w _ hx206_1)).trans hx206_1
          replace hx206_2 := (HB.out.cell (lC w _ hx206_2)).trans hx206_2
          replace p206 := eq_true p206
          replace q206 := eq_true q206
          refine start_ (n := 9) (S := fun w' => w'.cell? ⟨gb187, 0, none⟩ = some (.int .i64 a0_0) ∧ w'.cell? ⟨gb187, 1, none⟩ = some (.slice (some ad206) l0_1.length c0_1) ∧ w'.cell? ⟨gb188, 0, none⟩ = some (.string a1_0) ∧ w'.cell? ⟨gb188, 1, none⟩ = some (.string a1_1) ∧ w'.cell? ⟨gb188, 2, none⟩ = some (.int .i64 a1_2) ∧ w'.cell? (ad206.add ((x7_1).toNat * 3)) = some (.string ((rd_T69 l0_1 x7_1).f0)) ∧ w'.cell? ⟨(ad206.add ((x7_1).toNat * 3)).block, (ad206.add ((x7_1).toNat * 3)).off + 1, none⟩ = some (.string ((rd_T69 l0_1 x7_1).f1)) ∧ w'.cell? ⟨(ad206.add ((x7_1).toNat * 3)).block, (ad206.add ((x7_1).toNat * 3)).off + 2, none⟩ = some (.int .i64 ((rd_T69 l0_1 x7_1).f2))) (ds := []) #[F,F,F,F,F,F,F,F,F] (by kernel_rfl) rfl rfl ⟨(kC BK187.out 0).trans rfl, (kC BK187.out 1).trans rfl, (kC BK188.out 0).trans rfl, (kC BK188.out 1).trans rfl, (kC BK188.out 2).trans rfl, ((HB.out.cell (lC w _ hw206_0)).trans hw206_0), ((HB.out.cell (lC w _ hw206_1)).trans hw206_1), ((HB.out.cell (lC w _ hw206_2)).trans hw206_2)⟩ (fun hHeld => ?_); refine with_tabW spec_l03Put.tab9 spec_l03Put.bits9 (fun HT_ HW_ => ?_)
          generalize wc.drew = w64 at HO_194001 BK187 BK188 BK189 BK193 HB hx206_0 hx206_1 hx206_2 hHeld ⊢
          refine pure_ (i := 0) (N := some 38) (v := ?_) (a' := ?_) #[T,F,F,F,F,F,F,F,F] rfl rfl (any_of HT_.out (by kernel_rfl)) (fun _ _ _ h => h) (Or.inl ⟨by rfl, ?_⟩) ?_ ?_
          rotate_left
          ·intro w'
           go_simp
           with_reducible rfl
          rotate_left
          ·simp only [Act.put, s1, s2, s3, i64_w, i32_w]
           rfl
          refine pure_ (i := 2) (N := some 40) (v := ?_) (a' := ?_) #[T,F,T,F,F,F,F,F,F] rfl rfl (any_of HT_.out (by kernel_rfl)) (fun _ _ _ h => h) (Or.inl ⟨by rfl, ?_⟩) ?_ ?_
          rotate_left
          ·intro w'
           go_simp
           with_reducible rfl
          rotate_left
          ·simp only [Act.put, s1, s2, s3, i64_w, i32_w]
           rfl
          refine pure_ (i := 6) (N := some 44) (v := ?_) (a' := ?_) #[T,F,T,F,F,F,T,F,F] rfl rfl (any_of HT_.out (by kernel_rfl)) (fun _ _ _ h => h) (Or.inl ⟨by rfl, ?_⟩) ?_ ?_
          rotate_left
          ·intro w'
           go_simp
           with_reducible rfl
          rotate_left
          ·simp only [Act.put, s1, s2, s3, i64_w, i32_w]
           rfl
          refine take_ (i := 1) (N := some 39) (v := ?_) (a' := ?_) #[T,T,T,F,F,F,T,F,F] rfl rfl (take_ofW HT_.out HW_.out (by kernel_rfl)) (fun _ _ _ h => h) (Or.inl ⟨by rfl, ?_⟩) hHeld ?_ ?_
          rotate_left
          ·rintro w' ⟨s0, s1, s2, s3, s4, s5, s6, s7⟩
           go_simp
           with_reducible rfl
          rotate_left
          ·simp only [Act.put, s1, s2, s3, i64_w, i32_w]
           rfl
          refine pure_ (i := 3) (N := some 41) (v := ?_) (a' := ?_) #[T,T,T,T,F,F,T,F,F] rfl rfl (any_of HT_.out (by kernel_rfl)) (fun _ _ _ h => h) (Or.inl ⟨by rfl, ?_⟩) ?_ ?_
          rotate_left
          ·intro w'
           go_simp
           with_reducible rfl
          rotate_left
          ·simp only [Act.put, s1, s2, s3, i64_w, i32_w]
           rfl
          refine pure_ (i := 4) (N := some 42) (v := ?_) (a' := ?_) #[T,T,T,T,T,F,T,F,F] rfl rfl (any_of HT_.out (by kernel_rfl)) (fun _ _ _ h => h) (Or.inl ⟨by rfl, ?_⟩) ?_ ?_
          rotate_left
          ·intro w'
           go_simp
           with_reducible rfl
          rotate_left
          ·simp only [Act.put, s1, s2, s3, i64_w, i32_w]
           rfl
          refine take_ (i := 5) (N := some 43) (v := ?_) (a' := ?_) #[T,T,T,T,T,T,T,F,F] rfl rfl (take_ofW HT_.out HW_.out (by kernel_rfl)) (fun _ _ _ h => h) (Or.inl ⟨by rfl, ?_⟩) hHeld ?_ ?_
          rotate_left
          ·rintro w' ⟨s0, s1, s2, s3, s4, s5, s6, s7⟩
           go_simp
           with_reducible rfl
          rotate_left
          ·simp only [Act.put, s1, s2, s3, i64_w, i32_w]
           rfl
          refine take_ (i := 7) (N := some 45) (v := ?_) (a' := ?_) #[T,T,T,T,T,T,T,T,F] rfl rfl (take_ofW HT_.out HW_.out (by kernel_rfl)) (fun _ _ _ h => h) (Or.inl ⟨by rfl, ?_⟩) hHeld ?_ ?_
          rotate_left
          ·rintro w' ⟨s0, s1, s2, s3, s4, s5, s6, s7⟩
           go_simp
           with_reducible rfl
          rotate_left
          ·simp only [Act.put, s1, s2, s3, i64_w, i32_w]
           rfl
          refine pure_ (i := 8) (N := some 46) (v := ?_) (a' := ?_) #[T,T,T,T,T,T,T,T,T] rfl rfl (any_of HT_.out (by kernel_rfl)) (fun _ _ _ h => h) (Or.inl ⟨by rfl, ?_⟩) ?_ ?_
          rotate_left
          ·intro w'
           go_simp
           with_reducible rfl
          rotate_left
          ·simp only [Act.put, s1, s2, s3, i64_w, i32_w]
           rfl
          refine done_ (done_of HT_.out (by kernel_rfl)) ?_
          try go_wp2
          go_roundg kj17
          case measure => have := HK1.out; have := HJ17.out; omega
          case rel => exact ⟨(x6_1), (wrap64 (x7_1 + 1)), (x194001_1), (u194001), (by first | rfl | (simp; done) | (simp [*]; done)), (by first | rfl | (simp; done) | (simp [*]; done)), H', ⟨by have := HK1.out; have := HJ17.out; omega⟩, ⟨by (with_reducible repeat (first | apply Kd.R_alloc | apply Kd.R_drewN | apply Kd.R_drew)); exact HO_194001.out⟩, ⟨by (with_reducible repeat (first | refine kN ?_ _ | refine kD ?_ | refine kA ?_ _)); exact BK187.out⟩, ⟨by (with_reducible repeat (first | refine kN ?_ _ | refine kD ?_ | refine kA ?_ _)); exact BK188.out⟩, ⟨by (with_reducible repeat (first | refine kN ?_ _ | refine kD ?_ | refine kA ?_ _)); exact BK189.out⟩, ⟨by (with_reducible repeat (first | refine kN ?_ _ | refine kD ?_ | refine kA ?_ _)); exact BK193.out⟩, ⟨by repeat (first | (with_reducible first | exact HB.out | apply bA | apply bN | apply bD | refine bS ?_ GE187.out | refine bS ?_ GE188.out | refine bS ?_ GE189.out | refine bS ?_ GE193.out) | exact HB.out)⟩⟩
         ·rw [if_neg c63] at H
          have c63b0 : (((rd_T69 l0_1 x7_1).f0).toList == a1_0.toList) = false := beq_eq_false_iff_ne.mpr c63
          have c63b1 : (((rd_T69 l0_1 x7_1).f0).toList != a1_0.toList) = true := bne_iff_ne.mpr c63
          by_cases c65 : x194001_1.length < 3518437208883
          ·rw [if_pos c65] at H
           have LMc65 := aM c65
           clear c65
           obtain ⟨y208, hy208⟩ : ∃ y_ : List (S69), y_ = (x194001_1 ++ [(⟨(rd_T69 l0_1 x7_1).f0, (rd_T69 l0_1 x7_1).f1, (rd_T69 l0_1 x7_1).f2⟩ : S69)]) := ⟨_, rfl⟩
           replace H : (spec_l03Put.l0 kj17 x6_1 (wrap64 (x7_1 + 1)) a0_0 l0_1 a1_0 a1_1 a1_2 a0_0 y208) = some (r1, r2) := by first | (rw [hy208]; with_reducible exact H) | (have H2_ := (Option.bind_some _ _).symm.trans H; rw [hy208]; with_reducible exact H2_) | (have H2_ := (Option.bind_some _ _).symm.trans H; with_reducible exact H2_) | with_reducible exact H | (rw [hy208]; exact H) | exact H
           have Ny208 := aM hy208
           clear hy208
           have H' := aM H
           clear H
           try go_wp2
           have n0_ := aM (Kd.R_drew HO_194001.out)
           have n1_ := aM (kD BK187.out)
           have n2_ := aM (kD BK188.out)
           have n3_ := aM (kD BK189.out)
           have n4_ := aM (kD BK193.out)
           have n5_ := aM (bD HB.out)
           clear HO_194001
           clear BK187
           clear BK188
           clear BK189
           clear BK193
           clear HB
           have HO_194001 := n0_
           have BK187 := n1_
           have BK188 := n2_
           have BK189 := n3_
           have BK193 := n4_
           have HB := n5_
           clear n0_ n1_ n2_ n3_ n4_ n5_
           have p206 : 0 ≤ (x7_1 : Int) := of_decide_eq_true (by assumption)
           have q206 : x7_1 < (l0_1.length : Int) := of_decide_eq_true (by assumption)
           obtain ⟨ad206, e206, hx206_0, hx206_1, hx206_2⟩ := at_T69 HR0_1.out x7_1 p206 q206
           have hw206_2 := hx206_2
           have hw206_1 := hx206_1
           have hw206_0 := hx206_0
           cases e206
           replace hx206_0 := (HB.out.cell (lC w _ hx206_0)).trans hx206_0
           replace hx206_1 := (HB.out.cell (lC w _ hx206_1)).trans hx206_1
           replace hx206_2 := (HB.out.cell (lC w _ hx206_2)).trans hx206_2
           replace p206 := eq_true p206
           replace q206 := eq_true q206
           refine start_ (n := 9) (S := fun w' => w'.cell? ⟨gb187, 0, none⟩ = some (.int .i64 a0_0) ∧ w'.cell? ⟨gb187, 1, none⟩ = some (.slice (some ad206) l0_1.length c0_1) ∧ w'.cell? ⟨gb188, 0, none⟩ = some (.string a1_0) ∧ w'.cell? ⟨gb188, 1, none⟩ = some (.string a1_1) ∧ w'.cell? ⟨gb188, 2, none⟩ = some (.int .i64 a1_2) ∧ w'.cell? (ad206.add ((x7_1).toNat * 3)) = some (.string ((rd_T69 l0_1 x7_1).f0)) ∧ w'.cell? ⟨(ad206.add ((x7_1).toNat * 3)).block, (ad206.add ((x7_1).toNat * 3)).off + 1, none⟩ = some (.string ((rd_T69 l0_1 x7_1).f1)) ∧ w'.cell? ⟨(ad206.add ((x7_1).toNat * 3)).block, (ad206.add ((x7_1).toNat * 3)).off + 2, none⟩ = some (.int .i64 ((rd_T69 l0_1 x7_1).f2))) (ds := []) #[F,F,F,F,F,F,F,F,F] (by kernel_rfl) rfl rfl ⟨(kC BK187.out 0).trans rfl, (kC BK187.out 1).trans rfl, (kC BK188.out 0).trans rfl, (kC BK188.out 1).trans rfl, (kC BK188.out 2).trans rfl, ((HB.out.cell (lC w _ hw206_0)).trans hw206_0), ((HB.out.cell (lC w _ hw206_1)).trans hw206_1), ((HB.out.cell (lC w _ hw206_2)).trans hw206_2)⟩ (fun hHeld => ?_); refine with_tabW spec_l03Put.tab9 spec_l03Put.bits9 (fun HT_ HW_ => ?_)
           generalize wc.drew = w66 at HO_194001 BK187 BK188 BK189 BK193 HB hx206_0 hx206_1 hx206_2 hHeld ⊢
           refine pure_ (i := 0) (N := some 38) (v := ?_) (a' := ?_) #[T,F,F,F,F,F,F,F,F] rfl rfl (any_of HT_.out (by kernel_rfl)) (fun _ _ _ h => h) (Or.inl ⟨by rfl, ?_⟩) ?_ ?_
           rotate_left
           ·intro w'
            go_simp
            with_reducible rfl
           rotate_left
           ·simp only [Act.put, s1, s2, s3, i64_w, i32_w]
            rfl
           refine pure_ (i := 2) (N := some 40) (v := ?_) (a' := ?_) #[T,F,T,F,F,F,F,F,F] rfl rfl (any_of HT_.out (by kernel_rfl)) (fun _ _ _ h => h) (Or.inl ⟨by rfl, ?_⟩) ?_ ?_
           rotate_left
           ·intro w'
            go_simp
            with_reducible rfl
           rotate_left
           ·simp only [Act.put, s1, s2, s3, i64_w, i32_w]
            rfl
           refine pure_ (i := 6) (N := some 44) (v := ?_) (a' := ?_) #[T,F,T,F,F,F,T,F,F] rfl rfl (any_of HT_.out (by kernel_rfl)) (fun _ _ _ h => h) (Or.inl ⟨by rfl, ?_⟩) ?_ ?_
           rotate_left
           ·intro w'
            go_simp
            with_reducible rfl
           rotate_left
           ·simp only [Act.put, s1, s2, s3, i64_w, i32_w]
            rfl
           refine take_ (i := 1) (N := some 39) (v := ?_) (a' := ?_) #[T,T,T,F,F,F,T,F,F] rfl rfl (take_ofW HT_.out HW_.out (by kernel_rfl)) (fun _ _ _ h => h) (Or.inl ⟨by rfl, ?_⟩) hHeld ?_ ?_
           rotate_left
           ·rintro w' ⟨s0, s1, s2, s3, s4, s5, s6, s7⟩
            go_simp
            with_reducible rfl
           rotate_left
           ·simp only [Act.put, s1, s2, s3, i64_w, i32_w]
            rfl
           refine pure_ (i := 3) (N := some 41) (v := ?_) (a' := ?_) #[T,T,T,T,F,F,T,F,F] rfl rfl (any_of HT_.out (by kernel_rfl)) (fun _ _ _ h => h) (Or.inl ⟨by rfl, ?_⟩) ?_ ?_
           rotate_left
           ·intro w'
            go_simp
            with_reducible rfl
           rotate_left
           ·simp only [Act.put, s1, s2, s3, i64_w, i32_w]
            rfl
           refine pure_ (i := 4) (N := some 42) (v := ?_) (a' := ?_) #[T,T,T,T,T,F,T,F,F] rfl rfl (any_of HT_.out (by kernel_rfl)) (fun _ _ _ h => h) (Or.inl ⟨by rfl, ?_⟩) ?_ ?_
           rotate_left
           ·intro w'
            go_simp
            with_reducible rfl
           rotate_left
           ·simp only [Act.put, s1, s2, s3, i64_w, i32_w]
            rfl
           refine take_ (i := 5) (N := some 43) (v := ?_) (a' := ?_) #[T,T,T,T,T,T,T,F,F] rfl rfl (take_ofW HT_.out HW_.out (by kernel_rfl)) (fun _ _ _ h => h) (Or.inl ⟨by rfl, ?_⟩) hHeld ?_ ?_
           rotate_left
           ·rintro w' ⟨s0, s1, s2, s3, s4, s5, s6, s7⟩
            go_simp
            with_reducible rfl
           rotate_left
           ·simp only [Act.put, s1, s2, s3, i64_w, i32_w]
            rfl
           refine take_ (i := 7) (N := some 45) (v := ?_) (a' := ?_) #[T,T,T,T,T,T,T,T,F] rfl rfl (take_ofW HT_.out HW_.out (by kernel_rfl)) (fun _ _ _ h => h) (Or.inl ⟨by rfl, ?_⟩) hHeld ?_ ?_
           rotate_left
           ·rintro w' ⟨s0, s1, s2, s3, s4, s5, s6, s7⟩
            go_simp
            with_reducible rfl
           rotate_left
           ·simp only [Act.put, s1, s2, s3, i64_w, i32_w]
            rfl
           refine pure_ (i := 8) (N := some 46) (v := ?_) (a' := ?_) #[T,T,T,T,T,T,T,T,T] rfl rfl (any_of HT_.out (by kernel_rfl)) (fun _ _ _ h => h) (Or.inl ⟨by rfl, ?_⟩) ?_ ?_
           rotate_left
           ·intro w'
            go_simp
            with_reducible rfl
           rotate_left
           ·simp only [Act.put, s1, s2, s3, i64_w, i32_w]
            rfl
           refine done_ (done_of HT_.out (by kernel_rfl)) ?_
           try go_wp2
           have n0_ := aM (Kd.R_drew HO_194001.out)
           have n1_ := aM (kD BK187.out)
           have n2_ := aM (kD BK188.out)
           have n3_ := aM (kD BK189.out)
           have n4_ := aM (kD BK193.out)
           have n5_ := aM (bD HB.out)
           clear HO_194001
           clear BK187
           clear BK188
           clear BK189
           clear BK193
           clear HB
           have HO_194001 := n0_
           have BK187 := n1_
           have BK188 := n2_
           have BK189 := n3_
           have BK193 := n4_
           have HB := n5_
           clear n0_ n1_ n2_ n3_ n4_ n5_
           have p207 : 0 ≤ (x7_1 : Int) := of_decide_eq_true (by assumption)
           have q207 : x7_1 < (l0_1.length : Int) := of_decide_eq_true (by assumption)
           obtain ⟨ad207, e207, hx207_0, hx207_1, hx207_2⟩ := at_T69 HR0_1.out x7_1 p207 q207
           have hw207_2 := hx207_2
           have hw207_1 := hx207_1
           have hw207_0 := hx207_0
           obtain rfl : ad206 = ad207 := (by injection e207)
           replace hx207_0 := (HB.out.cell (lC w _ hx207_0)).trans hx207_0
           replace hx207_1 := (HB.out.cell (lC w _ hx207_1)).trans hx207_1
           replace hx207_2 := (HB.out.cell (lC w _ hx207_2)).trans hx207_2
           replace p207 := eq_true p207
           replace q207 := eq_true q207
           refine start_ (n := 11) (S := fun w' => w'.cell? ⟨gb193, 0, none⟩ = some (.int .i64 a0_0) ∧ w'.cell? ⟨gb193, 1, none⟩ = some (u194001) ∧ w'.cell? ⟨gb187, 0, none⟩ = some (.int .i64 a0_0) ∧ w'.cell? ⟨gb187, 1, none⟩ = some (.slice (some ad206) l0_1.length c0_1) ∧ w'.cell? (ad206.add ((x7_1).toNat * 3)) = some (.string ((rd_T69 l0_1 x7_1).f0)) ∧ w'.cell? ⟨(ad206.add ((x7_1).toNat * 3)).block, (ad206.add ((x7_1).toNat * 3)).off + 1, none⟩ = some (.string ((rd_T69 l0_1 x7_1).f1)) ∧ w'.cell? ⟨(ad206.add ((x7_1).toNat * 3)).block, (ad206.add ((x7_1).toNat * 3)).off + 2, none⟩ = some (.int .i64 ((rd_T69 l0_1 x7_1).f2))) (ds := [10]) #[F,F,F,F,F,F,F,F,F,F,F] (by kernel_rfl) rfl rfl ⟨(kC BK193.out 0).trans rfl, (kC BK193.out 1).trans rfl, (kC BK187.out 0).trans rfl, (kC BK187.out 1).trans rfl, ((HB.out.cell (lC w _ hw207_0)).trans hw207_0), ((HB.out.cell (lC w _ hw207_1)).trans hw207_1), ((HB.out.cell (lC w _ hw207_2)).trans hw207_2)⟩ (fun hHeld => ?_); refine with_tabW spec_l03Put.tab10 spec_l03Put.bits10 (fun HT_ HW_ => ?_)
           generalize w66.drew = w67 at HO_194001 BK187 BK188 BK189 BK193 HB hx207_0 hx207_1 hx207_2 hHeld ⊢
           refine pure_ (i := 0) (N := some 47) (v := ?_) (a' := ?_) #[T,F,F,F,F,F,F,F,F,F,F] rfl rfl (any_of HT_.out (by kernel_rfl)) (fun _ _ _ h => h) (Or.inl ⟨by rfl, ?_⟩) ?_ ?_
           rotate_left
           ·intro w'
            go_simp
            with_reducible rfl
           rotate_left
           ·simp only [Act.put, s1, s2, s3, i64_w, i32_w]
            rfl
           refine pure_ (i := 2) (N := some 49) (v := ?_) (a' := ?_) #[T,F,T,F,F,F,F,F,F,F,F] rfl rfl (any_of HT_.out (by kernel_rfl)) (fun _ _ _ h => h) (Or.inl ⟨by rfl, ?_⟩) ?_ ?_
           rotate_left
           ·intro w'
            go_simp
            with_reducible rfl
           rotate_left
           ·simp only [Act.put, s1, s2, s3, i64_w, i32_w]
            rfl
           refine pure_ (i := 4) (N := some 51) (v := ?_) (a' := ?_) #[T,F,T,F,T,F,F,F,F,F,F] rfl rfl (any_of HT_.out (by kernel_rfl)) (fun _ _ _ h => h) (Or.inl ⟨by rfl, ?_⟩) ?_ ?_
           rotate_left
           ·intro w'
            go_simp
            with_reducible rfl
           rotate_left
           ·simp only [Act.put, s1, s2, s3, i64_w, i32_w]
            rfl
           refine take_ (i := 1) (N := some 48) (v := ?_) (a' := ?_) #[T,T,T,F,T,F,F,F,F,F,F] rfl rfl (take_ofW HT_.out HW_.out (by kernel_rfl)) (fun _ _ _ h => h) (Or.inl ⟨by rfl, ?_⟩) hHeld ?_ ?_
           rotate_left
           ·rintro w' ⟨s0, s1, s2, s3, s4, s5, s6⟩
            go_simp
            with_reducible rfl
           rotate_left
           ·simp only [Act.put, s1, s2, s3, i64_w, i32_w]
            rfl
           refine take_ (i := 3) (N := some 50) (v := ?_) (a' := ?_) #[T,T,T,T,T,F,F,F,F,F,F] rfl rfl (take_ofW HT_.out HW_.out (by kernel_rfl)) (fun _ _ _ h => h) (Or.inl ⟨by rfl, ?_⟩) hHeld ?_ ?_
           rotate_left
           ·rintro w' ⟨s0, s1, s2, s3, s4, s5, s6⟩
            go_simp
            with_reducible rfl
           rotate_left
           ·simp only [Act.put, s1, s2, s3, i64_w, i32_w]
            rfl
           refine pure_ (i := 5) (N := some 52) (v := ?_) (a' := ?_) #[T,T,T,T,T,T,F,F,F,F,F] rfl rfl (any_of HT_.out (by kernel_rfl)) (fun _ _ _ h => h) (Or.inl ⟨by rfl, ?_⟩) ?_ ?_
           rotate_left
           ·intro w'
            go_simp
            with_reducible rfl
           rotate_left
           ·simp only [Act.put, s1, s2, s3, i64_w, i32_w]
            rfl
           refine take_ (i := 6) (N := some 53) (v := ?_) (a' := ?_) #[T,T,T,T,T,T,T,F,F,F,F] rfl rfl (take_ofW HT_.out HW_.out (by kernel_rfl)) (fun _ _ _ h => h) (Or.inl ⟨by rfl, ?_⟩) hHeld ?_ ?_
           rotate_left
           ·rintro w' ⟨s0, s1, s2, s3, s4, s5, s6⟩
            go_simp
            with_reducible rfl
           rotate_left
           ·simp only [Act.put, s1, s2, s3, i64_w, i32_w]
            rfl
           refine one_ (i := 7) (N := some 54) #[T,T,T,T,T,T,T,T,F,F,F] rfl rfl (one_of HT_.out (by kernel_rfl)) (by decide) (fun K hK => ?_)
           refine value_ (w1 := ?_) (v := ?_) (by rfl) rfl ?_ ?_
           rotate_left 2
           ·go_simp
            constructor
            ·rfl
            ·rfl
           refine hK.out _ _ ⟨(kC (kA BK193.out _) 0).trans rfl, (kC (kA BK193.out _) 1).trans rfl, (kC (kA BK187.out _) 0).trans rfl, (kC (kA BK187.out _) 1).trans rfl, (World.cell?_alloc_lt _ _ _ (lC _ _ (((HB.out.cell (lC w _ hw207_0)).trans hw207_0)))).trans (((HB.out.cell (lC w _ hw207_0)).trans hw207_0)), (World.cell?_alloc_lt _ _ _ (lC _ _ (((HB.out.cell (lC w _ hw207_1)).trans hw207_1)))).trans (((HB.out.cell (lC w _ hw207_1)).trans hw207_1)), (World.cell?_alloc_lt _ _ _ (lC _ _ (((HB.out.cell (lC w _ hw207_2)).trans hw207_2)))).trans (((HB.out.cell (lC w _ hw207_2)).trans hw207_2))⟩ (fun hHeld => ?_)
           clear hK K
           refine norm_ (a' := ?_) ?_ ?_
           rotate_left
           ·show Act.put _ (some 54) _ = _
            simp only [Act.put, s1, s2, s3, i64_w, i32_w]
            rfl
           refine one_ (i := 8) (N := some 55) #[T,T,T,T,T,T,T,T,T,F,F] rfl rfl (one_of HT_.out (by kernel_rfl)) (by decide) (fun K hK => ?_)
           refine Kd.R_append_step k69 (w0 := w) w.heap.size (by rfl) (.tmp 48) (.tmp 54) 31 69 (.agg #[(.string ⟨#[]⟩), (.string ⟨#[]⟩), (.int .i64 0)]) 40 rfl Tryd.underlying31 info69 rfl (by decide) (by omega) u194001 x194001_1 (⟨(rd_T69 l0_1 x7_1).f0, (rd_T69 l0_1 x7_1).f1, (rd_T69 l0_1 x7_1).f2⟩ : S69) [.string ((rd_T69 l0_1 x7_1).f0), .string ((rd_T69 l0_1 x7_1).f1), .int .i64 ((rd_T69 l0_1 x7_1).f2)] (fun k_ => k_ ≠ gb188) (fun _ => False) rfl rfl ?aP (fun _ hk => hk.elim) ?aF ?aO ?aB ?aS ?aL ?_
           (case aP => exact k69_mkM _ _ _ (⟨(rd_T69 l0_1 x7_1).f0, (rd_T69 l0_1 x7_1).f1, (rd_T69 l0_1 x7_1).f2⟩ : S69))
           (case aB => exact (by repeat (first | (with_reducible first | exact HB.out | apply bA | apply bN | apply bD | refine bS ?_ GE187.out | refine bS ?_ GE188.out | refine bS ?_ GE189.out | refine bS ?_ GE193.out) | exact HB.out)))
           (case aF => exact (fun k_ hk => Kd.freshB (g := gb188) (o := .cells #[.string a1_0, .string a1_1, .int .i64 a1_2] 69 (0, 0)) (by (with_reducible repeat (first | refine kN ?_ _ | refine kD ?_ | refine kA ?_ _)); exact BK188.out) k_ hk))
           (case aO => exact (by (with_reducible repeat (first | apply Kd.R_alloc | apply Kd.R_drewN | apply Kd.R_drew)); exact HO_194001.out))
           (case aS => exact (below_size (by repeat (first | (with_reducible first | exact HB.out | apply bA | apply bN | apply bD | refine bS ?_ GE187.out | refine bS ?_ GE188.out | refine bS ?_ GE189.out | refine bS ?_ GE193.out) | exact HB.out))))
           (case aL => have := LMc65.out; omega)
           intro v209 w68 ho hb hg hat
           rw [← Ny208.out] at ho
           have n0_ := aM (blk_grown (g := gb187) (o := .cells #[.int .i64 a0_0, .slice (some ad206) l0_1.length c0_1] 33 (0, 0)) (by (with_reducible repeat (first | refine kN ?_ _ | refine kD ?_ | refine kA ?_ _)); exact BK187.out) hg (Kd.R_ne HO_194001.out BK187.out (by decide)))
           have n1_ := aM (blk_grown (g := gb188) (o := .cells #[.string a1_0, .string a1_1, .int .i64 a1_2] 69 (0, 0)) (by (with_reducible repeat (first | refine kN ?_ _ | refine kD ?_ | refine kA ?_ _)); exact BK188.out) hg (Kd.R_away HO_194001.out (fun _ hk => hk)))
           have n2_ := aM (blk_grown (g := gb189) (o := .cells #[.int .i64 0, .slice none 0 0] 33 (0, 0)) (by (with_reducible repeat (first | refine kN ?_ _ | refine kD ?_ | refine kA ?_ _)); exact BK189.out) hg (Kd.R_ne HO_194001.out BK189.out (by decide)))
           have n3_ := aM (blk_grown (g := gb193) (o := .cells #[.int .i64 a0_0, u194001] 33 (0, 0)) (by (with_reducible repeat (first | refine kN ?_ _ | refine kD ?_ | refine kA ?_ _)); exact BK193.out) hg (Kd.R_ne HO_194001.out BK193.out (by decide)))
           have n4_ := aM (hb)
           have n5_ := aM (ho)
           clear BK187
           clear BK188
           clear BK189
           clear BK193
           clear HB
           clear HO_194001
           have BK187 := n0_
           have BK188 := n1_
           have BK189 := n2_
           have BK193 := n3_
           have HB := n4_
           have HO210 := n5_
           clear n0_ n1_ n2_ n3_ n4_ n5_
           clear ho hb hg hat
           obtain ⟨Ao69, co69, eo69⟩ := Kd.R_slice HO210.out
           (first | subst eo69 | (injection eo69 with f1_ f2_ f3_; have f4_ := f1_.symm; have f5_ := f3_.symm; clear f1_ f2_ f3_; subst f4_; subst f5_))
           refine hK.out _ _ ⟨(kC BK193.out 0).trans rfl, (kC BK193.out 1).trans rfl, (kC BK187.out 0).trans rfl, (kC BK187.out 1).trans rfl, ((HB.out.cell (lC w _ hw207_0)).trans hw207_0), ((HB.out.cell (lC w _ hw207_1)).trans hw207_1), ((HB.out.cell (lC w _ hw207_2)).trans hw207_2)⟩ (fun hHeld => ?_)
           clear hK K
           refine norm_ (a' := ?_) ?_ ?_
           rotate_left
           ·show Act.put _ (some 55) _ = _
            simp only [Act.put, s1, s2, s3, i64_w, i32_w]
            rfl
           refine pure_ (i := 9) (N := some 56) (v := ?_) (a' := ?_) #[T,T,T,T,T,T,T,T,T,T,F] rfl rfl (any_of HT_.out (by kernel_rfl)) (fun _ _ _ h => h) (Or.inl ⟨by rfl, ?_⟩) ?_ ?_
           rotate_left
           ·intro w'
            go_simp
            with_reducible rfl
           rotate_left
           ·simp only [Act.put, s1, s2, s3, i64_w, i32_w]
            rfl
           refine last_ (i := 10) (N := none) #[T,T,T,T,T,T,T,T,T,T,T] rfl rfl (one_of HT_.out (by kernel_rfl)) (by decide) (fun K hK => ?_)
           have hs70 : w68.cell? ⟨gb193, 1, none⟩ = some (u194001) := (kC BK193.out 1).trans rfl
           have hfs70 := kF BK193.out 1
           have hns70_0 := NB187_193.out
           have hns70_1 := NB188_193.out
           have hns70_2 := NB189_193.out
           have hms70_0 := NB193_187.out
           have hms70_1 := NB193_188.out
           have hms70_2 := NB193_189.out
           refine skip_ (w1 := ?_) (by rfl) rfl ?_ ?_
           rotate_left
           ·go_simp
            rfl
           refine hK.out _ _ ?_
           clear hK K
           refine done_ (done_of HT_.out (by kernel_rfl)) ?_
           try go_wp2
           go_roundg kj17
           case measure => have := HK1.out; have := HJ17.out; omega
           case rel => exact ⟨(x6_1), (wrap64 (x7_1 + 1)), (y208), (.slice Ao69 y208.length co69), (by first | rfl | (simp; done) | (simp [*]; done)), (by first | rfl | (simp; done) | (simp [*]; done)), H', ⟨by have := HK1.out; have := HJ17.out; omega⟩, ⟨by (with_reducible repeat (first | apply Kd.R_alloc | apply Kd.R_drewN | apply Kd.R_drew)); exact Kd.R_mono (Kd.R_far (p := ⟨gb193, 1, none⟩) (Kd.R_types HO210.out BK193.out (by decide)) (fun _ hk => hk.2) (.slice Ao69 y208.length co69)) (fun _ hk => hk.1)⟩, ⟨by (with_reducible repeat (first | refine kN ?_ _ | refine kD ?_ | refine kA ?_ _)); refine blk_far ?_ NB187_193.out _; (with_reducible repeat (first | refine kN ?_ _ | refine kD ?_ | refine kA ?_ _)); exact BK187.out⟩, ⟨by (with_reducible repeat (first | refine kN ?_ _ | refine kD ?_ | refine kA ?_ _)); refine blk_far ?_ NB188_193.out _; (with_reducible repeat (first | refine kN ?_ _ | refine kD ?_ | refine kA ?_ _)); exact BK188.out⟩, ⟨by (with_reducible repeat (first | refine kN ?_ _ | refine kD ?_ | refine kA ?_ _)); refine blk_far ?_ NB189_193.out _; (with_reducible repeat (first | refine kN ?_ _ | refine kD ?_ | refine kA ?_ _)); exact BK189.out⟩, ⟨by (with_reducible repeat (first | refine kN ?_ _ | refine kD ?_ | refine kA ?_ _)); refine blk_put (cs := #[.int .i64 a0_0, u194001]) ?_ 1 _ rfl; (with_reducible repeat (first | refine kN ?_ _ | refine kD ?_ | refine kA ?_ _)); exact BK193.out⟩, ⟨by repeat (first | (with_reducible first | exact HB.out | apply bA | apply bN | apply bD | refine bS ?_ GE187.out | refine bS ?_ GE188.out | refine bS ?_ GE189.out | refine bS ?_ GE193.out) | exact HB.out)⟩⟩
          ·rw [if_neg c65] at H
           exact absurd H (by simp)
        ·rw [if_neg c62] at H
         exact absurd H (by simp)
       ·rw [if_neg c61] at H
        exact absurd H (by simp)
   ·rw [if_neg c17] at H
    have c17b0 : decide (x7_1 < (l0_1.length : Int)) = false := decide_eq_false c17
    clear c17
    by_cases c71 : x6_1 = true
    ·subst c71
     have H1 : (some (a0_0, x194001_1)) = some (r1, r2) := by rw [if_pos rfl] at H; exact H
     clear H
     have H := H1
     clear H1
     simp only [Option.some.injEq, Prod.mk.injEq] at H
     obtain ⟨rfl, rfl⟩ := H
     have hnb72 := NB187_188.out
     have hnc72 := NB188_187.out
     have hnb73 := NB187_189.out
     have hnc73 := NB189_187.out
     have hnb74 := NB187_193.out
     have hnc74 := NB193_187.out
     have hcz75_0 : wr.cell? ⟨gb187, 0, none⟩ = some (.int .i64 a0_0) := (kC BK187.out 0).trans rfl
     have hcz75_1 : wr.cell? ⟨gb187, 1, none⟩ = some (.slice A0_1 l0_1.length c0_1) := (kC BK187.out 1).trans rfl
     have hfz75_0 := kF BK187.out 0
     have hfz75_1 := kF BK187.out 1
     have hnb76 := NB193_188.out
     have hnc76 := NB188_193.out
     have hnb77 := NB193_189.out
     have hnc77 := NB189_193.out
     have hcz78_0 : wr.cell? ⟨gb193, 0, none⟩ = some (.int .i64 a0_0) := (kC BK193.out 0).trans rfl
     have hcz78_1 : wr.cell? ⟨gb193, 1, none⟩ = some (u194001) := (kC BK193.out 1).trans rfl
     have hfz78_0 := kF BK193.out 0
     have hfz78_1 := kF BK193.out 1
     have hnb79 := NB189_188.out
     have hnc79 := NB188_189.out
     have hcz80_0 : wr.cell? ⟨gb189, 0, none⟩ = some (.int .i64 0) := (kC BK189.out 0).trans rfl
     have hcz80_1 : wr.cell? ⟨gb189, 1, none⟩ = some (.slice none 0 0) := (kC BK189.out 1).trans rfl
     have hfz80_0 := kF BK189.out 0
     have hfz80_1 := kF BK189.out 1
     obtain ⟨Ao81, co81, eo81⟩ := Kd.R_slice HO_194001.out
     subst eo81
     go_wp2
     refine bodyPost_ret (results_cell_row rfl _ _ gb189 33 #[.int .i64 a0_0, .slice Ao81 x194001_1.length co81] (0, 0) _ rfl (by (with_reducible repeat (first | refine kN ?_ _ | refine kD ?_ | refine kA ?_ _)); refine blk_put (cs := #[.int .i64 a0_0, .slice none 0 0]) ?_ 1 _ rfl; (with_reducible repeat (first | refine kN ?_ _ | refine kD ?_ | refine kA ?_ _)); refine blk_put (cs := #[.int .i64 0, .slice none 0 0]) ?_ 0 _ rfl; (with_reducible repeat (first | refine kN ?_ _ | refine kD ?_ | refine kA ?_ _)); exact BK189.out) Tryd.underlying33 rfl (by kernel_rfl)) rfl ?_
     exact ⟨_, by first | rfl | (simp [errW_none, errW_some] <;> rfl) | (simp [*, errW_none, errW_some] <;> rfl), by (with_reducible repeat (first | apply Kd.R_alloc | apply Kd.R_drewN | apply Kd.R_drew)); exact Kd.R_mono (Kd.R_far (p := ⟨gb189, 1, none⟩) (Kd.R_far (p := ⟨gb189, 0, none⟩) (Kd.R_types HO_194001.out BK189.out (by decide)) (fun _ hk => hk.2) (.int .i64 a0_0)) (fun _ hk => hk.2) (.slice Ao81 x194001_1.length co81)) (fun _ hk => trivial), by repeat (first | (with_reducible first | exact HB.out | apply bA | apply bN | apply bD | refine bS ?_ GE187.out | refine bS ?_ GE188.out | refine bS ?_ GE189.out | refine bS ?_ GE193.out) | exact HB.out)⟩
    ·replace c71 := Bool.eq_false_iff.mpr c71
     subst c71
     have H1 : (if x194001_1.length < 3518437208883 then (some (a0_0, (x194001_1 ++ [(⟨a1_0, a1_1, a1_2⟩ : S69)]))) else (none)) = some (r1, r2) := by rw [if_neg (show ¬ (false = true) by decide)] at H; exact H
     clear H
     have H := H1
     clear H1
     by_cases c82 : x194001_1.length < 3518437208883
     ·rw [if_pos c82] at H
      have LMc82 := aM c82
      clear c82
      obtain ⟨y194, hy194⟩ : ∃ y_ : List (S69), y_ = (x194001_1 ++ [(⟨a1_0, a1_1, a1_2⟩ : S69)]) := ⟨_, rfl⟩
      replace H : (some (a0_0, y194)) = some (r1, r2) := by first | (rw [hy194]; with_reducible exact H) | (have H2_ := (Option.bind_some _ _).symm.trans H; rw [hy194]; with_reducible exact H2_) | (have H2_ := (Option.bind_some _ _).symm.trans H; with_reducible exact H2_) | with_reducible exact H | (rw [hy194]; exact H) | exact H
      have Ny194 := aM hy194
      clear hy194
      simp only [Option.some.injEq, Prod.mk.injEq] at H
      obtain ⟨rfl, rfl⟩ := H
      have hnb83 := NB187_188.out
      have hnc83 := NB188_187.out
      have hnb84 := NB187_189.out
      have hnc84 := NB189_187.out
      have hnb85 := NB187_193.out
      have hnc85 := NB193_187.out
      have hcz86_0 : wr.cell? ⟨gb187, 0, none⟩ = some (.int .i64 a0_0) := (kC BK187.out 0).trans rfl
      have hcz86_1 : wr.cell? ⟨gb187, 1, none⟩ = some (.slice A0_1 l0_1.length c0_1) := (kC BK187.out 1).trans rfl
      have hfz86_0 := kF BK187.out 0
      have hfz86_1 := kF BK187.out 1
      have hnb87 := NB193_188.out
      have hnc87 := NB188_193.out
      have hnb88 := NB193_189.out
      have hnc88 := NB189_193.out
      have hcz89_0 : wr.cell? ⟨gb193, 0, none⟩ = some (.int .i64 a0_0) := (kC BK193.out 0).trans rfl
      have hcz89_1 : wr.cell? ⟨gb193, 1, none⟩ = some (u194001) := (kC BK193.out 1).trans rfl
      have hfz89_0 := kF BK193.out 0
      have hfz89_1 := kF BK193.out 1
      have hnb90 := NB188_189.out
      have hnc90 := NB189_188.out
      have hcz91_0 : wr.cell? ⟨gb188, 0, none⟩ = some (.string a1_0) := (kC BK188.out 0).trans rfl
      have hcz91_1 : wr.cell? ⟨gb188, 1, none⟩ = some (.string a1_1) := (kC BK188.out 1).trans rfl
      have hcz91_2 : wr.cell? ⟨gb188, 2, none⟩ = some (.int .i64 a1_2) := (kC BK188.out 2).trans rfl
      have hfz91_0 := kF BK188.out 0
      have hfz91_1 := kF BK188.out 1
      have hfz91_2 := kF BK188.out 2
      go_wp2_with (first | ((with_reducible refine gate_builtin (b := .append) (xs := #[.tmp 60, .tmp 62]) rfl ?_); at_builtin; refine Kd.R_append k69 (w0 := w) w.heap.size rfl (.tmp 60) (.tmp 62) 31 69 (.agg #[(.string ⟨#[]⟩), (.string ⟨#[]⟩), (.int .i64 0)]) 40 rfl Tryd.underlying31 info69 rfl (by decide) (by omega) u194001 x194001_1 (⟨a1_0, a1_1, a1_2⟩ : S69) [.string a1_0, .string a1_1, .int .i64 a1_2] (fun k_ => k_ ≠ gb188) (fun _ => False) rfl rfl ?aP (fun _ hk => hk.elim) ?aF ?aO ?aB ?aS ?aL ?_; (case aP => exact k69_mkM _ _ _ (⟨a1_0, a1_1, a1_2⟩ : S69)); (case aB => exact (by repeat (first | (with_reducible first | exact HB.out | apply bA | apply bN | apply bD | refine bS ?_ GE187.out | refine bS ?_ GE188.out | refine bS ?_ GE189.out | refine bS ?_ GE193.out) | exact HB.out))); (case aF => exact (fun k_ hk => Kd.freshB (g := gb188) (o := .cells #[.string a1_0, .string a1_1, .int .i64 a1_2] 69 (0, 0)) (by (with_reducible repeat (first | refine kN ?_ _ | refine kD ?_ | refine kA ?_ _)); exact BK188.out) k_ hk)); (case aO => exact (by (with_reducible repeat (first | apply Kd.R_alloc | apply Kd.R_drewN | apply Kd.R_drew)); exact HO_194001.out)); (case aS => exact (below_size (by repeat (first | (with_reducible first | exact HB.out | apply bA | apply bN | apply bD | refine bS ?_ GE187.out | refine bS ?_ GE188.out | refine bS ?_ GE189.out | refine bS ?_ GE193.out) | exact HB.out)))); (case aL => have := LMc82.out; omega); intro v195 w92 ho hb hg hat; rw [← Ny194.out] at ho; have n0_ := aM (blk_grown (g := gb187) (o := .cells #[.int .i64 a0_0, .slice A0_1 l0_1.length c0_1] 33 (0, 0)) (by (with_reducible repeat (first | refine kN ?_ _ | refine kD ?_ | refine kA ?_ _)); exact BK187.out) hg (Kd.R_ne HO_194001.out BK187.out (by decide))); have n1_ := aM (blk_grown (g := gb188) (o := .cells #[.string a1_0, .string a1_1, .int .i64 a1_2] 69 (0, 0)) (by (with_reducible repeat (first | refine kN ?_ _ | refine kD ?_ | refine kA ?_ _)); exact BK188.out) hg (Kd.R_away HO_194001.out (fun _ hk => hk))); have n2_ := aM (blk_grown (g := gb189) (o := .cells #[.int .i64 0, .slice none 0 0] 33 (0, 0)) (by (with_reducible repeat (first | refine kN ?_ _ | refine kD ?_ | refine kA ?_ _)); exact BK189.out) hg (Kd.R_ne HO_194001.out BK189.out (by decide))); have n3_ := aM (blk_grown (g := gb193) (o := .cells #[.int .i64 a0_0, u194001] 33 (0, 0)) (by (with_reducible repeat (first | refine kN ?_ _ | refine kD ?_ | refine kA ?_ _)); exact BK193.out) hg (Kd.R_ne HO_194001.out BK193.out (by decide))); have n4_ := aM (hb); have n5_ := aM (ho); clear BK187; clear BK188; clear BK189; clear BK193; clear HB; clear HO_194001; have BK187 := n0_; have BK188 := n1_; have BK189 := n2_; have BK193 := n3_; have HB := n4_; have HO196 := n5_; clear n0_ n1_ n2_ n3_ n4_ n5_; clear ho hb hg hat; obtain ⟨Ao93, co93, eo93⟩ := Kd.R_slice HO196.out; subst eo93; have hcz94_0 : w92.cell? ⟨gb193, 0, none⟩ = some (.int .i64 a0_0) := (kC BK193.out 0).trans rfl; have hcz94_1 : w92.cell? ⟨gb193, 1, none⟩ = some (u194001) := (kC BK193.out 1).trans rfl; have hfz94_0 := kF BK193.out 0; have hfz94_1 := kF BK193.out 1; have hcz95_0 : w92.cell? ⟨gb189, 0, none⟩ = some (.int .i64 0) := (kC BK189.out 0).trans rfl; have hcz95_1 : w92.cell? ⟨gb189, 1, none⟩ = some (.slice none 0 0) := (kC BK189.out 1).trans rfl; have hfz95_0 := kF BK189.out 0; have hfz95_1 := kF BK189.out 1))
      refine bodyPost_ret (results_cell_row rfl _ _ gb189 33 #[.int .i64 a0_0, .slice Ao93 y194.length co93] (0, 0) _ rfl (by (with_reducible repeat (first | refine kN ?_ _ | refine kD ?_ | refine kA ?_ _)); refine blk_put (cs := #[.int .i64 a0_0, .slice none 0 0]) ?_ 1 _ rfl; (with_reducible repeat (first | refine kN ?_ _ | refine kD ?_ | refine kA ?_ _)); refine blk_put (cs := #[.int .i64 0, .slice none 0 0]) ?_ 0 _ rfl; (with_reducible repeat (first | refine kN ?_ _ | refine kD ?_ | refine kA ?_ _)); refine blk_far ?_ NB189_193.out _; (with_reducible repeat (first | refine kN ?_ _ | refine kD ?_ | refine kA ?_ _)); exact BK189.out) Tryd.underlying33 rfl (by kernel_rfl)) rfl ?_
      exact ⟨_, by first | rfl | (simp [errW_none, errW_some] <;> rfl) | (simp [*, errW_none, errW_some] <;> rfl), by (with_reducible repeat (first | apply Kd.R_alloc | apply Kd.R_drewN | apply Kd.R_drew)); exact Kd.R_mono (Kd.R_far (p := ⟨gb189, 1, none⟩) (Kd.R_far (p := ⟨gb189, 0, none⟩) (Kd.R_far (p := ⟨gb193, 1, none⟩) (Kd.R_types (Kd.R_types HO196.out BK193.out (by decide)) BK189.out (by decide)) (fun _ hk => hk.1.2) (.slice Ao93 y194.length co93)) (fun _ hk => hk.2) (.int .i64 a0_0)) (fun _ hk => hk.2) (.slice Ao93 y194.length co93)) (fun _ hk => trivial), by repeat (first | (with_reducible first | exact HB.out | apply bA | apply bN | apply bD | refine bS ?_ GE187.out | refine bS ?_ GE188.out | refine bS ?_ GE189.out | refine bS ?_ GE193.out) | exact HB.out)⟩
     ·rw [if_neg c82] at H
      exact absurd H (by simp)

end Go.Proofs.YtpdhfoegbannkaaDoor.PFnExactWalSync
