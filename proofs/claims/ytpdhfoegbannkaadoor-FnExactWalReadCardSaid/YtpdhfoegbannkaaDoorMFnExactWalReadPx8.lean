import Derived.Test.YtpdhfoegbannkaaDoorMFnExactWalReadPx0
import Derived.Test.YtpdhfoegbannkaaDoorMFnExactWalReadPx2
import Derived.Test.YtpdhfoegbannkaaDoorMFnExactWalReadPx7
namespace Go.Proofs.YtpdhfoegbannkaaDoor.PFnExactWalRead
open Go.RowKit Go.Proofs.YtpdhfoegbannkaaDoorW.PrintWords Go.Proofs.YtpdhfoegbannkaaDoorW.PrintLast Go.Proofs.YtpdhfoegbannkaaDoorW.PrintMore
attribute [local go_sem] max2_int min2_int max_two min_two max_three min_three max_four min_four   -- for this text's walks alone
set_option linter.unusedVariables false
set_option linter.unusedSimpArgs false

def spec_WalRead.f (k : Nat) (a0_0 : Int) (l0_1 : List (S69)) : Option (Int × List ByteArray × List ByteArray × Int × Int) := (spec_DiskOK.f k a0_0 l0_1).bind fun t192 => (if t192 = true then ((spec_l04Read.f k a0_0 l0_1).bind fun bt193 => (if bt193.2.2.2.2 = 0 then (some (bt193.1, bt193.2.1, bt193.2.2.1, bt193.2.2.2.1, 0)) else (some (0, ([] : List ByteArray), ([] : List ByteArray), 0, bt193.2.2.2.2)))) else (some (0, ([] : List ByteArray), ([] : List ByteArray), 0, 1)))
theorem spec_WalRead.mono : ∀ a0 a1 k, LeO (spec_WalRead.f k a0 a1) (spec_WalRead.f (k + 1) a0 a1) := by
 intro a0 a1 k
 unfold spec_WalRead.f
 repeat' first
   | (with_reducible exact spec_DiskOK.mono _ _ _)
   | (with_reducible exact spec_l04Read.mono _ _ _)
   | (with_reducible exact LeO.refl _)
   | (with_reducible exact LeO.none _)
   | (with_reducible refine LeO.ite ?_ ?_)
   | (with_reducible refine LeO.bind ?_ (fun _ => ?_))
   | exact spec_DiskOK.mono _ _ _
   | exact spec_l04Read.mono _ _ _
   | exact LeO.none _
   | refine LeO.ite ?_ ?_
   | refine LeO.bind ?_ (fun _ => ?_)
set_option maxHeartbeats 8000000 in
set_option maxRecDepth 100000 in
theorem spec_WalRead.calls (k : Nat) (a0_0 : Int) (A0_1 : Option Addr) (c0_1 : Nat) (l0_1 : List (S69)) (r1 : Int) (r2 : List ByteArray) (r3 : List ByteArray) (r4 : Int) (r5 : Int) (w : World) (hr0_1 : Kd.C k69 w A0_1 l0_1.length l0_1) (hc0_1 : l0_1.length ≤ c0_1) (h : spec_WalRead.f k a0_0 l0_1 = some (r1, r2, r3, r4, r5)) :
  Calls Tryd.prog 7 #[.agg #[.int .i64 a0_0, .slice A0_1 l0_1.length c0_1]] w fun e w' => ∃ v1_ v2_ : Value, e = .returned (.tuple #[.agg #[.int .i64 r1, v1_, v2_, .int .i64 r4], .int .i64 r5]) ∧ Kd.R Kd.string 9 w' w.heap.size (fun k_ => some k_ ≠ (v2_ : Value).ownBlock) v1_ r2 ∧ Kd.R Kd.string 9 w' w.heap.size (fun k_ => some k_ ≠ (v1_ : Value).ownBlock) v2_ r3 ∧ Below w.heap.size w w' := by
 have hu33 := Tryd.underlying33;have hu28 := Tryd.underlying28;have HR0_1 := aM hr0_1;have HC0_1 := aM hc0_1;clear hr0_1 hc0_1;have HB := aM (Below.refl w.heap.size w);have H : ((spec_DiskOK.f k a0_0 l0_1).bind fun t192 => (if t192 = true then ((spec_l04Read.f k a0_0 l0_1).bind fun bt193 => (if bt193.2.2.2.2 = 0 then (some (bt193.1, bt193.2.1, bt193.2.2.1, bt193.2.2.2.1, 0)) else (some (0, ([] : List ByteArray), ([] : List ByteArray), 0, bt193.2.2.2.2)))) else (some (0, ([] : List ByteArray), ([] : List ByteArray), 0, 1)))) = some (r1, r2, r3, r4, r5) := h;clear h;replace H := Option.bind_eq_some_iff.mp H;obtain ⟨t192, A20, H⟩ := H;replace H : (if t192 = true then ((spec_l04Read.f k a0_0 l0_1).bind fun bt193 => (if bt193.2.2.2.2 = 0 then (some (bt193.1, bt193.2.1, bt193.2.2.1, bt193.2.2.2.1, 0)) else (some (0, ([] : List ByteArray), ([] : List ByteArray), 0, bt193.2.2.2.2)))) else (some (0, ([] : List ByteArray), ([] : List ByteArray), 0, 1))) = some (r1, r2, r3, r4, r5) := H;have A2 := aM A20;clear A20
 by_cases c3 : t192 = true
 ·subst c3
  have H1 : ((spec_l04Read.f k a0_0 l0_1).bind fun bt193 => (if bt193.2.2.2.2 = 0 then (some (bt193.1, bt193.2.1, bt193.2.2.1, bt193.2.2.2.1, 0)) else (some (0, ([] : List ByteArray), ([] : List ByteArray), 0, bt193.2.2.2.2)))) = some (r1, r2, r3, r4, r5) := by rw [if_pos rfl] at H; exact H
  clear H;have H := H1;clear H1;replace H := Option.bind_eq_some_iff.mp H;obtain ⟨⟨t193, t194, t197, t200, t201⟩, A40, H⟩ := H;replace H : (if t201 = 0 then (some (t193, t194, t197, t200, 0)) else (some (0, ([] : List ByteArray), ([] : List ByteArray), 0, t201))) = some (r1, r2, r3, r4, r5) := H;have A4 := aM A40;clear A40
  by_cases c5 : t201 = 0
  ·rw [if_pos c5] at H;have c5b0 : (t201 == 0) = true := beq_iff_eq.mpr c5;have c5b1 : (t201 != 0) = false := bne_eq_false_iff_eq.mpr c5;clear c5;simp only [Option.some.injEq, Prod.mk.injEq] at H;obtain ⟨rfl, rfl, rfl, rfl, rfl⟩ := H
   go_enter Tryd.func7, Tryd.ntmps7
   go_wp2_with (first | ((with_reducible refine gate_dst (N := 1) rfl ?_); refine box_event ?hg (N := 1) ?hd (cs := #[.int .i64 a0_0, .slice A0_1 l0_1.length c0_1]) (t := 33) ?hr ?_; (case hd => rfl); (case hg => rfl); (case hr => first | (go_simp; done) | (go_simp; rfl)); intro gb190 hg w6 hbox hb; have BK190 := aM (hbox); have GW190 := aM ((by rw [hg]; exact (below_size (bM HB.o)) : w.heap.size ≤ gb190)); have GE190 := aM ((by rw [hg]; exact (below_size (bM HB.o)) : w.heap.size ≤ gb190)); replace HB := aM (below_step (bM HB.o) hb); clear hb hbox hg) | ((with_reducible refine gate_dst (N := 2) rfl ?_); refine box_event ?hg (N := 2) ?hd (cs := #[.int .i64 0, .slice none 0 0, .slice none 0 0, .int .i64 0]) (t := 28) ?hr ?_; (case hd => rfl); (case hg => rfl); (case hr => first | (go_simp; done) | (go_simp; rfl)); intro gb191 hg w7 hbox hb; have BK191 := aM (hbox); have GW191 := aM ((by rw [hg]; exact (below_size (by with_reducible repeat (first | exact HB.o | apply bA | apply bN | apply bD | refine bS ?_ GE190.o))) : w.heap.size ≤ gb191)); have GE191 := aM ((by rw [hg]; exact (below_size (by with_reducible repeat (first | exact HB.o | apply bA | apply bN | apply bD | refine bS ?_ GE190.o))) : w.heap.size ≤ gb191)); replace HB := aM (below_step (by with_reducible repeat (first | exact HB.o | apply bA | apply bN | apply bD | refine bS ?_ GE190.o)) hb); have NB190_191 := aM ((by rw [hg]; exact Nat.ne_of_lt (blk_lt (g := gb190) (o := .cells #[.int .i64 a0_0, .slice A0_1 l0_1.length c0_1] 33 (0, 0)) (kM BK190.o)) : gb190 ≠ gb191)); have NB191_190 := aM ((by rw [hg]; exact Nat.ne_of_gt (blk_lt (g := gb190) (o := .cells #[.int .i64 a0_0, .slice A0_1 l0_1.length c0_1] 33 (0, 0)) (kM BK190.o)) : gb191 ≠ gb190)); replace BK190 := aM (blk_below (kM BK190.o) hb); clear hb hbox hg; have hnb8 := NB190_191.o; have hnc8 := NB191_190.o; have hcz9_0 := cL0 BK190.o; have hcz9_1 := cL1 BK190.o; have hfz9_0 := kF BK190.o 0; have hfz9_1 := kF BK190.o 1) | ((with_reducible refine gate_callee (f := 24) rfl ?_); refine goesL_ (some 7) rfl rfl Tryd.func24 (by kernel_rfl) rfl #[.agg #[.int .i64 a0_0, .slice A0_1 l0_1.length c0_1]] rfl (by (try simp only [zM]); first | done | rfl | (simp only [zL]; rfl)) ?_; (with_reducible refine (spec_DiskOK.calls k a0_0 _ _ l0_1 true _ ?side1 ?side2 A2.o).mono ?_); (case side1 => exact Kd.C_below HR0_1.o (bM HB.o)); (case side2 => exact HC0_1.o); rintro e w10 ⟨rfl, hb⟩; refine ⟨_, rfl, ?_⟩; replace BK190 := aM (blk_below (kM BK190.o) hb); replace BK191 := aM (blk_below (kM BK191.o) hb); replace HB := aM (below_step (by with_reducible repeat (first | exact HB.o | apply bA | apply bN | apply bD | refine bS ?_ GE190.o | refine bS ?_ GE191.o)) hb); (try clear hb); have hcz11_0 := cL0 BK190.o; have hcz11_1 := cL1 BK190.o; have hfz11_0 := kF BK190.o 0; have hfz11_1 := kF BK190.o 1) | ((with_reducible refine gate_callee (f := 25) rfl ?_); refine goesL_ (some 12) rfl rfl Tryd.func25 (by kernel_rfl) rfl #[.agg #[.int .i64 a0_0, .slice A0_1 l0_1.length c0_1]] rfl (by (try simp only [zM]); first | done | rfl | (simp only [zL]; rfl)) ?_; (with_reducible refine (spec_l04Read.calls k a0_0 _ _ l0_1 t193 t194 t197 t200 t201 _ ?side1 ?side2 A4.o).mono ?_); (case side1 => exact Kd.C_below HR0_1.o (bM HB.o)); (case side2 => exact HC0_1.o); rintro e w12 ⟨v195, v198, rfl, ho0, ho1, hb⟩; refine ⟨_, rfl, ?_⟩; have HO196 := aM (Kd.R_lower ho0 (below_size (by with_reducible repeat (first | exact HB.o | apply bA | apply bN | apply bD | refine bS ?_ GE190.o | refine bS ?_ GE191.o)))); have HO199 := aM (Kd.R_lower ho1 (below_size (by with_reducible repeat (first | exact HB.o | apply bA | apply bN | apply bD | refine bS ?_ GE190.o | refine bS ?_ GE191.o)))); replace BK190 := aM (blk_below (kM BK190.o) hb); replace BK191 := aM (blk_below (kM BK191.o) hb); replace HB := aM (below_step (by with_reducible repeat (first | exact HB.o | apply bA | apply bN | apply bD | refine bS ?_ GE190.o | refine bS ?_ GE191.o)) hb); (try clear hb); (try clear ho0); (try clear ho1)) | ((with_reducible refine gate_dst (N := 4) rfl ?_); refine box_event ?hg (N := 4) ?hd (cs := #[.int .i64 0, .slice none 0 0, .slice none 0 0, .int .i64 0]) (t := 28) ?hr ?_; (case hd => rfl); (case hg => rfl); (case hr => first | (go_simp; done) | (go_simp; rfl)); intro gb202 hg w13 hbox hb; replace HO196 := aM (Kd.R_below (rM HO196.o) hb); replace HO199 := aM (Kd.R_below (rM HO199.o) hb); have BK202 := aM (hbox); have GW202 := aM ((by rw [hg]; exact (below_size (by with_reducible repeat (first | exact HB.o | apply bA | apply bN | apply bD | refine bS ?_ GE190.o | refine bS ?_ GE191.o))) : w.heap.size ≤ gb202)); have GE202 := aM ((by rw [hg]; exact (below_size (by with_reducible repeat (first | exact HB.o | apply bA | apply bN | apply bD | refine bS ?_ GE190.o | refine bS ?_ GE191.o))) : w.heap.size ≤ gb202)); replace HB := aM (below_step (by with_reducible repeat (first | exact HB.o | apply bA | apply bN | apply bD | refine bS ?_ GE190.o | refine bS ?_ GE191.o)) hb); have NB190_202 := aM ((by rw [hg]; exact Nat.ne_of_lt (blk_lt (g := gb190) (o := .cells #[.int .i64 a0_0, .slice A0_1 l0_1.length c0_1] 33 (0, 0)) (kM BK190.o)) : gb190 ≠ gb202)); have NB202_190 := aM ((by rw [hg]; exact Nat.ne_of_gt (blk_lt (g := gb190) (o := .cells #[.int .i64 a0_0, .slice A0_1 l0_1.length c0_1] 33 (0, 0)) (kM BK190.o)) : gb202 ≠ gb190)); replace BK190 := aM (blk_below (kM BK190.o) hb); have NB191_202 := aM ((by rw [hg]; exact Nat.ne_of_lt (blk_lt (g := gb191) (o := .cells #[.int .i64 0, .slice none 0 0, .slice none 0 0, .int .i64 0] 28 (0, 0)) (kM BK191.o)) : gb191 ≠ gb202)); have NB202_191 := aM ((by rw [hg]; exact Nat.ne_of_gt (blk_lt (g := gb191) (o := .cells #[.int .i64 0, .slice none 0 0, .slice none 0 0, .int .i64 0] 28 (0, 0)) (kM BK191.o)) : gb202 ≠ gb191)); replace BK191 := aM (blk_below (kM BK191.o) hb); clear hb hbox hg; have hnb14 := NB202_190.o; have hnc14 := NB190_202.o; have hnb15 := NB202_191.o; have hnc15 := NB191_202.o; have hcz16_0 := cL0 BK202.o; have hcz16_1 := cL1 BK202.o; have hcz16_2 := cL2 BK202.o; have hcz16_3 := cL3 BK202.o; have hfz16_0 := kF BK202.o 0; have hfz16_1 := kF BK202.o 1; have hfz16_2 := kF BK202.o 2; have hfz16_3 := kF BK202.o 3; obtain ⟨Ao17, co17, eo17⟩ := Kd.R_slice HO196.o; subst eo17; obtain ⟨Ao18, co18, eo18⟩ := Kd.R_slice HO199.o; subst eo18; have hcz19_0 := cL0 BK191.o; have hcz19_1 := cL1 BK191.o; have hcz19_2 := cL2 BK191.o; have hcz19_3 := cL3 BK191.o; have hfz19_0 := kF BK191.o 0; have hfz19_1 := kF BK191.o 1; have hfz19_2 := kF BK191.o 2; have hfz19_3 := kF BK191.o 3))
   refine bodyPost_ret (results_ct rfl _ _ gb191 28 #[.int .i64 t193, .slice Ao17 t194.length co17, .slice Ao18 t197.length co18, .int .i64 t200] (0, 0) _ rfl (by (with_reducible repeat (first | refine kN ?_ _ | refine kD ?_ | refine kA ?_ _)); refine blk_put (cs := #[.int .i64 t193, .slice Ao17 t194.length co17, .slice Ao18 t197.length co18, .int .i64 0]) ?_ 3 _ rfl; refine blk_put (cs := #[.int .i64 t193, .slice Ao17 t194.length co17, .slice none 0 0, .int .i64 0]) ?_ 2 _ rfl; refine blk_put (cs := #[.int .i64 t193, .slice none 0 0, .slice none 0 0, .int .i64 0]) ?_ 1 _ rfl; refine blk_put (cs := #[.int .i64 0, .slice none 0 0, .slice none 0 0, .int .i64 0]) ?_ 0 _ rfl; (with_reducible repeat (first | refine kN ?_ _ | refine kD ?_ | refine kA ?_ _)); refine blk_far ?_ NB191_202.o _; (with_reducible repeat (first | refine kN ?_ _ | refine kD ?_ | refine kA ?_ _)); refine blk_far ?_ NB191_202.o _; (with_reducible repeat (first | refine kN ?_ _ | refine kD ?_ | refine kA ?_ _)); refine blk_far ?_ NB191_202.o _; (with_reducible repeat (first | refine kN ?_ _ | refine kD ?_ | refine kA ?_ _)); refine blk_far ?_ NB191_202.o _; (with_reducible repeat (first | refine kN ?_ _ | refine kD ?_ | refine kA ?_ _)); exact BK191.o) Tryd.underlying28 rfl (by kernel_rfl)) rfl ?_;exact ⟨_, _, by first | rfl | (simp [zE] <;> rfl) | (simp [*, zE] <;> rfl), by (with_reducible repeat (first | apply Kd.R_alloc | apply Kd.R_drewN | apply Kd.R_drew)); exact Kd.R_mono (Kd.R_far (p := ⟨gb191, 3, none⟩) (Kd.R_far (p := ⟨gb191, 2, none⟩) (Kd.R_far (p := ⟨gb191, 1, none⟩) (Kd.R_far (p := ⟨gb191, 0, none⟩) (Kd.R_far (p := ⟨gb202, 3, none⟩) (Kd.R_far (p := ⟨gb202, 2, none⟩) (Kd.R_far (p := ⟨gb202, 1, none⟩) (Kd.R_far (p := ⟨gb202, 0, none⟩) (Kd.R_types (Kd.R_types HO196.o BK202.o (by decide)) BK191.o (by decide)) (fun _ hk => hk.1.2) (.int .i64 t193)) (fun _ hk => hk.1.2) (.slice Ao17 t194.length co17)) (fun _ hk => hk.1.2) (.slice Ao18 t197.length co18)) (fun _ hk => hk.1.2) (.int .i64 t200)) (fun _ hk => hk.2) (.int .i64 t193)) (fun _ hk => hk.2) (.slice Ao17 t194.length co17)) (fun _ hk => hk.2) (.slice Ao18 t197.length co18)) (fun _ hk => hk.2) (.int .i64 t200)) (fun _ hk => hk.1.1), by (with_reducible repeat (first | apply Kd.R_alloc | apply Kd.R_drewN | apply Kd.R_drew)); exact Kd.R_mono (Kd.R_far (p := ⟨gb191, 3, none⟩) (Kd.R_far (p := ⟨gb191, 2, none⟩) (Kd.R_far (p := ⟨gb191, 1, none⟩) (Kd.R_far (p := ⟨gb191, 0, none⟩) (Kd.R_far (p := ⟨gb202, 3, none⟩) (Kd.R_far (p := ⟨gb202, 2, none⟩) (Kd.R_far (p := ⟨gb202, 1, none⟩) (Kd.R_far (p := ⟨gb202, 0, none⟩) (Kd.R_types (Kd.R_types HO199.o BK202.o (by decide)) BK191.o (by decide)) (fun _ hk => hk.1.2) (.int .i64 t193)) (fun _ hk => hk.1.2) (.slice Ao17 t194.length co17)) (fun _ hk => hk.1.2) (.slice Ao18 t197.length co18)) (fun _ hk => hk.1.2) (.int .i64 t200)) (fun _ hk => hk.2) (.int .i64 t193)) (fun _ hk => hk.2) (.slice Ao17 t194.length co17)) (fun _ hk => hk.2) (.slice Ao18 t197.length co18)) (fun _ hk => hk.2) (.int .i64 t200)) (fun _ hk => hk.1.1), by with_reducible repeat (first | exact HB.o | apply bA | apply bN | apply bD | refine bS ?_ GE190.o | refine bS ?_ GE191.o | refine bS ?_ GE202.o)⟩
  ·rw [if_neg c5] at H;have c5b0 : (t201 == 0) = false := beq_eq_false_iff_ne.mpr c5;have c5b1 : (t201 != 0) = true := bne_iff_ne.mpr c5;simp only [Option.some.injEq, Prod.mk.injEq] at H;obtain ⟨rfl, rfl, rfl, rfl, rfl⟩ := H
   go_enter Tryd.func7, Tryd.ntmps7
   go_wp2_with (first | ((with_reducible refine gate_dst (N := 1) rfl ?_); refine box_event ?hg (N := 1) ?hd (cs := #[.int .i64 a0_0, .slice A0_1 l0_1.length c0_1]) (t := 33) ?hr ?_; (case hd => rfl); (case hg => rfl); (case hr => first | (go_simp; done) | (go_simp; rfl)); intro gb190 hg w20 hbox hb; have BK190 := aM (hbox); have GW190 := aM ((by rw [hg]; exact (below_size (bM HB.o)) : w.heap.size ≤ gb190)); have GE190 := aM ((by rw [hg]; exact (below_size (bM HB.o)) : w.heap.size ≤ gb190)); replace HB := aM (below_step (bM HB.o) hb); clear hb hbox hg) | ((with_reducible refine gate_dst (N := 2) rfl ?_); refine box_event ?hg (N := 2) ?hd (cs := #[.int .i64 0, .slice none 0 0, .slice none 0 0, .int .i64 0]) (t := 28) ?hr ?_; (case hd => rfl); (case hg => rfl); (case hr => first | (go_simp; done) | (go_simp; rfl)); intro gb191 hg w21 hbox hb; have BK191 := aM (hbox); have GW191 := aM ((by rw [hg]; exact (below_size (by with_reducible repeat (first | exact HB.o | apply bA | apply bN | apply bD | refine bS ?_ GE190.o))) : w.heap.size ≤ gb191)); have GE191 := aM ((by rw [hg]; exact (below_size (by with_reducible repeat (first | exact HB.o | apply bA | apply bN | apply bD | refine bS ?_ GE190.o))) : w.heap.size ≤ gb191)); replace HB := aM (below_step (by with_reducible repeat (first | exact HB.o | apply bA | apply bN | apply bD | refine bS ?_ GE190.o)) hb); have NB190_191 := aM ((by rw [hg]; exact Nat.ne_of_lt (blk_lt (g := gb190) (o := .cells #[.int .i64 a0_0, .slice A0_1 l0_1.length c0_1] 33 (0, 0)) (kM BK190.o)) : gb190 ≠ gb191)); have NB191_190 := aM ((by rw [hg]; exact Nat.ne_of_gt (blk_lt (g := gb190) (o := .cells #[.int .i64 a0_0, .slice A0_1 l0_1.length c0_1] 33 (0, 0)) (kM BK190.o)) : gb191 ≠ gb190)); replace BK190 := aM (blk_below (kM BK190.o) hb); clear hb hbox hg; have hnb22 := NB190_191.o; have hnc22 := NB191_190.o; have hcz23_0 := cL0 BK190.o; have hcz23_1 := cL1 BK190.o; have hfz23_0 := kF BK190.o 0; have hfz23_1 := kF BK190.o 1) | ((with_reducible refine gate_callee (f := 24) rfl ?_); refine goesL_ (some 7) rfl rfl Tryd.func24 (by kernel_rfl) rfl #[.agg #[.int .i64 a0_0, .slice A0_1 l0_1.length c0_1]] rfl (by (try simp only [zM]); first | done | rfl | (simp only [zL]; rfl)) ?_; (with_reducible refine (spec_DiskOK.calls k a0_0 _ _ l0_1 true _ ?side1 ?side2 A2.o).mono ?_); (case side1 => exact Kd.C_below HR0_1.o (bM HB.o)); (case side2 => exact HC0_1.o); rintro e w24 ⟨rfl, hb⟩; refine ⟨_, rfl, ?_⟩; replace BK190 := aM (blk_below (kM BK190.o) hb); replace BK191 := aM (blk_below (kM BK191.o) hb); replace HB := aM (below_step (by with_reducible repeat (first | exact HB.o | apply bA | apply bN | apply bD | refine bS ?_ GE190.o | refine bS ?_ GE191.o)) hb); (try clear hb); have hcz25_0 := cL0 BK190.o; have hcz25_1 := cL1 BK190.o; have hfz25_0 := kF BK190.o 0; have hfz25_1 := kF BK190.o 1) | ((with_reducible refine gate_callee (f := 25) rfl ?_); refine goesL_ (some 12) rfl rfl Tryd.func25 (by kernel_rfl) rfl #[.agg #[.int .i64 a0_0, .slice A0_1 l0_1.length c0_1]] rfl (by (try simp only [zM]); first | done | rfl | (simp only [zL]; rfl)) ?_; (with_reducible refine (spec_l04Read.calls k a0_0 _ _ l0_1 t193 t194 t197 t200 t201 _ ?side1 ?side2 A4.o).mono ?_); (case side1 => exact Kd.C_below HR0_1.o (bM HB.o)); (case side2 => exact HC0_1.o); rintro e w26 ⟨v195, v198, rfl, ho0, ho1, hb⟩; refine ⟨_, rfl, ?_⟩; have HO196 := aM (Kd.R_lower ho0 (below_size (by with_reducible repeat (first | exact HB.o | apply bA | apply bN | apply bD | refine bS ?_ GE190.o | refine bS ?_ GE191.o)))); have HO199 := aM (Kd.R_lower ho1 (below_size (by with_reducible repeat (first | exact HB.o | apply bA | apply bN | apply bD | refine bS ?_ GE190.o | refine bS ?_ GE191.o)))); replace BK190 := aM (blk_below (kM BK190.o) hb); replace BK191 := aM (blk_below (kM BK191.o) hb); replace HB := aM (below_step (by with_reducible repeat (first | exact HB.o | apply bA | apply bN | apply bD | refine bS ?_ GE190.o | refine bS ?_ GE191.o)) hb); (try clear hb); (try clear ho0); (try clear ho1)) | ((with_reducible refine gate_dst (N := 4) rfl ?_); refine box_event ?hg (N := 4) ?hd (cs := #[.int .i64 0, .slice none 0 0, .slice none 0 0, .int .i64 0]) (t := 28) ?hr ?_; (case hd => rfl); (case hg => rfl); (case hr => first | (go_simp; done) | (go_simp; rfl)); intro gb202 hg w27 hbox hb; replace HO196 := aM (Kd.R_below (rM HO196.o) hb); replace HO199 := aM (Kd.R_below (rM HO199.o) hb); have BK202 := aM (hbox); have GW202 := aM ((by rw [hg]; exact (below_size (by with_reducible repeat (first | exact HB.o | apply bA | apply bN | apply bD | refine bS ?_ GE190.o | refine bS ?_ GE191.o))) : w.heap.size ≤ gb202)); have GE202 := aM ((by rw [hg]; exact (below_size (by with_reducible repeat (first | exact HB.o | apply bA | apply bN | apply bD | refine bS ?_ GE190.o | refine bS ?_ GE191.o))) : w.heap.size ≤ gb202)); replace HB := aM (below_step (by with_reducible repeat (first | exact HB.o | apply bA | apply bN | apply bD | refine bS ?_ GE190.o | refine bS ?_ GE191.o)) hb); have NB190_202 := aM ((by rw [hg]; exact Nat.ne_of_lt (blk_lt (g := gb190) (o := .cells #[.int .i64 a0_0, .slice A0_1 l0_1.length c0_1] 33 (0, 0)) (kM BK190.o)) : gb190 ≠ gb202)); have NB202_190 := aM ((by rw [hg]; exact Nat.ne_of_gt (blk_lt (g := gb190) (o := .cells #[.int .i64 a0_0, .slice A0_1 l0_1.length c0_1] 33 (0, 0)) (kM BK190.o)) : gb202 ≠ gb190)); replace BK190 := aM (blk_below (kM BK190.o) hb); have NB191_202 := aM ((by rw [hg]; exact Nat.ne_of_lt (blk_lt (g := gb191) (o := .cells #[.int .i64 0, .slice none 0 0, .slice none 0 0, .int .i64 0] 28 (0, 0)) (kM BK191.o)) : gb191 ≠ gb202)); have NB202_191 := aM ((by rw [hg]; exact Nat.ne_of_gt (blk_lt (g := gb191) (o := .cells #[.int .i64 0, .slice none 0 0, .slice none 0 0, .int .i64 0] 28 (0, 0)) (kM BK191.o)) : gb202 ≠ gb191)); replace BK191 := aM (blk_below (kM BK191.o) hb); clear hb hbox hg; have hnb28 := NB202_190.o; have hnc28 := NB190_202.o; have hnb29 := NB202_191.o; have hnc29 := NB191_202.o; have hcz30_0 := cL0 BK202.o; have hcz30_1 := cL1 BK202.o; have hcz30_2 := cL2 BK202.o; have hcz30_3 := cL3 BK202.o; have hfz30_0 := kF BK202.o 0; have hfz30_1 := kF BK202.o 1; have hfz30_2 := kF BK202.o 2; have hfz30_3 := kF BK202.o 3; obtain ⟨Ao31, co31, eo31⟩ := Kd.R_slice HO196.o; subst eo31; obtain ⟨Ao32, co32, eo32⟩ := Kd.R_slice HO199.o; subst eo32; have hcz33_0 := cL0 BK191.o; have hcz33_1 := cL1 BK191.o; have hcz33_2 := cL2 BK191.o; have hcz33_3 := cL3 BK191.o; have hfz33_0 := kF BK191.o 0; have hfz33_1 := kF BK191.o 1; have hfz33_2 := kF BK191.o 2; have hfz33_3 := kF BK191.o 3))
   refine bodyPost_ret (results_ct rfl _ _ gb191 28 #[.int .i64 0, .slice none 0 0, .slice none 0 0, .int .i64 0] (0, 0) _ rfl (by (with_reducible repeat (first | refine kN ?_ _ | refine kD ?_ | refine kA ?_ _)); refine blk_put (cs := #[.int .i64 0, .slice none 0 0, .slice none 0 0, .int .i64 0]) ?_ 3 _ rfl; refine blk_put (cs := #[.int .i64 0, .slice none 0 0, .slice none 0 0, .int .i64 0]) ?_ 2 _ rfl; refine blk_put (cs := #[.int .i64 0, .slice none 0 0, .slice none 0 0, .int .i64 0]) ?_ 1 _ rfl; refine blk_put (cs := #[.int .i64 0, .slice none 0 0, .slice none 0 0, .int .i64 0]) ?_ 0 _ rfl; (with_reducible repeat (first | refine kN ?_ _ | refine kD ?_ | refine kA ?_ _)); refine blk_far ?_ NB191_202.o _; (with_reducible repeat (first | refine kN ?_ _ | refine kD ?_ | refine kA ?_ _)); refine blk_far ?_ NB191_202.o _; (with_reducible repeat (first | refine kN ?_ _ | refine kD ?_ | refine kA ?_ _)); refine blk_far ?_ NB191_202.o _; (with_reducible repeat (first | refine kN ?_ _ | refine kD ?_ | refine kA ?_ _)); refine blk_far ?_ NB191_202.o _; (with_reducible repeat (first | refine kN ?_ _ | refine kD ?_ | refine kA ?_ _)); exact BK191.o) Tryd.underlying28 rfl (by kernel_rfl)) rfl ?_;exact ⟨_, _, by first | rfl | (simp [zE] <;> rfl) | (simp [*, zE] <;> rfl), by first | exact Kd.R_nil _ _ _ _ _ | exact Kd.N_nil _ _ _ _ _ | exact Kd.V_nil _ _ _ _ _ | exact Kd.Q_nil _ _ _ _ _ | exact Kd.S_nil _ _ _ _ _, by first | exact Kd.R_nil _ _ _ _ _ | exact Kd.N_nil _ _ _ _ _ | exact Kd.V_nil _ _ _ _ _ | exact Kd.Q_nil _ _ _ _ _ | exact Kd.S_nil _ _ _ _ _, by with_reducible repeat (first | exact HB.o | apply bA | apply bN | apply bD | refine bS ?_ GE190.o | refine bS ?_ GE191.o | refine bS ?_ GE202.o)⟩
 ·replace c3 := Bool.eq_false_iff.mpr c3;subst c3
  have H1 : (some (0, ([] : List ByteArray), ([] : List ByteArray), 0, 1)) = some (r1, r2, r3, r4, r5) := by rw [if_neg (show ¬ (false = true) by decide)] at H; exact H
  clear H;have H := H1;clear H1;simp only [Option.some.injEq, Prod.mk.injEq] at H;obtain ⟨rfl, rfl, rfl, rfl, rfl⟩ := H
  go_enter Tryd.func7, Tryd.ntmps7
  go_wp2_with (first | ((with_reducible refine gate_dst (N := 1) rfl ?_); refine box_event ?hg (N := 1) ?hd (cs := #[.int .i64 a0_0, .slice A0_1 l0_1.length c0_1]) (t := 33) ?hr ?_; (case hd => rfl); (case hg => rfl); (case hr => first | (go_simp; done) | (go_simp; rfl)); intro gb190 hg w34 hbox hb; have BK190 := aM (hbox); have GW190 := aM ((by rw [hg]; exact (below_size (bM HB.o)) : w.heap.size ≤ gb190)); have GE190 := aM ((by rw [hg]; exact (below_size (bM HB.o)) : w.heap.size ≤ gb190)); replace HB := aM (below_step (bM HB.o) hb); clear hb hbox hg) | ((with_reducible refine gate_dst (N := 2) rfl ?_); refine box_event ?hg (N := 2) ?hd (cs := #[.int .i64 0, .slice none 0 0, .slice none 0 0, .int .i64 0]) (t := 28) ?hr ?_; (case hd => rfl); (case hg => rfl); (case hr => first | (go_simp; done) | (go_simp; rfl)); intro gb191 hg w35 hbox hb; have BK191 := aM (hbox); have GW191 := aM ((by rw [hg]; exact (below_size (by with_reducible repeat (first | exact HB.o | apply bA | apply bN | apply bD | refine bS ?_ GE190.o))) : w.heap.size ≤ gb191)); have GE191 := aM ((by rw [hg]; exact (below_size (by with_reducible repeat (first | exact HB.o | apply bA | apply bN | apply bD | refine bS ?_ GE190.o))) : w.heap.size ≤ gb191)); replace HB := aM (below_step (by with_reducible repeat (first | exact HB.o | apply bA | apply bN | apply bD | refine bS ?_ GE190.o)) hb); have NB190_191 := aM ((by rw [hg]; exact Nat.ne_of_lt (blk_lt (g := gb190) (o := .cells #[.int .i64 a0_0, .slice A0_1 l0_1.length c0_1] 33 (0, 0)) (kM BK190.o)) : gb190 ≠ gb191)); have NB191_190 := aM ((by rw [hg]; exact Nat.ne_of_gt (blk_lt (g := gb190) (o := .cells #[.int .i64 a0_0, .slice A0_1 l0_1.length c0_1] 33 (0, 0)) (kM BK190.o)) : gb191 ≠ gb190)); replace BK190 := aM (blk_below (kM BK190.o) hb); clear hb hbox hg; have hnb36 := NB190_191.o; have hnc36 := NB191_190.o; have hcz37_0 := cL0 BK190.o; have hcz37_1 := cL1 BK190.o; have hfz37_0 := kF BK190.o 0; have hfz37_1 := kF BK190.o 1) | ((with_reducible refine gate_callee (f := 24) rfl ?_); refine goesL_ (some 7) rfl rfl Tryd.func24 (by kernel_rfl) rfl #[.agg #[.int .i64 a0_0, .slice A0_1 l0_1.length c0_1]] rfl (by (try simp only [zM]); first | done | rfl | (simp only [zL]; rfl)) ?_; (with_reducible refine (spec_DiskOK.calls k a0_0 _ _ l0_1 false _ ?side1 ?side2 A2.o).mono ?_); (case side1 => exact Kd.C_below HR0_1.o (bM HB.o)); (case side2 => exact HC0_1.o); rintro e w38 ⟨rfl, hb⟩; refine ⟨_, rfl, ?_⟩; replace BK190 := aM (blk_below (kM BK190.o) hb); replace BK191 := aM (blk_below (kM BK191.o) hb); replace HB := aM (below_step (by with_reducible repeat (first | exact HB.o | apply bA | apply bN | apply bD | refine bS ?_ GE190.o | refine bS ?_ GE191.o)) hb); (try clear hb); have hcz39_0 := cL0 BK191.o; have hcz39_1 := cL1 BK191.o; have hcz39_2 := cL2 BK191.o; have hcz39_3 := cL3 BK191.o; have hfz39_0 := kF BK191.o 0; have hfz39_1 := kF BK191.o 1; have hfz39_2 := kF BK191.o 2; have hfz39_3 := kF BK191.o 3))
  refine bodyPost_ret (results_ct rfl _ _ gb191 28 #[.int .i64 0, .slice none 0 0, .slice none 0 0, .int .i64 0] (0, 0) _ rfl (by (with_reducible repeat (first | refine kN ?_ _ | refine kD ?_ | refine kA ?_ _)); refine blk_put (cs := #[.int .i64 0, .slice none 0 0, .slice none 0 0, .int .i64 0]) ?_ 3 _ rfl; refine blk_put (cs := #[.int .i64 0, .slice none 0 0, .slice none 0 0, .int .i64 0]) ?_ 2 _ rfl; refine blk_put (cs := #[.int .i64 0, .slice none 0 0, .slice none 0 0, .int .i64 0]) ?_ 1 _ rfl; refine blk_put (cs := #[.int .i64 0, .slice none 0 0, .slice none 0 0, .int .i64 0]) ?_ 0 _ rfl; exact BK191.o) Tryd.underlying28 rfl (by kernel_rfl)) rfl ?_;exact ⟨_, _, by first | rfl | (simp [zE] <;> rfl) | (simp [*, zE] <;> rfl), by first | exact Kd.R_nil _ _ _ _ _ | exact Kd.N_nil _ _ _ _ _ | exact Kd.V_nil _ _ _ _ _ | exact Kd.Q_nil _ _ _ _ _ | exact Kd.S_nil _ _ _ _ _, by first | exact Kd.R_nil _ _ _ _ _ | exact Kd.N_nil _ _ _ _ _ | exact Kd.V_nil _ _ _ _ _ | exact Kd.Q_nil _ _ _ _ _ | exact Kd.S_nil _ _ _ _ _, by with_reducible repeat (first | exact HB.o | apply bA | apply bN | apply bD | refine bS ?_ GE190.o | refine bS ?_ GE191.o)⟩

def laws_toFile.f (a0_0 : ByteArray) (a0_1 : ByteArray) (a0_2 : Int) : Option (ByteArray × ByteArray × Int) := some (a0_0, a0_1, a0_2)
set_option maxHeartbeats 8000000 in
set_option maxRecDepth 100000 in
theorem laws_toFile.calls (a0_0 : ByteArray) (a0_1 : ByteArray) (a0_2 : Int) (r1 : ByteArray) (r2 : ByteArray) (r3 : Int) (w : World) (h : laws_toFile.f a0_0 a0_1 a0_2 = some (r1, r2, r3)) :
  Calls Tryd.prog 55 #[.agg #[.string a0_0, .string a0_1, .int .i64 a0_2]] w fun e w' => e = .returned (.agg #[.string r1, .string r2, .int .i64 r3]) ∧ Below w.heap.size w w' := by
 have hu67 := Tryd.underlying67;have hu69 := Tryd.underlying69;have HB := aM (Below.refl w.heap.size w);have H : (some (a0_0, a0_1, a0_2)) = some (r1, r2, r3) := h;clear h;simp only [Option.some.injEq, Prod.mk.injEq] at H;obtain ⟨rfl, rfl, rfl⟩ := H
 go_enter Tryd.func55, Tryd.ntmps55
 go_wp2_with (first | ((with_reducible refine gate_dst (N := 1) rfl ?_); refine box_event ?hg (N := 1) ?hd (cs := #[.string a0_0, .string a0_1, .int .i64 a0_2]) (t := 67) ?hr ?_; (case hd => rfl); (case hg => rfl); (case hr => first | (go_simp; done) | (go_simp; rfl)); intro gb203 hg w2 hbox hb; have BK203 := aM (hbox); have GW203 := aM ((by rw [hg]; exact (below_size (bM HB.o)) : w.heap.size ≤ gb203)); have GE203 := aM ((by rw [hg]; exact (below_size (bM HB.o)) : w.heap.size ≤ gb203)); replace HB := aM (below_step (bM HB.o) hb); clear hb hbox hg) | ((with_reducible refine gate_dst (N := 2) rfl ?_); refine box_event ?hg (N := 2) ?hd (cs := #[.string (⟨#[]⟩ : ByteArray), .string (⟨#[]⟩ : ByteArray), .int .i64 0]) (t := 69) ?hr ?_; (case hd => rfl); (case hg => rfl); (case hr => first | (go_simp; done) | (go_simp; rfl)); intro gb204 hg w3 hbox hb; have BK204 := aM (hbox); have GW204 := aM ((by rw [hg]; exact (below_size (by with_reducible repeat (first | exact HB.o | apply bA | apply bN | apply bD | refine bS ?_ GE203.o))) : w.heap.size ≤ gb204)); have GE204 := aM ((by rw [hg]; exact (below_size (by with_reducible repeat (first | exact HB.o | apply bA | apply bN | apply bD | refine bS ?_ GE203.o))) : w.heap.size ≤ gb204)); replace HB := aM (below_step (by with_reducible repeat (first | exact HB.o | apply bA | apply bN | apply bD | refine bS ?_ GE203.o)) hb); have NB203_204 := aM ((by rw [hg]; exact Nat.ne_of_lt (blk_lt (g := gb203) (o := .cells #[.string a0_0, .string a0_1, .int .i64 a0_2] 67 (0, 0)) (kM BK203.o)) : gb203 ≠ gb204)); have NB204_203 := aM ((by rw [hg]; exact Nat.ne_of_gt (blk_lt (g := gb203) (o := .cells #[.string a0_0, .string a0_1, .int .i64 a0_2] 67 (0, 0)) (kM BK203.o)) : gb204 ≠ gb203)); replace BK203 := aM (blk_below (kM BK203.o) hb); clear hb hbox hg) | ((with_reducible refine gate_dst (N := 3) rfl ?_); refine box_event ?hg (N := 3) ?hd (cs := #[.string (⟨#[]⟩ : ByteArray), .string (⟨#[]⟩ : ByteArray), .int .i64 0]) (t := 69) ?hr ?_; (case hd => rfl); (case hg => rfl); (case hr => first | (go_simp; done) | (go_simp; rfl)); intro gb205 hg w4 hbox hb; have BK205 := aM (hbox); have GW205 := aM ((by rw [hg]; exact (below_size (by with_reducible repeat (first | exact HB.o | apply bA | apply bN | apply bD | refine bS ?_ GE203.o | refine bS ?_ GE204.o))) : w.heap.size ≤ gb205)); have GE205 := aM ((by rw [hg]; exact (below_size (by with_reducible repeat (first | exact HB.o | apply bA | apply bN | apply bD | refine bS ?_ GE203.o | refine bS ?_ GE204.o))) : w.heap.size ≤ gb205)); replace HB := aM (below_step (by with_reducible repeat (first | exact HB.o | apply bA | apply bN | apply bD | refine bS ?_ GE203.o | refine bS ?_ GE204.o)) hb); have NB203_205 := aM ((by rw [hg]; exact Nat.ne_of_lt (blk_lt (g := gb203) (o := .cells #[.string a0_0, .string a0_1, .int .i64 a0_2] 67 (0, 0)) (kM BK203.o)) : gb203 ≠ gb205)); have NB205_203 := aM ((by rw [hg]; exact Nat.ne_of_gt (blk_lt (g := gb203) (o := .cells #[.string a0_0, .string a0_1, .int .i64 a0_2] 67 (0, 0)) (kM BK203.o)) : gb205 ≠ gb203)); replace BK203 := aM (blk_below (kM BK203.o) hb); have NB204_205 := aM ((by rw [hg]; exact Nat.ne_of_lt (blk_lt (g := gb204) (o := .cells #[.string (⟨#[]⟩ : ByteArray), .string (⟨#[]⟩ : ByteArray), .int .i64 0] 69 (0, 0)) (kM BK204.o)) : gb204 ≠ gb205)); have NB205_204 := aM ((by rw [hg]; exact Nat.ne_of_gt (blk_lt (g := gb204) (o := .cells #[.string (⟨#[]⟩ : ByteArray), .string (⟨#[]⟩ : ByteArray), .int .i64 0] 69 (0, 0)) (kM BK204.o)) : gb205 ≠ gb204)); replace BK204 := aM (blk_below (g := gb204) (o := .cells #[.string (⟨#[]⟩ : ByteArray), .string (⟨#[]⟩ : ByteArray), .int .i64 0] 69 (0, 0)) (kM BK204.o) hb); clear hb hbox hg; have hnb5 := NB203_204.o; have hnc5 := NB204_203.o; have hnb6 := NB203_205.o; have hnc6 := NB205_203.o; have hcz7_0 := cL0 BK203.o; have hcz7_1 := cL1 BK203.o; have hcz7_2 := cL2 BK203.o; have hfz7_0 := kF BK203.o 0; have hfz7_1 := kF BK203.o 1; have hfz7_2 := kF BK203.o 2; have hnb8 := NB205_204.o; have hnc8 := NB204_205.o; have hcz9_0 := cL0 BK205.o; have hcz9_1 := cL1 BK205.o; have hcz9_2 := cL2 BK205.o; have hfz9_0 := kF BK205.o 0; have hfz9_1 := kF BK205.o 1; have hfz9_2 := kF BK205.o 2; have hcz10_0 := cL0 BK204.o; have hcz10_1 := cL1 BK204.o; have hcz10_2 := cL2 BK204.o; have hfz10_0 := kF BK204.o 0; have hfz10_1 := kF BK204.o 1; have hfz10_2 := kF BK204.o 2))
 refine bodyPost_ret (results_cell_row rfl _ _ gb204 69 #[.string a0_0, .string a0_1, .int .i64 a0_2] (0, 0) _ rfl (by (with_reducible repeat (first | refine kN ?_ _ | refine kD ?_ | refine kA ?_ _)); refine blk_put (cs := #[.string a0_0, .string a0_1, .int .i64 0]) ?_ 2 _ rfl; refine blk_put (cs := #[.string a0_0, .string (⟨#[]⟩ : ByteArray), .int .i64 0]) ?_ 1 _ rfl; refine blk_put (cs := #[.string (⟨#[]⟩ : ByteArray), .string (⟨#[]⟩ : ByteArray), .int .i64 0]) ?_ 0 _ rfl; (with_reducible repeat (first | refine kN ?_ _ | refine kD ?_ | refine kA ?_ _)); refine blk_far ?_ NB204_205.o _; (with_reducible repeat (first | refine kN ?_ _ | refine kD ?_ | refine kA ?_ _)); refine blk_far ?_ NB204_205.o _; (with_reducible repeat (first | refine kN ?_ _ | refine kD ?_ | refine kA ?_ _)); refine blk_far ?_ NB204_205.o _; (with_reducible repeat (first | refine kN ?_ _ | refine kD ?_ | refine kA ?_ _)); exact BK204.o) Tryd.underlying69 rfl (by kernel_rfl)) rfl ?_;exact ⟨by first | rfl | (simp [zE] <;> rfl) | (simp [*, zE] <;> rfl), by with_reducible repeat (first | exact HB.o | apply bA | apply bN | apply bD | refine bS ?_ GE203.o | refine bS ?_ GE204.o | refine bS ?_ GE205.o)⟩

def laws_toFileS.l0 : Nat → List (S67) → List (S69) → Int → Option ((List (S69)))
 | 0, _, _, _ => none
 | k + 1, x0, x3, x4 => if x4 < (x0.length : Int) then (if 0 ≤ x4 then ((laws_toFile.f ((rd_T67 x0 x4).f0) ((rd_T67 x0 x4).f1) ((rd_T67 x0 x4).f2)).bind fun bt210 => (if x4 < (x3.length : Int) then (laws_toFileS.l0 k x0 (x3.set (x4 : Int).toNat (⟨bt210.1, bt210.2.1, bt210.2.2⟩ : S69)) (wrap64 (x4 + 1))) else (none))) else (none)) else (some x3)
def laws_toFileS.f (k : Nat) (l0 : List (S67)) : Option ((List (S69))) := if 0 ≤ (l0.length : Int) then (if ((l0.length : Int) : Int).toNat ≤ 7036874417766 then (laws_toFileS.l0 k l0 (List.replicate ((l0.length : Int) : Int).toNat z69) 0) else (none)) else (none)
theorem laws_toFileS.mono_l : ∀ k, (∀ y0 y1 y2, LeO (laws_toFileS.l0 k y0 y1 y2) (laws_toFileS.l0 (k + 1) y0 y1 y2))
 | 0 => fun _ _ _ r h => by simp [laws_toFileS.l0] at h
 | k + 1 => by
  have ih0 := laws_toFileS.mono_l k
  ·intro y0 y1 y2
   unfold laws_toFileS.l0
   repeat' first
   | (with_reducible exact ih0 _ _ _)
   | (with_reducible exact LeO.refl _)
   | (with_reducible exact LeO.none _)
   | (with_reducible refine LeO.ite ?_ ?_)
   | (with_reducible refine LeO.bind ?_ (fun _ => ?_))
   | exact ih0 _ _ _
   | exact LeO.none _
   | refine LeO.ite ?_ ?_
   | refine LeO.bind ?_ (fun _ => ?_)
theorem laws_toFileS.mono : ∀ a0 k, LeO (laws_toFileS.f k a0) (laws_toFileS.f (k + 1) a0) := by
 intro a0 k;have ih0 := laws_toFileS.mono_l k
 unfold laws_toFileS.f
 repeat' first
   | (with_reducible exact ih0 _ _ _)
   | (with_reducible exact LeO.refl _)
   | (with_reducible exact LeO.none _)
   | (with_reducible refine LeO.ite ?_ ?_)
   | (with_reducible refine LeO.bind ?_ (fun _ => ?_))
   | exact ih0 _ _ _
   | exact LeO.none _
   | refine LeO.ite ?_ ?_
   | refine LeO.bind ?_ (fun _ => ?_)
set_option maxHeartbeats 8000000 in
set_option maxRecDepth 100000 in
theorem laws_toFileS.calls (k : Nat) (A0 : Option Addr) (c0 : Nat) (l0 : List (S67)) (r : List (S69)) (w : World) (hr0 : Kd.C k67 w A0 l0.length l0) (hc0 : l0.length ≤ c0) (h : laws_toFileS.f k l0 = some r) :
  Calls Tryd.prog 26 #[.slice A0 l0.length c0] w fun e w' => ∃ v0_ : Value, e = .returned (v0_) ∧ Kd.R k69 69 w' w.heap.size (fun _ => True) v0_ r ∧ Below w.heap.size w w' := by
 have hu67 := Tryd.underlying67;have hu69 := Tryd.underlying69;have HR0 := aM hr0;have HC0 := aM hc0;clear hr0 hc0;have HB := aM (Below.refl w.heap.size w);have H : (if 0 ≤ (l0.length : Int) then (if ((l0.length : Int) : Int).toNat ≤ 7036874417766 then (laws_toFileS.l0 k l0 (List.replicate ((l0.length : Int) : Int).toNat z69) 0) else (none)) else (none)) = some r := h;clear h
 by_cases c2 : 0 ≤ (l0.length : Int)
 ·rw [if_pos c2] at H;have c2b0 := eq_true c2;have c2b1 : decide (0 ≤ (l0.length : Int)) = true := decide_eq_true c2;clear c2
  by_cases c3 : ((l0.length : Int) : Int).toNat ≤ 7036874417766
  ·rw [if_pos c3] at H;have c3b0 := eq_true c3;have c3b1 : decide (((l0.length : Int) : Int).toNat ≤ 7036874417766) = true := decide_eq_true c3;clear c3;obtain ⟨y206, hy206⟩ : ∃ y_ : List (S69), y_ = (List.replicate ((l0.length : Int) : Int).toNat z69) := ⟨_, rfl⟩
   replace H : (laws_toFileS.l0 k l0 y206 0) = some r := by first | (rw [hy206]; with_reducible exact H) | (have H2_ := (Option.bind_some _ _).symm.trans H; rw [hy206]; with_reducible exact H2_) | (have H2_ := (Option.bind_some _ _).symm.trans H; with_reducible exact H2_) | with_reducible exact H | (rw [hy206]; exact H) | exact H
   have Ny206 := aM hy206;clear hy206;have H' := aM H;clear H
   go_enter Tryd.func26, Tryd.ntmps26
   go_wp2_with (first | ((with_reducible refine gate_dst (N := 7) rfl ?_); refine Kd.R_make k69 _ 69 rfl (N := 7) rfl 31 _ _ rfl (l0.length : Int) rfl rfl Tryd.underlying31 (.agg #[(.string ⟨#[]⟩), (.string ⟨#[]⟩), (.int .i64 0)]) 40 info69 rfl (by decide) (by omega) z69 (ok := fun _ => True) (okp := fun _ => True) (k69_mkM _ _ _ z69 ) (fun _ hk => hk) trivial oD (Nat.le_trans (Nat.mul_le_mul_right _ (oD : (l0.length : Int).toNat ≤ 7036874417766)) (by omega)) (Below.refl _ _) (Nat.le_refl _) ?_; intro v207 w4 ho5 hb hg_ hnew_; clear hg_ hnew_; (first | rw [← Ny206.o] at ho5 | (simp only [Int.reduceToNat] at ho5; rw [← Ny206.o] at ho5)); have HO208 := aM (Kd.R_lower ho5 (below_size (bM HB.o))); replace HB := aM (below_step (bM HB.o) hb); clear hb ho5))
   go_loopg [4] k (fun kq v4 w' => ∃ (x3_1 : List (S69)) (x4_1 : Int), v4 = .int .i64 x4_1 ∧ Aside0 (laws_toFileS.l0 kq l0 x3_1 x4_1 = some r) ∧ Aside0 (kq ≤ k) ∧ Aside0 (Kd.R k69 69 w' w.heap.size (fun _ => True) v207 x3_1) ∧ Aside0 (Below w.heap.size w w'))
   case atStart => exact ⟨(y206), (0), (by first | rfl | (simp; done) | (simp [*]; done)), H', ⟨Nat.le_refl _⟩, ⟨by (with_reducible repeat (first | apply Kd.R_alloc | apply Kd.R_drewN | apply Kd.R_drew)); exact HO208.o⟩, ⟨bM HB.o⟩⟩
   case round =>
    clear H';obtain ⟨x3_1, x4_1, rfl, HA, HK1, HO_3, HB⟩ := hrel
    cases gk with
    | zero => exact absurd HA.o (by simp [laws_toFileS.l0])
    | succ k1 =>
     have H := HA.o;clear HA;simp only [laws_toFileS.l0] at H
     by_cases c6 : x4_1 < (l0.length : Int)
     ·rw [if_pos c6] at H;have c6b0 : decide (x4_1 < (l0.length : Int)) = true := decide_eq_true c6;clear c6
      by_cases c7 : 0 ≤ x4_1
      ·rw [if_pos c7] at H;have c7b0 : decide (0 ≤ x4_1) = true := decide_eq_true c7;clear c7;replace H := Option.bind_eq_some_iff.mp H;obtain ⟨⟨t210, t211, t212⟩, A80, H⟩ := H;replace H : (if x4_1 < (x3_1.length : Int) then (laws_toFileS.l0 k1 l0 (x3_1.set (x4_1 : Int).toNat (⟨t210, t211, t212⟩ : S69)) (wrap64 (x4_1 + 1))) else (none)) = some r := H;have A8 := aM A80;clear A80
       by_cases c9 : x4_1 < (x3_1.length : Int)
       ·rw [if_pos c9] at H;have c9b0 : decide (x4_1 < (x3_1.length : Int)) = true := decide_eq_true c9;clear c9;obtain ⟨y213, hy213⟩ : ∃ y_ : List (S69), y_ = (x3_1.set (x4_1 : Int).toNat (⟨t210, t211, t212⟩ : S69)) := ⟨_, rfl⟩
        replace H : (laws_toFileS.l0 k1 l0 y213 (wrap64 (x4_1 + 1))) = some r := by first | (rw [hy213]; with_reducible exact H) | (have H2_ := (Option.bind_some _ _).symm.trans H; rw [hy213]; with_reducible exact H2_) | (have H2_ := (Option.bind_some _ _).symm.trans H; with_reducible exact H2_) | with_reducible exact H | (rw [hy213]; exact H) | exact H
        have Ny213 := aM hy213;clear hy213;have H' := aM H;clear H;have p209 : 0 ≤ (x4_1 : Int) := oD;have q209 : x4_1 < (l0.length : Int) := oD;obtain ⟨ad209, e209, hx209_0, hx209_1, hx209_2⟩ := at_T67 HR0.o x4_1 p209 q209
        cases e209
        replace hx209_0 := (HB.o.cell (lC w _ hx209_0)).trans hx209_0;replace hx209_1 := (HB.o.cell (lC w _ hx209_1)).trans hx209_1;replace hx209_2 := (HB.o.cell (lC w _ hx209_2)).trans hx209_2;replace p209 := eq_true p209;replace q209 := eq_true q209
        go_wp2_with (first | ((with_reducible refine gate_callee (f := 55) rfl ?_); refine goesL_ (some 20) rfl rfl Tryd.func55 (by kernel_rfl) rfl #[.agg #[.string ((rd_T67 l0 x4_1).f0), .string ((rd_T67 l0 x4_1).f1), .int .i64 ((rd_T67 l0 x4_1).f2)]] rfl (by (try simp only [zM]); first | done | rfl | (simp only [zL]; rfl)) ?_; (with_reducible refine (laws_toFile.calls ((rd_T67 l0 x4_1).f0) ((rd_T67 l0 x4_1).f1) ((rd_T67 l0 x4_1).f2) t210 t211 t212 _ A8.o).mono ?_); rintro e w11 ⟨rfl, hb⟩; refine ⟨_, rfl, ?_⟩; replace HO_3 := aM (Kd.R_below (rM HO_3.o) hb); replace HB := aM (below_step (bM HB.o) hb); (try clear hb); have p10 : 0 ≤ (x4_1 : Int) := oD; have q10 : (x4_1 : Int) < ((x3_1.length : Int) : Int) := oD; obtain ⟨go10, co10, eo10, gb10, gl10, cl10, HG10⟩ := Kd.R_form HO_3.o (by omega); (first | cases eo10 | (injection eo10 with ea_ en_ ec_; (first | subst ea_ | (injection ea_ with ea_; subst ea_)); subst ec_; clear en_)); have GB10 := aM gb10; have GG10 := aM HG10; clear gb10 gl10 HG10; obtain ⟨ce10, hcl10, hM10, hcc10, hfr10⟩ := Kd.R_elem HO_3.o z69 (x4_1 : Int) p10 q10; obtain rfl := k69_openM hM10; have hx10_0 : w11.cell? ⟨go10, (x4_1 : Int).toNat * 3, none⟩ = some (.string ((rd_T69 x3_1 x4_1).f0)) := hcc10 0 _ rfl; have hx10_1 : w11.cell? ⟨go10, (x4_1 : Int).toNat * 3 + 1, none⟩ = some (.string ((rd_T69 x3_1 x4_1).f1)) := hcc10 1 _ rfl; have hx10_2 : w11.cell? ⟨go10, (x4_1 : Int).toNat * 3 + 2, none⟩ = some (.int .i64 ((rd_T69 x3_1 x4_1).f2)) := hcc10 2 _ rfl; have hf10_0 : w11.frozen? ⟨go10, (x4_1 : Int).toNat * 3, none⟩ = false := hfr10 0; have hf10_1 : w11.frozen? ⟨go10, (x4_1 : Int).toNat * 3 + 1, none⟩ = false := hfr10 1; have hf10_2 : w11.frozen? ⟨go10, (x4_1 : Int).toNat * 3 + 2, none⟩ = false := hfr10 2; clear hcl10 hcc10 hfr10 hM10; replace p10 := eq_true p10; replace q10 := eq_true q10; have HX12 := aM (show Kd.R k69 69 w11 w.heap.size (fun _ => True) (.slice (some ⟨go10, 0, none⟩) x3_1.length co10) x3_1 from (rM HO_3.o)); obtain ⟨ce12, hcl12, hM12, hcc12, hfr12⟩ := Kd.R_elem HX12.o z69 (x4_1 : Int) oD (by have h_ : (x4_1 : Int) < ((x3_1.length : Int) : Int) := oD; first | exact h_ | (have e_ := (Kd.R_reads' HO_3.o).1; omega) | simpa using h_); obtain rfl := k69_openM hM12; have HP12 := Kd.R_seg HX12.o (x4_1 : Int) oD (by have h_ : (x4_1 : Int) < ((x3_1.length : Int) : Int) := oD; first | exact h_ | (have e_ := (Kd.R_reads' HO_3.o).1; omega) | simpa using h_) (seg := [.string t210, .string t211, .int .i64 t212]) (j := 0) hcl12 hcc12 (show 3 ≤ 3 from by decide) (x' := (⟨t210, t211, t212⟩ : S69)) (k69_mkM _ _ _ (⟨t210, t211, t212⟩ : S69) ) (fun _ hk => hk); have hx12_0 := hcc12 0 _ rfl; (try simp only [show (k69).sz = 3 from rfl, Nat.mul_one, Nat.add_zero] at hx12_0); have hf12_0 := hfr12 0; (try simp only [show (k69).sz = 3 from rfl, Nat.mul_one, Nat.add_zero] at hf12_0); have hx12_1 := hcc12 1 _ rfl; (try simp only [show (k69).sz = 3 from rfl, Nat.mul_one, Nat.add_zero] at hx12_1); have hf12_1 := hfr12 1; (try simp only [show (k69).sz = 3 from rfl, Nat.mul_one, Nat.add_zero] at hf12_1); have hx12_2 := hcc12 2 _ rfl; (try simp only [show (k69).sz = 3 from rfl, Nat.mul_one, Nat.add_zero] at hx12_2); have hf12_2 := hfr12 2; (try simp only [show (k69).sz = 3 from rfl, Nat.mul_one, Nat.add_zero] at hf12_2); clear hcl12 hcc12 hfr12 hM12) | ((with_reducible refine gate_store (t := 69) (p := 21) rfl ?_); refine store_event (t := 69) (p := 21) (v := ?vo_w13) (w1 := (((w11.setCell ⟨go10, (x4_1 : Int).toNat * 3, none⟩ (.string t210)).setCell ⟨go10, (x4_1 : Int).toNat * 3 + 1, none⟩ (.string t211)).setCell ⟨go10, (x4_1 : Int).toNat * 3 + 2, none⟩ (.int .i64 t212))) ?hg ?ho ?hn ?hr ?_; (case ho => rfl); (case hg => rfl); (case hn => rfl); (case hr => first | (go_simp; done) | (go_simp; rfl)); intro w13 hw; have hg : w11.grownBy w13 (some go10) := (by rw [hw]; exact HP12.2); have hp_ : Kd.R k69 69 w13 w.heap.size (fun _ => True) (.slice (some ⟨go10, 0, none⟩) x3_1.length co10) y213 := (by rw [hw, Ny213.o]; exact HP12.1); clear HP12; replace HO_3 := aM (hp_); replace HB := aM ((by rw [hw]; exact bS (bS (bS (HB.o) GB10.o) GB10.o) GB10.o : Below w.heap.size w w13)); clear hg hw hp_))
        go_roundg k1
        case measure => have := HK1.o; omega
        case rel => exact ⟨(y213), (wrap64 (x4_1 + 1)), (by first | rfl | (simp; done) | (simp [*]; done)), H', ⟨by have := HK1.o; omega⟩, ⟨by (with_reducible repeat (first | apply Kd.R_alloc | apply Kd.R_drewN | apply Kd.R_drew)); exact HO_3.o⟩, ⟨bM HB.o⟩⟩
       ·rw [if_neg c9] at H;exact absurd H (by simp)
      ·rw [if_neg c7] at H;exact absurd H (by simp)
     ·rw [if_neg c6] at H;have c6b0 : decide (x4_1 < (l0.length : Int)) = false := decide_eq_false c6;clear c6;obtain rfl := Option.some.inj H
      go_wp2
      go_ret
      exact ⟨_, by first | rfl | (simp [zE] <;> rfl) | (simp [*, zE] <;> rfl), by (with_reducible repeat (first | apply Kd.R_alloc | apply Kd.R_drewN | apply Kd.R_drew)); exact HO_3.o, bM HB.o⟩
  ·rw [if_neg c3] at H;exact absurd H (by simp)
 ·rw [if_neg c2] at H;exact absurd H (by simp)

def laws_toDisk.f (k : Nat) (a0_0 : Int) (l0_1 : List (S67)) : Option (Int × (List (S69))) := (laws_toFileS.f k l0_1).bind fun t217 => (some (a0_0, t217))
theorem laws_toDisk.mono : ∀ a0 a1 k, LeO (laws_toDisk.f k a0 a1) (laws_toDisk.f (k + 1) a0 a1) := by
 intro a0 a1 k
 unfold laws_toDisk.f
 repeat' first
   | (with_reducible exact laws_toFileS.mono _ _)
   | (with_reducible exact LeO.refl _)
   | (with_reducible exact LeO.none _)
   | (with_reducible refine LeO.ite ?_ ?_)
   | (with_reducible refine LeO.bind ?_ (fun _ => ?_))
   | exact laws_toFileS.mono _ _
   | exact LeO.none _
   | refine LeO.ite ?_ ?_
   | refine LeO.bind ?_ (fun _ => ?_)
set_option maxHeartbeats 8000000 in
set_option maxRecDepth 100000 in
theorem laws_toDisk.calls (k : Nat) (a0_0 : Int) (A0_1 : Option Addr) (c0_1 : Nat) (l0_1 : List (S67)) (r1 : Int) (r2 : List (S69)) (w : World) (hr0_1 : Kd.C k67 w A0_1 l0_1.length l0_1) (hc0_1 : l0_1.length ≤ c0_1) (h : laws_toDisk.f k a0_0 l0_1 = some (r1, r2)) :
  Calls Tryd.prog 8 #[.agg #[.int .i64 a0_0, .slice A0_1 l0_1.length c0_1]] w fun e w' => ∃ v1_ : Value, e = .returned (.agg #[.int .i64 r1, v1_]) ∧ Kd.R k69 69 w' w.heap.size (fun _ => True) v1_ r2 ∧ Below w.heap.size w w' := by
 have hu24 := Tryd.underlying24;have hu33 := Tryd.underlying33;have HR0_1 := aM hr0_1;have HC0_1 := aM hc0_1;clear hr0_1 hc0_1;have HB := aM (Below.refl w.heap.size w);have H : ((laws_toFileS.f k l0_1).bind fun t217 => (some (a0_0, t217))) = some (r1, r2) := h;clear h;replace H := Option.bind_eq_some_iff.mp H;obtain ⟨t217, A20, H⟩ := H;replace H : (some (a0_0, t217)) = some (r1, r2) := H;have A2 := aM A20;clear A20;simp only [Option.some.injEq, Prod.mk.injEq] at H;obtain ⟨rfl, rfl⟩ := H
 go_enter Tryd.func8, Tryd.ntmps8
 go_wp2_with (first | ((with_reducible refine gate_dst (N := 1) rfl ?_); refine box_event ?hg (N := 1) ?hd (cs := #[.int .i64 a0_0, .slice A0_1 l0_1.length c0_1]) (t := 24) ?hr ?_; (case hd => rfl); (case hg => rfl); (case hr => first | (go_simp; done) | (go_simp; rfl)); intro gb214 hg w3 hbox hb; have BK214 := aM (hbox); have GW214 := aM ((by rw [hg]; exact (below_size (bM HB.o)) : w.heap.size ≤ gb214)); have GE214 := aM ((by rw [hg]; exact (below_size (bM HB.o)) : w.heap.size ≤ gb214)); replace HB := aM (below_step (bM HB.o) hb); clear hb hbox hg) | ((with_reducible refine gate_dst (N := 2) rfl ?_); refine box_event ?hg (N := 2) ?hd (cs := #[.int .i64 0, .slice none 0 0]) (t := 33) ?hr ?_; (case hd => rfl); (case hg => rfl); (case hr => first | (go_simp; done) | (go_simp; rfl)); intro gb215 hg w4 hbox hb; have BK215 := aM (hbox); have GW215 := aM ((by rw [hg]; exact (below_size (by with_reducible repeat (first | exact HB.o | apply bA | apply bN | apply bD | refine bS ?_ GE214.o))) : w.heap.size ≤ gb215)); have GE215 := aM ((by rw [hg]; exact (below_size (by with_reducible repeat (first | exact HB.o | apply bA | apply bN | apply bD | refine bS ?_ GE214.o))) : w.heap.size ≤ gb215)); replace HB := aM (below_step (by with_reducible repeat (first | exact HB.o | apply bA | apply bN | apply bD | refine bS ?_ GE214.o)) hb); have NB214_215 := aM ((by rw [hg]; exact Nat.ne_of_lt (blk_lt (g := gb214) (o := .cells #[.int .i64 a0_0, .slice A0_1 l0_1.length c0_1] 24 (0, 0)) (kM BK214.o)) : gb214 ≠ gb215)); have NB215_214 := aM ((by rw [hg]; exact Nat.ne_of_gt (blk_lt (g := gb214) (o := .cells #[.int .i64 a0_0, .slice A0_1 l0_1.length c0_1] 24 (0, 0)) (kM BK214.o)) : gb215 ≠ gb214)); replace BK214 := aM (blk_below (kM BK214.o) hb); clear hb hbox hg) | ((with_reducible refine gate_dst (N := 3) rfl ?_); refine box_event ?hg (N := 3) ?hd (cs := #[.int .i64 0, .slice none 0 0]) (t := 33) ?hr ?_; (case hd => rfl); (case hg => rfl); (case hr => first | (go_simp; done) | (go_simp; rfl)); intro gb216 hg w5 hbox hb; have BK216 := aM (hbox); have GW216 := aM ((by rw [hg]; exact (below_size (by with_reducible repeat (first | exact HB.o | apply bA | apply bN | apply bD | refine bS ?_ GE214.o | refine bS ?_ GE215.o))) : w.heap.size ≤ gb216)); have GE216 := aM ((by rw [hg]; exact (below_size (by with_reducible repeat (first | exact HB.o | apply bA | apply bN | apply bD | refine bS ?_ GE214.o | refine bS ?_ GE215.o))) : w.heap.size ≤ gb216)); replace HB := aM (below_step (by with_reducible repeat (first | exact HB.o | apply bA | apply bN | apply bD | refine bS ?_ GE214.o | refine bS ?_ GE215.o)) hb); have NB214_216 := aM ((by rw [hg]; exact Nat.ne_of_lt (blk_lt (g := gb214) (o := .cells #[.int .i64 a0_0, .slice A0_1 l0_1.length c0_1] 24 (0, 0)) (kM BK214.o)) : gb214 ≠ gb216)); have NB216_214 := aM ((by rw [hg]; exact Nat.ne_of_gt (blk_lt (g := gb214) (o := .cells #[.int .i64 a0_0, .slice A0_1 l0_1.length c0_1] 24 (0, 0)) (kM BK214.o)) : gb216 ≠ gb214)); replace BK214 := aM (blk_below (kM BK214.o) hb); have NB215_216 := aM ((by rw [hg]; exact Nat.ne_of_lt (blk_lt (g := gb215) (o := .cells #[.int .i64 0, .slice none 0 0] 33 (0, 0)) (kM BK215.o)) : gb215 ≠ gb216)); have NB216_215 := aM ((by rw [hg]; exact Nat.ne_of_gt (blk_lt (g := gb215) (o := .cells #[.int .i64 0, .slice none 0 0] 33 (0, 0)) (kM BK215.o)) : gb216 ≠ gb215)); replace BK215 := aM (blk_below (kM BK215.o) hb); clear hb hbox hg; have hnb6 := NB214_215.o; have hnc6 := NB215_214.o; have hnb7 := NB214_216.o; have hnc7 := NB216_214.o; have hcz8_0 := cL0 BK214.o; have hcz8_1 := cL1 BK214.o; have hfz8_0 := kF BK214.o 0; have hfz8_1 := kF BK214.o 1; have hnb9 := NB216_215.o; have hnc9 := NB215_216.o; have hcz10_0 := cL0 BK216.o; have hcz10_1 := cL1 BK216.o; have hfz10_0 := kF BK216.o 0; have hfz10_1 := kF BK216.o 1) | ((with_reducible refine gate_callee (f := 26) rfl ?_); refine goesL_ (some 9) rfl rfl Tryd.func26 (by kernel_rfl) rfl #[.slice A0_1 l0_1.length c0_1] rfl (by (try simp only [zM]); first | done | rfl | (simp only [zL]; rfl)) ?_; (with_reducible refine (laws_toFileS.calls k _ _ l0_1 t217 _ ?side1 ?side2 A2.o).mono ?_); (case side1 => exact Kd.C_below HR0_1.o (by with_reducible repeat (first | exact HB.o | apply bA | apply bN | apply bD | refine bS ?_ GE214.o | refine bS ?_ GE215.o | refine bS ?_ GE216.o))); (case side2 => exact HC0_1.o); rintro e w11 ⟨v218, rfl, ho0, hb⟩; refine ⟨_, rfl, ?_⟩; have HO219 := aM (Kd.R_lower ho0 (below_size (by with_reducible repeat (first | exact HB.o | apply bA | apply bN | apply bD | refine bS ?_ GE214.o | refine bS ?_ GE215.o | refine bS ?_ GE216.o)))); replace BK214 := aM (blk_below (g := gb214) (o := .cells #[.int .i64 a0_0, .slice A0_1 l0_1.length c0_1] 24 (0, 0)) (by (with_reducible repeat (first | refine kN ?_ _ | refine kD ?_ | refine kA ?_ _)); refine blk_far ?_ NB214_216.o _; (with_reducible repeat (first | refine kN ?_ _ | refine kD ?_ | refine kA ?_ _)); exact BK214.o) hb); replace BK215 := aM (blk_below (g := gb215) (o := .cells #[.int .i64 0, .slice none 0 0] 33 (0, 0)) (by (with_reducible repeat (first | refine kN ?_ _ | refine kD ?_ | refine kA ?_ _)); refine blk_far ?_ NB215_216.o _; (with_reducible repeat (first | refine kN ?_ _ | refine kD ?_ | refine kA ?_ _)); exact BK215.o) hb); replace BK216 := aM (blk_below (g := gb216) (o := .cells #[.int .i64 a0_0, .slice none 0 0] 33 (0, 0)) (by (with_reducible repeat (first | refine kN ?_ _ | refine kD ?_ | refine kA ?_ _)); refine blk_put (cs := #[.int .i64 0, .slice none 0 0]) ?_ 0 _ rfl; exact BK216.o) hb); replace HB := aM (below_step (by with_reducible repeat (first | exact HB.o | apply bA | apply bN | apply bD | refine bS ?_ GE214.o | refine bS ?_ GE215.o | refine bS ?_ GE216.o)) hb); (try clear hb); (try clear ho0); obtain ⟨Ao12, co12, eo12⟩ := Kd.R_slice HO219.o; subst eo12; have hcz13_0 := cL0 BK216.o; have hcz13_1 := cL1 BK216.o; have hfz13_0 := kF BK216.o 0; have hfz13_1 := kF BK216.o 1; have hcz14_0 := cL0 BK215.o; have hcz14_1 := cL1 BK215.o; have hfz14_0 := kF BK215.o 0; have hfz14_1 := kF BK215.o 1))
 refine bodyPost_ret (results_cell_row rfl _ _ gb215 33 #[.int .i64 a0_0, .slice Ao12 t217.length co12] (0, 0) _ rfl (by (with_reducible repeat (first | refine kN ?_ _ | refine kD ?_ | refine kA ?_ _)); refine blk_put (cs := #[.int .i64 a0_0, .slice none 0 0]) ?_ 1 _ rfl; refine blk_put (cs := #[.int .i64 0, .slice none 0 0]) ?_ 0 _ rfl; (with_reducible repeat (first | refine kN ?_ _ | refine kD ?_ | refine kA ?_ _)); refine blk_far ?_ NB215_216.o _; (with_reducible repeat (first | refine kN ?_ _ | refine kD ?_ | refine kA ?_ _)); exact BK215.o) Tryd.underlying33 rfl (by kernel_rfl)) rfl ?_;exact ⟨_, by first | rfl | (simp [zE] <;> rfl) | (simp [*, zE] <;> rfl), by (with_reducible repeat (first | apply Kd.R_alloc | apply Kd.R_drewN | apply Kd.R_drew)); exact Kd.R_mono (Kd.R_far (p := ⟨gb215, 1, none⟩) (Kd.R_far (p := ⟨gb215, 0, none⟩) (Kd.R_far (p := ⟨gb216, 1, none⟩) (Kd.R_types (Kd.R_types HO219.o BK216.o (by decide)) BK215.o (by decide)) (fun _ hk => hk.1.2) (.slice Ao12 t217.length co12)) (fun _ hk => hk.2) (.int .i64 a0_0)) (fun _ hk => hk.2) (.slice Ao12 t217.length co12)) (fun _ hk => trivial), by with_reducible repeat (first | exact HB.o | apply bA | apply bN | apply bD | refine bS ?_ GE214.o | refine bS ?_ GE215.o | refine bS ?_ GE216.o)⟩

def impl_within.f (a0 : Int) (a1 : Int) (a2 : Int) : Option (Bool) := if a0 ≥ a1 then (some (decide (a0 ≤ a2))) else (some false)
set_option maxHeartbeats 8000000 in
set_option maxRecDepth 100000 in
theorem impl_within.calls (a0 : Int) (a1 : Int) (a2 : Int) (r : Bool) (w : World) (h : impl_within.f a0 a1 a2 = some r) :
  Calls Tryd.prog 56 #[.int .i64 a0, .int .i64 a1, .int .i64 a2] w fun e w' => e = .returned (.bool r) ∧ Drawn0 w w' := by
 have H : (if a0 ≥ a1 then (some (decide (a0 ≤ a2))) else (some false)) = some r := h;clear h
 by_cases c4 : a0 ≥ a1
 ·rw [if_pos c4] at H;have c4b0 : decide (a1 ≤ a0) = true := decide_eq_true c4;clear c4;obtain rfl := Option.some.inj H
  go_enter Tryd.func56, Tryd.ntmps56
  go_wp2
  go_ret
  exact ⟨by first | rfl | (simp; done) | (simp [*]; done), by repeat (first | exact Drawn0.refl _ | apply Drawn0.step)⟩
 ·rw [if_neg c4] at H;have c4b0 : decide (a1 ≤ a0) = false := decide_eq_false c4;clear c4;obtain rfl := Option.some.inj H
  go_enter Tryd.func56, Tryd.ntmps56
  go_wp2
  go_ret
  exact ⟨by first | rfl | (simp; done) | (simp [*]; done), by repeat (first | exact Drawn0.refl _ | apply Drawn0.step)⟩

def impl_Disk_used.l0 : Nat → Int → List (S69) → Int → Int → Option (Int)
 | 0, _, _, _, _ => none
 | k + 1, x3, x7, x8, x9 => if x9 < x8 then (if 0 ≤ x9 then (if x9 < (x7.length : Int) then (impl_Disk_used.l0 k (wrap64 (x3 + (((rd_T69 x7 x9).f1).size : Int))) x7 x8 (wrap64 (x9 + 1))) else (none)) else (none)) else (some x3)
def impl_Disk_used.f (k : Nat) (a0_0 : Int) (l0_1 : List (S69)) : Option (Int) := impl_Disk_used.l0 k 0 l0_1 (l0_1.length : Int) 0
theorem impl_Disk_used.mono_l : ∀ k, (∀ y0 y1 y2 y3, LeO (impl_Disk_used.l0 k y0 y1 y2 y3) (impl_Disk_used.l0 (k + 1) y0 y1 y2 y3))
 | 0 => fun _ _ _ _ r h => by simp [impl_Disk_used.l0] at h
 | k + 1 => by
  have ih0 := impl_Disk_used.mono_l k
  ·intro y0 y1 y2 y3
   unfold impl_Disk_used.l0
   repeat' first
   | (with_reducible exact ih0 _ _ _ _)
   | (with_reducible exact LeO.refl _)
   | (with_reducible exact LeO.none _)
   | (with_reducible refine LeO.ite ?_ ?_)
   | (with_reducible refine LeO.bind ?_ (fun _ => ?_))
   | exact ih0 _ _ _ _
   | exact LeO.none _
   | refine LeO.ite ?_ ?_
   | refine LeO.bind ?_ (fun _ => ?_)
theorem impl_Disk_used.mono : ∀ a0 a1 k, LeO (impl_Disk_used.f k a0 a1) (impl_Disk_used.f (k + 1) a0 a1) := by
 intro a0 a1 k;have ih0 := impl_Disk_used.mono_l k
 unfold impl_Disk_used.f
 repeat' first
   | (with_reducible exact ih0 _ _ _ _)
   | (with_reducible exact LeO.refl _)
   | (with_reducible exact LeO.none _)
   | (with_reducible refine LeO.ite ?_ ?_)
   | (with_reducible refine LeO.bind ?_ (fun _ => ?_))
   | exact ih0 _ _ _ _
   | exact LeO.none _
   | refine LeO.ite ?_ ?_
   | refine LeO.bind ?_ (fun _ => ?_)
set_option maxHeartbeats 8000000 in
set_option maxRecDepth 100000 in
theorem impl_Disk_used.calls (k : Nat) (a0_0 : Int) (A0_1 : Option Addr) (c0_1 : Nat) (l0_1 : List (S69)) (r : Int) (w : World) (hr0_1 : Kd.C k69 w A0_1 l0_1.length l0_1) (hc0_1 : l0_1.length ≤ c0_1) (h : impl_Disk_used.f k a0_0 l0_1 = some r) :
  Calls Tryd.prog 57 #[.agg #[.int .i64 a0_0, .slice A0_1 l0_1.length c0_1]] w fun e w' => e = .returned (.int .i64 r) ∧ Below w.heap.size w w' := by
 have hu33 := Tryd.underlying33;have hu69 := Tryd.underlying69;have HR0_1 := aM hr0_1;have HC0_1 := aM hc0_1;clear hr0_1 hc0_1;have HB := aM (Below.refl w.heap.size w);have H : (impl_Disk_used.l0 k 0 l0_1 (l0_1.length : Int) 0) = some r := h;clear h;have H' := aM H;clear H
 go_enter Tryd.func57, Tryd.ntmps57
 go_wp2_with (first | ((with_reducible refine gate_dst (N := 1) rfl ?_); refine box_event ?hg (N := 1) ?hd (cs := #[.int .i64 a0_0, .slice A0_1 l0_1.length c0_1]) (t := 33) ?hr ?_; (case hd => rfl); (case hg => rfl); (case hr => first | (go_simp; done) | (go_simp; rfl)); intro gb220 hg w2 hbox hb; have BK220 := aM (hbox); have GW220 := aM ((by rw [hg]; exact (below_size (bM HB.o)) : w.heap.size ≤ gb220)); have GE220 := aM ((by rw [hg]; exact (below_size (bM HB.o)) : w.heap.size ≤ gb220)); replace HB := aM (below_step (bM HB.o) hb); clear hb hbox hg; have hcz3_0 := cL0 BK220.o; have hcz3_1 := cL1 BK220.o; have hfz3_0 := kF BK220.o 0; have hfz3_1 := kF BK220.o 1))
 go_loopg [3, 9] k (fun kq v3 v9 w' => ∃ (x3_1 : Int) (x9_1 : Int), v3 = .int .i64 x3_1 ∧ v9 = .int .i64 x9_1 ∧ Aside0 (impl_Disk_used.l0 kq x3_1 l0_1 (l0_1.length : Int) x9_1 = some r) ∧ Aside0 (kq ≤ k) ∧ Aside0 (w'.heap[gb220]? = some (.cells #[.int .i64 a0_0, (.slice A0_1 l0_1.length c0_1)] 33 (0, 0))) ∧ Aside0 (Below w.heap.size w w'))
 case atStart => exact ⟨(0), (0), (by first | rfl | (simp; done) | (simp [*]; done)), (by first | rfl | (simp; done) | (simp [*]; done)), H', ⟨Nat.le_refl _⟩, ⟨by (with_reducible repeat (first | refine kN ?_ _ | refine kD ?_ | refine kA ?_ _)); exact BK220.o⟩, ⟨by with_reducible repeat (first | exact HB.o | apply bA | apply bN | apply bD | refine bS ?_ GE220.o)⟩⟩
 case round =>
  clear H';obtain ⟨x3_1, x9_1, rfl, rfl, HA, HK1, BK220, HB⟩ := hrel
  cases gk with
  | zero => exact absurd HA.o (by simp [impl_Disk_used.l0])
  | succ k1 =>
   have H := HA.o;clear HA;simp only [impl_Disk_used.l0] at H
   by_cases c4 : x9_1 < (l0_1.length : Int)
   ·rw [if_pos c4] at H;have c4b0 : decide (x9_1 < (l0_1.length : Int)) = true := decide_eq_true c4;clear c4
    by_cases c5 : 0 ≤ x9_1
    ·rw [if_pos c5] at H;have c5b0 : decide (0 ≤ x9_1) = true := decide_eq_true c5;clear c5
     by_cases c6 : x9_1 < (l0_1.length : Int)
     ·rw [if_pos c6] at H;have c6b0 : decide (x9_1 < (l0_1.length : Int)) = true := decide_eq_true c6;clear c6;have H' := aM H;clear H;have p221 : 0 ≤ (x9_1 : Int) := oD;have q221 : x9_1 < (l0_1.length : Int) := oD;obtain ⟨ad221, e221, hx221_0, hx221_1, hx221_2⟩ := at_T69 HR0_1.o x9_1 p221 q221
      cases e221
      replace hx221_0 := (HB.o.cell (lC w _ hx221_0)).trans hx221_0;replace hx221_1 := (HB.o.cell (lC w _ hx221_1)).trans hx221_1;replace hx221_2 := (HB.o.cell (lC w _ hx221_2)).trans hx221_2;replace p221 := eq_true p221;replace q221 := eq_true q221
      go_wp2_with (first | ((with_reducible refine gate_dst (N := 5) rfl ?_); refine box_event ?hg (N := 5) ?hd (cs := #[.string (⟨#[]⟩ : ByteArray), .string (⟨#[]⟩ : ByteArray), .int .i64 0]) (t := 69) ?hr ?_; (case hd => rfl); (case hg => rfl); (case hr => first | (go_simp; done) | (go_simp; rfl)); intro gb222 hg w7 hbox hb; have BK222 := aM (hbox); have GW222 := aM ((by rw [hg]; exact (below_size (by with_reducible repeat (first | exact HB.o | apply bA | apply bN | apply bD | refine bS ?_ GE220.o))) : w.heap.size ≤ gb222)); have GE222 := aM ((by rw [hg]; exact (below_size (by with_reducible repeat (first | exact HB.o | apply bA | apply bN | apply bD | refine bS ?_ GE220.o))) : w.heap.size ≤ gb222)); replace HB := aM (below_step (by with_reducible repeat (first | exact HB.o | apply bA | apply bN | apply bD | refine bS ?_ GE220.o)) hb); have NB220_222 := aM ((by rw [hg]; exact Nat.ne_of_lt (blk_lt (g := gb220) (o := .cells #[.int .i64 a0_0, .slice (some ad221) l0_1.length c0_1] 33 (0, 0)) (kM BK220.o)) : gb220 ≠ gb222)); have NB222_220 := aM ((by rw [hg]; exact Nat.ne_of_gt (blk_lt (g := gb220) (o := .cells #[.int .i64 a0_0, .slice (some ad221) l0_1.length c0_1] 33 (0, 0)) (kM BK220.o)) : gb222 ≠ gb220)); replace BK220 := aM (blk_below (kM BK220.o) hb); clear hb hbox hg; have hnb8 := NB222_220.o; have hnc8 := NB220_222.o; have hcz9_0 := cL0 BK222.o; have hcz9_1 := cL1 BK222.o; have hcz9_2 := cL2 BK222.o; have hfz9_0 := kF BK222.o 0; have hfz9_1 := kF BK222.o 1; have hfz9_2 := kF BK222.o 2))
      go_roundg k1
      case measure => have := HK1.o; omega
      case rel => exact ⟨(wrap64 (x3_1 + (((rd_T69 l0_1 x9_1).f1).size : Int))), (wrap64 (x9_1 + 1)), (by first | rfl | (simp; done) | (simp [*]; done)), (by first | rfl | (simp; done) | (simp [*]; done)), H', ⟨by have := HK1.o; omega⟩, ⟨by (with_reducible repeat (first | refine kN ?_ _ | refine kD ?_ | refine kA ?_ _)); refine blk_far ?_ NB220_222.o _; (with_reducible repeat (first | refine kN ?_ _ | refine kD ?_ | refine kA ?_ _)); refine blk_far ?_ NB220_222.o _; (with_reducible repeat (first | refine kN ?_ _ | refine kD ?_ | refine kA ?_ _)); refine blk_far ?_ NB220_222.o _; (with_reducible repeat (first | refine kN ?_ _ | refine kD ?_ | refine kA ?_ _)); exact BK220.o⟩, ⟨by with_reducible repeat (first | exact HB.o | apply bA | apply bN | apply bD | refine bS ?_ GE220.o | refine bS ?_ GE222.o)⟩⟩
     ·rw [if_neg c6] at H;exact absurd H (by simp)
    ·rw [if_neg c5] at H;exact absurd H (by simp)
   ·rw [if_neg c4] at H;have c4b0 : decide (x9_1 < (l0_1.length : Int)) = false := decide_eq_false c4;clear c4;obtain rfl := Option.some.inj H
    go_wp2
    go_ret
    exact ⟨by first | rfl | (simp [zE] <;> rfl) | (simp [*, zE] <;> rfl), by with_reducible repeat (first | exact HB.o | apply bA | apply bN | apply bD | refine bS ?_ GE220.o)⟩

def impl_NameOK.l0 : Nat → ByteArray → Int → Int → Option (Bool)
 | 0, _, _, _ => none
 | k + 1, x0, x7, x8 => if x8 < x7 then (if 0 ≤ x8 then (if x8 < (x0.size : Int) then (if (bt x0 x8) ≥ 97 then (if (bt x0 x8) ≤ 122 then (impl_NameOK.l0 k x0 x7 (wrap64 (x8 + 1))) else (if (bt x0 x8) ≥ 65 then (if (bt x0 x8) ≤ 90 then (impl_NameOK.l0 k x0 x7 (wrap64 (x8 + 1))) else (if ((bt x0 x8) = 95) then (impl_NameOK.l0 k x0 x7 (wrap64 (x8 + 1))) else (if x8 = 0 then (some false) else (if (bt x0 x8) < 48 then (some false) else (if (bt x0 x8) > 57 then (some false) else (impl_NameOK.l0 k x0 x7 (wrap64 (x8 + 1)))))))) else (if ((bt x0 x8) = 95) then (impl_NameOK.l0 k x0 x7 (wrap64 (x8 + 1))) else (if x8 = 0 then (some false) else (if (bt x0 x8) < 48 then (some false) else (if (bt x0 x8) > 57 then (some false) else (impl_NameOK.l0 k x0 x7 (wrap64 (x8 + 1))))))))) else (if (bt x0 x8) ≥ 65 then (if (bt x0 x8) ≤ 90 then (impl_NameOK.l0 k x0 x7 (wrap64 (x8 + 1))) else (if ((bt x0 x8) = 95) then (impl_NameOK.l0 k x0 x7 (wrap64 (x8 + 1))) else (if x8 = 0 then (some false) else (if (bt x0 x8) < 48 then (some false) else (if (bt x0 x8) > 57 then (some false) else (impl_NameOK.l0 k x0 x7 (wrap64 (x8 + 1)))))))) else (if ((bt x0 x8) = 95) then (impl_NameOK.l0 k x0 x7 (wrap64 (x8 + 1))) else (if x8 = 0 then (some false) else (if (bt x0 x8) < 48 then (some false) else (if (bt x0 x8) > 57 then (some false) else (impl_NameOK.l0 k x0 x7 (wrap64 (x8 + 1))))))))) else (none)) else (none)) else ((impl_within.f (x0.size : Int) 1 40).bind fun t223 => (some t223))
def impl_NameOK.f (k : Nat) (a0 : ByteArray) : Option (Bool) := impl_NameOK.l0 k a0 (a0.size : Int) 0
theorem impl_NameOK.mono_l : ∀ k, (∀ y0 y1 y2, LeO (impl_NameOK.l0 k y0 y1 y2) (impl_NameOK.l0 (k + 1) y0 y1 y2))
 | 0 => fun _ _ _ r h => by simp [impl_NameOK.l0] at h
 | k + 1 => by
  have ih0 := impl_NameOK.mono_l k
  ·intro y0 y1 y2
   unfold impl_NameOK.l0
   repeat' first
   | (with_reducible exact ih0 _ _ _)
   | (with_reducible exact LeO.refl _)
   | (with_reducible exact LeO.none _)
   | (with_reducible refine LeO.ite ?_ ?_)
   | (with_reducible refine LeO.bind ?_ (fun _ => ?_))
   | exact ih0 _ _ _
   | exact LeO.none _
   | refine LeO.ite ?_ ?_
   | refine LeO.bind ?_ (fun _ => ?_)
theorem impl_NameOK.mono : ∀ a0 k, LeO (impl_NameOK.f k a0) (impl_NameOK.f (k + 1) a0) := by
 intro a0 k;have ih0 := impl_NameOK.mono_l k
 unfold impl_NameOK.f
 repeat' first
   | (with_reducible exact ih0 _ _ _)
   | (with_reducible exact LeO.refl _)
   | (with_reducible exact LeO.none _)
   | (with_reducible refine LeO.ite ?_ ?_)
   | (with_reducible refine LeO.bind ?_ (fun _ => ?_))
   | exact ih0 _ _ _
   | exact LeO.none _
   | refine LeO.ite ?_ ?_
   | refine LeO.bind ?_ (fun _ => ?_)
set_option maxHeartbeats 8000000 in
set_option maxRecDepth 100000 in
theorem impl_NameOK.calls (k : Nat) (a0 : ByteArray) (r : Bool) (w : World) (h : impl_NameOK.f k a0 = some r) :
  Calls Tryd.prog 58 #[.string a0] w fun e w' => e = .returned (.bool r) ∧ Drawn0 w w' := by
 have H : (impl_NameOK.l0 k a0 (a0.size : Int) 0) = some r := h;clear h;have H' := aM H;clear H
 go_enter Tryd.func58, Tryd.ntmps58
 go_wp2
 go_loopg [8] k (fun kq v8 w' => ∃ (x8_1 : Int), v8 = .int .i64 x8_1 ∧ Aside0 (impl_NameOK.l0 kq a0 (a0.size : Int) x8_1 = some r) ∧ Aside0 (kq ≤ k) ∧ Drawn0 w w')
 case atStart => exact ⟨(0), (by first | rfl | (simp; done) | (simp [*]; done)), H', ⟨Nat.le_refl _⟩, by repeat (first | exact Drawn0.refl _ | apply Drawn0.step)⟩
 case round =>
  clear H';obtain ⟨x8_1, rfl, HA, HK1, ⟨m1, rfl⟩⟩ := hrel
  cases gk with
  | zero => exact absurd HA.o (by simp [impl_NameOK.l0])
  | succ k1 =>
   have H := HA.o;clear HA;simp only [impl_NameOK.l0] at H
   by_cases c2 : x8_1 < (a0.size : Int)
   ·rw [if_pos c2] at H;have c2b0 : decide (x8_1 < (a0.size : Int)) = true := decide_eq_true c2;clear c2
    by_cases c3 : 0 ≤ x8_1
    ·rw [if_pos c3] at H;have c3b0 : decide (0 ≤ x8_1) = true := decide_eq_true c3;clear c3
     by_cases c4 : x8_1 < (a0.size : Int)
     ·rw [if_pos c4] at H;have c4b0 : decide (x8_1 < (a0.size : Int)) = true := decide_eq_true c4;clear c4
      by_cases c6 : (bt a0 x8_1) ≥ 97
      ·rw [if_pos c6] at H;have c6b0 : decide (97 ≤ (bt a0 x8_1)) = true := decide_eq_true c6;clear c6
       by_cases c7 : (bt a0 x8_1) ≤ 122
       ·rw [if_pos c7] at H;have c7b0 : decide ((bt a0 x8_1) ≤ 122) = true := decide_eq_true c7;clear c7;have H' := aM H;clear H;have p5 : 0 ≤ (x8_1 : Int) := oD;have q5 : x8_1 < (a0.size : Int) := oD;have hx5 := bt_at a0 x8_1;replace p5 := eq_true p5;replace q5 := eq_true q5
        go_wp2
        go_roundg k1
        case measure => have := HK1.o; omega
        case rel => exact ⟨(wrap64 (x8_1 + 1)), (by first | rfl | (simp; done) | (simp [*]; done)), H', ⟨by have := HK1.o; omega⟩, by repeat (first | exact Drawn0.refl _ | apply Drawn0.step)⟩
       ·rw [if_neg c7] at H;have c7b0 : decide ((bt a0 x8_1) ≤ 122) = false := decide_eq_false c7;clear c7
        by_cases c8 : (bt a0 x8_1) ≥ 65
        ·rw [if_pos c8] at H;have c8b0 : decide (65 ≤ (bt a0 x8_1)) = true := decide_eq_true c8;clear c8
         by_cases c9 : (bt a0 x8_1) ≤ 90
         ·rw [if_pos c9] at H;have c9b0 : decide ((bt a0 x8_1) ≤ 90) = true := decide_eq_true c9;clear c9;have H' := aM H;clear H;have p5 : 0 ≤ (x8_1 : Int) := oD;have q5 : x8_1 < (a0.size : Int) := oD;have hx5 := bt_at a0 x8_1;replace p5 := eq_true p5;replace q5 := eq_true q5
          go_wp2
          go_roundg k1
          case measure => have := HK1.o; omega
          case rel => exact ⟨(wrap64 (x8_1 + 1)), (by first | rfl | (simp; done) | (simp [*]; done)), H', ⟨by have := HK1.o; omega⟩, by repeat (first | exact Drawn0.refl _ | apply Drawn0.step)⟩
         ·rw [if_neg c9] at H;have c9b0 : decide ((bt a0 x8_1) ≤ 90) = false := decide_eq_false c9;clear c9
          by_cases c10 : ((bt a0 x8_1) = 95)
          ·rw [if_pos c10] at H;have c10b0 : ((bt a0 x8_1) == 95) = true := beq_iff_eq.mpr c10;have c10b1 : ((bt a0 x8_1) != 95) = false := bne_eq_false_iff_eq.mpr c10;clear c10;have H' := aM H;clear H;have p5 : 0 ≤ (x8_1 : Int) := oD;have q5 : x8_1 < (a0.size : Int) := oD;have hx5 := bt_at a0 x8_1;replace p5 := eq_true p5;replace q5 := eq_true q5
           go_wp2
           go_roundg k1
           case measure => have := HK1.o; omega
           case rel => exact ⟨(wrap64 (x8_1 + 1)), (by first | rfl | (simp; done) | (simp [*]; done)), H', ⟨by have := HK1.o; omega⟩, by repeat (first | exact Drawn0.refl _ | apply Drawn0.step)⟩
          ·rw [if_neg c10] at H;have c10b0 : ((bt a0 x8_1) == 95) = false := beq_eq_false_iff_ne.mpr c10;have c10b1 : ((bt a0 x8_1) != 95) = true := bne_iff_ne.mpr c10
           by_cases c11 : x8_1 = 0
           ·rw [if_pos c11] at H;have c11b0 : (x8_1 == 0) = true := beq_iff_eq.mpr c11;have c11b1 : (x8_1 != 0) = false := bne_eq_false_iff_eq.mpr c11;clear c11;obtain rfl := Option.some.inj H;have p5 : 0 ≤ (x8_1 : Int) := oD;have q5 : x8_1 < (a0.size : Int) := oD;have hx5 := bt_at a0 x8_1;replace p5 := eq_true p5;replace q5 := eq_true q5
            go_wp2
            go_ret
            exact ⟨by first | rfl | (simp; done) | (simp [*]; done), by repeat (first | exact Drawn0.refl _ | apply Drawn0.step)⟩
           ·rw [if_neg c11] at H;have c11b0 : (x8_1 == 0) = false := beq_eq_false_iff_ne.mpr c11;have c11b1 : (x8_1 != 0) = true := bne_iff_ne.mpr c11
            by_cases c12 : (bt a0 x8_1) < 48
            ·rw [if_pos c12] at H;have c12b0 : decide ((bt a0 x8_1) < 48) = true := decide_eq_true c12;clear c12;obtain rfl := Option.some.inj H;have p5 : 0 ≤ (x8_1 : Int) := oD;have q5 : x8_1 < (a0.size : Int) := oD;have hx5 := bt_at a0 x8_1;replace p5 := eq_true p5;replace q5 := eq_true q5
             go_wp2
             go_ret
             exact ⟨by first | rfl | (simp; done) | (simp [*]; done), by repeat (first | exact Drawn0.refl _ | apply Drawn0.step)⟩
            ·rw [if_neg c12] at H;have c12b0 : decide ((bt a0 x8_1) < 48) = false := decide_eq_false c12;clear c12
             by_cases c13 : (bt a0 x8_1) > 57
             ·rw [if_pos c13] at H;have c13b0 : decide (57 < (bt a0 x8_1)) = true := decide_eq_true c13;clear c13;obtain rfl := Option.some.inj H;have p5 : 0 ≤ (x8_1 : Int) := oD;have q5 : x8_1 < (a0.size : Int) := oD;have hx5 := bt_at a0 x8_1;replace p5 := eq_true p5;replace q5 := eq_true q5
              go_wp2
              go_ret
              exact ⟨by first | rfl | (simp; done) | (simp [*]; done), by repeat (first | exact Drawn0.refl _ | apply Drawn0.step)⟩
             ·rw [if_neg c13] at H;have c13b0 : decide (57 < (bt a0 x8_1)) = false := decide_eq_false c13;clear c13;have H' := aM H;clear H;have p5 : 0 ≤ (x8_1 : Int) := oD;have q5 : x8_1 < (a0.size : Int) := oD;have hx5 := bt_at a0 x8_1;replace p5 := eq_true p5;replace q5 := eq_true q5
              go_wp2
              go_roundg k1
              case measure => have := HK1.o; omega
              case rel => exact ⟨(wrap64 (x8_1 + 1)), (by first | rfl | (simp; done) | (simp [*]; done)), H', ⟨by have := HK1.o; omega⟩, by repeat (first | exact Drawn0.refl _ | apply Drawn0.step)⟩
        ·rw [if_neg c8] at H;have c8b0 : decide (65 ≤ (bt a0 x8_1)) = false := decide_eq_false c8;clear c8
         by_cases c14 : ((bt a0 x8_1) = 95)
         ·rw [if_pos c14] at H;have c14b0 : ((bt a0 x8_1) == 95) = true := beq_iff_eq.mpr c14;have c14b1 : ((bt a0 x8_1) != 95) = false := bne_eq_false_iff_eq.mpr c14;clear c14;have H' := aM H;clear H;have p5 : 0 ≤ (x8_1 : Int) := oD;have q5 : x8_1 < (a0.size : Int) := oD;have hx5 := bt_at a0 x8_1;replace p5 := eq_true p5;replace q5 := eq_true q5
          go_wp2
          go_roundg k1
          case measure => have := HK1.o; omega
          case rel => exact ⟨(wrap64 (x8_1 + 1)), (by first | rfl | (simp; done) | (simp [*]; done)), H', ⟨by have := HK1.o; omega⟩, by repeat (first | exact Drawn0.refl _ | apply Drawn0.step)⟩
         ·rw [if_neg c14] at H;have c14b0 : ((bt a0 x8_1) == 95) = false := beq_eq_false_iff_ne.mpr c14;have c14b1 : ((bt a0 x8_1) != 95) = true := bne_iff_ne.mpr c14
          by_cases c15 : x8_1 = 0
          ·rw [if_pos c15] at H;have c15b0 : (x8_1 == 0) = true := beq_iff_eq.mpr c15;have c15b1 : (x8_1 != 0) = false := bne_eq_false_iff_eq.mpr c15;clear c15;obtain rfl := Option.some.inj H;have p5 : 0 ≤ (x8_1 : Int) := oD;have q5 : x8_1 < (a0.size : Int) := oD;have hx5 := bt_at a0 x8_1;replace p5 := eq_true p5;replace q5 := eq_true q5
           go_wp2
           go_ret
           exact ⟨by first | rfl | (simp; done) | (simp [*]; done), by repeat (first | exact Drawn0.refl _ | apply Drawn0.step)⟩
          ·rw [if_neg c15] at H;have c15b0 : (x8_1 == 0) = false := beq_eq_false_iff_ne.mpr c15;have c15b1 : (x8_1 != 0) = true := bne_iff_ne.mpr c15
           by_cases c16 : (bt a0 x8_1) < 48
           ·rw [if_pos c16] at H;have c16b0 : decide ((bt a0 x8_1) < 48) = true := decide_eq_true c16;clear c16;obtain rfl := Option.some.inj H;have p5 : 0 ≤ (x8_1 : Int) := oD;have q5 : x8_1 < (a0.size : Int) := oD;have hx5 := bt_at a0 x8_1;replace p5 := eq_true p5;replace q5 := eq_true q5
            go_wp2
            go_ret
            exact ⟨by first | rfl | (simp; done) | (simp [*]; done), by repeat (first | exact Drawn0.refl _ | apply Drawn0.step)⟩
           ·rw [if_neg c16] at H;have c16b0 : decide ((bt a0 x8_1) < 48) = false := decide_eq_false c16;clear c16
            by_cases c17 : (bt a0 x8_1) > 57
            ·rw [if_pos c17] at H;have c17b0 : decide (57 < (bt a0 x8_1)) = true := decide_eq_true c17;clear c17;obtain rfl := Option.some.inj H;have p5 : 0 ≤ (x8_1 : Int) := oD;have q5 : x8_1 < (a0.size : Int) := oD;have hx5 := bt_at a0 x8_1;replace p5 := eq_true p5;replace q5 := eq_true q5
             go_wp2
             go_ret
             exact ⟨by first | rfl | (simp; done) | (simp [*]; done), by repeat (first | exact Drawn0.refl _ | apply Drawn0.step)⟩
            ·rw [if_neg c17] at H;have c17b0 : decide (57 < (bt a0 x8_1)) = false := decide_eq_false c17;clear c17;have H' := aM H;clear H;have p5 : 0 ≤ (x8_1 : Int) := oD;have q5 : x8_1 < (a0.size : Int) := oD;have hx5 := bt_at a0 x8_1;replace p5 := eq_true p5;replace q5 := eq_true q5
             go_wp2
             go_roundg k1
             case measure => have := HK1.o; omega
             case rel => exact ⟨(wrap64 (x8_1 + 1)), (by first | rfl | (simp; done) | (simp [*]; done)), H', ⟨by have := HK1.o; omega⟩, by repeat (first | exact Drawn0.refl _ | apply Drawn0.step)⟩
      ·rw [if_neg c6] at H;have c6b0 : decide (97 ≤ (bt a0 x8_1)) = false := decide_eq_false c6;clear c6
       by_cases c18 : (bt a0 x8_1) ≥ 65
       ·rw [if_pos c18] at H;have c18b0 : decide (65 ≤ (bt a0 x8_1)) = true := decide_eq_true c18;clear c18
        by_cases c19 : (bt a0 x8_1) ≤ 90
        ·rw [if_pos c19] at H;have c19b0 : decide ((bt a0 x8_1) ≤ 90) = true := decide_eq_true c19;clear c19;have H' := aM H;clear H;have p5 : 0 ≤ (x8_1 : Int) := oD;have q5 : x8_1 < (a0.size : Int) := oD;have hx5 := bt_at a0 x8_1;replace p5 := eq_true p5;replace q5 := eq_true q5
         go_wp2
         go_roundg k1
         case measure => have := HK1.o; omega
         case rel => exact ⟨(wrap64 (x8_1 + 1)), (by first | rfl | (simp; done) | (simp [*]; done)), H', ⟨by have := HK1.o; omega⟩, by repeat (first | exact Drawn0.refl _ | apply Drawn0.step)⟩
        ·rw [if_neg c19] at H;have c19b0 : decide ((bt a0 x8_1) ≤ 90) = false := decide_eq_false c19;clear c19
         by_cases c20 : ((bt a0 x8_1) = 95)
         ·rw [if_pos c20] at H;have c20b0 : ((bt a0 x8_1) == 95) = true := beq_iff_eq.mpr c20;have c20b1 : ((bt a0 x8_1) != 95) = false := bne_eq_false_iff_eq.mpr c20;clear c20;have H' := aM H;clear H;have p5 : 0 ≤ (x8_1 : Int) := oD;have q5 : x8_1 < (a0.size : Int) := oD;have hx5 := bt_at a0 x8_1;replace p5 := eq_true p5;replace q5 := eq_true q5
          go_wp2
          go_roundg k1
          case measure => have := HK1.o; omega
          case rel => exact ⟨(wrap64 (x8_1 + 1)), (by first | rfl | (simp; done) | (simp [*]; done)), H', ⟨by have := HK1.o; omega⟩, by repeat (first | exact Drawn0.refl _ | apply Drawn0.step)⟩
         ·rw [if_neg c20] at H;have c20b0 : ((bt a0 x8_1) == 95) = false := beq_eq_false_iff_ne.mpr c20;have c20b1 : ((bt a0 x8_1) != 95) = true := bne_iff_ne.mpr c20
          by_cases c21 : x8_1 = 0
          ·rw [if_pos c21] at H;have c21b0 : (x8_1 == 0) = true := beq_iff_eq.mpr c21;have c21b1 : (x8_1 != 0) = false := bne_eq_false_iff_eq.mpr c21;clear c21;obtain rfl := Option.some.inj H;have p5 : 0 ≤ (x8_1 : Int) := oD;have q5 : x8_1 < (a0.size : Int) := oD;have hx5 := bt_at a0 x8_1;replace p5 := eq_true p5;replace q5 := eq_true q5
           go_wp2
           go_ret
           exact ⟨by first | rfl | (simp; done) | (simp [*]; done), by repeat (first | exact Drawn0.refl _ | apply Drawn0.step)⟩
          ·rw [if_neg c21] at H;have c21b0 : (x8_1 == 0) = false := beq_eq_false_iff_ne.mpr c21;have c21b1 : (x8_1 != 0) = true := bne_iff_ne.mpr c21
           by_cases c22 : (bt a0 x8_1) < 48
           ·rw [if_pos c22] at H;have c22b0 : decide ((bt a0 x8_1) < 48) = true := decide_eq_true c22;clear c22;obtain rfl := Option.some.inj H;have p5 : 0 ≤ (x8_1 : Int) := oD;have q5 : x8_1 < (a0.size : Int) := oD;have hx5 := bt_at a0 x8_1;replace p5 := eq_true p5;replace q5 := eq_true q5
            go_wp2
            go_ret
            exact ⟨by first | rfl | (simp; done) | (simp [*]; done), by repeat (first | exact Drawn0.refl _ | apply Drawn0.step)⟩
           ·rw [if_neg c22] at H;have c22b0 : decide ((bt a0 x8_1) < 48) = false := decide_eq_false c22;clear c22
            by_cases c23 : (bt a0 x8_1) > 57
            ·rw [if_pos c23] at H;have c23b0 : decide (57 < (bt a0 x8_1)) = true := decide_eq_true c23;clear c23;obtain rfl := Option.some.inj H;have p5 : 0 ≤ (x8_1 : Int) := oD;have q5 : x8_1 < (a0.size : Int) := oD;have hx5 := bt_at a0 x8_1;replace p5 := eq_true p5;replace q5 := eq_true q5
             go_wp2
             go_ret
             exact ⟨by first | rfl | (simp; done) | (simp [*]; done), by repeat (first | exact Drawn0.refl _ | apply Drawn0.step)⟩
            ·rw [if_neg c23] at H;have c23b0 : decide (57 < (bt a0 x8_1)) = false := decide_eq_false c23;clear c23;have H' := aM H;clear H;have p5 : 0 ≤ (x8_1 : Int) := oD;have q5 : x8_1 < (a0.size : Int) := oD;have hx5 := bt_at a0 x8_1;replace p5 := eq_true p5;replace q5 := eq_true q5
             go_wp2
             go_roundg k1
             case measure => have := HK1.o; omega
             case rel => exact ⟨(wrap64 (x8_1 + 1)), (by first | rfl | (simp; done) | (simp [*]; done)), H', ⟨by have := HK1.o; omega⟩, by repeat (first | exact Drawn0.refl _ | apply Drawn0.step)⟩
       ·rw [if_neg c18] at H;have c18b0 : decide (65 ≤ (bt a0 x8_1)) = false := decide_eq_false c18;clear c18
        by_cases c24 : ((bt a0 x8_1) = 95)
        ·rw [if_pos c24] at H;have c24b0 : ((bt a0 x8_1) == 95) = true := beq_iff_eq.mpr c24;have c24b1 : ((bt a0 x8_1) != 95) = false := bne_eq_false_iff_eq.mpr c24;clear c24;have H' := aM H;clear H;have p5 : 0 ≤ (x8_1 : Int) := oD;have q5 : x8_1 < (a0.size : Int) := oD;have hx5 := bt_at a0 x8_1;replace p5 := eq_true p5;replace q5 := eq_true q5
         go_wp2
         go_roundg k1
         case measure => have := HK1.o; omega
         case rel => exact ⟨(wrap64 (x8_1 + 1)), (by first | rfl | (simp; done) | (simp [*]; done)), H', ⟨by have := HK1.o; omega⟩, by repeat (first | exact Drawn0.refl _ | apply Drawn0.step)⟩
        ·rw [if_neg c24] at H;have c24b0 : ((bt a0 x8_1) == 95) = false := beq_eq_false_iff_ne.mpr c24;have c24b1 : ((bt a0 x8_1) != 95) = true := bne_iff_ne.mpr c24
         by_cases c25 : x8_1 = 0
         ·rw [if_pos c25] at H;have c25b0 : (x8_1 == 0) = true := beq_iff_eq.mpr c25;have c25b1 : (x8_1 != 0) = false := bne_eq_false_iff_eq.mpr c25;clear c25;obtain rfl := Option.some.inj H;have p5 : 0 ≤ (x8_1 : Int) := oD;have q5 : x8_1 < (a0.size : Int) := oD;have hx5 := bt_at a0 x8_1;replace p5 := eq_true p5;replace q5 := eq_true q5
          go_wp2
          go_ret
          exact ⟨by first | rfl | (simp; done) | (simp [*]; done), by repeat (first | exact Drawn0.refl _ | apply Drawn0.step)⟩
         ·rw [if_neg c25] at H;have c25b0 : (x8_1 == 0) = false := beq_eq_false_iff_ne.mpr c25;have c25b1 : (x8_1 != 0) = true := bne_iff_ne.mpr c25
          by_cases c26 : (bt a0 x8_1) < 48
          ·rw [if_pos c26] at H;have c26b0 : decide ((bt a0 x8_1) < 48) = true := decide_eq_true c26;clear c26;obtain rfl := Option.some.inj H;have p5 : 0 ≤ (x8_1 : Int) := oD;have q5 : x8_1 < (a0.size : Int) := oD;have hx5 := bt_at a0 x8_1;replace p5 := eq_true p5;replace q5 := eq_true q5
           go_wp2
           go_ret
           exact ⟨by first | rfl | (simp; done) | (simp [*]; done), by repeat (first | exact Drawn0.refl _ | apply Drawn0.step)⟩
          ·rw [if_neg c26] at H;have c26b0 : decide ((bt a0 x8_1) < 48) = false := decide_eq_false c26;clear c26
           by_cases c27 : (bt a0 x8_1) > 57
           ·rw [if_pos c27] at H;have c27b0 : decide (57 < (bt a0 x8_1)) = true := decide_eq_true c27;clear c27;obtain rfl := Option.some.inj H;have p5 : 0 ≤ (x8_1 : Int) := oD;have q5 : x8_1 < (a0.size : Int) := oD;have hx5 := bt_at a0 x8_1;replace p5 := eq_true p5;replace q5 := eq_true q5
            go_wp2
            go_ret
            exact ⟨by first | rfl | (simp; done) | (simp [*]; done), by repeat (first | exact Drawn0.refl _ | apply Drawn0.step)⟩
           ·rw [if_neg c27] at H;have c27b0 : decide (57 < (bt a0 x8_1)) = false := decide_eq_false c27;clear c27;have H' := aM H;clear H;have p5 : 0 ≤ (x8_1 : Int) := oD;have q5 : x8_1 < (a0.size : Int) := oD;have hx5 := bt_at a0 x8_1;replace p5 := eq_true p5;replace q5 := eq_true q5
            go_wp2
            go_roundg k1
            case measure => have := HK1.o; omega
            case rel => exact ⟨(wrap64 (x8_1 + 1)), (by first | rfl | (simp; done) | (simp [*]; done)), H', ⟨by have := HK1.o; omega⟩, by repeat (first | exact Drawn0.refl _ | apply Drawn0.step)⟩
     ·rw [if_neg c4] at H;exact absurd H (by simp)
    ·rw [if_neg c3] at H;exact absurd H (by simp)
   ·rw [if_neg c2] at H;have c2b0 : decide (x8_1 < (a0.size : Int)) = false := decide_eq_false c2;clear c2;replace H := Option.bind_eq_some_iff.mp H;obtain ⟨t223, A280, H⟩ := H;replace H : (some t223) = some r := H;have A28 := aM A280;clear A280;obtain rfl := Option.some.inj H
    go_wp2_with (first | ((with_reducible refine gate_callee (f := 56) rfl ?_); refine goesL_ (some 49) rfl rfl Tryd.func56 (by kernel_rfl) rfl #[.int .i64 (a0.size : Int), .int .i64 1, .int .i64 40] rfl (by (try simp only [zM]); first | done | rfl | (simp only [zL]; rfl)) ?_; (with_reducible refine (impl_within.calls (a0.size : Int) 1 40 t223 _ A28.o).mono ?_); rintro e w' ⟨rfl, ⟨nd, rfl⟩⟩; refine ⟨_, rfl, ?_⟩))
    go_ret
    exact ⟨by first | rfl | (simp; done) | (simp [*]; done), by repeat (first | exact Drawn0.refl _ | apply Drawn0.step)⟩

end Go.Proofs.YtpdhfoegbannkaaDoor.PFnExactWalRead
