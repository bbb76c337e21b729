import Derived.Test.YtpdhfoegbannkaaDoorMFnExactWalPlanPx0
import Derived.Test.YtpdhfoegbannkaaDoorMFnExactWalPlanPx2
namespace Go.Proofs.YtpdhfoegbannkaaDoor.PFnExactWalPlan
open Go.RowKit Go.Proofs.YtpdhfoegbannkaaDoorW.PrintWords Go.Proofs.YtpdhfoegbannkaaDoorW.PrintLast Go.Proofs.YtpdhfoegbannkaaDoorW.PrintMore
attribute [local go_sem] max2_int min2_int max_two min_two max_three min_three max_four min_four
set_option linter.unusedVariables false
set_option linter.unusedSimpArgs false
mutual
def spec_DiskOK.j0 : Nat → Bool → Int → List (S69) → Option (Bool)
 | 0, _, _, _ => none
 | k + 1, x14, x149000, x149001 => if x14 = true then (some false) else (spec_DiskOK.l0 k 0 x149000 x149001)
def spec_DiskOK.l0 : Nat → Int → Int → List (S69) → Option (Bool)
 | 0, _, _, _ => none
 | k + 1, x3, x149000, x149001 => if x3 < (x149001.length : Int) then (if 0 ≤ x3 then ((spec_NameOK.f k ((rd_T69 x149001 x3).f0)).bind fun t153 => (if t153 = true then ((spec_l01In.f ((rd_T69 x149001 x3).f2) 0 (((rd_T69 x149001 x3).f1).size : Int)).bind fun t154 => (if t154 = true then (if (((rd_T69 x149001 x3).f1).size : Int) > 3000 then (spec_DiskOK.j2 k x3 true x149000 x149001) else (if x3 > 0 then (if 0 ≤ (wrap64 (x3 - 1)) then (if (wrap64 (x3 - 1)) < (x149001.length : Int) then (spec_DiskOK.j2 k x3 (!(Op.bytesLess (((rd_T69 x149001 (wrap64 (x3 - 1))).f0).toList) (((rd_T69 x149001 x3).f0).toList))) x149000 x149001) else (none)) else (none)) else (spec_DiskOK.j2 k x3 false x149000 x149001))) else (spec_DiskOK.j2 k x3 true x149000 x149001))) else (spec_DiskOK.j2 k x3 true x149000 x149001))) else (none)) else ((spec_l03Used.f k x149000 x149001).bind fun t150 => (some (decide (t150 ≤ x149000))))
def spec_DiskOK.j2 : Nat → Int → Bool → Int → List (S69) → Option (Bool)
 | 0, _, _, _, _ => none
 | k + 1, x3, x61, x149000, x149001 => if x61 = true then (some false) else (spec_DiskOK.l0 k (wrap64 (x3 + 1)) x149000 x149001)
end
def spec_DiskOK.f (k : Nat) (a0_0 : Int) (l0_1 : List (S69)) : Option (Bool) := (spec_l01In.f a0_0 0 3000).bind fun t149 => (if t149 = true then (spec_DiskOK.j0 k (decide ((l0_1.length : Int) > 8)) a0_0 l0_1) else (spec_DiskOK.j0 k true a0_0 l0_1))
theorem spec_DiskOK.mono_l : ∀ k, (∀ y0 y1 y2, LeO (spec_DiskOK.j0 k y0 y1 y2) (spec_DiskOK.j0 (k + 1) y0 y1 y2)) ∧ (∀ y0 y1 y2, LeO (spec_DiskOK.l0 k y0 y1 y2) (spec_DiskOK.l0 (k + 1) y0 y1 y2)) ∧ (∀ y0 y1 y2 y3, LeO (spec_DiskOK.j2 k y0 y1 y2 y3) (spec_DiskOK.j2 (k + 1) y0 y1 y2 y3))
 | 0 => ⟨fun _ _ _ r h => by simp [spec_DiskOK.j0] at h, fun _ _ _ r h => by simp [spec_DiskOK.l0] at h, fun _ _ _ _ r h => by simp [spec_DiskOK.j2] at h⟩
 | k + 1 => by
  obtain ⟨ih0, ih1, ih2⟩ := spec_DiskOK.mono_l k;refine ⟨?_, ?_, ?_⟩
  ·intro y0 y1 y2
   unfold spec_DiskOK.j0
   repeat' first
   | (with_reducible exact ih0 _ _ _)
   | (with_reducible exact ih1 _ _ _)
   | (with_reducible exact ih2 _ _ _ _)
   | (with_reducible exact spec_NameOK.mono _ _)
   | (with_reducible exact spec_l03Used.mono _ _ _)
   | (with_reducible exact LeO.refl _)
   | (with_reducible exact LeO.none _)
   | (with_reducible refine LeO.ite ?_ ?_)
   | (with_reducible refine LeO.bind ?_ (fun _ => ?_))
   | exact ih0 _ _ _
   | exact ih1 _ _ _
   | exact ih2 _ _ _ _
   | exact spec_NameOK.mono _ _
   | exact spec_l03Used.mono _ _ _
   | exact LeO.none _
   | refine LeO.ite ?_ ?_
   | refine LeO.bind ?_ (fun _ => ?_)
  ·intro y0 y1 y2
   unfold spec_DiskOK.l0
   repeat' first
   | (with_reducible exact ih0 _ _ _)
   | (with_reducible exact ih1 _ _ _)
   | (with_reducible exact ih2 _ _ _ _)
   | (with_reducible exact spec_NameOK.mono _ _)
   | (with_reducible exact spec_l03Used.mono _ _ _)
   | (with_reducible exact LeO.refl _)
   | (with_reducible exact LeO.none _)
   | (with_reducible refine LeO.ite ?_ ?_)
   | (with_reducible refine LeO.bind ?_ (fun _ => ?_))
   | exact ih0 _ _ _
   | exact ih1 _ _ _
   | exact ih2 _ _ _ _
   | exact spec_NameOK.mono _ _
   | exact spec_l03Used.mono _ _ _
   | exact LeO.none _
   | refine LeO.ite ?_ ?_
   | refine LeO.bind ?_ (fun _ => ?_)
  ·intro y0 y1 y2 y3
   unfold spec_DiskOK.j2
   repeat' first
   | (with_reducible exact ih0 _ _ _)
   | (with_reducible exact ih1 _ _ _)
   | (with_reducible exact ih2 _ _ _ _)
   | (with_reducible exact spec_NameOK.mono _ _)
   | (with_reducible exact spec_l03Used.mono _ _ _)
   | (with_reducible exact LeO.refl _)
   | (with_reducible exact LeO.none _)
   | (with_reducible refine LeO.ite ?_ ?_)
   | (with_reducible refine LeO.bind ?_ (fun _ => ?_))
   | exact ih0 _ _ _
   | exact ih1 _ _ _
   | exact ih2 _ _ _ _
   | exact spec_NameOK.mono _ _
   | exact spec_l03Used.mono _ _ _
   | exact LeO.none _
   | refine LeO.ite ?_ ?_
   | refine LeO.bind ?_ (fun _ => ?_)
theorem spec_DiskOK.mono : ∀ a0 a1 k, LeO (spec_DiskOK.f k a0 a1) (spec_DiskOK.f (k + 1) a0 a1) := by
 intro a0 a1 k;obtain ⟨ih0, ih1, ih2⟩ := spec_DiskOK.mono_l k
 unfold spec_DiskOK.f
 repeat' first
   | (with_reducible exact ih0 _ _ _)
   | (with_reducible exact ih1 _ _ _)
   | (with_reducible exact ih2 _ _ _ _)
   | (with_reducible exact spec_NameOK.mono _ _)
   | (with_reducible exact spec_l03Used.mono _ _ _)
   | (with_reducible exact LeO.refl _)
   | (with_reducible exact LeO.none _)
   | (with_reducible refine LeO.ite ?_ ?_)
   | (with_reducible refine LeO.bind ?_ (fun _ => ?_))
   | exact ih0 _ _ _
   | exact ih1 _ _ _
   | exact ih2 _ _ _ _
   | exact spec_NameOK.mono _ _
   | exact spec_l03Used.mono _ _ _
   | exact LeO.none _
   | refine LeO.ite ?_ ?_
   | refine LeO.bind ?_ (fun _ => ?_)
def spec_DiskOK.T7 : Bool × List (List Nat × List Nat) := (true, [([], []), ([0], [0]), ([1], [1]), ([2], [2]), ([3, 2], [3]), ([4], [4]), ([5, 4], [4, 5]), ([4], [4]), ([7, 4], [4, 7]), ([8, 4], [4, 8]), ([6, 9, 4, 4], [4, 6, 9]), ([10, 4], [4, 10]), ([4, 11], [4, 11]), ([12, 10], [12]), ([13], [13]), ([14, 13], [13, 14]), ([15, 13], [13, 15]), ([16, 13], [13, 16]), ([13, 17], [13, 17]), ([18, 13], [18]), ([19], [19]), ([20, 19], [19, 20]), ([21, 19, 19], [19, 21]), ([22], [22]), ([23, 22], [22, 23]), ([22], [22]), ([25, 22], [22, 25]), ([24, 26, 22], [22, 24, 26]), ([27, 22], [22, 27]), ([28, 22], [22, 28]), ([22], [22]), ([30, 22], [22, 30]), ([29, 31, 22], [22, 29, 31]), ([22, 32, 19], [19, 22, 32]), ([19, 33], [19, 33])])
def spec_DiskOK.B7 : List Nat := [0, 1, 3, 7, 15, 31, 63, 31, 159, 415, 1023, 2047, 4095, 8191, 16383, 32767, 65535, 131071, 262143, 524287, 1048575, 2097151, 4194303, 8388607, 16777215, 8388607, 41943039, 134217727, 268435455, 536870911, 8388607, 1082130431, 4294967295, 8589934591, 17179869183]
theorem spec_DiskOK.tab7 : rtab .any (opsOf Tryd.f24 7) = spec_DiskOK.T7 := by kernel_rfl
theorem spec_DiskOK.bits7 : waitsOk spec_DiskOK.T7.2 spec_DiskOK.B7 = true := by kernel_rfl
set_option maxHeartbeats 8000000 in
set_option maxRecDepth 100000 in
theorem spec_DiskOK.calls (k : Nat) (a0_0 : Int) (A0_1 : Option Addr) (c0_1 : Nat) (l0_1 : List (S69)) (r : Bool) (w : World) (hr0_1 : Kd.C k69 w A0_1 l0_1.length l0_1) (hc0_1 : l0_1.length ≤ c0_1) (h : spec_DiskOK.f k a0_0 l0_1 = some r) :
  Calls Tryd.prog 24 #[.agg #[.int .i64 a0_0, .slice A0_1 l0_1.length c0_1]] w fun e w' => e = .returned (.bool r) ∧ Below w.heap.size w w' := by
 have hu33 := Tryd.underlying33;have hu69 := Tryd.underlying69;have HR0_1 := aM hr0_1;have HC0_1 := aM hc0_1;clear hr0_1 hc0_1;have HB := aM (Below.refl w.heap.size w);have H : ((spec_l01In.f a0_0 0 3000).bind fun t149 => (if t149 = true then (spec_DiskOK.j0 k (decide ((l0_1.length : Int) > 8)) a0_0 l0_1) else (spec_DiskOK.j0 k true a0_0 l0_1))) = some r := h;clear h;have HC2 := aM H;clear H
 go_enter Tryd.func24, Tryd.ntmps24
 go_upto_region 1 with (first | ((with_reducible refine gate_dst (N := 1) rfl ?_); (try (refine gate_guard (by rfl) ?_; dsimp only)); refine box_event ?hg (N := 1) ?hd (cs := #[.int .i64 a0_0, .slice A0_1 l0_1.length c0_1]) (t := 33) ?hr ?_; (case hd => rfl); (case hg => rfl); (case hr => first | (go_simp; done) | (go_simp; rfl)); intro gb148 hg w3 hbox hb; have BK148 := aM (hbox); have GW148 := aM ((by rw [hg]; exact (below_size (bM HB.o)) : w.heap.size ≤ gb148)); have GE148 := aM ((by rw [hg]; exact (below_size (bM HB.o)) : w.heap.size ≤ gb148)); replace HB := aM (below_step (bM HB.o) hb); clear hb hbox hg))
 (try simp only [Act.put, s1, s2, s3])
 go_cut [14] (fun v14 wc => ∃ (kq : Nat) (x14_1 : Bool), v14 = .bool x14_1 ∧ Aside0 (spec_DiskOK.j0 kq x14_1 a0_0 l0_1 = some r) ∧ Aside0 (kq ≤ k) ∧ Aside0 (wc.heap[gb148]? = some (.cells #[.int .i64 a0_0, (.slice A0_1 l0_1.length c0_1)] 33 (0, 0))) ∧ Aside0 (Below w.heap.size w wc))
 case first =>
  have H := HC2.o;clear HC2;obtain ⟨t149, A4, H⟩ := bX H;(try dsimp only at H)
  by_cases c5 : t149 = true
  ·subst c5
   rw [if_pos rfl] at H;have H' := aM H;clear H;have hcz6_0 := cL0 BK148.o;have hcz6_1 := cL1 BK148.o;have hfz6_0 := kF BK148.o 0;have hfz6_1 := kF BK148.o 1
   go_wp2_with (first | ((with_reducible refine gate_callee (f := 47) rfl ?_); refine goesL_ (some 7) rfl rfl Tryd.func47 (by kernel_rfl) rfl #[.int .i64 a0_0, .int .i64 0, .int .i64 3000] rfl (by (try simp only [zM]); first | done | rfl | (simp only [zL]; rfl)) ?_; (with_reducible refine (spec_l01In.calls a0_0 0 3000 true _ A4.o).mono ?_); rintro e w' ⟨rfl, ⟨nd, rfl⟩⟩; refine ⟨_, rfl, ?_⟩))
   go_meet
   case rel => exact ⟨_, (decide ((l0_1.length : Int) > 8)), (by first | rfl | (simp; done) | (simp [*]; done)), H', ⟨by first | omega | exact Nat.le_refl _⟩, ⟨by (with_reducible repeat (first | refine kN ?_ _ | refine kD ?_ | refine kA ?_ _)); exact BK148.o⟩, ⟨by with_reducible repeat (first | exact HB.o | apply bA | apply bN | apply bD | refine bS ?_ GE148.o)⟩⟩
  ·replace c5 := Bool.eq_false_iff.mpr c5;subst c5
   rw [if_neg (show ¬ (false = true) by decide)] at H;have H' := aM H;clear H;have hcz7_0 := cL0 BK148.o;have hcz7_1 := cL1 BK148.o;have hfz7_0 := kF BK148.o 0;have hfz7_1 := kF BK148.o 1
   go_wp2_with (first | ((with_reducible refine gate_callee (f := 47) rfl ?_); refine goesL_ (some 7) rfl rfl Tryd.func47 (by kernel_rfl) rfl #[.int .i64 a0_0, .int .i64 0, .int .i64 3000] rfl (by (try simp only [zM]); first | done | rfl | (simp only [zL]; rfl)) ?_; (with_reducible refine (spec_l01In.calls a0_0 0 3000 false _ A4.o).mono ?_); rintro e w' ⟨rfl, ⟨nd, rfl⟩⟩; refine ⟨_, rfl, ?_⟩))
   go_meet
   case rel => exact ⟨_, (true), (by first | rfl | (simp; done) | (simp [*]; done)), H', ⟨by first | omega | exact Nat.le_refl _⟩, ⟨by (with_reducible repeat (first | refine kN ?_ _ | refine kD ?_ | refine kA ?_ _)); exact BK148.o⟩, ⟨by with_reducible repeat (first | exact HB.o | apply bA | apply bN | apply bD | refine bS ?_ GE148.o)⟩⟩
 case rest =>
  clear HC2;obtain ⟨kq, x14_1, rfl, HA, HJ1, BK148, HB⟩ := hcut
  cases kq with
  | zero => exact absurd HA.o (by simp [spec_DiskOK.j0])
  | succ kj1 =>
   have H := HA.o;clear HA;simp only [spec_DiskOK.j0] at H
   by_cases c8 : x14_1 = true
   ·subst c8
    rw [if_pos rfl] at H;obtain rfl := Option.some.inj H
    go_wp2
    go_ret
    exact ⟨by first | rfl | (simp [zE] <;> rfl) | (simp [*, zE] <;> rfl), by with_reducible repeat (first | exact HB.o | apply bA | apply bN | apply bD | refine bS ?_ GE148.o)⟩
   ·replace c8 := Bool.eq_false_iff.mpr c8;subst c8
    rw [if_neg (show ¬ (false = true) by decide)] at H;have H' := aM H;clear H
    go_wp2
    go_loopg [3] kj1 (fun kq v3 w' => ∃ (x3_2 : Int), v3 = .int .i64 x3_2 ∧ Aside0 (spec_DiskOK.l0 kq x3_2 a0_0 l0_1 = some r) ∧ Aside0 (kq ≤ kj1) ∧ Aside0 (w'.heap[gb148]? = some (.cells #[.int .i64 a0_0, (.slice A0_1 l0_1.length c0_1)] 33 (0, 0))) ∧ Aside0 (Below w.heap.size w w'))
    case atStart => exact ⟨(0), (by first | rfl | (simp; done) | (simp [*]; done)), H', ⟨Nat.le_refl _⟩, ⟨by (with_reducible repeat (first | refine kN ?_ _ | refine kD ?_ | refine kA ?_ _)); exact BK148.o⟩, ⟨by with_reducible repeat (first | exact HB.o | apply bA | apply bN | apply bD | refine bS ?_ GE148.o)⟩⟩
    case round =>
     clear H';obtain ⟨x3_2, rfl, HA, HK2, BK148, HB⟩ := hrel
     cases gk with
     | zero => exact absurd HA.o (by simp [spec_DiskOK.l0])
     | succ k2 =>
      have H := HA.o;clear HA;simp only [spec_DiskOK.l0] at H
      by_cases c9 : x3_2 < (l0_1.length : Int)
      ·rw [if_pos c9] at H;have c9b0 : decide (x3_2 < (l0_1.length : Int)) = true := decide_eq_true c9;clear c9
       by_cases c10 : 0 ≤ x3_2
       ·rw [if_pos c10] at H;have c10b0 : decide (0 ≤ x3_2) = true := decide_eq_true c10;clear c10;have HC11 := aM H;clear H;have hcz12_0 := cL0 BK148.o;have hcz12_1 := cL1 BK148.o;have hfz12_0 := kF BK148.o 0;have hfz12_1 := kF BK148.o 1;have p151 : 0 ≤ (x3_2 : Int) := oD;have q151 : x3_2 < (l0_1.length : Int) := oD;obtain ⟨ad151, e151, hx151_0, hx151_1, hx151_2⟩ := at_T69 HR0_1.o x3_2 p151 q151
        cases e151
        replace hx151_0 := (HB.o.cell (lC w _ hx151_0)).trans hx151_0;replace hx151_1 := (HB.o.cell (lC w _ hx151_1)).trans hx151_1;replace hx151_2 := (HB.o.cell (lC w _ hx151_2)).trans hx151_2;replace p151 := eq_true p151;replace q151 := eq_true q151
        go_upto_region 7 with (first | ((with_reducible refine gate_dst (N := 4) rfl ?_); (try (refine gate_guard (by rfl) ?_; dsimp only)); refine box_event ?hg (N := 4) ?hd (cs := #[.string (⟨#[]⟩ : ByteArray), .string (⟨#[]⟩ : ByteArray), .int .i64 0]) (t := 69) ?hr ?_; (case hd => rfl); (case hg => rfl); (case hr => first | (go_simp; done) | (go_simp; rfl)); intro gb152 hg w13 hbox hb; have BK152 := aM (hbox); have GW152 := aM ((by rw [hg]; exact (below_size (by with_reducible repeat (first | exact HB.o | apply bA | apply bN | apply bD | refine bS ?_ GE148.o))) : w.heap.size ≤ gb152)); have GE152 := aM ((by rw [hg]; exact (below_size (by with_reducible repeat (first | exact HB.o | apply bA | apply bN | apply bD | refine bS ?_ GE148.o))) : w.heap.size ≤ gb152)); replace HB := aM (below_step (by with_reducible repeat (first | exact HB.o | apply bA | apply bN | apply bD | refine bS ?_ GE148.o)) hb); have NB148_152 := aM ((by rw [hg]; exact Nat.ne_of_lt (blk_lt (g := gb148) (o := .cells #[.int .i64 a0_0, .slice (some ad151) l0_1.length c0_1] 33 (0, 0)) (kM BK148.o)) : gb148 ≠ gb152)); have NB152_148 := aM ((by rw [hg]; exact Nat.ne_of_gt (blk_lt (g := gb148) (o := .cells #[.int .i64 a0_0, .slice (some ad151) l0_1.length c0_1] 33 (0, 0)) (kM BK148.o)) : gb152 ≠ gb148)); replace BK148 := aM (blk_below (kM BK148.o) hb); clear hb hbox hg; have hnb14 := NB152_148.o; have hnc14 := NB148_152.o; have hcz15_0 := cL0 BK152.o; have hcz15_1 := cL1 BK152.o; have hcz15_2 := cL2 BK152.o; have hfz15_0 := kF BK152.o 0; have hfz15_1 := kF BK152.o 1; have hfz15_2 := kF BK152.o 2))
        (try simp only [Act.put, s1, s2, s3])
        go_cut [61] (fun v61 wc => ∃ (kq : Nat) (x61_10 : Bool), v61 = .bool x61_10 ∧ Aside0 (spec_DiskOK.j2 kq x3_2 x61_10 a0_0 l0_1 = some r) ∧ Aside0 (kq ≤ k2) ∧ Aside0 (wc.heap[gb148]? = some (.cells #[.int .i64 a0_0, (.slice (some ad151) l0_1.length c0_1)] 33 (0, 0))) ∧ Aside0 (wc.heap[gb152]? = some (.cells #[.string ((rd_T69 l0_1 x3_2).f0), .string ((rd_T69 l0_1 x3_2).f1), .int .i64 ((rd_T69 l0_1 x3_2).f2)] 69 (0, 0))) ∧ Aside0 (Below w.heap.size w wc))
        case first =>
         have H := HC11.o;clear HC11;obtain ⟨t153, A16, H⟩ := bX H;(try dsimp only at H)
         by_cases c17 : t153 = true
         ·subst c17
          rw [if_pos rfl] at H;obtain ⟨t154, A18, H⟩ := bX H;(try dsimp only at H)
          by_cases c19 : t154 = true
          ·subst c19
           rw [if_pos rfl] at H
           by_cases c20 : (((rd_T69 l0_1 x3_2).f1).size : Int) > 3000
           ·rw [if_pos c20] at H;have c20b0 : decide (3000 < (((rd_T69 l0_1 x3_2).f1).size : Int)) = true := decide_eq_true c20;have c20b1 : decide (3000 < ((rd_T69 l0_1 x3_2).f1).size) = true := decide_eq_true (by omega);clear c20
            (first | rw [c20b0] | (simp only [i64_w, i32_w]; rw [c20b0]) | skip)
            have H' := aM H;clear H
            try go_wp2
            have n0_ : Aside0 ((((w13.setCell ⟨gb152, 0, none⟩ (.string ((rd_T69 l0_1 x3_2).f0))).setCell ⟨gb152, 1, none⟩ (.string ((rd_T69 l0_1 x3_2).f1))).setCell ⟨gb152, 2, none⟩ (.int .i64 ((rd_T69 l0_1 x3_2).f2))).heap[gb148]? = some (.cells #[.int .i64 a0_0, .slice (some ad151) l0_1.length c0_1] 33 (0, 0))) := ⟨by (with_reducible repeat (first | refine kN ?_ _ | refine kD ?_ | refine kA ?_ _)); refine blk_far ?_ NB148_152.o _; (with_reducible repeat (first | refine kN ?_ _ | refine kD ?_ | refine kA ?_ _)); refine blk_far ?_ NB148_152.o _; (with_reducible repeat (first | refine kN ?_ _ | refine kD ?_ | refine kA ?_ _)); refine blk_far ?_ NB148_152.o _; (with_reducible repeat (first | refine kN ?_ _ | refine kD ?_ | refine kA ?_ _)); exact BK148.o⟩;have n1_ : Aside0 ((((w13.setCell ⟨gb152, 0, none⟩ (.string ((rd_T69 l0_1 x3_2).f0))).setCell ⟨gb152, 1, none⟩ (.string ((rd_T69 l0_1 x3_2).f1))).setCell ⟨gb152, 2, none⟩ (.int .i64 ((rd_T69 l0_1 x3_2).f2))).heap[gb152]? = some (.cells #[.string ((rd_T69 l0_1 x3_2).f0), .string ((rd_T69 l0_1 x3_2).f1), .int .i64 ((rd_T69 l0_1 x3_2).f2)] 69 (0, 0))) := ⟨by (with_reducible repeat (first | refine kN ?_ _ | refine kD ?_ | refine kA ?_ _)); refine blk_put (cs := #[.string ((rd_T69 l0_1 x3_2).f0), .string ((rd_T69 l0_1 x3_2).f1), .int .i64 0]) ?_ 2 _ rfl; refine blk_put (cs := #[.string ((rd_T69 l0_1 x3_2).f0), .string (⟨#[]⟩ : ByteArray), .int .i64 0]) ?_ 1 _ rfl; refine blk_put (cs := #[.string (⟨#[]⟩ : ByteArray), .string (⟨#[]⟩ : ByteArray), .int .i64 0]) ?_ 0 _ rfl; exact BK152.o⟩;have n2_ : Aside0 (Below w.heap.size w (((w13.setCell ⟨gb152, 0, none⟩ (.string ((rd_T69 l0_1 x3_2).f0))).setCell ⟨gb152, 1, none⟩ (.string ((rd_T69 l0_1 x3_2).f1))).setCell ⟨gb152, 2, none⟩ (.int .i64 ((rd_T69 l0_1 x3_2).f2)))) := ⟨by with_reducible repeat (first | exact HB.o | apply bA | apply bN | apply bD | refine bS ?_ GE148.o | refine bS ?_ GE152.o)⟩
            (try clear BK148)
            (try clear BK152)
            (try clear HB)
            generalize (((w13.setCell ⟨gb152, 0, none⟩ (.string ((rd_T69 l0_1 x3_2).f0))).setCell ⟨gb152, 1, none⟩ (.string ((rd_T69 l0_1 x3_2).f1))).setCell ⟨gb152, 2, none⟩ (.int .i64 ((rd_T69 l0_1 x3_2).f2))) = w21 at n0_ n1_ n2_ ⊢;have BK148 := n0_;have BK152 := n1_;have HB := n2_;clear n0_ n1_ n2_;have n0_ := aM (kD BK148.o);have n1_ := aM (kD BK152.o);have n2_ := aM (bD HB.o);clear BK148;clear BK152;clear HB;have BK148 := n0_;have BK152 := n1_;have HB := n2_;clear n0_ n1_ n2_;refine start_ (n := 35) (S := fun w' => w'.cell? ⟨gb152, 0, none⟩ = some (.string ((rd_T69 l0_1 x3_2).f0)) ∧ w'.cell? ⟨gb152, 1, none⟩ = some (.string ((rd_T69 l0_1 x3_2).f1)) ∧ w'.cell? ⟨gb152, 2, none⟩ = some (.int .i64 ((rd_T69 l0_1 x3_2).f2))) (ds := []) (fT 0 35) (by kernel_rfl) rfl rfl ⟨(kC BK152.o 0).trans rfl, (kC BK152.o 1).trans rfl, (kC BK152.o 2).trans rfl⟩ (fun hHeld => ?_); refine with_tabW spec_DiskOK.tab7 spec_DiskOK.bits7 (fun HT_ HW_ => ?_);generalize w21.drew = w22 at BK148 BK152 HB hHeld ⊢;refine pC HT_ 0 27 (fT 1 35) ?_;refine tB 1 (some 28) ?_ (fT 2 35) rfl rfl (take_ofW HT_.o HW_.o (by kernel_rfl)) (Or.inl ⟨by rfl, ?_⟩) hHeld ?_ ?_ ?_;rotate_left
            ·rintro w' ⟨s0, s1, s2⟩
             go_simp
             with_reducible rfl
            rotate_left;(·simp only [zA];rfl);refine one_ (i := 2) (N := some 29) (fT 3 35) rfl rfl (one_of HT_.o (by kernel_rfl)) (by decide) (fun K hK => ?_);refine goes_ Tryd.func48 (by kernel_rfl) rfl #[.string ((rd_T69 l0_1 x3_2).f0)] (by rfl) rfl rfl (by (try simp only [zM]); first | done | rfl | (simp only [zL]; rfl)) ?_
            with_reducible refine (spec_NameOK.calls k2 ((rd_T69 l0_1 x3_2).f0) true _ A16.o).mono ?_
            rintro e w' ⟨rfl, ⟨nd, rfl⟩⟩
            refine ⟨_, rfl, ?_⟩;refine hK.out _ _ ⟨(kC BK152.o 0).trans rfl, (kC BK152.o 1).trans rfl, (kC BK152.o 2).trans rfl⟩ (fun hHeld => ?_);clear hK K;refine norm_ (a' := ?_) ?_ ?_;rotate_left
            ·show Act.put _ (some 29) _ = _
             simp only [zA]
             rfl
            refine pC HT_ 3 30 (fT 4 35) ?_;refine pC HT_ 4 31 (fT 5 35) ?_;refine pC HT_ 5 32 (fT 6 35) ?_;refine pC HT_ 7 34 #[T,T,T,T,T,T,F,T,F,F,F,F,F,F,F,F,F,F,F,F,F,F,F,F,F,F,F,F,F,F,F,F,F,F,F] ?_;refine tB 6 (some 33) ?_ (fT 8 35) rfl rfl (take_ofW HT_.o HW_.o (by kernel_rfl)) (Or.inl ⟨by rfl, ?_⟩) hHeld ?_ ?_ ?_;rotate_left
            ·rintro w' ⟨s0, s1, s2⟩
             go_simp
             with_reducible rfl
            rotate_left;(·simp only [zA];rfl);refine tB 8 (some 35) ?_ (fT 9 35) rfl rfl (take_ofW HT_.o HW_.o (by kernel_rfl)) (Or.inl ⟨by rfl, ?_⟩) hHeld ?_ ?_ ?_;rotate_left
            ·rintro w' ⟨s0, s1, s2⟩
             go_simp
             with_reducible rfl
            rotate_left;(·simp only [zA];rfl);refine pC HT_ 9 36 (fT 10 35) ?_;refine one_ (i := 10) (N := some 37) (fT 11 35) rfl rfl (one_of HT_.o (by kernel_rfl)) (by decide) (fun K hK => ?_);refine goes_ Tryd.func47 (by kernel_rfl) rfl #[.int .i64 ((rd_T69 l0_1 x3_2).f2), .int .i64 0, .int .i64 (((rd_T69 l0_1 x3_2).f1).size : Int)] (by rfl) rfl rfl (by (try simp only [zM]); first | done | rfl | (simp only [zL]; rfl)) ?_
            with_reducible refine (spec_l01In.calls ((rd_T69 l0_1 x3_2).f2) 0 (((rd_T69 l0_1 x3_2).f1).size : Int) true _ A18.o).mono ?_
            rintro e w' ⟨rfl, ⟨nd, rfl⟩⟩
            refine ⟨_, rfl, ?_⟩;refine hK.out _ _ ⟨(kC BK152.o 0).trans rfl, (kC BK152.o 1).trans rfl, (kC BK152.o 2).trans rfl⟩ (fun hHeld => ?_);clear hK K;refine norm_ (a' := ?_) ?_ ?_;rotate_left
            ·show Act.put _ (some 37) _ = _
             simp only [zA]
             rfl
            refine pC HT_ 11 38 (fT 12 35) ?_;refine pC HT_ 12 39 (fT 13 35) ?_;refine pC HT_ 13 40 (fT 14 35) ?_;refine pC HT_ 14 41 (fT 15 35) ?_;refine tB 15 (some 42) ?_ (fT 16 35) rfl rfl (take_ofW HT_.o HW_.o (by kernel_rfl)) (Or.inl ⟨by rfl, ?_⟩) hHeld ?_ ?_ ?_;rotate_left
            ·rintro w' ⟨s0, s1, s2⟩
             go_simp
             with_reducible rfl
            rotate_left;(·simp only [zA];rfl);refine pC HT_ 16 43 (fT 17 35) ?_;refine pC HT_ 17 44 (fT 18 35) ?_;refine pC HT_ 18 45 (fT 19 35) ?_;refine pC HT_ 19 46 (fT 20 35) ?_;refine pB 20 (some 47) undef (fT 21 35) rfl rfl (any_of HT_.o (by kernel_rfl)) (yN (by rfl)) ?_ ?_ ?_;rotate_left;(·simp only [zA];rfl);refine pB 21 (some 48) undef (fT 22 35) rfl rfl (any_of HT_.o (by kernel_rfl)) (yN (by rfl)) ?_ ?_ ?_;rotate_left;(·simp only [zA];rfl);refine pB 22 (some 49) undef (fT 23 35) rfl rfl (any_of HT_.o (by kernel_rfl)) (yN (by rfl)) ?_ ?_ ?_;rotate_left;(·simp only [zA];rfl);refine pB 23 (some 50) undef (fT 24 35) rfl rfl (any_of HT_.o (by kernel_rfl)) (yN (by rfl)) ?_ ?_ ?_;rotate_left;(·simp only [zA];rfl);refine pB 24 (some 51) undef (fT 25 35) rfl rfl (any_of HT_.o (by kernel_rfl)) (yN (by rfl)) ?_ ?_ ?_;rotate_left;(·simp only [zA];rfl);refine pB 25 (some 52) undef (fT 26 35) rfl rfl (any_of HT_.o (by kernel_rfl)) (yN (by rfl)) ?_ ?_ ?_;rotate_left;(·simp only [zA];rfl);refine pB 26 (some 53) undef (fT 27 35) rfl rfl (any_of HT_.o (by kernel_rfl)) (yN (by rfl)) ?_ ?_ ?_;rotate_left;(·simp only [zA];rfl);refine pB 27 (some 54) undef (fT 28 35) rfl rfl (any_of HT_.o (by kernel_rfl)) (yN (by rfl)) ?_ ?_ ?_;rotate_left;(·simp only [zA];rfl);refine pB 28 (some 55) undef (fT 29 35) rfl rfl (any_of HT_.o (by kernel_rfl)) (yN (by rfl)) ?_ ?_ ?_;rotate_left;(·simp only [zA];rfl);refine pB 29 (some 56) undef (fT 30 35) rfl rfl (any_of HT_.o (by kernel_rfl)) (yN (by rfl)) ?_ ?_ ?_;rotate_left;(·simp only [zA];rfl);refine pB 30 (some 57) undef (fT 31 35) rfl rfl (any_of HT_.o (by kernel_rfl)) (yN (by rfl)) ?_ ?_ ?_;rotate_left;(·simp only [zA];rfl);refine pB 31 (some 58) undef (fT 32 35) rfl rfl (any_of HT_.o (by kernel_rfl)) (yN (by rfl)) ?_ ?_ ?_;rotate_left;(·simp only [zA];rfl);refine pB 32 (some 59) undef (fT 33 35) rfl rfl (any_of HT_.o (by kernel_rfl)) (yN (by rfl)) ?_ ?_ ?_;rotate_left;(·simp only [zA];rfl);refine pB 33 (some 60) undef (fT 34 35) rfl rfl (any_of HT_.o (by kernel_rfl)) (yN (by rfl)) ?_ ?_ ?_;rotate_left;(·simp only [zA];rfl);refine pC HT_ 34 61 (fT 35 35) ?_;refine done_ (done_of HT_.o (by kernel_rfl)) ?_
            try go_wp2
            go_meet
            case rel => exact ⟨_, (true), (by first | rfl | (simp; done) | (simp [*]; done)), H', ⟨by have := HJ1.o; have := HK2.o; first | omega | exact Nat.le_refl _⟩, ⟨by (with_reducible repeat (first | refine kN ?_ _ | refine kD ?_ | refine kA ?_ _)); exact BK148.o⟩, ⟨by (with_reducible repeat (first | refine kN ?_ _ | refine kD ?_ | refine kA ?_ _)); exact BK152.o⟩, ⟨by with_reducible repeat (first | exact HB.o | apply bA | apply bN | apply bD | refine bS ?_ GE148.o | refine bS ?_ GE152.o)⟩⟩
           ·rw [if_neg c20] at H;have c20b0 : decide (3000 < (((rd_T69 l0_1 x3_2).f1).size : Int)) = false := decide_eq_false c20;have c20b1 : decide (3000 < ((rd_T69 l0_1 x3_2).f1).size) = false := decide_eq_false (by omega);clear c20
            (first | rw [c20b0] | (simp only [i64_w, i32_w]; rw [c20b0]) | skip)
            by_cases c23 : x3_2 > 0
            ·rw [if_pos c23] at H;have c23b0 : decide (0 < x3_2) = true := decide_eq_true c23;clear c23;obtain ⟨ji24, hji24⟩ : ∃ j_ : Int, (wrap64 (x3_2 - 1)) = j_ := ⟨_, rfl⟩
             replace H : (if 0 ≤ (ji24) then (if (ji24) < (l0_1.length : Int) then (spec_DiskOK.j2 k2 x3_2 (!(Op.bytesLess (((rd_T69 l0_1 (ji24)).f0).toList) (((rd_T69 l0_1 x3_2).f0).toList))) a0_0 l0_1) else (none)) else (none)) = some r := by first | (rw [hji24] at H; exact H) | (simp only [hji24] at H ⊢; exact H)
             (try rw [hji24] at A16)
             (try rw [hji24] at A18)
             have hji24w : (IntKind.i64.wrap (x3_2 - 1)) = ji24 := (i64_w _).trans hji24
             by_cases c25 : 0 ≤ (ji24)
             ·rw [if_pos c25] at H;have c25b0 : decide (0 ≤ (ji24)) = true := decide_eq_true c25;clear c25
              by_cases c26 : (ji24) < (l0_1.length : Int)
              ·rw [if_pos c26] at H;have c26b0 : decide ((ji24) < (l0_1.length : Int)) = true := decide_eq_true c26;clear c26;have H' := aM H;clear H
               try go_wp2
               have n0_ : Aside0 ((((w13.setCell ⟨gb152, 0, none⟩ (.string ((rd_T69 l0_1 x3_2).f0))).setCell ⟨gb152, 1, none⟩ (.string ((rd_T69 l0_1 x3_2).f1))).setCell ⟨gb152, 2, none⟩ (.int .i64 ((rd_T69 l0_1 x3_2).f2))).heap[gb148]? = some (.cells #[.int .i64 a0_0, .slice (some ad151) l0_1.length c0_1] 33 (0, 0))) := ⟨by (with_reducible repeat (first | refine kN ?_ _ | refine kD ?_ | refine kA ?_ _)); refine blk_far ?_ NB148_152.o _; (with_reducible repeat (first | refine kN ?_ _ | refine kD ?_ | refine kA ?_ _)); refine blk_far ?_ NB148_152.o _; (with_reducible repeat (first | refine kN ?_ _ | refine kD ?_ | refine kA ?_ _)); refine blk_far ?_ NB148_152.o _; (with_reducible repeat (first | refine kN ?_ _ | refine kD ?_ | refine kA ?_ _)); exact BK148.o⟩;have n1_ : Aside0 ((((w13.setCell ⟨gb152, 0, none⟩ (.string ((rd_T69 l0_1 x3_2).f0))).setCell ⟨gb152, 1, none⟩ (.string ((rd_T69 l0_1 x3_2).f1))).setCell ⟨gb152, 2, none⟩ (.int .i64 ((rd_T69 l0_1 x3_2).f2))).heap[gb152]? = some (.cells #[.string ((rd_T69 l0_1 x3_2).f0), .string ((rd_T69 l0_1 x3_2).f1), .int .i64 ((rd_T69 l0_1 x3_2).f2)] 69 (0, 0))) := ⟨by (with_reducible repeat (first | refine kN ?_ _ | refine kD ?_ | refine kA ?_ _)); refine blk_put (cs := #[.string ((rd_T69 l0_1 x3_2).f0), .string ((rd_T69 l0_1 x3_2).f1), .int .i64 0]) ?_ 2 _ rfl; refine blk_put (cs := #[.string ((rd_T69 l0_1 x3_2).f0), .string (⟨#[]⟩ : ByteArray), .int .i64 0]) ?_ 1 _ rfl; refine blk_put (cs := #[.string (⟨#[]⟩ : ByteArray), .string (⟨#[]⟩ : ByteArray), .int .i64 0]) ?_ 0 _ rfl; exact BK152.o⟩;have n2_ : Aside0 (Below w.heap.size w (((w13.setCell ⟨gb152, 0, none⟩ (.string ((rd_T69 l0_1 x3_2).f0))).setCell ⟨gb152, 1, none⟩ (.string ((rd_T69 l0_1 x3_2).f1))).setCell ⟨gb152, 2, none⟩ (.int .i64 ((rd_T69 l0_1 x3_2).f2)))) := ⟨by with_reducible repeat (first | exact HB.o | apply bA | apply bN | apply bD | refine bS ?_ GE148.o | refine bS ?_ GE152.o)⟩
               (try clear BK148)
               (try clear BK152)
               (try clear HB)
               generalize (((w13.setCell ⟨gb152, 0, none⟩ (.string ((rd_T69 l0_1 x3_2).f0))).setCell ⟨gb152, 1, none⟩ (.string ((rd_T69 l0_1 x3_2).f1))).setCell ⟨gb152, 2, none⟩ (.int .i64 ((rd_T69 l0_1 x3_2).f2))) = w27 at n0_ n1_ n2_ ⊢;have BK148 := n0_;have BK152 := n1_;have HB := n2_;clear n0_ n1_ n2_;have n0_ := aM (kD BK148.o);have n1_ := aM (kD BK152.o);have n2_ := aM (bD HB.o);clear BK148;clear BK152;clear HB;have BK148 := n0_;have BK152 := n1_;have HB := n2_;clear n0_ n1_ n2_;have p155 : 0 ≤ ((ji24) : Int) := oD;have q155 : (ji24) < (l0_1.length : Int) := oD;obtain ⟨ad155, e155, hx155_0, hx155_1, hx155_2⟩ := at_T69 HR0_1.o (ji24) p155 q155;have hw155_2 := hx155_2;have hw155_1 := hx155_1;have hw155_0 := hx155_0;obtain rfl : ad151 = ad155 := (by injection e155);replace hx155_0 := (HB.o.cell (lC w _ hx155_0)).trans hx155_0;replace hx155_1 := (HB.o.cell (lC w _ hx155_1)).trans hx155_1;replace hx155_2 := (HB.o.cell (lC w _ hx155_2)).trans hx155_2;replace p155 := eq_true p155;replace q155 := eq_true q155;refine start_ (n := 35) (S := fun w' => w'.cell? ⟨gb152, 0, none⟩ = some (.string ((rd_T69 l0_1 x3_2).f0)) ∧ w'.cell? ⟨gb152, 1, none⟩ = some (.string ((rd_T69 l0_1 x3_2).f1)) ∧ w'.cell? ⟨gb152, 2, none⟩ = some (.int .i64 ((rd_T69 l0_1 x3_2).f2)) ∧ w'.cell? ⟨gb148, 0, none⟩ = some (.int .i64 a0_0) ∧ w'.cell? ⟨gb148, 1, none⟩ = some (.slice (some ad151) l0_1.length c0_1) ∧ w'.cell? (ad151.add (((ji24)).toNat * 3)) = some (.string ((rd_T69 l0_1 (ji24)).f0)) ∧ w'.cell? ⟨(ad151.add (((ji24)).toNat * 3)).block, (ad151.add (((ji24)).toNat * 3)).off + 1, none⟩ = some (.string ((rd_T69 l0_1 (ji24)).f1)) ∧ w'.cell? ⟨(ad151.add (((ji24)).toNat * 3)).block, (ad151.add (((ji24)).toNat * 3)).off + 2, none⟩ = some (.int .i64 ((rd_T69 l0_1 (ji24)).f2))) (ds := []) (fT 0 35) (by kernel_rfl) rfl rfl ⟨(kC BK152.o 0).trans rfl, (kC BK152.o 1).trans rfl, (kC BK152.o 2).trans rfl, (kC BK148.o 0).trans rfl, (kC BK148.o 1).trans rfl, ((HB.o.cell (lC w _ hw155_0)).trans hw155_0), ((HB.o.cell (lC w _ hw155_1)).trans hw155_1), ((HB.o.cell (lC w _ hw155_2)).trans hw155_2)⟩ (fun hHeld => ?_); refine with_tabW spec_DiskOK.tab7 spec_DiskOK.bits7 (fun HT_ HW_ => ?_);generalize w27.drew = w28 at BK148 BK152 HB hx155_0 hx155_1 hx155_2 hHeld ⊢;refine pC HT_ 0 27 (fT 1 35) ?_;refine tB 1 (some 28) ?_ (fT 2 35) rfl rfl (take_ofW HT_.o HW_.o (by kernel_rfl)) (Or.inl ⟨by rfl, ?_⟩) hHeld ?_ ?_ ?_;rotate_left
               ·rintro w' ⟨s0, s1, s2, s3, s4, s5, s6, s7⟩
                go_simp
                with_reducible rfl
               rotate_left;(·simp only [zA];rfl);refine one_ (i := 2) (N := some 29) (fT 3 35) rfl rfl (one_of HT_.o (by kernel_rfl)) (by decide) (fun K hK => ?_);refine goes_ Tryd.func48 (by kernel_rfl) rfl #[.string ((rd_T69 l0_1 x3_2).f0)] (by rfl) rfl rfl (by (try simp only [zM]); first | done | rfl | (simp only [zL]; rfl)) ?_
               with_reducible refine (spec_NameOK.calls k2 ((rd_T69 l0_1 x3_2).f0) true _ A16.o).mono ?_
               rintro e w' ⟨rfl, ⟨nd, rfl⟩⟩
               refine ⟨_, rfl, ?_⟩;refine hK.out _ _ ⟨(kC BK152.o 0).trans rfl, (kC BK152.o 1).trans rfl, (kC BK152.o 2).trans rfl, (kC BK148.o 0).trans rfl, (kC BK148.o 1).trans rfl, ((HB.o.cell (lC w _ hw155_0)).trans hw155_0), ((HB.o.cell (lC w _ hw155_1)).trans hw155_1), ((HB.o.cell (lC w _ hw155_2)).trans hw155_2)⟩ (fun hHeld => ?_);clear hK K;refine norm_ (a' := ?_) ?_ ?_;rotate_left
               ·show Act.put _ (some 29) _ = _
                simp only [zA]
                rfl
               refine pC HT_ 3 30 (fT 4 35) ?_;refine pC HT_ 4 31 (fT 5 35) ?_;refine pC HT_ 5 32 (fT 6 35) ?_;refine pC HT_ 7 34 #[T,T,T,T,T,T,F,T,F,F,F,F,F,F,F,F,F,F,F,F,F,F,F,F,F,F,F,F,F,F,F,F,F,F,F] ?_;refine tB 6 (some 33) ?_ (fT 8 35) rfl rfl (take_ofW HT_.o HW_.o (by kernel_rfl)) (Or.inl ⟨by rfl, ?_⟩) hHeld ?_ ?_ ?_;rotate_left
               ·rintro w' ⟨s0, s1, s2, s3, s4, s5, s6, s7⟩
                go_simp
                with_reducible rfl
               rotate_left;(·simp only [zA];rfl);refine tB 8 (some 35) ?_ (fT 9 35) rfl rfl (take_ofW HT_.o HW_.o (by kernel_rfl)) (Or.inl ⟨by rfl, ?_⟩) hHeld ?_ ?_ ?_;rotate_left
               ·rintro w' ⟨s0, s1, s2, s3, s4, s5, s6, s7⟩
                go_simp
                with_reducible rfl
               rotate_left;(·simp only [zA];rfl);refine pC HT_ 9 36 (fT 10 35) ?_;refine one_ (i := 10) (N := some 37) (fT 11 35) rfl rfl (one_of HT_.o (by kernel_rfl)) (by decide) (fun K hK => ?_);refine goes_ Tryd.func47 (by kernel_rfl) rfl #[.int .i64 ((rd_T69 l0_1 x3_2).f2), .int .i64 0, .int .i64 (((rd_T69 l0_1 x3_2).f1).size : Int)] (by rfl) rfl rfl (by (try simp only [zM]); first | done | rfl | (simp only [zL]; rfl)) ?_
               with_reducible refine (spec_l01In.calls ((rd_T69 l0_1 x3_2).f2) 0 (((rd_T69 l0_1 x3_2).f1).size : Int) true _ A18.o).mono ?_
               rintro e w' ⟨rfl, ⟨nd, rfl⟩⟩
               refine ⟨_, rfl, ?_⟩;refine hK.out _ _ ⟨(kC BK152.o 0).trans rfl, (kC BK152.o 1).trans rfl, (kC BK152.o 2).trans rfl, (kC BK148.o 0).trans rfl, (kC BK148.o 1).trans rfl, ((HB.o.cell (lC w _ hw155_0)).trans hw155_0), ((HB.o.cell (lC w _ hw155_1)).trans hw155_1), ((HB.o.cell (lC w _ hw155_2)).trans hw155_2)⟩ (fun hHeld => ?_);clear hK K;refine norm_ (a' := ?_) ?_ ?_;rotate_left
               ·show Act.put _ (some 37) _ = _
                simp only [zA]
                rfl
               refine pC HT_ 11 38 (fT 12 35) ?_;refine pC HT_ 12 39 (fT 13 35) ?_;refine pC HT_ 13 40 (fT 14 35) ?_;refine pC HT_ 14 41 (fT 15 35) ?_;refine tB 15 (some 42) ?_ (fT 16 35) rfl rfl (take_ofW HT_.o HW_.o (by kernel_rfl)) (Or.inl ⟨by rfl, ?_⟩) hHeld ?_ ?_ ?_;rotate_left
               ·rintro w' ⟨s0, s1, s2, s3, s4, s5, s6, s7⟩
                go_simp
                with_reducible rfl
               rotate_left;(·simp only [zA];rfl);refine pC HT_ 16 43 (fT 17 35) ?_;refine pC HT_ 17 44 (fT 18 35) ?_;refine pC HT_ 18 45 (fT 19 35) ?_;refine pC HT_ 19 46 (fT 20 35) ?_;refine pC HT_ 20 47 (fT 21 35) ?_;refine pC HT_ 21 48 (fT 22 35) ?_;refine pC HT_ 22 49 (fT 23 35) ?_;refine pC HT_ 23 50 (fT 24 35) ?_;refine pC HT_ 25 52 #[T,T,T,T,T,T,T,T,T,T,T,T,T,T,T,T,T,T,T,T,T,T,T,T,F,T,F,F,F,F,F,F,F,F,F] ?_;refine pC HT_ 26 53 #[T,T,T,T,T,T,T,T,T,T,T,T,T,T,T,T,T,T,T,T,T,T,T,T,F,T,T,F,F,F,F,F,F,F,F] ?_;refine pC HT_ 30 57 #[T,T,T,T,T,T,T,T,T,T,T,T,T,T,T,T,T,T,T,T,T,T,T,T,F,T,T,F,F,F,T,F,F,F,F] ?_;refine tB 24 (some 51) ?_ #[T,T,T,T,T,T,T,T,T,T,T,T,T,T,T,T,T,T,T,T,T,T,T,T,T,T,T,F,F,F,T,F,F,F,F] rfl rfl (take_ofW HT_.o HW_.o (by kernel_rfl)) (Or.inl ⟨by rfl, ?_⟩) hHeld ?_ ?_ ?_;rotate_left
               ·rintro w' ⟨s0, s1, s2, s3, s4, s5, s6, s7⟩
                go_simp
                with_reducible rfl
               rotate_left;(·simp only [zA];rfl);refine pC HT_ 27 54 #[T,T,T,T,T,T,T,T,T,T,T,T,T,T,T,T,T,T,T,T,T,T,T,T,T,T,T,T,F,F,T,F,F,F,F] ?_;refine pC HT_ 28 55 #[T,T,T,T,T,T,T,T,T,T,T,T,T,T,T,T,T,T,T,T,T,T,T,T,T,T,T,T,T,F,T,F,F,F,F] ?_;refine tB 29 (some 56) ?_ (fT 31 35) rfl rfl (take_ofW HT_.o HW_.o (by kernel_rfl)) (Or.inl ⟨by rfl, ?_⟩) hHeld ?_ ?_ ?_;rotate_left
               ·rintro w' ⟨s0, s1, s2, s3, s4, s5, s6, s7⟩
                go_simp
                with_reducible rfl
               rotate_left;(·simp only [zA];rfl);refine tB 31 (some 58) ?_ (fT 32 35) rfl rfl (take_ofW HT_.o HW_.o (by kernel_rfl)) (Or.inl ⟨by rfl, ?_⟩) hHeld ?_ ?_ ?_;rotate_left
               ·rintro w' ⟨s0, s1, s2, s3, s4, s5, s6, s7⟩
                go_simp
                with_reducible rfl
               rotate_left;(·simp only [zA];rfl);refine pC HT_ 32 59 (fT 33 35) ?_;refine pC HT_ 33 60 (fT 34 35) ?_;refine pC HT_ 34 61 (fT 35 35) ?_;refine done_ (done_of HT_.o (by kernel_rfl)) ?_
               try go_wp2
               go_meet
               case rel => exact ⟨_, (!(Op.bytesLess (((rd_T69 l0_1 (ji24)).f0).toList) (((rd_T69 l0_1 x3_2).f0).toList))), (by first | rfl | (simp; done) | (simp only [← hji24] <;> (first | rfl | simp)) | (simp [*]; done)), H', ⟨by have := HJ1.o; have := HK2.o; first | omega | exact Nat.le_refl _⟩, ⟨by (with_reducible repeat (first | refine kN ?_ _ | refine kD ?_ | refine kA ?_ _)); exact BK148.o⟩, ⟨by (with_reducible repeat (first | refine kN ?_ _ | refine kD ?_ | refine kA ?_ _)); exact BK152.o⟩, ⟨by with_reducible repeat (first | exact HB.o | apply bA | apply bN | apply bD | refine bS ?_ GE148.o | refine bS ?_ GE152.o)⟩⟩
              ·rw [if_neg c26] at H;exact absurd H (by simp)
             ·rw [if_neg c25] at H;exact absurd H (by simp)
            ·rw [if_neg c23] at H;have c23b0 : decide (0 < x3_2) = false := decide_eq_false c23;clear c23;have H' := aM H;clear H
             try go_wp2
             have n0_ : Aside0 ((((w13.setCell ⟨gb152, 0, none⟩ (.string ((rd_T69 l0_1 x3_2).f0))).setCell ⟨gb152, 1, none⟩ (.string ((rd_T69 l0_1 x3_2).f1))).setCell ⟨gb152, 2, none⟩ (.int .i64 ((rd_T69 l0_1 x3_2).f2))).heap[gb148]? = some (.cells #[.int .i64 a0_0, .slice (some ad151) l0_1.length c0_1] 33 (0, 0))) := ⟨by (with_reducible repeat (first | refine kN ?_ _ | refine kD ?_ | refine kA ?_ _)); refine blk_far ?_ NB148_152.o _; (with_reducible repeat (first | refine kN ?_ _ | refine kD ?_ | refine kA ?_ _)); refine blk_far ?_ NB148_152.o _; (with_reducible repeat (first | refine kN ?_ _ | refine kD ?_ | refine kA ?_ _)); refine blk_far ?_ NB148_152.o _; (with_reducible repeat (first | refine kN ?_ _ | refine kD ?_ | refine kA ?_ _)); exact BK148.o⟩;have n1_ : Aside0 ((((w13.setCell ⟨gb152, 0, none⟩ (.string ((rd_T69 l0_1 x3_2).f0))).setCell ⟨gb152, 1, none⟩ (.string ((rd_T69 l0_1 x3_2).f1))).setCell ⟨gb152, 2, none⟩ (.int .i64 ((rd_T69 l0_1 x3_2).f2))).heap[gb152]? = some (.cells #[.string ((rd_T69 l0_1 x3_2).f0), .string ((rd_T69 l0_1 x3_2).f1), .int .i64 ((rd_T69 l0_1 x3_2).f2)] 69 (0, 0))) := ⟨by (with_reducible repeat (first | refine kN ?_ _ | refine kD ?_ | refine kA ?_ _)); refine blk_put (cs := #[.string ((rd_T69 l0_1 x3_2).f0), .string ((rd_T69 l0_1 x3_2).f1), .int .i64 0]) ?_ 2 _ rfl; refine blk_put (cs := #[.string ((rd_T69 l0_1 x3_2).f0), .string (⟨#[]⟩ : ByteArray), .int .i64 0]) ?_ 1 _ rfl; refine blk_put (cs := #[.string (⟨#[]⟩ : ByteArray), .string (⟨#[]⟩ : ByteArray), .int .i64 0]) ?_ 0 _ rfl; exact BK152.o⟩;have n2_ : Aside0 (Below w.heap.size w (((w13.setCell ⟨gb152, 0, none⟩ (.string ((rd_T69 l0_1 x3_2).f0))).setCell ⟨gb152, 1, none⟩ (.string ((rd_T69 l0_1 x3_2).f1))).setCell ⟨gb152, 2, none⟩ (.int .i64 ((rd_T69 l0_1 x3_2).f2)))) := ⟨by with_reducible repeat (first | exact HB.o | apply bA | apply bN | apply bD | refine bS ?_ GE148.o | refine bS ?_ GE152.o)⟩
             (try clear BK148)
             (try clear BK152)
             (try clear HB)
             generalize (((w13.setCell ⟨gb152, 0, none⟩ (.string ((rd_T69 l0_1 x3_2).f0))).setCell ⟨gb152, 1, none⟩ (.string ((rd_T69 l0_1 x3_2).f1))).setCell ⟨gb152, 2, none⟩ (.int .i64 ((rd_T69 l0_1 x3_2).f2))) = w29 at n0_ n1_ n2_ ⊢;have BK148 := n0_;have BK152 := n1_;have HB := n2_;clear n0_ n1_ n2_;have n0_ := aM (kD BK148.o);have n1_ := aM (kD BK152.o);have n2_ := aM (bD HB.o);clear BK148;clear BK152;clear HB;have BK148 := n0_;have BK152 := n1_;have HB := n2_;clear n0_ n1_ n2_;refine start_ (n := 35) (S := fun w' => w'.cell? ⟨gb152, 0, none⟩ = some (.string ((rd_T69 l0_1 x3_2).f0)) ∧ w'.cell? ⟨gb152, 1, none⟩ = some (.string ((rd_T69 l0_1 x3_2).f1)) ∧ w'.cell? ⟨gb152, 2, none⟩ = some (.int .i64 ((rd_T69 l0_1 x3_2).f2))) (ds := []) (fT 0 35) (by kernel_rfl) rfl rfl ⟨(kC BK152.o 0).trans rfl, (kC BK152.o 1).trans rfl, (kC BK152.o 2).trans rfl⟩ (fun hHeld => ?_); refine with_tabW spec_DiskOK.tab7 spec_DiskOK.bits7 (fun HT_ HW_ => ?_);generalize w29.drew = w30 at BK148 BK152 HB hHeld ⊢;refine pC HT_ 0 27 (fT 1 35) ?_;refine tB 1 (some 28) ?_ (fT 2 35) rfl rfl (take_ofW HT_.o HW_.o (by kernel_rfl)) (Or.inl ⟨by rfl, ?_⟩) hHeld ?_ ?_ ?_;rotate_left
             ·rintro w' ⟨s0, s1, s2⟩
              go_simp
              with_reducible rfl
             rotate_left;(·simp only [zA];rfl);refine one_ (i := 2) (N := some 29) (fT 3 35) rfl rfl (one_of HT_.o (by kernel_rfl)) (by decide) (fun K hK => ?_);refine goes_ Tryd.func48 (by kernel_rfl) rfl #[.string ((rd_T69 l0_1 x3_2).f0)] (by rfl) rfl rfl (by (try simp only [zM]); first | done | rfl | (simp only [zL]; rfl)) ?_
             with_reducible refine (spec_NameOK.calls k2 ((rd_T69 l0_1 x3_2).f0) true _ A16.o).mono ?_
             rintro e w' ⟨rfl, ⟨nd, rfl⟩⟩
             refine ⟨_, rfl, ?_⟩;refine hK.out _ _ ⟨(kC BK152.o 0).trans rfl, (kC BK152.o 1).trans rfl, (kC BK152.o 2).trans rfl⟩ (fun hHeld => ?_);clear hK K;refine norm_ (a' := ?_) ?_ ?_;rotate_left
             ·show Act.put _ (some 29) _ = _
              simp only [zA]
              rfl
             refine pC HT_ 3 30 (fT 4 35) ?_;refine pC HT_ 4 31 (fT 5 35) ?_;refine pC HT_ 5 32 (fT 6 35) ?_;refine pC HT_ 7 34 #[T,T,T,T,T,T,F,T,F,F,F,F,F,F,F,F,F,F,F,F,F,F,F,F,F,F,F,F,F,F,F,F,F,F,F] ?_;refine tB 6 (some 33) ?_ (fT 8 35) rfl rfl (take_ofW HT_.o HW_.o (by kernel_rfl)) (Or.inl ⟨by rfl, ?_⟩) hHeld ?_ ?_ ?_;rotate_left
             ·rintro w' ⟨s0, s1, s2⟩
              go_simp
              with_reducible rfl
             rotate_left;(·simp only [zA];rfl);refine tB 8 (some 35) ?_ (fT 9 35) rfl rfl (take_ofW HT_.o HW_.o (by kernel_rfl)) (Or.inl ⟨by rfl, ?_⟩) hHeld ?_ ?_ ?_;rotate_left
             ·rintro w' ⟨s0, s1, s2⟩
              go_simp
              with_reducible rfl
             rotate_left;(·simp only [zA];rfl);refine pC HT_ 9 36 (fT 10 35) ?_;refine one_ (i := 10) (N := some 37) (fT 11 35) rfl rfl (one_of HT_.o (by kernel_rfl)) (by decide) (fun K hK => ?_);refine goes_ Tryd.func47 (by kernel_rfl) rfl #[.int .i64 ((rd_T69 l0_1 x3_2).f2), .int .i64 0, .int .i64 (((rd_T69 l0_1 x3_2).f1).size : Int)] (by rfl) rfl rfl (by (try simp only [zM]); first | done | rfl | (simp only [zL]; rfl)) ?_
             with_reducible refine (spec_l01In.calls ((rd_T69 l0_1 x3_2).f2) 0 (((rd_T69 l0_1 x3_2).f1).size : Int) true _ A18.o).mono ?_
             rintro e w' ⟨rfl, ⟨nd, rfl⟩⟩
             refine ⟨_, rfl, ?_⟩;refine hK.out _ _ ⟨(kC BK152.o 0).trans rfl, (kC BK152.o 1).trans rfl, (kC BK152.o 2).trans rfl⟩ (fun hHeld => ?_);clear hK K;refine norm_ (a' := ?_) ?_ ?_;rotate_left
             ·show Act.put _ (some 37) _ = _
              simp only [zA]
              rfl
             refine pC HT_ 11 38 (fT 12 35) ?_;refine pC HT_ 12 39 (fT 13 35) ?_;refine pC HT_ 13 40 (fT 14 35) ?_;refine pC HT_ 14 41 (fT 15 35) ?_;refine tB 15 (some 42) ?_ (fT 16 35) rfl rfl (take_ofW HT_.o HW_.o (by kernel_rfl)) (Or.inl ⟨by rfl, ?_⟩) hHeld ?_ ?_ ?_;rotate_left
             ·rintro w' ⟨s0, s1, s2⟩
              go_simp
              with_reducible rfl
             rotate_left;(·simp only [zA];rfl);refine pC HT_ 16 43 (fT 17 35) ?_;refine pC HT_ 17 44 (fT 18 35) ?_;refine pC HT_ 18 45 (fT 19 35) ?_;refine pC HT_ 19 46 (fT 20 35) ?_;refine pC HT_ 20 47 (fT 21 35) ?_;refine pC HT_ 21 48 (fT 22 35) ?_;refine pC HT_ 22 49 (fT 23 35) ?_;refine pB 23 (some 50) undef (fT 24 35) rfl rfl (any_of HT_.o (by kernel_rfl)) (yN (by rfl)) ?_ ?_ ?_;rotate_left;(·simp only [zA];rfl);refine pB 24 (some 51) undef (fT 25 35) rfl rfl (any_of HT_.o (by kernel_rfl)) (yN (by rfl)) ?_ ?_ ?_;rotate_left;(·simp only [zA];rfl);refine pB 25 (some 52) undef (fT 26 35) rfl rfl (any_of HT_.o (by kernel_rfl)) (yN (by rfl)) ?_ ?_ ?_;rotate_left;(·simp only [zA];rfl);refine pB 26 (some 53) undef (fT 27 35) rfl rfl (any_of HT_.o (by kernel_rfl)) (yN (by rfl)) ?_ ?_ ?_;rotate_left;(·simp only [zA];rfl);refine pB 27 (some 54) undef (fT 28 35) rfl rfl (any_of HT_.o (by kernel_rfl)) (yN (by rfl)) ?_ ?_ ?_;rotate_left;(·simp only [zA];rfl);refine pB 28 (some 55) undef (fT 29 35) rfl rfl (any_of HT_.o (by kernel_rfl)) (yN (by rfl)) ?_ ?_ ?_;rotate_left;(·simp only [zA];rfl);refine pB 29 (some 56) undef (fT 30 35) rfl rfl (any_of HT_.o (by kernel_rfl)) (yN (by rfl)) ?_ ?_ ?_;rotate_left;(·simp only [zA];rfl);refine pB 30 (some 57) undef (fT 31 35) rfl rfl (any_of HT_.o (by kernel_rfl)) (yN (by rfl)) ?_ ?_ ?_;rotate_left;(·simp only [zA];rfl);refine pB 31 (some 58) undef (fT 32 35) rfl rfl (any_of HT_.o (by kernel_rfl)) (yN (by rfl)) ?_ ?_ ?_;rotate_left;(·simp only [zA];rfl);refine pB 32 (some 59) undef (fT 33 35) rfl rfl (any_of HT_.o (by kernel_rfl)) (yN (by rfl)) ?_ ?_ ?_;rotate_left;(·simp only [zA];rfl);refine pC HT_ 33 60 (fT 34 35) ?_;refine pC HT_ 34 61 (fT 35 35) ?_;refine done_ (done_of HT_.o (by kernel_rfl)) ?_
             try go_wp2
             go_meet
             case rel => exact ⟨_, (false), (by first | rfl | (simp; done) | (simp [*]; done)), H', ⟨by have := HJ1.o; have := HK2.o; first | omega | exact Nat.le_refl _⟩, ⟨by (with_reducible repeat (first | refine kN ?_ _ | refine kD ?_ | refine kA ?_ _)); exact BK148.o⟩, ⟨by (with_reducible repeat (first | refine kN ?_ _ | refine kD ?_ | refine kA ?_ _)); exact BK152.o⟩, ⟨by with_reducible repeat (first | exact HB.o | apply bA | apply bN | apply bD | refine bS ?_ GE148.o | refine bS ?_ GE152.o)⟩⟩
          ·replace c19 := Bool.eq_false_iff.mpr c19;subst c19
           rw [if_neg (show ¬ (false = true) by decide)] at H;have H' := aM H;clear H
           try go_wp2
           have n0_ : Aside0 ((((w13.setCell ⟨gb152, 0, none⟩ (.string ((rd_T69 l0_1 x3_2).f0))).setCell ⟨gb152, 1, none⟩ (.string ((rd_T69 l0_1 x3_2).f1))).setCell ⟨gb152, 2, none⟩ (.int .i64 ((rd_T69 l0_1 x3_2).f2))).heap[gb148]? = some (.cells #[.int .i64 a0_0, .slice (some ad151) l0_1.length c0_1] 33 (0, 0))) := ⟨by (with_reducible repeat (first | refine kN ?_ _ | refine kD ?_ | refine kA ?_ _)); refine blk_far ?_ NB148_152.o _; (with_reducible repeat (first | refine kN ?_ _ | refine kD ?_ | refine kA ?_ _)); refine blk_far ?_ NB148_152.o _; (with_reducible repeat (first | refine kN ?_ _ | refine kD ?_ | refine kA ?_ _)); refine blk_far ?_ NB148_152.o _; (with_reducible repeat (first | refine kN ?_ _ | refine kD ?_ | refine kA ?_ _)); exact BK148.o⟩;have n1_ : Aside0 ((((w13.setCell ⟨gb152, 0, none⟩ (.string ((rd_T69 l0_1 x3_2).f0))).setCell ⟨gb152, 1, none⟩ (.string ((rd_T69 l0_1 x3_2).f1))).setCell ⟨gb152, 2, none⟩ (.int .i64 ((rd_T69 l0_1 x3_2).f2))).heap[gb152]? = some (.cells #[.string ((rd_T69 l0_1 x3_2).f0), .string ((rd_T69 l0_1 x3_2).f1), .int .i64 ((rd_T69 l0_1 x3_2).f2)] 69 (0, 0))) := ⟨by (with_reducible repeat (first | refine kN ?_ _ | refine kD ?_ | refine kA ?_ _)); refine blk_put (cs := #[.string ((rd_T69 l0_1 x3_2).f0), .string ((rd_T69 l0_1 x3_2).f1), .int .i64 0]) ?_ 2 _ rfl; refine blk_put (cs := #[.string ((rd_T69 l0_1 x3_2).f0), .string (⟨#[]⟩ : ByteArray), .int .i64 0]) ?_ 1 _ rfl; refine blk_put (cs := #[.string (⟨#[]⟩ : ByteArray), .string (⟨#[]⟩ : ByteArray), .int .i64 0]) ?_ 0 _ rfl; exact BK152.o⟩;have n2_ : Aside0 (Below w.heap.size w (((w13.setCell ⟨gb152, 0, none⟩ (.string ((rd_T69 l0_1 x3_2).f0))).setCell ⟨gb152, 1, none⟩ (.string ((rd_T69 l0_1 x3_2).f1))).setCell ⟨gb152, 2, none⟩ (.int .i64 ((rd_T69 l0_1 x3_2).f2)))) := ⟨by with_reducible repeat (first | exact HB.o | apply bA | apply bN | apply bD | refine bS ?_ GE148.o | refine bS ?_ GE152.o)⟩
           (try clear BK148)
           (try clear BK152)
           (try clear HB)
           generalize (((w13.setCell ⟨gb152, 0, none⟩ (.string ((rd_T69 l0_1 x3_2).f0))).setCell ⟨gb152, 1, none⟩ (.string ((rd_T69 l0_1 x3_2).f1))).setCell ⟨gb152, 2, none⟩ (.int .i64 ((rd_T69 l0_1 x3_2).f2))) = w31 at n0_ n1_ n2_ ⊢;have BK148 := n0_;have BK152 := n1_;have HB := n2_;clear n0_ n1_ n2_;have n0_ := aM (kD BK148.o);have n1_ := aM (kD BK152.o);have n2_ := aM (bD HB.o);clear BK148;clear BK152;clear HB;have BK148 := n0_;have BK152 := n1_;have HB := n2_;clear n0_ n1_ n2_;refine start_ (n := 35) (S := fun w' => w'.cell? ⟨gb152, 0, none⟩ = some (.string ((rd_T69 l0_1 x3_2).f0)) ∧ w'.cell? ⟨gb152, 1, none⟩ = some (.string ((rd_T69 l0_1 x3_2).f1)) ∧ w'.cell? ⟨gb152, 2, none⟩ = some (.int .i64 ((rd_T69 l0_1 x3_2).f2))) (ds := []) (fT 0 35) (by kernel_rfl) rfl rfl ⟨(kC BK152.o 0).trans rfl, (kC BK152.o 1).trans rfl, (kC BK152.o 2).trans rfl⟩ (fun hHeld => ?_); refine with_tabW spec_DiskOK.tab7 spec_DiskOK.bits7 (fun HT_ HW_ => ?_);generalize w31.drew = w32 at BK148 BK152 HB hHeld ⊢;refine pC HT_ 0 27 (fT 1 35) ?_;refine tB 1 (some 28) ?_ (fT 2 35) rfl rfl (take_ofW HT_.o HW_.o (by kernel_rfl)) (Or.inl ⟨by rfl, ?_⟩) hHeld ?_ ?_ ?_;rotate_left
           ·rintro w' ⟨s0, s1, s2⟩
            go_simp
            with_reducible rfl
           rotate_left;(·simp only [zA];rfl);refine one_ (i := 2) (N := some 29) (fT 3 35) rfl rfl (one_of HT_.o (by kernel_rfl)) (by decide) (fun K hK => ?_);refine goes_ Tryd.func48 (by kernel_rfl) rfl #[.string ((rd_T69 l0_1 x3_2).f0)] (by rfl) rfl rfl (by (try simp only [zM]); first | done | rfl | (simp only [zL]; rfl)) ?_
           with_reducible refine (spec_NameOK.calls k2 ((rd_T69 l0_1 x3_2).f0) true _ A16.o).mono ?_
           rintro e w' ⟨rfl, ⟨nd, rfl⟩⟩
           refine ⟨_, rfl, ?_⟩;refine hK.out _ _ ⟨(kC BK152.o 0).trans rfl, (kC BK152.o 1).trans rfl, (kC BK152.o 2).trans rfl⟩ (fun hHeld => ?_);clear hK K;refine norm_ (a' := ?_) ?_ ?_;rotate_left
           ·show Act.put _ (some 29) _ = _
            simp only [zA]
            rfl
           refine pC HT_ 3 30 (fT 4 35) ?_;refine pC HT_ 4 31 (fT 5 35) ?_;refine pC HT_ 5 32 (fT 6 35) ?_;refine pC HT_ 7 34 #[T,T,T,T,T,T,F,T,F,F,F,F,F,F,F,F,F,F,F,F,F,F,F,F,F,F,F,F,F,F,F,F,F,F,F] ?_;refine tB 6 (some 33) ?_ (fT 8 35) rfl rfl (take_ofW HT_.o HW_.o (by kernel_rfl)) (Or.inl ⟨by rfl, ?_⟩) hHeld ?_ ?_ ?_;rotate_left
           ·rintro w' ⟨s0, s1, s2⟩
            go_simp
            with_reducible rfl
           rotate_left;(·simp only [zA];rfl);refine tB 8 (some 35) ?_ (fT 9 35) rfl rfl (take_ofW HT_.o HW_.o (by kernel_rfl)) (Or.inl ⟨by rfl, ?_⟩) hHeld ?_ ?_ ?_;rotate_left
           ·rintro w' ⟨s0, s1, s2⟩
            go_simp
            with_reducible rfl
           rotate_left;(·simp only [zA];rfl);refine pC HT_ 9 36 (fT 10 35) ?_;refine one_ (i := 10) (N := some 37) (fT 11 35) rfl rfl (one_of HT_.o (by kernel_rfl)) (by decide) (fun K hK => ?_);refine goes_ Tryd.func47 (by kernel_rfl) rfl #[.int .i64 ((rd_T69 l0_1 x3_2).f2), .int .i64 0, .int .i64 (((rd_T69 l0_1 x3_2).f1).size : Int)] (by rfl) rfl rfl (by (try simp only [zM]); first | done | rfl | (simp only [zL]; rfl)) ?_
           with_reducible refine (spec_l01In.calls ((rd_T69 l0_1 x3_2).f2) 0 (((rd_T69 l0_1 x3_2).f1).size : Int) false _ A18.o).mono ?_
           rintro e w' ⟨rfl, ⟨nd, rfl⟩⟩
           refine ⟨_, rfl, ?_⟩;refine hK.out _ _ ⟨(kC BK152.o 0).trans rfl, (kC BK152.o 1).trans rfl, (kC BK152.o 2).trans rfl⟩ (fun hHeld => ?_);clear hK K;refine norm_ (a' := ?_) ?_ ?_;rotate_left
           ·show Act.put _ (some 37) _ = _
            simp only [zA]
            rfl
           refine pC HT_ 11 38 (fT 12 35) ?_;refine pC HT_ 12 39 (fT 13 35) ?_;refine pC HT_ 13 40 (fT 14 35) ?_;refine pB 14 (some 41) undef (fT 15 35) rfl rfl (any_of HT_.o (by kernel_rfl)) (yN (by rfl)) ?_ ?_ ?_;rotate_left;(·simp only [zA];rfl);refine pB 15 (some 42) undef (fT 16 35) rfl rfl (any_of HT_.o (by kernel_rfl)) (yN (by rfl)) ?_ ?_ ?_;rotate_left;(·simp only [zA];rfl);refine pB 16 (some 43) undef (fT 17 35) rfl rfl (any_of HT_.o (by kernel_rfl)) (yN (by rfl)) ?_ ?_ ?_;rotate_left;(·simp only [zA];rfl);refine pB 17 (some 44) undef (fT 18 35) rfl rfl (any_of HT_.o (by kernel_rfl)) (yN (by rfl)) ?_ ?_ ?_;rotate_left;(·simp only [zA];rfl);refine pC HT_ 18 45 (fT 19 35) ?_;refine pC HT_ 19 46 (fT 20 35) ?_;refine pB 20 (some 47) undef (fT 21 35) rfl rfl (any_of HT_.o (by kernel_rfl)) (yN (by rfl)) ?_ ?_ ?_;rotate_left;(·simp only [zA];rfl);refine pB 21 (some 48) undef (fT 22 35) rfl rfl (any_of HT_.o (by kernel_rfl)) (yN (by rfl)) ?_ ?_ ?_;rotate_left;(·simp only [zA];rfl);refine pB 22 (some 49) undef (fT 23 35) rfl rfl (any_of HT_.o (by kernel_rfl)) (yN (by rfl)) ?_ ?_ ?_;rotate_left;(·simp only [zA];rfl);refine pB 23 (some 50) undef (fT 24 35) rfl rfl (any_of HT_.o (by kernel_rfl)) (yN (by rfl)) ?_ ?_ ?_;rotate_left;(·simp only [zA];rfl);refine pB 24 (some 51) undef (fT 25 35) rfl rfl (any_of HT_.o (by kernel_rfl)) (yN (by rfl)) ?_ ?_ ?_;rotate_left;(·simp only [zA];rfl);refine pB 25 (some 52) undef (fT 26 35) rfl rfl (any_of HT_.o (by kernel_rfl)) (yN (by rfl)) ?_ ?_ ?_;rotate_left;(·simp only [zA];rfl);refine pB 26 (some 53) undef (fT 27 35) rfl rfl (any_of HT_.o (by kernel_rfl)) (yN (by rfl)) ?_ ?_ ?_;rotate_left;(·simp only [zA];rfl);refine pB 27 (some 54) undef (fT 28 35) rfl rfl (any_of HT_.o (by kernel_rfl)) (yN (by rfl)) ?_ ?_ ?_;rotate_left;(·simp only [zA];rfl);refine pB 28 (some 55) undef (fT 29 35) rfl rfl (any_of HT_.o (by kernel_rfl)) (yN (by rfl)) ?_ ?_ ?_;rotate_left;(·simp only [zA];rfl);refine pB 29 (some 56) undef (fT 30 35) rfl rfl (any_of HT_.o (by kernel_rfl)) (yN (by rfl)) ?_ ?_ ?_;rotate_left;(·simp only [zA];rfl);refine pB 30 (some 57) undef (fT 31 35) rfl rfl (any_of HT_.o (by kernel_rfl)) (yN (by rfl)) ?_ ?_ ?_;rotate_left;(·simp only [zA];rfl);refine pB 31 (some 58) undef (fT 32 35) rfl rfl (any_of HT_.o (by kernel_rfl)) (yN (by rfl)) ?_ ?_ ?_;rotate_left;(·simp only [zA];rfl);refine pB 32 (some 59) undef (fT 33 35) rfl rfl (any_of HT_.o (by kernel_rfl)) (yN (by rfl)) ?_ ?_ ?_;rotate_left;(·simp only [zA];rfl);refine pB 33 (some 60) undef (fT 34 35) rfl rfl (any_of HT_.o (by kernel_rfl)) (yN (by rfl)) ?_ ?_ ?_;rotate_left;(·simp only [zA];rfl);refine pC HT_ 34 61 (fT 35 35) ?_;refine done_ (done_of HT_.o (by kernel_rfl)) ?_
           try go_wp2
           go_meet
           case rel => exact ⟨_, (true), (by first | rfl | (simp; done) | (simp [*]; done)), H', ⟨by have := HJ1.o; have := HK2.o; first | omega | exact Nat.le_refl _⟩, ⟨by (with_reducible repeat (first | refine kN ?_ _ | refine kD ?_ | refine kA ?_ _)); exact BK148.o⟩, ⟨by (with_reducible repeat (first | refine kN ?_ _ | refine kD ?_ | refine kA ?_ _)); exact BK152.o⟩, ⟨by with_reducible repeat (first | exact HB.o | apply bA | apply bN | apply bD | refine bS ?_ GE148.o | refine bS ?_ GE152.o)⟩⟩
         ·replace c17 := Bool.eq_false_iff.mpr c17;subst c17
          rw [if_neg (show ¬ (false = true) by decide)] at H;have H' := aM H;clear H
          try go_wp2
          have n0_ : Aside0 ((((w13.setCell ⟨gb152, 0, none⟩ (.string ((rd_T69 l0_1 x3_2).f0))).setCell ⟨gb152, 1, none⟩ (.string ((rd_T69 l0_1 x3_2).f1))).setCell ⟨gb152, 2, none⟩ (.int .i64 ((rd_T69 l0_1 x3_2).f2))).heap[gb148]? = some (.cells #[.int .i64 a0_0, .slice (some ad151) l0_1.length c0_1] 33 (0, 0))) := ⟨by (with_reducible repeat (first | refine kN ?_ _ | refine kD ?_ | refine kA ?_ _)); refine blk_far ?_ NB148_152.o _; (with_reducible repeat (first | refine kN ?_ _ | refine kD ?_ | refine kA ?_ _)); refine blk_far ?_ NB148_152.o _; (with_reducible repeat (first | refine kN ?_ _ | refine kD ?_ | refine kA ?_ _)); refine blk_far ?_ NB148_152.o _; (with_reducible repeat (first | refine kN ?_ _ | refine kD ?_ | refine kA ?_ _)); exact BK148.o⟩;have n1_ : Aside0 ((((w13.setCell ⟨gb152, 0, none⟩ (.string ((rd_T69 l0_1 x3_2).f0))).setCell ⟨gb152, 1, none⟩ (.string ((rd_T69 l0_1 x3_2).f1))).setCell ⟨gb152, 2, none⟩ (.int .i64 ((rd_T69 l0_1 x3_2).f2))).heap[gb152]? = some (.cells #[.string ((rd_T69 l0_1 x3_2).f0), .string ((rd_T69 l0_1 x3_2).f1), .int .i64 ((rd_T69 l0_1 x3_2).f2)] 69 (0, 0))) := ⟨by (with_reducible repeat (first | refine kN ?_ _ | refine kD ?_ | refine kA ?_ _)); refine blk_put (cs := #[.string ((rd_T69 l0_1 x3_2).f0), .string ((rd_T69 l0_1 x3_2).f1), .int .i64 0]) ?_ 2 _ rfl; refine blk_put (cs := #[.string ((rd_T69 l0_1 x3_2).f0), .string (⟨#[]⟩ : ByteArray), .int .i64 0]) ?_ 1 _ rfl; refine blk_put (cs := #[.string (⟨#[]⟩ : ByteArray), .string (⟨#[]⟩ : ByteArray), .int .i64 0]) ?_ 0 _ rfl; exact BK152.o⟩;have n2_ : Aside0 (Below w.heap.size w (((w13.setCell ⟨gb152, 0, none⟩ (.string ((rd_T69 l0_1 x3_2).f0))).setCell ⟨gb152, 1, none⟩ (.string ((rd_T69 l0_1 x3_2).f1))).setCell ⟨gb152, 2, none⟩ (.int .i64 ((rd_T69 l0_1 x3_2).f2)))) := ⟨by with_reducible repeat (first | exact HB.o | apply bA | apply bN | apply bD | refine bS ?_ GE148.o | refine bS ?_ GE152.o)⟩
          (try clear BK148)
          (try clear BK152)
          (try clear HB)
          generalize (((w13.setCell ⟨gb152, 0, none⟩ (.string ((rd_T69 l0_1 x3_2).f0))).setCell ⟨gb152, 1, none⟩ (.string ((rd_T69 l0_1 x3_2).f1))).setCell ⟨gb152, 2, none⟩ (.int .i64 ((rd_T69 l0_1 x3_2).f2))) = w33 at n0_ n1_ n2_ ⊢;have BK148 := n0_;have BK152 := n1_;have HB := n2_;clear n0_ n1_ n2_;have n0_ := aM (kD BK148.o);have n1_ := aM (kD BK152.o);have n2_ := aM (bD HB.o);clear BK148;clear BK152;clear HB;have BK148 := n0_;have BK152 := n1_;have HB := n2_;clear n0_ n1_ n2_;refine start_ (n := 35) (S := fun w' => w'.cell? ⟨gb152, 0, none⟩ = some (.string ((rd_T69 l0_1 x3_2).f0)) ∧ w'.cell? ⟨gb152, 1, none⟩ = some (.string ((rd_T69 l0_1 x3_2).f1)) ∧ w'.cell? ⟨gb152, 2, none⟩ = some (.int .i64 ((rd_T69 l0_1 x3_2).f2))) (ds := []) (fT 0 35) (by kernel_rfl) rfl rfl ⟨(kC BK152.o 0).trans rfl, (kC BK152.o 1).trans rfl, (kC BK152.o 2).trans rfl⟩ (fun hHeld => ?_); refine with_tabW spec_DiskOK.tab7 spec_DiskOK.bits7 (fun HT_ HW_ => ?_);generalize w33.drew = w34 at BK148 BK152 HB hHeld ⊢;refine pC HT_ 0 27 (fT 1 35) ?_;refine tB 1 (some 28) ?_ (fT 2 35) rfl rfl (take_ofW HT_.o HW_.o (by kernel_rfl)) (Or.inl ⟨by rfl, ?_⟩) hHeld ?_ ?_ ?_;rotate_left
          ·rintro w' ⟨s0, s1, s2⟩
           go_simp
           with_reducible rfl
          rotate_left;(·simp only [zA];rfl);refine one_ (i := 2) (N := some 29) (fT 3 35) rfl rfl (one_of HT_.o (by kernel_rfl)) (by decide) (fun K hK => ?_);refine goes_ Tryd.func48 (by kernel_rfl) rfl #[.string ((rd_T69 l0_1 x3_2).f0)] (by rfl) rfl rfl (by (try simp only [zM]); first | done | rfl | (simp only [zL]; rfl)) ?_
          with_reducible refine (spec_NameOK.calls k2 ((rd_T69 l0_1 x3_2).f0) false _ A16.o).mono ?_
          rintro e w' ⟨rfl, ⟨nd, rfl⟩⟩
          refine ⟨_, rfl, ?_⟩;refine hK.out _ _ ⟨(kC BK152.o 0).trans rfl, (kC BK152.o 1).trans rfl, (kC BK152.o 2).trans rfl⟩ (fun hHeld => ?_);clear hK K;refine norm_ (a' := ?_) ?_ ?_;rotate_left
          ·show Act.put _ (some 29) _ = _
           simp only [zA]
           rfl
          refine pC HT_ 3 30 (fT 4 35) ?_;refine pC HT_ 4 31 (fT 5 35) ?_;refine pB 5 (some 32) undef (fT 6 35) rfl rfl (any_of HT_.o (by kernel_rfl)) (yN (by rfl)) ?_ ?_ ?_;rotate_left;(·simp only [zA];rfl);refine pB 6 (some 33) undef (fT 7 35) rfl rfl (any_of HT_.o (by kernel_rfl)) (yN (by rfl)) ?_ ?_ ?_;rotate_left;(·simp only [zA];rfl);refine pB 7 (some 34) undef (fT 8 35) rfl rfl (any_of HT_.o (by kernel_rfl)) (yN (by rfl)) ?_ ?_ ?_;rotate_left;(·simp only [zA];rfl);refine pB 8 (some 35) undef (fT 9 35) rfl rfl (any_of HT_.o (by kernel_rfl)) (yN (by rfl)) ?_ ?_ ?_;rotate_left;(·simp only [zA];rfl);refine pB 9 (some 36) undef (fT 10 35) rfl rfl (any_of HT_.o (by kernel_rfl)) (yN (by rfl)) ?_ ?_ ?_;rotate_left;(·simp only [zA];rfl);refine pB 10 (some 37) undef (fT 11 35) rfl rfl (any_of HT_.o (by kernel_rfl)) (yN (by rfl)) ?_ ?_ ?_;rotate_left;(·simp only [zA];rfl);refine pB 11 (some 38) undef (fT 12 35) rfl rfl (any_of HT_.o (by kernel_rfl)) (yN (by rfl)) ?_ ?_ ?_;rotate_left;(·simp only [zA];rfl);refine pC HT_ 12 39 (fT 13 35) ?_;refine pC HT_ 13 40 (fT 14 35) ?_;refine pB 14 (some 41) undef (fT 15 35) rfl rfl (any_of HT_.o (by kernel_rfl)) (yN (by rfl)) ?_ ?_ ?_;rotate_left;(·simp only [zA];rfl);refine pB 15 (some 42) undef (fT 16 35) rfl rfl (any_of HT_.o (by kernel_rfl)) (yN (by rfl)) ?_ ?_ ?_;rotate_left;(·simp only [zA];rfl);refine pB 16 (some 43) undef (fT 17 35) rfl rfl (any_of HT_.o (by kernel_rfl)) (yN (by rfl)) ?_ ?_ ?_;rotate_left;(·simp only [zA];rfl);refine pB 17 (some 44) undef (fT 18 35) rfl rfl (any_of HT_.o (by kernel_rfl)) (yN (by rfl)) ?_ ?_ ?_;rotate_left;(·simp only [zA];rfl);refine pC HT_ 18 45 (fT 19 35) ?_;refine pC HT_ 19 46 (fT 20 35) ?_;refine pB 20 (some 47) undef (fT 21 35) rfl rfl (any_of HT_.o (by kernel_rfl)) (yN (by rfl)) ?_ ?_ ?_;rotate_left;(·simp only [zA];rfl);refine pB 21 (some 48) undef (fT 22 35) rfl rfl (any_of HT_.o (by kernel_rfl)) (yN (by rfl)) ?_ ?_ ?_;rotate_left;(·simp only [zA];rfl);refine pB 22 (some 49) undef (fT 23 35) rfl rfl (any_of HT_.o (by kernel_rfl)) (yN (by rfl)) ?_ ?_ ?_;rotate_left;(·simp only [zA];rfl);refine pB 23 (some 50) undef (fT 24 35) rfl rfl (any_of HT_.o (by kernel_rfl)) (yN (by rfl)) ?_ ?_ ?_;rotate_left;(·simp only [zA];rfl);refine pB 24 (some 51) undef (fT 25 35) rfl rfl (any_of HT_.o (by kernel_rfl)) (yN (by rfl)) ?_ ?_ ?_;rotate_left;(·simp only [zA];rfl);refine pB 25 (some 52) undef (fT 26 35) rfl rfl (any_of HT_.o (by kernel_rfl)) (yN (by rfl)) ?_ ?_ ?_;rotate_left;(·simp only [zA];rfl);refine pB 26 (some 53) undef (fT 27 35) rfl rfl (any_of HT_.o (by kernel_rfl)) (yN (by rfl)) ?_ ?_ ?_;rotate_left;(·simp only [zA];rfl);refine pB 27 (some 54) undef (fT 28 35) rfl rfl (any_of HT_.o (by kernel_rfl)) (yN (by rfl)) ?_ ?_ ?_;rotate_left;(·simp only [zA];rfl);refine pB 28 (some 55) undef (fT 29 35) rfl rfl (any_of HT_.o (by kernel_rfl)) (yN (by rfl)) ?_ ?_ ?_;rotate_left;(·simp only [zA];rfl);refine pB 29 (some 56) undef (fT 30 35) rfl rfl (any_of HT_.o (by kernel_rfl)) (yN (by rfl)) ?_ ?_ ?_;rotate_left;(·simp only [zA];rfl);refine pB 30 (some 57) undef (fT 31 35) rfl rfl (any_of HT_.o (by kernel_rfl)) (yN (by rfl)) ?_ ?_ ?_;rotate_left;(·simp only [zA];rfl);refine pB 31 (some 58) undef (fT 32 35) rfl rfl (any_of HT_.o (by kernel_rfl)) (yN (by rfl)) ?_ ?_ ?_;rotate_left;(·simp only [zA];rfl);refine pB 32 (some 59) undef (fT 33 35) rfl rfl (any_of HT_.o (by kernel_rfl)) (yN (by rfl)) ?_ ?_ ?_;rotate_left;(·simp only [zA];rfl);refine pB 33 (some 60) undef (fT 34 35) rfl rfl (any_of HT_.o (by kernel_rfl)) (yN (by rfl)) ?_ ?_ ?_;rotate_left;(·simp only [zA];rfl);refine pC HT_ 34 61 (fT 35 35) ?_;refine done_ (done_of HT_.o (by kernel_rfl)) ?_
          try go_wp2
          go_meet
          case rel => exact ⟨_, (true), (by first | rfl | (simp; done) | (simp [*]; done)), H', ⟨by have := HJ1.o; have := HK2.o; first | omega | exact Nat.le_refl _⟩, ⟨by (with_reducible repeat (first | refine kN ?_ _ | refine kD ?_ | refine kA ?_ _)); exact BK148.o⟩, ⟨by (with_reducible repeat (first | refine kN ?_ _ | refine kD ?_ | refine kA ?_ _)); exact BK152.o⟩, ⟨by with_reducible repeat (first | exact HB.o | apply bA | apply bN | apply bD | refine bS ?_ GE148.o | refine bS ?_ GE152.o)⟩⟩
        case rest =>
         clear HC11;obtain ⟨kq, x61_10, rfl, HA, HJ10, BK148, BK152, HB⟩ := hcut
         cases kq with
         | zero => exact absurd HA.o (by simp [spec_DiskOK.j2])
         | succ kj10 =>
          have H := HA.o;clear HA;simp only [spec_DiskOK.j2] at H
          by_cases c35 : x61_10 = true
          ·subst c35
           rw [if_pos rfl] at H;obtain rfl := Option.some.inj H
           go_wp2
           go_ret
           exact ⟨by first | rfl | (simp [zE] <;> rfl) | (simp [*, zE] <;> rfl), by with_reducible repeat (first | exact HB.o | apply bA | apply bN | apply bD | refine bS ?_ GE148.o | refine bS ?_ GE152.o)⟩
          ·replace c35 := Bool.eq_false_iff.mpr c35;subst c35
           rw [if_neg (show ¬ (false = true) by decide)] at H;have H' := aM H;clear H
           go_wp2
           go_roundg kj10
           case measure => have := HJ1.o; have := HK2.o; have := HJ10.o; omega
           case rel => exact ⟨(wrap64 (x3_2 + 1)), (by first | rfl | (simp; done) | (simp [*]; done)), H', ⟨by have := HJ1.o; have := HK2.o; have := HJ10.o; omega⟩, ⟨by (with_reducible repeat (first | refine kN ?_ _ | refine kD ?_ | refine kA ?_ _)); exact BK148.o⟩, ⟨by with_reducible repeat (first | exact HB.o | apply bA | apply bN | apply bD | refine bS ?_ GE148.o | refine bS ?_ GE152.o)⟩⟩
       ·rw [if_neg c10] at H;exact absurd H (by simp)
      ·rw [if_neg c9] at H;have c9b0 : decide (x3_2 < (l0_1.length : Int)) = false := decide_eq_false c9;clear c9;obtain ⟨t150, A36, H⟩ := bX H;(try dsimp only at H);obtain rfl := Option.some.inj H;have hcz37_0 := cL0 BK148.o;have hcz37_1 := cL1 BK148.o;have hfz37_0 := kF BK148.o 0;have hfz37_1 := kF BK148.o 1
       try go_wp2
       have n0_ := aM (kD BK148.o);have n1_ := aM (bD HB.o);clear BK148;clear HB;have BK148 := n0_;have HB := n1_;clear n0_ n1_;refine start_ (n := 6) (S := fun w' => w'.cell? ⟨gb148, 0, none⟩ = some (.int .i64 a0_0) ∧ w'.cell? ⟨gb148, 1, none⟩ = some (.slice A0_1 l0_1.length c0_1)) (ds := []) (fT 0 6) (by kernel_rfl) rfl rfl ⟨(kC BK148.o 0).trans rfl, (kC BK148.o 1).trans rfl⟩ (fun hHeld => ?_);generalize wr.drew = w38 at BK148 HB hHeld ⊢;refine pD 2 64 #[F,F,T,F,F,F] ?_;refine tB 0 (some 62) ?_ #[T,F,T,F,F,F] rfl rfl (by kernel_rfl) (Or.inl ⟨by rfl, ?_⟩) hHeld ?_ ?_ ?_;rotate_left
       ·rintro w' ⟨s0, s1⟩
        go_simp
        with_reducible rfl
       rotate_left;(·simp only [zA];rfl);refine tB 3 (some 65) ?_ #[T,F,T,T,F,F] rfl rfl (by kernel_rfl) (Or.inl ⟨by rfl, ?_⟩) hHeld ?_ ?_ ?_;rotate_left
       ·rintro w' ⟨s0, s1⟩
        go_simp
        with_reducible rfl
       rotate_left;(·simp only [zA];rfl);refine one_ (i := 1) (N := some 63) (fT 4 6) rfl rfl (by kernel_rfl) (by decide) (fun K hK => ?_);refine goes_ Tryd.func49 (by kernel_rfl) rfl #[.agg #[.int .i64 a0_0, .slice A0_1 l0_1.length c0_1]] (by rfl) rfl rfl (by (try simp only [zM]); first | done | rfl | (simp only [zL]; rfl)) ?_
       with_reducible refine (spec_l03Used.calls k2 a0_0 _ _ l0_1 t150 _ ?side1 ?side2 A36.o).mono ?_
       (case side1 => exact Kd.C_below HR0_1.o (bM HB.o))
       (case side2 => exact HC0_1.o)
       rintro e w39 ⟨rfl, hb⟩
       refine ⟨_, rfl, ?_⟩;have n0_ := aM (blk_below (kM BK148.o) hb);have n1_ := aM (below_step (by with_reducible repeat (first | exact HB.o | apply bA | apply bN | apply bD | refine bS ?_ GE148.o)) hb);clear BK148;clear HB;have BK148 := n0_;have HB := n1_;clear n0_ n1_
       (try clear hb)
       (try clear hb2)
       (try clear hk)
       (try clear hi)
       refine hK.out _ _ ⟨(kC BK148.o 0).trans rfl, (kC BK148.o 1).trans rfl⟩ (fun hHeld => ?_);clear hK K;refine norm_ (a' := ?_) ?_ ?_;rotate_left
       ·show Act.put _ (some 63) _ = _
        simp only [zA]
        rfl
       refine pD 4 66 (fT 5 6) ?_;refine pD 5 2 (fT 6 6) ?_;refine done_ (by kernel_rfl) ?_
       try go_wp2
       go_ret
       exact ⟨by first | rfl | (simp [zE] <;> rfl) | (simp [*, zE] <;> rfl), by with_reducible repeat (first | exact HB.o | apply bA | apply bN | apply bD | refine bS ?_ GE148.o)⟩
end Go.Proofs.YtpdhfoegbannkaaDoor.PFnExactWalPlan
