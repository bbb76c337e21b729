import Derived.Test.YtpdhfoegbannkaaDoorMFnExactWalPlanPx0
import Derived.Test.YtpdhfoegbannkaaDoorMFnExactWalPlanPx4
namespace Go.Proofs.YtpdhfoegbannkaaDoor.PFnExactWalPlan
open Go.RowKit Go.Proofs.YtpdhfoegbannkaaDoorW.PrintWords Go.Proofs.YtpdhfoegbannkaaDoorW.PrintLast Go.Proofs.YtpdhfoegbannkaaDoorW.PrintMore
attribute [local go_sem] max2_int min2_int max_two min_two max_three min_three max_four min_four
set_option linter.unusedVariables false
set_option linter.unusedSimpArgs false
def spec_l04Data.f (k : Nat) (a0_0 : Int) (l0_1 : List (S69)) (a1 : Int) : Option (ByteArray) := (spec_l04Name.f k a1).bind fun t180 => ((spec_l03Find.f k a0_0 l0_1 t180).bind fun t181 => (if 0 ≤ t181 then (if t181 < (l0_1.length : Int) then (some ((rd_T69 l0_1 t181).f1)) else (none)) else (none)))
theorem spec_l04Data.mono : ∀ a0 a1 a2 k, LeO (spec_l04Data.f k a0 a1 a2) (spec_l04Data.f (k + 1) a0 a1 a2) := by
 intro a0 a1 a2 k
 unfold spec_l04Data.f
 repeat' first
   | (with_reducible exact spec_l03Find.mono _ _ _ _)
   | (with_reducible exact spec_l04Name.mono _ _)
   | (with_reducible exact LeO.refl _)
   | (with_reducible exact LeO.none _)
   | (with_reducible refine LeO.ite ?_ ?_)
   | (with_reducible refine LeO.bind ?_ (fun _ => ?_))
   | exact spec_l03Find.mono _ _ _ _
   | exact spec_l04Name.mono _ _
   | exact LeO.none _
   | refine LeO.ite ?_ ?_
   | refine LeO.bind ?_ (fun _ => ?_)
def spec_l04Data.T1 : Bool × List (List Nat × List Nat) := (true, [([], []), ([0], [0]), ([], []), ([], []), ([3], [3]), ([2, 4, 4], [2, 4]), ([1, 5], [1, 5]), ([6], [6]), ([7], [7]), ([8, 5, 0, 1, 2, 3, 4, 5, 6, 7, 8], [8])])
def spec_l04Data.B1 : List Nat := [0, 1, 0, 0, 8, 28, 63, 127, 255, 511]
theorem spec_l04Data.tab1 : rtab .any (opsOf Tryd.f51 1) = spec_l04Data.T1 := by kernel_rfl
theorem spec_l04Data.bits1 : waitsOk spec_l04Data.T1.2 spec_l04Data.B1 = true := by kernel_rfl
set_option maxHeartbeats 8000000 in
set_option maxRecDepth 100000 in
theorem spec_l04Data.calls (k : Nat) (a0_0 : Int) (A0_1 : Option Addr) (c0_1 : Nat) (l0_1 : List (S69)) (a1 : Int) (r : ByteArray) (w : World) (hr0_1 : Kd.C k69 w A0_1 l0_1.length l0_1) (hc0_1 : l0_1.length ≤ c0_1) (h : spec_l04Data.f k a0_0 l0_1 a1 = some r) :
  Calls Tryd.prog 51 #[.agg #[.int .i64 a0_0, .slice A0_1 l0_1.length c0_1], .int .i64 a1] w fun e w' => e = .returned (.string r) ∧ Below w.heap.size w w' := by
 have hu33 := Tryd.underlying33;have HR0_1 := aM hr0_1;have HC0_1 := aM hc0_1;clear hr0_1 hc0_1;have HB := aM (Below.refl w.heap.size w);have H : ((spec_l04Name.f k a1).bind fun t180 => ((spec_l03Find.f k a0_0 l0_1 t180).bind fun t181 => (if 0 ≤ t181 then (if t181 < (l0_1.length : Int) then (some ((rd_T69 l0_1 t181).f1)) else (none)) else (none)))) = some r := h;clear h;obtain ⟨t180, A3, H⟩ := bX H;(try dsimp only at H);obtain ⟨t181, A4, H⟩ := bX H;(try dsimp only at H)
 by_cases c5 : 0 ≤ t181
 ·rw [if_pos c5] at H;have c5b0 : decide (0 ≤ t181) = true := decide_eq_true c5;clear c5
  by_cases c6 : t181 < (l0_1.length : Int)
  ·rw [if_pos c6] at H;have c6b0 : decide (t181 < (l0_1.length : Int)) = true := decide_eq_true c6;clear c6;obtain rfl := Option.some.inj H
   go_enter Tryd.func51, Tryd.ntmps51
   try go_wp2_with (first | ((with_reducible refine gate_dst (N := 2) rfl ?_); refine box_event ?hg (N := 2) ?hd (cs := #[.int .i64 a0_0, .slice A0_1 l0_1.length c0_1]) (t := 33) ?hr ?_; (case hd => rfl); (case hg => rfl); (case hr => first | (go_simp; done) | (go_simp; rfl)); intro gb179 hg w7 hbox hb; have BK179 := aM (hbox); have GW179 := aM ((by rw [hg]; exact (below_size (bM HB.o)) : w.heap.size ≤ gb179)); have GE179 := aM ((by rw [hg]; exact (below_size (bM HB.o)) : w.heap.size ≤ gb179)); replace HB := aM (below_step (bM HB.o) hb); clear hb hbox hg))
   have n0_ := aM (kD BK179.o);have n1_ := aM (bD HB.o);clear BK179;clear HB;have BK179 := n0_;have HB := n1_;clear n0_ n1_;have p182 : 0 ≤ (t181 : Int) := oD;have q182 : t181 < (l0_1.length : Int) := oD;obtain ⟨ad182, e182, hx182_0, hx182_1, hx182_2⟩ := at_T69 HR0_1.o t181 p182 q182;have hw182_2 := hx182_2;have hw182_1 := hx182_1;have hw182_0 := hx182_0
   cases e182
   replace hx182_0 := (HB.o.cell (lC w _ hx182_0)).trans hx182_0;replace hx182_1 := (HB.o.cell (lC w _ hx182_1)).trans hx182_1;replace hx182_2 := (HB.o.cell (lC w _ hx182_2)).trans hx182_2;replace p182 := eq_true p182;replace q182 := eq_true q182;refine start_ (n := 10) (S := fun w' => w'.cell? ⟨gb179, 0, none⟩ = some (.int .i64 a0_0) ∧ w'.cell? ⟨gb179, 1, none⟩ = some (.slice (some ad182) l0_1.length c0_1) ∧ w'.cell? (ad182.add ((t181).toNat * 3)) = some (.string ((rd_T69 l0_1 t181).f0)) ∧ w'.cell? ⟨(ad182.add ((t181).toNat * 3)).block, (ad182.add ((t181).toNat * 3)).off + 1, none⟩ = some (.string ((rd_T69 l0_1 t181).f1)) ∧ w'.cell? ⟨(ad182.add ((t181).toNat * 3)).block, (ad182.add ((t181).toNat * 3)).off + 2, none⟩ = some (.int .i64 ((rd_T69 l0_1 t181).f2))) (ds := []) (fT 0 10) (by kernel_rfl) rfl rfl ⟨(kC BK179.o 0).trans rfl, (kC BK179.o 1).trans rfl, ((HB.o.cell (lC w _ hw182_0)).trans hw182_0), ((HB.o.cell (lC w _ hw182_1)).trans hw182_1), ((HB.o.cell (lC w _ hw182_2)).trans hw182_2)⟩ (fun hHeld => ?_); refine with_tabW spec_l04Data.tab1 spec_l04Data.bits1 (fun HT_ HW_ => ?_);generalize w7.drew = w8 at BK179 HB hx182_0 hx182_1 hx182_2 hHeld ⊢;refine pC HT_ 0 5 (fT 1 10) ?_;refine pC HT_ 3 8 #[T,F,F,T,F,F,F,F,F,F] ?_;refine tB 1 (some 6) ?_ #[T,T,F,T,F,F,F,F,F,F] rfl rfl (take_ofW HT_.o HW_.o (by kernel_rfl)) (Or.inl ⟨by rfl, ?_⟩) hHeld ?_ ?_ ?_;rotate_left
   ·rintro w' ⟨s0, s1, s2, s3, s4⟩
    go_simp
    with_reducible rfl
   rotate_left;(·simp only [zA];rfl);refine tB 2 (some 7) ?_ (fT 4 10) rfl rfl (take_ofW HT_.o HW_.o (by kernel_rfl)) (Or.inl ⟨by rfl, ?_⟩) hHeld ?_ ?_ ?_;rotate_left
   ·rintro w' ⟨s0, s1, s2, s3, s4⟩
    go_simp
    with_reducible rfl
   rotate_left;(·simp only [zA];rfl);refine one_ (i := 4) (N := some 9) (fT 5 10) rfl rfl (one_of HT_.o (by kernel_rfl)) (by decide) (fun K hK => ?_);refine goes_ Tryd.func53 (by kernel_rfl) rfl #[.int .i64 a1] (by rfl) rfl rfl (by (try simp only [zM]); first | done | rfl | (simp only [zL]; rfl)) ?_
   with_reducible refine (spec_l04Name.calls k a1 t180 _ A3.o).mono ?_
   rintro e w9 ⟨rfl, hb⟩
   refine ⟨_, rfl, ?_⟩;have n0_ := aM (blk_below (kM BK179.o) hb);have n1_ := aM (below_step (by with_reducible repeat (first | exact HB.o | apply bA | apply bN | apply bD | refine bS ?_ GE179.o)) hb);clear BK179;clear HB;have BK179 := n0_;have HB := n1_;clear n0_ n1_
   (try clear hb)
   (try clear hb2)
   (try clear hk)
   (try clear hi)
   refine hK.out _ _ ⟨(kC BK179.o 0).trans rfl, (kC BK179.o 1).trans rfl, ((HB.o.cell (lC w _ hw182_0)).trans hw182_0), ((HB.o.cell (lC w _ hw182_1)).trans hw182_1), ((HB.o.cell (lC w _ hw182_2)).trans hw182_2)⟩ (fun hHeld => ?_);clear hK K;refine norm_ (a' := ?_) ?_ ?_;rotate_left
   ·show Act.put _ (some 9) _ = _
    simp only [zA]
    rfl
   refine one_ (i := 5) (N := some 10) (fT 6 10) rfl rfl (one_of HT_.o (by kernel_rfl)) (by decide) (fun K hK => ?_);refine goes_ Tryd.func74 (by kernel_rfl) rfl #[.agg #[.int .i64 a0_0, .slice (some ad182) l0_1.length c0_1], .string t180] (by rfl) rfl rfl (by (try simp only [zM]); first | done | rfl | (simp only [zL]; rfl)) ?_
   with_reducible refine (spec_l03Find.calls k a0_0 _ _ l0_1 t180 t181 _ ?side1 ?side2 A4.o).mono ?_
   (case side1 => exact Kd.C_below HR0_1.o (bM HB.o))
   (case side2 => exact HC0_1.o)
   rintro e w10 ⟨rfl, hb⟩
   refine ⟨_, rfl, ?_⟩;have n0_ := aM (blk_below (kM BK179.o) hb);have n1_ := aM (below_step (by with_reducible repeat (first | exact HB.o | apply bA | apply bN | apply bD | refine bS ?_ GE179.o)) hb);clear BK179;clear HB;have BK179 := n0_;have HB := n1_;clear n0_ n1_
   (try clear hb)
   (try clear hb2)
   (try clear hk)
   (try clear hi)
   refine hK.out _ _ ⟨(kC BK179.o 0).trans rfl, (kC BK179.o 1).trans rfl, ((HB.o.cell (lC w _ hw182_0)).trans hw182_0), ((HB.o.cell (lC w _ hw182_1)).trans hw182_1), ((HB.o.cell (lC w _ hw182_2)).trans hw182_2)⟩ (fun hHeld => ?_);clear hK K;refine norm_ (a' := ?_) ?_ ?_;rotate_left
   ·show Act.put _ (some 10) _ = _
    simp only [zA]
    rfl
   refine pC HT_ 6 11 (fT 7 10) ?_;refine pC HT_ 7 12 (fT 8 10) ?_;refine tB 8 (some 13) ?_ (fT 9 10) rfl rfl (take_ofW HT_.o HW_.o (by kernel_rfl)) (Or.inl ⟨by rfl, ?_⟩) hHeld ?_ ?_ ?_;rotate_left
   ·rintro w' ⟨s0, s1, s2, s3, s4⟩
    go_simp
    with_reducible rfl
   rotate_left;(·simp only [zA];rfl);refine pC HT_ 9 4 (fT 10 10) ?_;refine done_ (done_of HT_.o (by kernel_rfl)) ?_
   try go_wp2
   go_ret
   exact ⟨by first | rfl | (simp [zE] <;> rfl) | (simp [*, zE] <;> rfl), by with_reducible repeat (first | exact HB.o | apply bA | apply bN | apply bD | refine bS ?_ GE179.o)⟩
  ·rw [if_neg c6] at H;exact absurd H (by simp)
 ·rw [if_neg c5] at H;exact absurd H (by simp)
def spec_l02Two.f (a0 : Int) : Option (List Int) := some (([(wrap64 (Int.tdiv a0 256)) % 256, (a0) % 256] : List Int))
set_option maxHeartbeats 8000000 in
set_option maxRecDepth 100000 in
theorem spec_l02Two.calls (a0 : Int) (r : List Int) (w : World) (h : spec_l02Two.f a0 = some r) :
  Calls Tryd.prog 80 #[.int .i64 a0] w fun e w' => ∃ v0_ : Value, e = .returned (v0_) ∧ Kd.R (Kd.int .u8) 5 w' w.heap.size (fun _ => True) v0_ r ∧ Below w.heap.size w w' := by
 have HB := aM (Below.refl w.heap.size w);have H : (some (([(wrap64 (Int.tdiv a0 256)) % 256, (a0) % 256] : List Int))) = some r := h;clear h;obtain ⟨y183, hy183⟩ : ∃ y_ : List Int, y_ = (([(wrap64 (Int.tdiv a0 256)) % 256, (a0) % 256] : List Int)) := ⟨_, rfl⟩
 replace H : (some y183) = some r := by first | (rw [hy183]; with_reducible exact H) | (have H2_ := (Option.bind_some _ _).symm.trans H; rw [hy183]; with_reducible exact H2_) | (have H2_ := (Option.bind_some _ _).symm.trans H; with_reducible exact H2_) | with_reducible exact H | (rw [hy183]; exact H) | exact H
 have Ny183 := aM hy183;clear hy183;obtain rfl := Option.some.inj H
 go_enter Tryd.func80, Tryd.ntmps80
 go_wp2_with (first | ((with_reducible refine gate_dst (N := 8) rfl ?_); refine Kd.R_lit (Kd.int .u8) _ 5 ?hg (N := 8) ?hd (xs := ([(wrap64 (Int.tdiv a0 256)) % 256, (a0) % 256] : List Int)) (inner := [.int .u8 ((wrap64 (Int.tdiv a0 256)) % 256), .int .u8 ((a0) % 256)]) (ok := fun _ => True) (okp := fun _ => True) ?hr ?hp (fun _ hk => hk) trivial (Below.refl _ _) (Nat.le_refl _) (by simp) ?_; (case hd => rfl); (case hg => rfl); (case hr => first | (go_simp; done) | (go_simp; rfl)); (case hp => exact (Reps.one (show Kd.M (Kd.int .u8) _ _ _ ((wrap64 (Int.tdiv a0 256)) % 256) [.int .u8 ((wrap64 (Int.tdiv a0 256)) % 256)] from rfl) (Reps.one (show Kd.M (Kd.int .u8) _ _ _ ((a0) % 256) [.int .u8 ((a0) % 256)] from rfl) (Reps.none _ _)))); intro v184 w2 ho3 hb hg_ hnew_; clear hg_ hnew_; (first | rw [← Ny183.o] at ho3 | (simp only [Int.reduceToNat] at ho3; rw [← Ny183.o] at ho3)); have HO185 := aM (Kd.R_lower ho3 (below_size (bM HB.o))); replace HB := aM (below_step (bM HB.o) hb); clear hb ho3))
 go_ret
 exact ⟨_, by first | rfl | (simp [zE] <;> rfl) | (simp [*, zE] <;> rfl), by (with_reducible repeat (first | apply Kd.R_alloc | apply Kd.R_drewN | apply Kd.R_drew)); exact HO185.o, bM HB.o⟩
mutual
def spec_l01Check.l0 : Nat → List Int → Int → Int → Option (Int)
 | 0, _, _, _ => none
 | k + 1, x0, x3, x4 => if x4 < (x0.length : Int) then (if 0 ≤ x4 then (spec_l01Check.l1 k x0 (Go.bits .xor .i64 x3 (wrap64 (rd x0 x4))) x4 0) else (none)) else (some (Go.bits .xor .i64 x3 4294967295))
def spec_l01Check.l1 : Nat → List Int → Int → Int → Int → Option (Int)
 | 0, _, _, _, _ => none
 | k + 1, x0, x3, x4, x5 => if x5 < 8 then (if (Int.tmod x3 2) = 1 then (spec_l01Check.l1 k x0 (Go.bits .xor .i64 (wrap64 (Int.tdiv x3 2)) 3988292384) x4 (wrap64 (x5 + 1))) else (spec_l01Check.l1 k x0 (wrap64 (Int.tdiv x3 2)) x4 (wrap64 (x5 + 1)))) else (spec_l01Check.l0 k x0 x3 (wrap64 (x4 + 1)))
end
def spec_l01Check.f (k : Nat) (l0 : List Int) : Option (Int) := spec_l01Check.l0 k l0 4294967295 0
theorem spec_l01Check.mono_l : ∀ k, (∀ y0 y1 y2, LeO (spec_l01Check.l0 k y0 y1 y2) (spec_l01Check.l0 (k + 1) y0 y1 y2)) ∧ (∀ y0 y1 y2 y3, LeO (spec_l01Check.l1 k y0 y1 y2 y3) (spec_l01Check.l1 (k + 1) y0 y1 y2 y3))
 | 0 => ⟨fun _ _ _ r h => by simp [spec_l01Check.l0] at h, fun _ _ _ _ r h => by simp [spec_l01Check.l1] at h⟩
 | k + 1 => by
  obtain ⟨ih0, ih1⟩ := spec_l01Check.mono_l k;refine ⟨?_, ?_⟩
  ·intro y0 y1 y2
   unfold spec_l01Check.l0
   repeat' first
   | (with_reducible exact ih0 _ _ _)
   | (with_reducible exact ih1 _ _ _ _)
   | (with_reducible exact LeO.refl _)
   | (with_reducible exact LeO.none _)
   | (with_reducible refine LeO.ite ?_ ?_)
   | (with_reducible refine LeO.bind ?_ (fun _ => ?_))
   | exact ih0 _ _ _
   | exact ih1 _ _ _ _
   | exact LeO.none _
   | refine LeO.ite ?_ ?_
   | refine LeO.bind ?_ (fun _ => ?_)
  ·intro y0 y1 y2 y3
   unfold spec_l01Check.l1
   repeat' first
   | (with_reducible exact ih0 _ _ _)
   | (with_reducible exact ih1 _ _ _ _)
   | (with_reducible exact LeO.refl _)
   | (with_reducible exact LeO.none _)
   | (with_reducible refine LeO.ite ?_ ?_)
   | (with_reducible refine LeO.bind ?_ (fun _ => ?_))
   | exact ih0 _ _ _
   | exact ih1 _ _ _ _
   | exact LeO.none _
   | refine LeO.ite ?_ ?_
   | refine LeO.bind ?_ (fun _ => ?_)
theorem spec_l01Check.mono : ∀ a0 k, LeO (spec_l01Check.f k a0) (spec_l01Check.f (k + 1) a0) := by
 intro a0 k;obtain ⟨ih0, ih1⟩ := spec_l01Check.mono_l k
 unfold spec_l01Check.f
 repeat' first
   | (with_reducible exact ih0 _ _ _)
   | (with_reducible exact ih1 _ _ _ _)
   | (with_reducible exact LeO.refl _)
   | (with_reducible exact LeO.none _)
   | (with_reducible refine LeO.ite ?_ ?_)
   | (with_reducible refine LeO.bind ?_ (fun _ => ?_))
   | exact ih0 _ _ _
   | exact ih1 _ _ _ _
   | exact LeO.none _
   | refine LeO.ite ?_ ?_
   | refine LeO.bind ?_ (fun _ => ?_)
set_option maxHeartbeats 8000000 in
set_option maxRecDepth 100000 in
theorem spec_l01Check.calls (k : Nat) (A0 : Option Addr) (c0 : Nat) (l0 : List Int) (r : Int) (w : World) (hr0 : Kd.C (Kd.int .u8) w A0 l0.length l0) (hc0 : l0.length ≤ c0) (h : spec_l01Check.f k l0 = some r) :
  Calls Tryd.prog 81 #[.slice A0 l0.length c0] w fun e w' => e = .returned (.int .i64 r) ∧ Drawn0 w w' := by
 have HR0 := aM hr0;have HC0 := aM hc0;clear hr0 hc0;have H : (spec_l01Check.l0 k l0 4294967295 0) = some r := h;clear h;have H' := aM H;clear H
 go_enter Tryd.func81, Tryd.ntmps81
 go_wp2
 go_loopg [3, 4] k (fun kq v3 v4 w' => ∃ (x3_1 : Int) (x4_1 : Int), v3 = .int .i64 x3_1 ∧ v4 = .int .i64 x4_1 ∧ Aside0 (spec_l01Check.l0 kq l0 x3_1 x4_1 = some r) ∧ Aside0 (kq ≤ k) ∧ Drawn0 w w')
 case atStart => exact ⟨(4294967295), (0), (by first | rfl | (simp; done) | (simp [*]; done)), (by first | rfl | (simp; done) | (simp [*]; done)), H', ⟨Nat.le_refl _⟩, by repeat (first | exact Drawn0.refl _ | apply Drawn0.step)⟩
 case round =>
  clear H';obtain ⟨x3_1, x4_1, rfl, rfl, HA, HK1, ⟨m1, rfl⟩⟩ := hrel
  cases gk with
  | zero => exact absurd HA.o (by simp [spec_l01Check.l0])
  | succ k1 =>
   have H := HA.o;clear HA;simp only [spec_l01Check.l0] at H
   by_cases c2 : x4_1 < (l0.length : Int)
   ·rw [if_pos c2] at H;have c2b0 : decide (x4_1 < (l0.length : Int)) = true := decide_eq_true c2;clear c2
    by_cases c3 : 0 ≤ x4_1
    ·rw [if_pos c3] at H;have c3b0 : decide (0 ≤ x4_1) = true := decide_eq_true c3;clear c3;have H' := aM H;clear H;have p186 : 0 ≤ (x4_1 : Int) := oD;have q186 : x4_1 < (l0.length : Int) := oD;obtain ⟨ad186, e186, hx186_0⟩ := Kd.at_int HR0.o x4_1 p186 q186
     cases e186
     replace p186 := eq_true p186;replace q186 := eq_true q186
     go_wp2
     go_loopg [3, 5] k1 (fun kq v3 v5 w' => ∃ (x3_2 : Int) (x5_2 : Int), v3 = .int .i64 x3_2 ∧ v5 = .int .i64 x5_2 ∧ Aside0 (spec_l01Check.l1 kq l0 x3_2 x4_1 x5_2 = some r) ∧ Aside0 (kq ≤ k1) ∧ Drawn0 w w')
     case atStart => exact ⟨(Go.bits .xor .i64 x3_1 (wrap64 (rd l0 x4_1))), (0), (by first | rfl | (simp; done) | (simp [*]; done)), (by first | rfl | (simp; done) | (simp [*]; done)), H', ⟨Nat.le_refl _⟩, by repeat (first | exact Drawn0.refl _ | apply Drawn0.step)⟩
     case round =>
      clear H';obtain ⟨x3_2, x5_2, rfl, rfl, HA, HK2, ⟨m2, rfl⟩⟩ := hrel
      cases gk with
      | zero => exact absurd HA.o (by simp [spec_l01Check.l1])
      | succ k2 =>
       have H := HA.o;clear HA;simp only [spec_l01Check.l1] at H
       by_cases c4 : x5_2 < 8
       ·rw [if_pos c4] at H;have c4b0 : decide (x5_2 < 8) = true := decide_eq_true c4;clear c4
        by_cases c5 : (Int.tmod x3_2 2) = 1
        ·rw [if_pos c5] at H;have c5b0 : ((Int.tmod x3_2 2) == 1) = true := beq_iff_eq.mpr c5;have c5b1 : ((Int.tmod x3_2 2) != 1) = false := bne_eq_false_iff_eq.mpr c5;clear c5;have H' := aM H;clear H
         go_wp2
         go_roundg k2
         case measure => have := HK1.o; have := HK2.o; omega
         case rel => exact ⟨(Go.bits .xor .i64 (wrap64 (Int.tdiv x3_2 2)) 3988292384), (wrap64 (x5_2 + 1)), (by first | rfl | (simp; done) | (simp [*]; done)), (by first | rfl | (simp; done) | (simp [*]; done)), H', ⟨by have := HK1.o; have := HK2.o; omega⟩, by repeat (first | exact Drawn0.refl _ | apply Drawn0.step)⟩
        ·rw [if_neg c5] at H;have c5b0 : ((Int.tmod x3_2 2) == 1) = false := beq_eq_false_iff_ne.mpr c5;have c5b1 : ((Int.tmod x3_2 2) != 1) = true := bne_iff_ne.mpr c5;have H' := aM H;clear H
         go_wp2
         go_roundg k2
         case measure => have := HK1.o; have := HK2.o; omega
         case rel => exact ⟨(wrap64 (Int.tdiv x3_2 2)), (wrap64 (x5_2 + 1)), (by first | rfl | (simp; done) | (simp [*]; done)), (by first | rfl | (simp; done) | (simp [*]; done)), H', ⟨by have := HK1.o; have := HK2.o; omega⟩, by repeat (first | exact Drawn0.refl _ | apply Drawn0.step)⟩
       ·rw [if_neg c4] at H;have c4b0 : decide (x5_2 < 8) = false := decide_eq_false c4;clear c4;have H' := aM H;clear H
        go_wp2
        go_roundg k2
        case measure => have := HK1.o; have := HK2.o; omega
        case rel => exact ⟨(x3_2), (wrap64 (x4_1 + 1)), (by first | rfl | (simp; done) | (simp [*]; done)), (by first | rfl | (simp; done) | (simp [*]; done)), H', ⟨by have := HK1.o; have := HK2.o; omega⟩, by repeat (first | exact Drawn0.refl _ | apply Drawn0.step)⟩
    ·rw [if_neg c3] at H;exact absurd H (by simp)
   ·rw [if_neg c2] at H;have c2b0 : decide (x4_1 < (l0.length : Int)) = false := decide_eq_false c2;clear c2;obtain rfl := Option.some.inj H
    go_wp2
    go_ret
    exact ⟨by first | rfl | (simp; done) | (simp [*]; done), by repeat (first | exact Drawn0.refl _ | apply Drawn0.step)⟩
def spec_l02Four.f (a0 : Int) : Option (List Int) := some (([(a0 / 16777216) % 256, (a0 / 65536) % 256, (a0 / 256) % 256, (a0) % 256] : List Int))
set_option maxHeartbeats 8000000 in
set_option maxRecDepth 100000 in
theorem spec_l02Four.calls (a0 : Int) (r : List Int) (w : World) (h : spec_l02Four.f a0 = some r) :
  Calls Tryd.prog 82 #[.int .i64 a0] w fun e w' => ∃ v0_ : Value, e = .returned (v0_) ∧ Kd.R (Kd.int .u8) 5 w' w.heap.size (fun _ => True) v0_ r ∧ Below w.heap.size w w' := by
 have HB := aM (Below.refl w.heap.size w);have H : (some (([(a0 / 16777216) % 256, (a0 / 65536) % 256, (a0 / 256) % 256, (a0) % 256] : List Int))) = some r := h;clear h;obtain ⟨y187, hy187⟩ : ∃ y_ : List Int, y_ = (([(a0 / 16777216) % 256, (a0 / 65536) % 256, (a0 / 256) % 256, (a0) % 256] : List Int)) := ⟨_, rfl⟩
 replace H : (some y187) = some r := by first | (rw [hy187]; with_reducible exact H) | (have H2_ := (Option.bind_some _ _).symm.trans H; rw [hy187]; with_reducible exact H2_) | (have H2_ := (Option.bind_some _ _).symm.trans H; with_reducible exact H2_) | with_reducible exact H | (rw [hy187]; exact H) | exact H
 have Ny187 := aM hy187;clear hy187;obtain rfl := Option.some.inj H
 go_enter Tryd.func82, Tryd.ntmps82
 go_wp2_with (first | ((with_reducible refine gate_dst (N := 14) rfl ?_); refine Kd.R_lit (Kd.int .u8) _ 5 ?hg (N := 14) ?hd (xs := ([(a0 / 16777216) % 256, (a0 / 65536) % 256, (a0 / 256) % 256, (a0) % 256] : List Int)) (inner := [.int .u8 ((a0 / 16777216) % 256), .int .u8 ((a0 / 65536) % 256), .int .u8 ((a0 / 256) % 256), .int .u8 ((a0) % 256)]) (ok := fun _ => True) (okp := fun _ => True) ?hr ?hp (fun _ hk => hk) trivial (Below.refl _ _) (Nat.le_refl _) (by simp) ?_; (case hd => rfl); (case hg => rfl); (case hr => first | (go_simp; done) | (go_simp; rfl)); (case hp => exact (Reps.one (show Kd.M (Kd.int .u8) _ _ _ ((a0 / 16777216) % 256) [.int .u8 ((a0 / 16777216) % 256)] from rfl) (Reps.one (show Kd.M (Kd.int .u8) _ _ _ ((a0 / 65536) % 256) [.int .u8 ((a0 / 65536) % 256)] from rfl) (Reps.one (show Kd.M (Kd.int .u8) _ _ _ ((a0 / 256) % 256) [.int .u8 ((a0 / 256) % 256)] from rfl) (Reps.one (show Kd.M (Kd.int .u8) _ _ _ ((a0) % 256) [.int .u8 ((a0) % 256)] from rfl) (Reps.none _ _)))))); intro v188 w2 ho3 hb hg_ hnew_; clear hg_ hnew_; (first | rw [← Ny187.o] at ho3 | (simp only [Int.reduceToNat] at ho3; rw [← Ny187.o] at ho3)); have HO189 := aM (Kd.R_lower ho3 (below_size (bM HB.o))); replace HB := aM (below_step (bM HB.o) hb); clear hb ho3))
 go_ret
 exact ⟨_, by first | rfl | (simp [zE] <;> rfl) | (simp [*, zE] <;> rfl), by (with_reducible repeat (first | apply Kd.R_alloc | apply Kd.R_drewN | apply Kd.R_drew)); exact HO189.o, bM HB.o⟩
def spec_l02Frame.f (k : Nat) (l0 : List Int) : Option (List Int) := (spec_l02Two.f (l0.length : Int)).bind fun t190 => ((some (([] : List Int) : List Int)).bind fun y193 => (if y193.length + t190.length < 140737488355328 then ((some (y193 ++ t190 : List Int)).bind fun y196 => (if y196.length + l0.length < 140737488355328 then ((spec_l01Check.f k (y196 ++ l0)).bind fun t202 => ((spec_l02Four.f t202).bind fun t203 => (if t190.length + t203.length < 140737488355328 then ((some (t190 ++ t203 : List Int)).bind fun y206 => (if y206.length + l0.length < 140737488355328 then (some (y206 ++ l0)) else (none))) else (none)))) else (none))) else (none)))
theorem spec_l02Frame.mono : ∀ a0 k, LeO (spec_l02Frame.f k a0) (spec_l02Frame.f (k + 1) a0) := by
 intro a0 k
 unfold spec_l02Frame.f
 repeat' first
   | (with_reducible exact spec_l01Check.mono _ _)
   | (with_reducible exact LeO.refl _)
   | (with_reducible exact LeO.none _)
   | (with_reducible refine LeO.ite ?_ ?_)
   | (with_reducible refine LeO.bind ?_ (fun _ => ?_))
   | exact spec_l01Check.mono _ _
   | exact LeO.none _
   | refine LeO.ite ?_ ?_
   | refine LeO.bind ?_ (fun _ => ?_)
set_option maxHeartbeats 8000000 in
set_option maxRecDepth 100000 in
theorem spec_l02Frame.calls (k : Nat) (A0 : Option Addr) (c0 : Nat) (l0 : List Int) (r : List Int) (w : World) (hr0 : Kd.C (Kd.int .u8) w A0 l0.length l0) (hc0 : l0.length ≤ c0) (h : spec_l02Frame.f k l0 = some r) :
  Calls Tryd.prog 62 #[.slice A0 l0.length c0] w fun e w' => ∃ v0_ : Value, e = .returned (v0_) ∧ Kd.R (Kd.int .u8) 5 w' w.heap.size (fun _ => True) v0_ r ∧ Below w.heap.size w w' := by
 have HR0 := aM hr0;have HC0 := aM hc0;clear hr0 hc0;have HB := aM (Below.refl w.heap.size w);have H : ((spec_l02Two.f (l0.length : Int)).bind fun t190 => ((some (([] : List Int) : List Int)).bind fun y193 => (if y193.length + t190.length < 140737488355328 then ((some (y193 ++ t190 : List Int)).bind fun y196 => (if y196.length + l0.length < 140737488355328 then ((spec_l01Check.f k (y196 ++ l0)).bind fun t202 => ((spec_l02Four.f t202).bind fun t203 => (if t190.length + t203.length < 140737488355328 then ((some (t190 ++ t203 : List Int)).bind fun y206 => (if y206.length + l0.length < 140737488355328 then (some (y206 ++ l0)) else (none))) else (none)))) else (none))) else (none)))) = some r := h;clear h;obtain ⟨t190, A2, H⟩ := bX H;(try dsimp only at H);obtain ⟨y193, hy193⟩ : ∃ y_ : List Int, y_ = (([] : List Int)) := ⟨_, rfl⟩
 replace H : (if y193.length + t190.length < 140737488355328 then ((some (y193 ++ t190 : List Int)).bind fun y196 => (if y196.length + l0.length < 140737488355328 then ((spec_l01Check.f k (y196 ++ l0)).bind fun t202 => ((spec_l02Four.f t202).bind fun t203 => (if t190.length + t203.length < 140737488355328 then ((some (t190 ++ t203 : List Int)).bind fun y206 => (if y206.length + l0.length < 140737488355328 then (some (y206 ++ l0)) else (none))) else (none)))) else (none))) else (none)) = some r := by first | (rw [hy193]; with_reducible exact H) | (have H2_ := (Option.bind_some _ _).symm.trans H; rw [hy193]; with_reducible exact H2_) | (have H2_ := (Option.bind_some _ _).symm.trans H; with_reducible exact H2_) | with_reducible exact H | (rw [hy193]; exact H) | exact H
 have Ny193 := aM hy193;clear hy193
 by_cases c3 : y193.length + t190.length < 140737488355328
 ·rw [if_pos c3] at H;have LMc3 := aM c3;clear c3;obtain ⟨y196, hy196⟩ : ∃ y_ : List Int, y_ = (y193 ++ t190) := ⟨_, rfl⟩
  replace H : (if y196.length + l0.length < 140737488355328 then ((spec_l01Check.f k (y196 ++ l0)).bind fun t202 => ((spec_l02Four.f t202).bind fun t203 => (if t190.length + t203.length < 140737488355328 then ((some (t190 ++ t203 : List Int)).bind fun y206 => (if y206.length + l0.length < 140737488355328 then (some (y206 ++ l0)) else (none))) else (none)))) else (none)) = some r := by first | (rw [hy196]; with_reducible exact H) | (have H2_ := (Option.bind_some _ _).symm.trans H; rw [hy196]; with_reducible exact H2_) | (have H2_ := (Option.bind_some _ _).symm.trans H; with_reducible exact H2_) | with_reducible exact H | (rw [hy196]; exact H) | exact H
  have Ny196 := aM hy196;clear hy196
  by_cases c4 : y196.length + l0.length < 140737488355328
  ·rw [if_pos c4] at H;have LMc4 := aM c4;clear c4;obtain ⟨y199, hy199⟩ : ∃ y_ : List Int, y_ = (y196 ++ l0) := ⟨_, rfl⟩
   replace H : ((spec_l01Check.f k y199).bind fun t202 => ((spec_l02Four.f t202).bind fun t203 => (if t190.length + t203.length < 140737488355328 then ((some (t190 ++ t203 : List Int)).bind fun y206 => (if y206.length + l0.length < 140737488355328 then (some (y206 ++ l0)) else (none))) else (none)))) = some r := by first | (rw [hy199]; with_reducible exact H) | (have H2_ := (Option.bind_some _ _).symm.trans H; rw [hy199]; with_reducible exact H2_) | (have H2_ := (Option.bind_some _ _).symm.trans H; with_reducible exact H2_) | with_reducible exact H | (rw [hy199]; exact H) | exact H
   have Ny199 := aM hy199;clear hy199;obtain ⟨t202, A5, H⟩ := bX H;(try dsimp only at H);obtain ⟨t203, A6, H⟩ := bX H;(try dsimp only at H)
   by_cases c7 : t190.length + t203.length < 140737488355328
   ·rw [if_pos c7] at H;have LMc7 := aM c7;clear c7;obtain ⟨y206, hy206⟩ : ∃ y_ : List Int, y_ = (t190 ++ t203) := ⟨_, rfl⟩
    replace H : (if y206.length + l0.length < 140737488355328 then (some (y206 ++ l0)) else (none)) = some r := by first | (rw [hy206]; with_reducible exact H) | (have H2_ := (Option.bind_some _ _).symm.trans H; rw [hy206]; with_reducible exact H2_) | (have H2_ := (Option.bind_some _ _).symm.trans H; with_reducible exact H2_) | with_reducible exact H | (rw [hy206]; exact H) | exact H
    have Ny206 := aM hy206;clear hy206
    by_cases c8 : y206.length + l0.length < 140737488355328
    ·rw [if_pos c8] at H;have LMc8 := aM c8;clear c8;obtain ⟨y209, hy209⟩ : ∃ y_ : List Int, y_ = (y206 ++ l0) := ⟨_, rfl⟩
     replace H : (some y209) = some r := by first | (rw [hy209]; with_reducible exact H) | (have H2_ := (Option.bind_some _ _).symm.trans H; rw [hy209]; with_reducible exact H2_) | (have H2_ := (Option.bind_some _ _).symm.trans H; with_reducible exact H2_) | with_reducible exact H | (rw [hy209]; exact H) | exact H
     have Ny209 := aM hy209;clear hy209;obtain rfl := Option.some.inj H
     go_enter Tryd.func62, Tryd.ntmps62
     go_wp2_with (first | ((with_reducible refine gate_callee (f := 80) rfl ?_); refine goesL_ (some 7) rfl rfl Tryd.func80 (by kernel_rfl) rfl #[.int .i64 (l0.length : Int)] rfl (by (try simp only [zM]); first | done | rfl | (simp only [zL]; rfl)) ?_; (with_reducible refine (spec_l02Two.calls (l0.length : Int) t190 _ A2.o).mono ?_); rintro e w9 ⟨v191, rfl, ho0, hb⟩; refine ⟨_, rfl, ?_⟩; have HO192 := aM (Kd.R_lower ho0 (below_size (bM HB.o))); replace HB := aM (below_step (bM HB.o) hb); (try clear hb); (try clear ho0)) | ((with_reducible refine gate_dst (N := 8) rfl ?_); refine Kd.R_lit (Kd.int .u8) _ 5 ?hg (N := 8) ?hd (xs := ([] : List Int)) (inner := []) (ok := fun _ => True) (okp := fun _ => True) ?hr ?hp (fun _ hk => hk) trivial (Below.refl _ _) (Nat.le_refl _) (by simp) ?_; (case hd => rfl); (case hg => rfl); (case hr => first | (go_simp; done) | (go_simp; rfl)); (case hp => exact (Reps.none _ _)); intro v194 w10 ho11 hb hg_ hnew_; clear hg_ hnew_; (first | rw [← Ny193.o] at ho11 | (simp only [Int.reduceToNat] at ho11; rw [← Ny193.o] at ho11)); have HO195 := aM (Kd.R_lower (Kd.R_new' ho11 (Kd.R_lt (rM HO192.o))) (below_size (bM HB.o))); replace HO192 := aM (Kd.R_elder' (rM HO192.o) (Kd.R_base ho11) hb); replace HB := aM (below_step (bM HB.o) hb); clear hb ho11; obtain ⟨Ao13, co13, eo13⟩ := Kd.R_slice HO192.o; subst eo13) | ((with_reducible refine gate_builtin (b := .append) (xs := #[.tmp 8, .tmp 9]) rfl ?_); at_builtin; refine Kd.R_append_rows (Kd.int .u8) (w0 := w) w.heap.size rfl (.tmp 8) (.tmp 9) 76 5 (.int .u8 0) 1 rfl Tryd.underlying76 info5 rfl (by decide) (by omega) v194 y193 t190 _ _ _ (fun k_ => some k_ ≠ (.slice Ao13 t190.length co13 : Value).ownBlock) (fun _ => False) rfl rfl ?aO ?aR (fun _ _ h => h) (fun _ h => h.elim) ?aF ?aB ?aS ?aL ?_; (case aR => repeat (first | exact (Kd.R_reads' HO192.o).2.2 | (with_reducible refine Kd.C_alloc ?_ _) | (with_reducible refine Kd.C_drewN ?_ _) | (with_reducible refine Kd.C_drew ?_))); (case aB => exact (bM HB.o)); (case aF => exact (fun k_ hk => Kd.fresh' (Kd.R_lt (rM HO192.o)) k_ hk)); (case aO => exact (by (with_reducible repeat (first | apply Kd.R_alloc | apply Kd.R_drewN | apply Kd.R_drew)); exact Kd.R_mono HO195.o (fun _ hk => hk.2))); (case aS => exact (below_size (bM HB.o))); (case aL => have := LMc3.o; omega); intro v197 w12 ho hb hg hat; rw [← Ny196.o] at ho; have n0_ := aM (Kd.R_after (ok := (fun _ => True)) (rM HO192.o) hg hat); have n1_ := aM (hb); have n2_ := aM (ho); clear HO192; clear HB; clear HO195; have HO192 := n0_; have HB := n1_; have HO198 := n2_; clear n0_ n1_ n2_; clear ho hb hg hat) | ((with_reducible refine gate_builtin (b := .append) (xs := #[.tmp 10, .tmp 11]) rfl ?_); at_builtin; refine Kd.R_append_rows (Kd.int .u8) (w0 := w) w.heap.size rfl (.tmp 10) (.tmp 11) 76 5 (.int .u8 0) 1 rfl Tryd.underlying76 info5 rfl (by decide) (by omega) v197 y196 l0 _ _ _ (fun k_ => some k_ ≠ (.slice Ao13 t190.length co13 : Value).ownBlock) (fun _ => False) rfl rfl ?aO ?aR (fun _ _ h => h) (fun _ h => h.elim) ?aF ?aB ?aS ?aL ?_; (case aR => exact Kd.C_below HR0.o (bM HB.o)); (case aB => exact (bM HB.o)); (case aF => exact (fun k_ hk => Kd.fresh' (Kd.R_lt (rM HO192.o)) k_ hk)); (case aO => exact (rM HO198.o)); (case aS => exact (below_size (bM HB.o))); (case aL => have := LMc4.o; omega); intro v200 w14 ho hb hg hat; rw [← Ny199.o] at ho; have n0_ := aM (Kd.R_after (ok := (fun _ => True)) (rM HO192.o) hg hat); have n1_ := aM (hb); have n2_ := aM (ho); clear HO192; clear HB; clear HO198; have HO192 := n0_; have HB := n1_; have HO201 := n2_; clear n0_ n1_ n2_; clear ho hb hg hat; obtain ⟨Ao15, co15, eo15⟩ := Kd.R_slice HO201.o; subst eo15) | ((with_reducible refine gate_callee (f := 81) rfl ?_); refine goesL_ (some 13) rfl rfl Tryd.func81 (by kernel_rfl) rfl #[.slice Ao15 y199.length co15] rfl (by (try simp only [zM]); first | done | rfl | (simp only [zL]; rfl)) ?_; (with_reducible refine (spec_l01Check.calls k _ _ y199 t202 _ ?side1 ?side2 A5.o).mono ?_); (case side1 => repeat (first | exact (Kd.R_reads' HO201.o).2.2 | (with_reducible refine Kd.C_alloc ?_ _) | (with_reducible refine Kd.C_drewN ?_ _) | (with_reducible refine Kd.C_drew ?_))); (case side2 => exact (Kd.R_reads' HO201.o).2.1); rintro e w' ⟨rfl, ⟨nd, rfl⟩⟩; refine ⟨_, rfl, ?_⟩) | ((with_reducible refine gate_callee (f := 82) rfl ?_); refine goesL_ (some 16) rfl rfl Tryd.func82 (by kernel_rfl) rfl #[.int .i64 t202] rfl (by (try simp only [zM]); first | done | rfl | (simp only [zL]; rfl)) ?_; (with_reducible refine (spec_l02Four.calls t202 t203 _ A6.o).mono ?_); rintro e w16 ⟨v204, rfl, ho0, hb⟩; refine ⟨_, rfl, ?_⟩; have HO205 := aM (Kd.R_lower (Kd.R_new' (Kd.R_new' ho0 (Kd.R_lt (rM HO192.o))) (Kd.R_lt (rM HO201.o))) (below_size (bM HB.o))); replace HO192 := aM (Kd.R_elder' (rM HO192.o) (Kd.R_base ho0) hb); replace HO201 := aM (Kd.R_elder' (rM HO201.o) (Kd.R_base ho0) hb); replace HB := aM (below_step (bM HB.o) hb); (try clear hb); (try clear ho0); obtain ⟨Ao18, co18, eo18⟩ := Kd.R_slice HO205.o; subst eo18) | ((with_reducible refine gate_builtin (b := .append) (xs := #[.tmp 14, .tmp 16]) rfl ?_); at_builtin; refine Kd.R_append_rows (Kd.int .u8) (w0 := w) w.heap.size rfl (.tmp 14) (.tmp 16) 76 5 (.int .u8 0) 1 rfl Tryd.underlying76 info5 rfl (by decide) (by omega) (.slice Ao13 t190.length co13) t190 t203 _ _ _ (fun k_ => some k_ ≠ (.slice Ao15 y199.length co15 : Value).ownBlock ∧ some k_ ≠ (.slice Ao18 t203.length co18 : Value).ownBlock) (fun _ => False) rfl rfl ?aO ?aR (fun _ _ h => h) (fun _ h => h.elim) ?aF ?aB ?aS ?aL ?_; (case aR => repeat (first | exact (Kd.R_reads' HO205.o).2.2 | (with_reducible refine Kd.C_alloc ?_ _) | (with_reducible refine Kd.C_drewN ?_ _) | (with_reducible refine Kd.C_drew ?_))); (case aB => exact (bM HB.o)); (case aF => exact (fun k_ hk => ⟨Kd.fresh' (Kd.R_lt (rM HO201.o)) k_ hk, Kd.fresh' (Kd.R_lt (rM HO205.o)) k_ hk⟩)); (case aO => exact (by (with_reducible repeat (first | apply Kd.R_alloc | apply Kd.R_drewN | apply Kd.R_drew)); exact Kd.R_mono HO192.o (fun _ hk => ⟨hk.1.2, hk.2⟩))); (case aS => exact (below_size (bM HB.o))); (case aL => have := LMc7.o; omega); intro v207 w17 ho hb hg hat; rw [← Ny206.o] at ho; have n0_ := aM (Kd.R_after (ok := (fun k_ => some k_ ≠ (.slice Ao18 t203.length co18 : Value).ownBlock)) (by (with_reducible repeat (first | apply Kd.R_alloc | apply Kd.R_drewN | apply Kd.R_drew)); exact Kd.R_mono HO201.o (fun _ hk => ⟨hk.2, hk.1⟩)) hg hat); have n1_ := aM (Kd.R_after (ok := (fun k_ => some k_ ≠ (.slice Ao15 y199.length co15 : Value).ownBlock)) (by (with_reducible repeat (first | apply Kd.R_alloc | apply Kd.R_drewN | apply Kd.R_drew)); exact Kd.R_mono HO205.o (fun _ hk => ⟨hk.2, hk.1.2⟩)) hg hat); have n2_ := aM (hb); have n3_ := aM (ho); clear HO201; clear HO205; clear HB; clear HO192; have HO201 := n0_; have HO205 := n1_; have HB := n2_; have HO208 := n3_; clear n0_ n1_ n2_ n3_; clear ho hb hg hat) | ((with_reducible refine gate_builtin (b := .append) (xs := #[.tmp 17, .tmp 18]) rfl ?_); at_builtin; refine Kd.R_append_rows (Kd.int .u8) (w0 := w) w.heap.size rfl (.tmp 17) (.tmp 18) 76 5 (.int .u8 0) 1 rfl Tryd.underlying76 info5 rfl (by decide) (by omega) v207 y206 l0 _ _ _ (fun k_ => some k_ ≠ (.slice Ao15 y199.length co15 : Value).ownBlock ∧ some k_ ≠ (.slice Ao18 t203.length co18 : Value).ownBlock) (fun _ => False) rfl rfl ?aO ?aR (fun _ _ h => h) (fun _ h => h.elim) ?aF ?aB ?aS ?aL ?_; (case aR => exact Kd.C_below HR0.o (bM HB.o)); (case aB => exact (bM HB.o)); (case aF => exact (fun k_ hk => ⟨Kd.fresh' (Kd.R_lt (rM HO201.o)) k_ hk, Kd.fresh' (Kd.R_lt (rM HO205.o)) k_ hk⟩)); (case aO => exact (rM HO208.o)); (case aS => exact (below_size (bM HB.o))); (case aL => have := LMc8.o; omega); intro v210 w19 ho hb hg hat; rw [← Ny209.o] at ho; have n0_ := aM (Kd.R_after (ok := (fun k_ => some k_ ≠ (.slice Ao18 t203.length co18 : Value).ownBlock)) (rM HO201.o) hg hat); have n1_ := aM (Kd.R_after (ok := (fun k_ => some k_ ≠ (.slice Ao15 y199.length co15 : Value).ownBlock)) (rM HO205.o) hg hat); have n2_ := aM (hb); have n3_ := aM (ho); clear HO201; clear HO205; clear HB; clear HO208; have HO201 := n0_; have HO205 := n1_; have HB := n2_; have HO211 := n3_; clear n0_ n1_ n2_ n3_; clear ho hb hg hat))
     go_ret
     exact ⟨_, by first | rfl | (simp [zE] <;> rfl) | (simp [*, zE] <;> rfl), by (with_reducible repeat (first | apply Kd.R_alloc | apply Kd.R_drewN | apply Kd.R_drew)); exact Kd.R_mono HO211.o (fun _ hk => trivial), bM HB.o⟩
    ·rw [if_neg c8] at H;exact absurd H (by simp)
   ·rw [if_neg c7] at H;exact absurd H (by simp)
  ·rw [if_neg c4] at H;exact absurd H (by simp)
 ·rw [if_neg c3] at H;exact absurd H (by simp)
end Go.Proofs.YtpdhfoegbannkaaDoor.PFnExactWalPlan
