import Derived.Test.YtpdhfoegbannkaaDoorMFnExactWalReadPx0
namespace Go.Proofs.YtpdhfoegbannkaaDoor.PFnExactWalRead
open Go.RowKit Go.Proofs.YtpdhfoegbannkaaDoorW.PrintWords Go.Proofs.YtpdhfoegbannkaaDoorW.PrintLast Go.Proofs.YtpdhfoegbannkaaDoorW.PrintMore
attribute [local go_sem] max2_int min2_int max_two min_two max_three min_three max_four min_four   -- for this text's walks alone
set_option linter.unusedVariables false
set_option linter.unusedSimpArgs false

def laws_markText.l0 : Nat → Int → ByteArray → Option (ByteArray)
 | 0, _, _ => none
 | k + 1, x0, x3 => if x0 > 0 then ((some (([(wrap64 (48 + (Int.tmod x0 10))) % 256] : List Int) : List Int)).bind fun y279 => (if (strOfNums y279).size + x3.size ≤ 9223372036854775807 then (laws_markText.l0 k (wrap64 (Int.tdiv x0 10)) ((strOfNums y279) ++ x3)) else (none))) else (if 1 + x3.size ≤ 9223372036854775807 then (some ((⟨#[109]⟩ : ByteArray) ++ x3)) else (none))
def laws_markText.f (k : Nat) (a0 : Int) : Option (ByteArray) := if a0 ≤ 0 then (some (⟨#[109, 48]⟩ : ByteArray)) else (laws_markText.l0 k a0 (⟨#[]⟩ : ByteArray))
theorem laws_markText.mono_l : ∀ k, (∀ y0 y1, LeO (laws_markText.l0 k y0 y1) (laws_markText.l0 (k + 1) y0 y1))
 | 0 => fun _ _ r h => by simp [laws_markText.l0] at h
 | k + 1 => by
  have ih0 := laws_markText.mono_l k
  ·intro y0 y1
   unfold laws_markText.l0
   repeat' first
   | (with_reducible exact ih0 _ _)
   | (with_reducible exact LeO.refl _)
   | (with_reducible exact LeO.none _)
   | (with_reducible refine LeO.ite ?_ ?_)
   | (with_reducible refine LeO.bind ?_ (fun _ => ?_))
   | exact ih0 _ _
   | exact LeO.none _
   | refine LeO.ite ?_ ?_
   | refine LeO.bind ?_ (fun _ => ?_)
theorem laws_markText.mono : ∀ a0 k, LeO (laws_markText.f k a0) (laws_markText.f (k + 1) a0) := by
 intro a0 k;have ih0 := laws_markText.mono_l k
 unfold laws_markText.f
 repeat' first
   | (with_reducible exact ih0 _ _)
   | (with_reducible exact LeO.refl _)
   | (with_reducible exact LeO.none _)
   | (with_reducible refine LeO.ite ?_ ?_)
   | (with_reducible refine LeO.bind ?_ (fun _ => ?_))
   | exact ih0 _ _
   | exact LeO.none _
   | refine LeO.ite ?_ ?_
   | refine LeO.bind ?_ (fun _ => ?_)
set_option maxHeartbeats 8000000 in
set_option maxRecDepth 100000 in
theorem laws_markText.calls (k : Nat) (a0 : Int) (r : ByteArray) (w : World) (h : laws_markText.f k a0 = some r) :
  Calls Tryd.prog 39 #[.int .i64 a0] w fun e w' => e = .returned (.string r) ∧ Below w.heap.size w w' := by
 have HB := aM (Below.refl w.heap.size w);have H : (if a0 ≤ 0 then (some (⟨#[109, 48]⟩ : ByteArray)) else (laws_markText.l0 k a0 (⟨#[]⟩ : ByteArray))) = some r := h;clear h
 by_cases c2 : a0 ≤ 0
 ·rw [if_pos c2] at H;have c2b0 : decide (a0 ≤ 0) = true := decide_eq_true c2;clear c2;obtain rfl := Option.some.inj H
  go_enter Tryd.func39, Tryd.ntmps39
  go_wp2
  go_ret
  exact ⟨by first | rfl | (simp [zE] <;> rfl) | (simp [*, zE] <;> rfl), bM HB.o⟩
 ·rw [if_neg c2] at H;have c2b0 : decide (a0 ≤ 0) = false := decide_eq_false c2;clear c2;have H' := aM H;clear H
  go_enter Tryd.func39, Tryd.ntmps39
  go_wp2
  go_loopg [0, 3] k (fun kq v0 v3 w' => ∃ (x0_1 : Int) (x3_1 : ByteArray), v0 = .int .i64 x0_1 ∧ v3 = .string x3_1 ∧ Aside0 (laws_markText.l0 kq x0_1 x3_1 = some r) ∧ Aside0 (kq ≤ k) ∧ Aside0 (Below w.heap.size w w'))
  case atStart => exact ⟨(a0), ((⟨#[]⟩ : ByteArray)), (by first | rfl | (simp; done) | (simp [*]; done)), (by first | rfl | (simp; done) | (simp [*]; done)), H', ⟨Nat.le_refl _⟩, ⟨bM HB.o⟩⟩
  case round =>
   clear H';obtain ⟨x0_1, x3_1, rfl, rfl, HA, HK1, HB⟩ := hrel
   cases gk with
   | zero => exact absurd HA.o (by simp [laws_markText.l0])
   | succ k1 =>
    have H := HA.o;clear HA;simp only [laws_markText.l0] at H
    by_cases c3 : x0_1 > 0
    ·rw [if_pos c3] at H;have c3b0 : decide (0 < x0_1) = true := decide_eq_true c3;clear c3;obtain ⟨y279, hy279⟩ : ∃ y_ : List Int, y_ = (([(wrap64 (48 + (Int.tmod x0_1 10))) % 256] : List Int)) := ⟨_, rfl⟩
     replace H : (if (strOfNums y279).size + x3_1.size ≤ 9223372036854775807 then (laws_markText.l0 k1 (wrap64 (Int.tdiv x0_1 10)) ((strOfNums y279) ++ x3_1)) else (none)) = some r := by first | (rw [hy279]; with_reducible exact H) | (have H2_ := (Option.bind_some _ _).symm.trans H; rw [hy279]; with_reducible exact H2_) | (have H2_ := (Option.bind_some _ _).symm.trans H; with_reducible exact H2_) | with_reducible exact H | (rw [hy279]; exact H) | exact H
     have Ny279 := aM hy279;clear hy279
     by_cases c4 : (strOfNums y279).size + x3_1.size ≤ 9223372036854775807
     ·rw [if_pos c4] at H;have c4b0 := eq_true c4;have c4b1 : decide ((strOfNums y279).size + x3_1.size ≤ 9223372036854775807) = true := decide_eq_true c4
      try have c4b2 : (9223372036854775807 < (strOfNums y279).size + x3_1.size) = False := eq_false (Nat.not_lt.2 c4)
      have H' := aM H;clear H
      go_wp2_with (first | ((with_reducible refine gate_dst (N := 12) rfl ?_); refine Kd.R_lit (Kd.int .u8) _ 5 ?hg (N := 12) ?hd (xs := ([(wrap64 (48 + (Int.tmod x0_1 10))) % 256] : List Int)) (inner := [.int .u8 ((wrap64 (48 + (Int.tmod x0_1 10))) % 256)]) (ok := fun _ => True) (okp := fun _ => True) ?hr ?hp (fun _ hk => hk) trivial (Below.refl _ _) (Nat.le_refl _) (by simp) ?_; (case hd => rfl); (case hg => rfl); (case hr => first | (go_simp; done) | (go_simp; rfl)); (case hp => exact (Reps.one (show Kd.M (Kd.int .u8) _ _ _ ((wrap64 (48 + (Int.tmod x0_1 10))) % 256) [.int .u8 ((wrap64 (48 + (Int.tmod x0_1 10))) % 256)] from rfl) (Reps.none _ _))); intro v280 w5 ho6 hb hg_ hnew_; clear hg_ hnew_; (first | rw [← Ny279.o] at ho6 | (simp only [Int.reduceToNat] at ho6; rw [← Ny279.o] at ho6)); have HO281 := aM (Kd.R_lower ho6 (below_size (bM HB.o))); replace HB := aM (below_step (bM HB.o) hb); clear hb ho6; have hcv7 := own_string (P := Tryd.prog) Tryd.underlying76 Tryd.underlying5 Tryd.underlying9 (Kd.own_of_R HO281.o)))
      go_roundg k1
      case measure => have := HK1.o; omega
      case rel => exact ⟨(wrap64 (Int.tdiv x0_1 10)), ((strOfNums y279) ++ x3_1), (by first | rfl | (simp; done) | (simp [*]; done)), (by first | rfl | (simp; done) | (simp [*]; done)), H', ⟨by have := HK1.o; omega⟩, ⟨bM HB.o⟩⟩
     ·rw [if_neg c4] at H;exact absurd H (by simp)
    ·rw [if_neg c3] at H;have c3b0 : decide (0 < x0_1) = false := decide_eq_false c3;clear c3
     by_cases c8 : 1 + x3_1.size ≤ 9223372036854775807
     ·rw [if_pos c8] at H;have c8b0 := eq_true c8;have c8b1 : decide (1 + x3_1.size ≤ 9223372036854775807) = true := decide_eq_true c8
      try have c8b2 : (9223372036854775807 < 1 + x3_1.size) = False := eq_false (Nat.not_lt.2 c8)
      obtain rfl := Option.some.inj H
      go_wp2
      go_ret
      exact ⟨by first | rfl | (simp [zE] <;> rfl) | (simp [*, zE] <;> rfl), bM HB.o⟩
     ·rw [if_neg c8] at H;exact absurd H (by simp)

def laws_markFileS.l0 : Nat → List (S69) → Int → Int → Option (Int × (List (S69)))
 | 0, _, _, _ => none
 | k + 1, x0, x1, x5 => if x5 < (x0.length : Int) then ((laws_markText.f k x1).bind fun t282 => (if 0 ≤ x5 then ((some (x0.set (x5 : Int).toNat (⟨t282, (rd_T69 x0 x5).f1, (rd_T69 x0 x5).f2⟩ : S69) : List (S69))).bind fun y283 => ((laws_markText.f k (wrap64 (x1 + 1))).bind fun t284 => ((some (y283.set (x5 : Int).toNat (⟨(rd_T69 y283 x5).f0, t284, (rd_T69 y283 x5).f2⟩ : S69) : List (S69))).bind fun y285 => (laws_markFileS.l0 k (y285.set (x5 : Int).toNat (⟨(rd_T69 y285 x5).f0, (rd_T69 y285 x5).f1, wrap64 ((wrap64 (x1 + 1)) + 1)⟩ : S69)) (wrap64 ((wrap64 ((wrap64 (x1 + 1)) + 1)) + 1)) (wrap64 (x5 + 1)))))) else (none))) else (some (x1, x0))
def laws_markFileS.f (k : Nat) (l0 : List (S69)) (a1 : Int) : Option (Int × (List (S69))) := laws_markFileS.l0 k l0 a1 0
theorem laws_markFileS.mono_l : ∀ k, (∀ y0 y1 y2, LeO (laws_markFileS.l0 k y0 y1 y2) (laws_markFileS.l0 (k + 1) y0 y1 y2))
 | 0 => fun _ _ _ r h => by simp [laws_markFileS.l0] at h
 | k + 1 => by
  have ih0 := laws_markFileS.mono_l k
  ·intro y0 y1 y2
   unfold laws_markFileS.l0
   repeat' first
   | (with_reducible exact ih0 _ _ _)
   | (with_reducible exact laws_markText.mono _ _)
   | (with_reducible exact LeO.refl _)
   | (with_reducible exact LeO.none _)
   | (with_reducible refine LeO.ite ?_ ?_)
   | (with_reducible refine LeO.bind ?_ (fun _ => ?_))
   | exact ih0 _ _ _
   | exact laws_markText.mono _ _
   | exact LeO.none _
   | refine LeO.ite ?_ ?_
   | refine LeO.bind ?_ (fun _ => ?_)
theorem laws_markFileS.mono : ∀ a0 a1 k, LeO (laws_markFileS.f k a0 a1) (laws_markFileS.f (k + 1) a0 a1) := by
 intro a0 a1 k;have ih0 := laws_markFileS.mono_l k
 unfold laws_markFileS.f
 repeat' first
   | (with_reducible exact ih0 _ _ _)
   | (with_reducible exact laws_markText.mono _ _)
   | (with_reducible exact LeO.refl _)
   | (with_reducible exact LeO.none _)
   | (with_reducible refine LeO.ite ?_ ?_)
   | (with_reducible refine LeO.bind ?_ (fun _ => ?_))
   | exact ih0 _ _ _
   | exact laws_markText.mono _ _
   | exact LeO.none _
   | refine LeO.ite ?_ ?_
   | refine LeO.bind ?_ (fun _ => ?_)
set_option maxHeartbeats 8000000 in
set_option maxRecDepth 100000 in
theorem laws_markFileS.calls (k : Nat) (P0_ : Nat → Prop) (u9000_ : Value) (l0 : List (S69)) (a1 : Int) (r1 : Int) (r2 : List (S69)) (w0 w : World) (hB : Below w0.heap.size w0 w) (ho0 : Kd.R k69 69 w w0.heap.size P0_ u9000_ l0) (h : laws_markFileS.f k l0 a1 = some (r1, r2)) :
  Calls Tryd.prog 31 #[u9000_, .int .i64 a1] w fun e w' => e = .returned (.int .i64 r1) ∧ Kd.R k69 69 w' w0.heap.size (fun k_ => (P0_ k_ ∨ w.heap.size ≤ k_)) u9000_ r2 ∧ Below w0.heap.size w0 w' ∧ Kept w w' (fun k_ => P0_ k_) := by
 have HO0 := aM (show Kd.R k69 69 w w0.heap.size (fun k_ => (P0_ k_ ∨ w.heap.size ≤ k_)) u9000_ l0 from Kd.R_mono ho0 (fun k_ hk => (.inl hk)));have HK := aM (Kept.refl w (fun k_ => P0_ k_));have HW0 := aM hB.size;have HB := aM hB;clear hB;have H : (laws_markFileS.l0 k l0 a1 0) = some (r1, r2) := h;clear h;have H' := aM H;clear H
 go_enter Tryd.func31, Tryd.ntmps31
 go_wp2
 go_loopg [1, 5] k (fun kq v1 v5 w' => ∃ (x0_1 : List (S69)) (x1_1 : Int) (x5_1 : Int), v1 = .int .i64 x1_1 ∧ v5 = .int .i64 x5_1 ∧ Aside0 (laws_markFileS.l0 kq x0_1 x1_1 x5_1 = some (r1, r2)) ∧ Aside0 (kq ≤ k) ∧ Aside0 (Kd.R k69 69 w' w0.heap.size (fun k_ => (P0_ k_ ∨ w.heap.size ≤ k_)) u9000_ x0_1) ∧ Aside0 (Kept w w' (fun k_ => P0_ k_)) ∧ Aside0 (Below w0.heap.size w0 w'))
 case atStart => exact ⟨(l0), (a1), (0), (by first | rfl | (simp; done) | (simp [*]; done)), (by first | rfl | (simp; done) | (simp [*]; done)), H', ⟨Nat.le_refl _⟩, ⟨by (with_reducible repeat (first | apply Kd.R_alloc | apply Kd.R_drewN | apply Kd.R_drew)); exact HO0.o⟩, ⟨by repeat (first | (with_reducible first | exact HK.o | apply Kept.alloc | apply Kept.drewN | apply Kept.drew) | exact HK.o)⟩, ⟨bM HB.o⟩⟩
 case round =>
  clear H';obtain ⟨x0_1, x1_1, x5_1, rfl, rfl, HA, HK1, HO_0, HK, HB⟩ := hrel
  cases gk with
  | zero => exact absurd HA.o (by simp [laws_markFileS.l0])
  | succ k1 =>
   have H := HA.o;clear HA;simp only [laws_markFileS.l0] at H
   by_cases c3 : x5_1 < (x0_1.length : Int)
   ·rw [if_pos c3] at H;have c3b0 : decide (x5_1 < (x0_1.length : Int)) = true := decide_eq_true c3;clear c3;replace H := Option.bind_eq_some_iff.mp H;obtain ⟨t282, A40, H⟩ := H;replace H : (if 0 ≤ x5_1 then ((some (x0_1.set (x5_1 : Int).toNat (⟨t282, (rd_T69 x0_1 x5_1).f1, (rd_T69 x0_1 x5_1).f2⟩ : S69) : List (S69))).bind fun y283 => ((laws_markText.f k1 (wrap64 (x1_1 + 1))).bind fun t284 => ((some (y283.set (x5_1 : Int).toNat (⟨(rd_T69 y283 x5_1).f0, t284, (rd_T69 y283 x5_1).f2⟩ : S69) : List (S69))).bind fun y285 => (laws_markFileS.l0 k1 (y285.set (x5_1 : Int).toNat (⟨(rd_T69 y285 x5_1).f0, (rd_T69 y285 x5_1).f1, wrap64 ((wrap64 (x1_1 + 1)) + 1)⟩ : S69)) (wrap64 ((wrap64 ((wrap64 (x1_1 + 1)) + 1)) + 1)) (wrap64 (x5_1 + 1)))))) else (none)) = some (r1, r2) := H;have A4 := aM A40;clear A40
    by_cases c5 : 0 ≤ x5_1
    ·rw [if_pos c5] at H;have c5b0 : decide (0 ≤ x5_1) = true := decide_eq_true c5;clear c5;obtain ⟨y283, hy283⟩ : ∃ y_ : List (S69), y_ = (x0_1.set (x5_1 : Int).toNat (⟨t282, (rd_T69 x0_1 x5_1).f1, (rd_T69 x0_1 x5_1).f2⟩ : S69)) := ⟨_, rfl⟩
     replace H : ((laws_markText.f k1 (wrap64 (x1_1 + 1))).bind fun t284 => ((some (y283.set (x5_1 : Int).toNat (⟨(rd_T69 y283 x5_1).f0, t284, (rd_T69 y283 x5_1).f2⟩ : S69) : List (S69))).bind fun y285 => (laws_markFileS.l0 k1 (y285.set (x5_1 : Int).toNat (⟨(rd_T69 y285 x5_1).f0, (rd_T69 y285 x5_1).f1, wrap64 ((wrap64 (x1_1 + 1)) + 1)⟩ : S69)) (wrap64 ((wrap64 ((wrap64 (x1_1 + 1)) + 1)) + 1)) (wrap64 (x5_1 + 1))))) = some (r1, r2) := by first | (rw [hy283]; with_reducible exact H) | (have H2_ := (Option.bind_some _ _).symm.trans H; rw [hy283]; with_reducible exact H2_) | (have H2_ := (Option.bind_some _ _).symm.trans H; with_reducible exact H2_) | with_reducible exact H | (rw [hy283]; exact H) | exact H
     have Ny283 := aM hy283;clear hy283;replace H := Option.bind_eq_some_iff.mp H;obtain ⟨t284, A70, H⟩ := H;replace H : ((some (y283.set (x5_1 : Int).toNat (⟨(rd_T69 y283 x5_1).f0, t284, (rd_T69 y283 x5_1).f2⟩ : S69) : List (S69))).bind fun y285 => (laws_markFileS.l0 k1 (y285.set (x5_1 : Int).toNat (⟨(rd_T69 y285 x5_1).f0, (rd_T69 y285 x5_1).f1, wrap64 ((wrap64 (x1_1 + 1)) + 1)⟩ : S69)) (wrap64 ((wrap64 ((wrap64 (x1_1 + 1)) + 1)) + 1)) (wrap64 (x5_1 + 1)))) = some (r1, r2) := H;have A7 := aM A70;clear A70;obtain ⟨y285, hy285⟩ : ∃ y_ : List (S69), y_ = (y283.set (x5_1 : Int).toNat (⟨(rd_T69 y283 x5_1).f0, t284, (rd_T69 y283 x5_1).f2⟩ : S69)) := ⟨_, rfl⟩
     replace H : (laws_markFileS.l0 k1 (y285.set (x5_1 : Int).toNat (⟨(rd_T69 y285 x5_1).f0, (rd_T69 y285 x5_1).f1, wrap64 ((wrap64 (x1_1 + 1)) + 1)⟩ : S69)) (wrap64 ((wrap64 ((wrap64 (x1_1 + 1)) + 1)) + 1)) (wrap64 (x5_1 + 1))) = some (r1, r2) := by first | (rw [hy285]; with_reducible exact H) | (have H2_ := (Option.bind_some _ _).symm.trans H; rw [hy285]; with_reducible exact H2_) | (have H2_ := (Option.bind_some _ _).symm.trans H; with_reducible exact H2_) | with_reducible exact H | (rw [hy285]; exact H) | exact H
     have Ny285 := aM hy285;clear hy285;obtain ⟨y286, hy286⟩ : ∃ y_ : List (S69), y_ = (y285.set (x5_1 : Int).toNat (⟨(rd_T69 y285 x5_1).f0, (rd_T69 y285 x5_1).f1, wrap64 ((wrap64 (x1_1 + 1)) + 1)⟩ : S69)) := ⟨_, rfl⟩
     replace H : (laws_markFileS.l0 k1 y286 (wrap64 ((wrap64 ((wrap64 (x1_1 + 1)) + 1)) + 1)) (wrap64 (x5_1 + 1))) = some (r1, r2) := by first | (rw [hy286]; with_reducible exact H) | (have H2_ := (Option.bind_some _ _).symm.trans H; rw [hy286]; with_reducible exact H2_) | (have H2_ := (Option.bind_some _ _).symm.trans H; with_reducible exact H2_) | with_reducible exact H | (rw [hy286]; exact H) | exact H
     have Ny286 := aM hy286;clear hy286;have H' := aM H;clear H;obtain ⟨Ao10, co10, eo10⟩ := Kd.R_slice HO_0.o;subst eo10
     go_wp2_with (first | ((with_reducible refine gate_callee (f := 39) rfl ?_); refine goesL_ (some 15) rfl rfl Tryd.func39 (by kernel_rfl) rfl #[.int .i64 x1_1] rfl (by (try simp only [zM]); first | done | rfl | (simp only [zL]; rfl)) ?_; (with_reducible refine (laws_markText.calls k1 x1_1 t282 _ A4.o).mono ?_); rintro e w11 ⟨rfl, hb⟩; refine ⟨_, rfl, ?_⟩; replace HO_0 := aM (Kd.R_below (rM HO_0.o) hb); replace HK := aM (Kept.below (S := (fun k_ => P0_ k_)) (by repeat (first | (with_reducible first | exact HK.o | apply Kept.alloc | apply Kept.drewN | apply Kept.drew) | exact HK.o)) hb); replace HB := aM (below_step (bM HB.o) hb); (try clear hb); have p6 : 0 ≤ (x5_1 : Int) := oD; have q6 : (x5_1 : Int) < ((x0_1.length : Int) : Int) := oD; obtain ⟨go6, co6, eo6, gb6, gl6, cl6, HG6⟩ := Kd.R_form HO_0.o (by omega); (first | cases eo6 | (injection eo6 with ea_ en_ ec_; (first | subst ea_ | (injection ea_ with ea_; subst ea_)); subst ec_; clear en_)); have GB6 := aM gb6; have GG6 := aM HG6; clear gb6 gl6 HG6; have HMgo6 := aM (show (P0_ go6 ∨ w.heap.size ≤ go6) from (HO_0.o.1 _ rfl)); obtain ⟨ce6, hcl6, hM6, hcc6, hfr6⟩ := Kd.R_elem HO_0.o z69 (x5_1 : Int) p6 q6; obtain rfl := k69_openM hM6; have hx6_0 : w11.cell? ⟨go6, (x5_1 : Int).toNat * 3, none⟩ = some (.string ((rd_T69 x0_1 x5_1).f0)) := hcc6 0 _ rfl; have hx6_1 : w11.cell? ⟨go6, (x5_1 : Int).toNat * 3 + 1, none⟩ = some (.string ((rd_T69 x0_1 x5_1).f1)) := hcc6 1 _ rfl; have hx6_2 : w11.cell? ⟨go6, (x5_1 : Int).toNat * 3 + 2, none⟩ = some (.int .i64 ((rd_T69 x0_1 x5_1).f2)) := hcc6 2 _ rfl; have hf6_0 : w11.frozen? ⟨go6, (x5_1 : Int).toNat * 3, none⟩ = false := hfr6 0; have hf6_1 : w11.frozen? ⟨go6, (x5_1 : Int).toNat * 3 + 1, none⟩ = false := hfr6 1; have hf6_2 : w11.frozen? ⟨go6, (x5_1 : Int).toNat * 3 + 2, none⟩ = false := hfr6 2; clear hcl6 hcc6 hfr6 hM6; replace p6 := eq_true p6; replace q6 := eq_true q6; have HX12 := aM (show Kd.R k69 69 w11 w0.heap.size (fun k_ => (P0_ k_ ∨ w.heap.size ≤ k_)) (.slice (some ⟨go6, 0, none⟩) x0_1.length co10) x0_1 from (rM HO_0.o)); obtain ⟨ce12, hcl12, hM12, hcc12, hfr12⟩ := Kd.R_elem HX12.o z69 (x5_1 : Int) oD (by have h_ : (x5_1 : Int) < ((x0_1.length : Int) : Int) := oD; first | exact h_ | (have e_ := (Kd.R_reads' HO_0.o).1; omega) | simpa using h_); obtain rfl := k69_openM hM12; have HP12 := Kd.R_seg HX12.o (x5_1 : Int) oD (by have h_ : (x5_1 : Int) < ((x0_1.length : Int) : Int) := oD; first | exact h_ | (have e_ := (Kd.R_reads' HO_0.o).1; omega) | simpa using h_) (seg := [.string t282]) (j := 0) hcl12 hcc12 (show 1 ≤ 3 from by decide) (x' := (⟨t282, (rd_T69 x0_1 x5_1).f1, (rd_T69 x0_1 x5_1).f2⟩ : S69)) (k69_mkM _ _ _ (⟨t282, (rd_T69 x0_1 x5_1).f1, (rd_T69 x0_1 x5_1).f2⟩ : S69) ) (fun _ hk => hk); have hx12_0 := hcc12 0 _ rfl; (try simp only [show (k69).sz = 3 from rfl, Nat.mul_one, Nat.add_zero] at hx12_0); have hf12_0 := hfr12 0; (try simp only [show (k69).sz = 3 from rfl, Nat.mul_one, Nat.add_zero] at hf12_0); clear hcl12 hcc12 hfr12 hM12) | ((with_reducible refine gate_store (t := 9) (p := 17) rfl ?_); refine store_event (t := 9) (p := 17) (v := ?vo_w13) (w1 := (w11.setCell ⟨go6, (x5_1 : Int).toNat * 3, none⟩ (.string t282))) ?hg ?ho ?hn ?hr ?_; (case ho => rfl); (case hg => rfl); (case hn => rfl); (case hr => first | (go_simp; done) | (go_simp; rfl)); intro w13 hw; have hg : w11.grownBy w13 (some go6) := (by rw [hw]; exact HP12.2); have hp_ : Kd.R k69 69 w13 w0.heap.size (fun k_ => (P0_ k_ ∨ w.heap.size ≤ k_)) (.slice (some ⟨go6, 0, none⟩) x0_1.length co10) y283 := (by rw [hw, Ny283.o]; exact HP12.1); clear HP12; replace HB := aM ((by rw [hw]; exact bS (HB.o) GB6.o : Below w0.heap.size w0 w13)); replace HK := aM (Kept.of_grown (S := (fun k_ => P0_ k_)) hg (by repeat (first | (with_reducible first | exact HK.o | apply Kept.alloc | apply Kept.drewN | apply Kept.drew) | exact HK.o)) (fun k_ e_ => (HO_0.o.1 k_ e_))); replace HO_0 := aM (hp_); clear hg hw hp_) | ((with_reducible refine gate_callee (f := 39) rfl ?_); refine goesL_ (some 23) rfl rfl Tryd.func39 (by kernel_rfl) rfl #[.int .i64 (wrap64 (x1_1 + 1))] rfl (by (try simp only [zM]); first | done | rfl | (simp only [zL]; rfl)) ?_; (with_reducible refine (laws_markText.calls k1 (wrap64 (x1_1 + 1)) t284 _ A7.o).mono ?_); rintro e w14 ⟨rfl, hb⟩; refine ⟨_, rfl, ?_⟩; replace HO_0 := aM (Kd.R_below (rM HO_0.o) hb); replace HK := aM (Kept.below (S := (fun k_ => P0_ k_)) (by repeat (first | (with_reducible first | exact HK.o | apply Kept.alloc | apply Kept.drewN | apply Kept.drew) | exact HK.o)) hb); replace HB := aM (below_step (bM HB.o) hb); (try clear hb); have p8 : 0 ≤ (x5_1 : Int) := oD; have q8 : (x5_1 : Int) < ((x0_1.length : Int) : Int) := oD; obtain ⟨ce8, hcl8, hM8, hcc8, hfr8⟩ := Kd.R_elem HO_0.o z69 (x5_1 : Int) p8 q8; obtain rfl := k69_openM hM8; have hx8_0 : w14.cell? ⟨go6, (x5_1 : Int).toNat * 3, none⟩ = some (.string ((rd_T69 y283 x5_1).f0)) := hcc8 0 _ rfl; have hx8_1 : w14.cell? ⟨go6, (x5_1 : Int).toNat * 3 + 1, none⟩ = some (.string ((rd_T69 y283 x5_1).f1)) := hcc8 1 _ rfl; have hx8_2 : w14.cell? ⟨go6, (x5_1 : Int).toNat * 3 + 2, none⟩ = some (.int .i64 ((rd_T69 y283 x5_1).f2)) := hcc8 2 _ rfl; have hf8_0 : w14.frozen? ⟨go6, (x5_1 : Int).toNat * 3, none⟩ = false := hfr8 0; have hf8_1 : w14.frozen? ⟨go6, (x5_1 : Int).toNat * 3 + 1, none⟩ = false := hfr8 1; have hf8_2 : w14.frozen? ⟨go6, (x5_1 : Int).toNat * 3 + 2, none⟩ = false := hfr8 2; clear hcl8 hcc8 hfr8 hM8; replace p8 := eq_true p8; replace q8 := eq_true q8; have HX15 := aM (show Kd.R k69 69 w14 w0.heap.size (fun k_ => (P0_ k_ ∨ w.heap.size ≤ k_)) (.slice (some ⟨go6, 0, none⟩) x0_1.length co10) y283 from (rM HO_0.o)); obtain ⟨ce15, hcl15, hM15, hcc15, hfr15⟩ := Kd.R_elem HX15.o z69 (x5_1 : Int) oD (by have h_ : (x5_1 : Int) < ((x0_1.length : Int) : Int) := oD; first | exact h_ | (have e_ := (Kd.R_reads' HO_0.o).1; omega) | simpa using h_); obtain rfl := k69_openM hM15; have HP15 := Kd.R_seg HX15.o (x5_1 : Int) oD (by have h_ : (x5_1 : Int) < ((x0_1.length : Int) : Int) := oD; first | exact h_ | (have e_ := (Kd.R_reads' HO_0.o).1; omega) | simpa using h_) (seg := [.string t284]) (j := 1) hcl15 hcc15 (show 2 ≤ 3 from by decide) (x' := (⟨(rd_T69 y283 x5_1).f0, t284, (rd_T69 y283 x5_1).f2⟩ : S69)) (k69_mkM _ _ _ (⟨(rd_T69 y283 x5_1).f0, t284, (rd_T69 y283 x5_1).f2⟩ : S69) ) (fun _ hk => hk); have hx15_1 := hcc15 1 _ rfl; (try simp only [show (k69).sz = 3 from rfl, Nat.mul_one, Nat.add_zero] at hx15_1); have hf15_1 := hfr15 1; (try simp only [show (k69).sz = 3 from rfl, Nat.mul_one, Nat.add_zero] at hf15_1); clear hcl15 hcc15 hfr15 hM15) | ((with_reducible refine gate_store (t := 9) (p := 25) rfl ?_); refine store_event (t := 9) (p := 25) (v := ?vo_w16) (w1 := (w14.setCell ⟨go6, (x5_1 : Int).toNat * 3 + 1, none⟩ (.string t284))) ?hg ?ho ?hn ?hr ?_; (case ho => rfl); (case hg => rfl); (case hn => rfl); (case hr => first | (go_simp; done) | (go_simp; rfl)); intro w16 hw; have hg : w14.grownBy w16 (some go6) := (by rw [hw]; exact HP15.2); have hp_ : Kd.R k69 69 w16 w0.heap.size (fun k_ => (P0_ k_ ∨ w.heap.size ≤ k_)) (.slice (some ⟨go6, 0, none⟩) x0_1.length co10) y285 := (by rw [hw, Ny285.o]; exact HP15.1); clear HP15; replace HB := aM ((by rw [hw]; exact bS (HB.o) GB6.o : Below w0.heap.size w0 w16)); replace HK := aM (Kept.of_grown (S := (fun k_ => P0_ k_)) hg (by repeat (first | (with_reducible first | exact HK.o | apply Kept.alloc | apply Kept.drewN | apply Kept.drew) | exact HK.o)) (fun k_ e_ => (HO_0.o.1 k_ e_))); replace HO_0 := aM (hp_); clear hg hw hp_; have p9 : 0 ≤ (x5_1 : Int) := oD; have q9 : (x5_1 : Int) < ((x0_1.length : Int) : Int) := oD; obtain ⟨ce9, hcl9, hM9, hcc9, hfr9⟩ := Kd.R_elem HO_0.o z69 (x5_1 : Int) p9 q9; obtain rfl := k69_openM hM9; have hx9_0 : w16.cell? ⟨go6, (x5_1 : Int).toNat * 3, none⟩ = some (.string ((rd_T69 y285 x5_1).f0)) := hcc9 0 _ rfl; have hx9_1 : w16.cell? ⟨go6, (x5_1 : Int).toNat * 3 + 1, none⟩ = some (.string ((rd_T69 y285 x5_1).f1)) := hcc9 1 _ rfl; have hx9_2 : w16.cell? ⟨go6, (x5_1 : Int).toNat * 3 + 2, none⟩ = some (.int .i64 ((rd_T69 y285 x5_1).f2)) := hcc9 2 _ rfl; have hf9_0 : w16.frozen? ⟨go6, (x5_1 : Int).toNat * 3, none⟩ = false := hfr9 0; have hf9_1 : w16.frozen? ⟨go6, (x5_1 : Int).toNat * 3 + 1, none⟩ = false := hfr9 1; have hf9_2 : w16.frozen? ⟨go6, (x5_1 : Int).toNat * 3 + 2, none⟩ = false := hfr9 2; clear hcl9 hcc9 hfr9 hM9; replace p9 := eq_true p9; replace q9 := eq_true q9; have HX17 := aM (show Kd.R k69 69 w16 w0.heap.size (fun k_ => (P0_ k_ ∨ w.heap.size ≤ k_)) (.slice (some ⟨go6, 0, none⟩) x0_1.length co10) y285 from (rM HO_0.o)); obtain ⟨ce17, hcl17, hM17, hcc17, hfr17⟩ := Kd.R_elem HX17.o z69 (x5_1 : Int) oD (by have h_ : (x5_1 : Int) < ((x0_1.length : Int) : Int) := oD; first | exact h_ | (have e_ := (Kd.R_reads' HO_0.o).1; omega) | simpa using h_); obtain rfl := k69_openM hM17; have HP17 := Kd.R_seg HX17.o (x5_1 : Int) oD (by have h_ : (x5_1 : Int) < ((x0_1.length : Int) : Int) := oD; first | exact h_ | (have e_ := (Kd.R_reads' HO_0.o).1; omega) | simpa using h_) (seg := [.int .i64 (wrap64 ((wrap64 (x1_1 + 1)) + 1))]) (j := 2) hcl17 hcc17 (show 3 ≤ 3 from by decide) (x' := (⟨(rd_T69 y285 x5_1).f0, (rd_T69 y285 x5_1).f1, wrap64 ((wrap64 (x1_1 + 1)) + 1)⟩ : S69)) (k69_mkM _ _ _ (⟨(rd_T69 y285 x5_1).f0, (rd_T69 y285 x5_1).f1, wrap64 ((wrap64 (x1_1 + 1)) + 1)⟩ : S69) ) (fun _ hk => hk); have hx17_2 := hcc17 2 _ rfl; (try simp only [show (k69).sz = 3 from rfl, Nat.mul_one, Nat.add_zero] at hx17_2); have hf17_2 := hfr17 2; (try simp only [show (k69).sz = 3 from rfl, Nat.mul_one, Nat.add_zero] at hf17_2); clear hcl17 hcc17 hfr17 hM17) | ((with_reducible refine gate_store (t := 3) (p := 32) rfl ?_); refine store_event (t := 3) (p := 32) (v := ?vo_w18) (w1 := (w16.setCell ⟨go6, (x5_1 : Int).toNat * 3 + 2, none⟩ (.int .i64 (wrap64 ((wrap64 (x1_1 + 1)) + 1))))) ?hg ?ho ?hn ?hr ?_; (case ho => rfl); (case hg => rfl); (case hn => rfl); (case hr => first | (go_simp; done) | (go_simp; rfl)); intro w18 hw; have hg : w16.grownBy w18 (some go6) := (by rw [hw]; exact HP17.2); have hp_ : Kd.R k69 69 w18 w0.heap.size (fun k_ => (P0_ k_ ∨ w.heap.size ≤ k_)) (.slice (some ⟨go6, 0, none⟩) x0_1.length co10) y286 := (by rw [hw, Ny286.o]; exact HP17.1); clear HP17; replace HB := aM ((by rw [hw]; exact bS (HB.o) GB6.o : Below w0.heap.size w0 w18)); replace HK := aM (Kept.of_grown (S := (fun k_ => P0_ k_)) hg (by repeat (first | (with_reducible first | exact HK.o | apply Kept.alloc | apply Kept.drewN | apply Kept.drew) | exact HK.o)) (fun k_ e_ => (HO_0.o.1 k_ e_))); replace HO_0 := aM (hp_); clear hg hw hp_))
     go_roundg k1
     case measure => have := HK1.o; omega
     case rel => exact ⟨(y286), (wrap64 ((wrap64 ((wrap64 (x1_1 + 1)) + 1)) + 1)), (wrap64 (x5_1 + 1)), (by first | rfl | (simp; done) | (simp [*]; done)), (by first | rfl | (simp; done) | (simp [*]; done)), H', ⟨by have := HK1.o; omega⟩, ⟨by (with_reducible repeat (first | apply Kd.R_alloc | apply Kd.R_drewN | apply Kd.R_drew)); exact HO_0.o⟩, ⟨by repeat (first | (with_reducible first | exact HK.o | apply Kept.alloc | apply Kept.drewN | apply Kept.drew) | exact HK.o)⟩, ⟨bM HB.o⟩⟩
    ·rw [if_neg c5] at H;exact absurd H (by simp)
   ·rw [if_neg c3] at H;have c3b0 : decide (x5_1 < (x0_1.length : Int)) = false := decide_eq_false c3;clear c3;simp only [Option.some.injEq, Prod.mk.injEq] at H;obtain ⟨rfl, rfl⟩ := H;obtain ⟨Ao19, co19, eo19⟩ := Kd.R_slice HO_0.o;subst eo19
    go_wp2
    go_ret
    exact ⟨by first | rfl | (simp [zE] <;> rfl) | (simp [*, zE] <;> rfl), by (with_reducible repeat (first | apply Kd.R_alloc | apply Kd.R_drewN | apply Kd.R_drew)); exact HO_0.o, bM HB.o, by repeat (first | (with_reducible first | exact HK.o | apply Kept.alloc | apply Kept.drewN | apply Kept.drew) | exact HK.o)⟩

def laws_markDisk.f (k : Nat) (a0_0 : Int) (l0_1 : List (S69)) (a1 : Int) : Option (Int × (List (S69))) := (laws_markFileS.f k l0_1 a1).bind fun bt288 => (some (bt288.1, bt288.2))
theorem laws_markDisk.mono : ∀ a0 a1 a2 k, LeO (laws_markDisk.f k a0 a1 a2) (laws_markDisk.f (k + 1) a0 a1 a2) := by
 intro a0 a1 a2 k
 unfold laws_markDisk.f
 repeat' first
   | (with_reducible exact laws_markFileS.mono _ _ _)
   | (with_reducible exact LeO.refl _)
   | (with_reducible exact LeO.none _)
   | (with_reducible refine LeO.ite ?_ ?_)
   | (with_reducible refine LeO.bind ?_ (fun _ => ?_))
   | exact laws_markFileS.mono _ _ _
   | exact LeO.none _
   | refine LeO.ite ?_ ?_
   | refine LeO.bind ?_ (fun _ => ?_)
set_option maxHeartbeats 8000000 in
set_option maxRecDepth 100000 in
theorem laws_markDisk.calls (k : Nat) (a0_0 : Int) (P0_1_ : Nat → Prop) (u9000_ : Value) (l0_1 : List (S69)) (a1 : Int) (r1 : Int) (r2 : List (S69)) (w0 w : World) (hB : Below w0.heap.size w0 w) (ho0_1 : Kd.R k69 69 w w0.heap.size P0_1_ u9000_ l0_1) (h : laws_markDisk.f k a0_0 l0_1 a1 = some (r1, r2)) :
  Calls Tryd.prog 12 #[.agg #[.int .i64 a0_0, u9000_], .int .i64 a1] w fun e w' => e = .returned (.int .i64 r1) ∧ Kd.R k69 69 w' w0.heap.size (fun k_ => (P0_1_ k_ ∨ w.heap.size ≤ k_)) u9000_ r2 ∧ Below w0.heap.size w0 w' ∧ Kept w w' (fun k_ => P0_1_ k_) := by
 have hu33 := Tryd.underlying33;have HO0_1 := aM (show Kd.R k69 69 w w0.heap.size (fun k_ => (P0_1_ k_ ∨ w.heap.size ≤ k_)) u9000_ l0_1 from Kd.R_mono ho0_1 (fun k_ hk => (.inl hk)));have HK := aM (Kept.refl w (fun k_ => P0_1_ k_));have HW0 := aM hB.size;have HB := aM hB;clear hB;have H : ((laws_markFileS.f k l0_1 a1).bind fun bt288 => (some (bt288.1, bt288.2))) = some (r1, r2) := h;clear h;replace H := Option.bind_eq_some_iff.mp H;obtain ⟨⟨t288, t289⟩, A30, H⟩ := H;replace H : (some (t288, t289)) = some (r1, r2) := H;have A3 := aM A30;clear A30;simp only [Option.some.injEq, Prod.mk.injEq] at H;obtain ⟨rfl, rfl⟩ := H;obtain ⟨Ao4, co4, eo4⟩ := Kd.R_slice HO0_1.o;subst eo4
 go_enter Tryd.func12, Tryd.ntmps12
 go_wp2_with (first | ((with_reducible refine gate_dst (N := 2) rfl ?_); refine box_event ?hg (N := 2) ?hd (cs := #[.int .i64 a0_0, .slice Ao4 l0_1.length co4]) (t := 33) ?hr ?_; (case hd => rfl); (case hg => rfl); (case hr => first | (go_simp; done) | (go_simp; rfl)); intro gb287 hg w5 hbox hb; replace HO0_1 := aM (Kd.R_below (rM HO0_1.o) hb); have BK287 := aM (hbox); have GW287 := aM ((by rw [hg]; exact (by first | exact HK.o.1 | exact (show Kept w _ (fun k_ => P0_1_ k_) from by repeat (first | (with_reducible first | exact HK.o | apply Kept.alloc | apply Kept.drewN | apply Kept.drew) | exact HK.o)).1) : w.heap.size ≤ gb287)); replace HK := aM (Kept.below (S := (fun k_ => P0_1_ k_)) (by repeat (first | (with_reducible first | exact HK.o | apply Kept.alloc | apply Kept.drewN | apply Kept.drew) | exact HK.o)) hb); have GE287 := aM ((by rw [hg]; exact (below_size (bM HB.o)) : w0.heap.size ≤ gb287)); replace HB := aM (below_step (bM HB.o) hb); clear hb hbox hg; have hcz6_0 := cL0 BK287.o; have hcz6_1 := cL1 BK287.o; have hfz6_0 := kF BK287.o 0; have hfz6_1 := kF BK287.o 1) | ((with_reducible refine gate_callee (f := 31) rfl ?_); refine goesL_ (some 8) rfl rfl Tryd.func31 (by kernel_rfl) rfl #[.slice Ao4 l0_1.length co4, .int .i64 a1] rfl (by (try simp only [zM]); first | done | rfl | (simp only [zL]; rfl)) ?_; (with_reducible refine (laws_markFileS.calls k (fun k_ => some k_ = (.slice Ao4 l0_1.length co4 : Value).ownBlock) (.slice Ao4 l0_1.length co4) l0_1 a1 t288 t289 w0 _ ?side1 ?side2 A3.o).mono ?_); (case side1 => with_reducible repeat (first | exact HB.o | apply bA | apply bN | apply bD | refine bS ?_ GE287.o)); (case side2 => exact Kd.R_tight rfl HO0_1.o); rintro e w7 ⟨rfl, hy0, hb, hkp⟩; refine ⟨_, rfl, ?_⟩; replace BK287 := aM (blk_kept (kM BK287.o) hkp (fun hs_ => (fun e_ => (Kd.R_ne HO0_1.o BK287.o (by decide)) e_) hs_)); replace HK := aM (Kept.then_ (S := (fun k_ => P0_1_ k_)) (by repeat (first | (with_reducible first | exact HK.o | apply Kept.alloc | apply Kept.drewN | apply Kept.drew | refine Kept.setCell ?_ (.inr GW287.o) _) | exact HK.o)) hkp (fun k_ hs_ => (fun e_ => (HO0_1.o.1 k_ e_.symm)) hs_)); replace HO0_1 := aM (Kd.R_reok rfl hy0 (fun k_ e_ => HO0_1.o.1 k_ e_)); replace HB := aM (hb); (try clear hb); (try clear hkp); (try clear hy0)))
 go_ret
 exact ⟨by first | rfl | (simp [zE] <;> rfl) | (simp [*, zE] <;> rfl), by (with_reducible repeat (first | apply Kd.R_alloc | apply Kd.R_drewN | apply Kd.R_drew)); exact HO0_1.o, by with_reducible repeat (first | exact HB.o | apply bA | apply bN | apply bD | refine bS ?_ GE287.o), by repeat (first | (with_reducible first | exact HK.o | apply Kept.alloc | apply Kept.drewN | apply Kept.drew | refine Kept.setCell ?_ (.inr GW287.o) _) | exact HK.o)⟩

def laws_markStringS.l0 : Nat → List ByteArray → Int → Int → Option (Int × List ByteArray)
 | 0, _, _, _ => none
 | k + 1, x0, x1, x5 => if x5 < (x0.length : Int) then ((laws_markText.f k x1).bind fun t290 => (if 0 ≤ x5 then (laws_markStringS.l0 k (x0.set (x5 : Int).toNat t290) (wrap64 (x1 + 1)) (wrap64 (x5 + 1))) else (none))) else (some (x1, x0))
def laws_markStringS.f (k : Nat) (l0 : List ByteArray) (a1 : Int) : Option (Int × List ByteArray) := laws_markStringS.l0 k l0 a1 0
theorem laws_markStringS.mono_l : ∀ k, (∀ y0 y1 y2, LeO (laws_markStringS.l0 k y0 y1 y2) (laws_markStringS.l0 (k + 1) y0 y1 y2))
 | 0 => fun _ _ _ r h => by simp [laws_markStringS.l0] at h
 | k + 1 => by
  have ih0 := laws_markStringS.mono_l k
  ·intro y0 y1 y2
   unfold laws_markStringS.l0
   repeat' first
   | (with_reducible exact ih0 _ _ _)
   | (with_reducible exact laws_markText.mono _ _)
   | (with_reducible exact LeO.refl _)
   | (with_reducible exact LeO.none _)
   | (with_reducible refine LeO.ite ?_ ?_)
   | (with_reducible refine LeO.bind ?_ (fun _ => ?_))
   | exact ih0 _ _ _
   | exact laws_markText.mono _ _
   | exact LeO.none _
   | refine LeO.ite ?_ ?_
   | refine LeO.bind ?_ (fun _ => ?_)
theorem laws_markStringS.mono : ∀ a0 a1 k, LeO (laws_markStringS.f k a0 a1) (laws_markStringS.f (k + 1) a0 a1) := by
 intro a0 a1 k;have ih0 := laws_markStringS.mono_l k
 unfold laws_markStringS.f
 repeat' first
   | (with_reducible exact ih0 _ _ _)
   | (with_reducible exact laws_markText.mono _ _)
   | (with_reducible exact LeO.refl _)
   | (with_reducible exact LeO.none _)
   | (with_reducible refine LeO.ite ?_ ?_)
   | (with_reducible refine LeO.bind ?_ (fun _ => ?_))
   | exact ih0 _ _ _
   | exact laws_markText.mono _ _
   | exact LeO.none _
   | refine LeO.ite ?_ ?_
   | refine LeO.bind ?_ (fun _ => ?_)
set_option maxHeartbeats 8000000 in
set_option maxRecDepth 100000 in
theorem laws_markStringS.calls (k : Nat) (P0_ : Nat → Prop) (u9000_ : Value) (l0 : List ByteArray) (a1 : Int) (r1 : Int) (r2 : List ByteArray) (w0 w : World) (hB : Below w0.heap.size w0 w) (ho0 : Kd.R Kd.string 9 w w0.heap.size P0_ u9000_ l0) (h : laws_markStringS.f k l0 a1 = some (r1, r2)) :
  Calls Tryd.prog 32 #[u9000_, .int .i64 a1] w fun e w' => e = .returned (.int .i64 r1) ∧ Kd.R Kd.string 9 w' w0.heap.size (fun k_ => (P0_ k_ ∨ w.heap.size ≤ k_)) u9000_ r2 ∧ Below w0.heap.size w0 w' ∧ Kept w w' (fun k_ => P0_ k_) := by
 have HO0 := aM (show Kd.R Kd.string 9 w w0.heap.size (fun k_ => (P0_ k_ ∨ w.heap.size ≤ k_)) u9000_ l0 from Kd.R_mono ho0 (fun k_ hk => (.inl hk)));have HK := aM (Kept.refl w (fun k_ => P0_ k_));have HW0 := aM hB.size;have HB := aM hB;clear hB;have H : (laws_markStringS.l0 k l0 a1 0) = some (r1, r2) := h;clear h;have H' := aM H;clear H
 go_enter Tryd.func32, Tryd.ntmps32
 go_wp2
 go_loopg [1, 5] k (fun kq v1 v5 w' => ∃ (x0_1 : List ByteArray) (x1_1 : Int) (x5_1 : Int), v1 = .int .i64 x1_1 ∧ v5 = .int .i64 x5_1 ∧ Aside0 (laws_markStringS.l0 kq x0_1 x1_1 x5_1 = some (r1, r2)) ∧ Aside0 (kq ≤ k) ∧ Aside0 (Kd.R Kd.string 9 w' w0.heap.size (fun k_ => (P0_ k_ ∨ w.heap.size ≤ k_)) u9000_ x0_1) ∧ Aside0 (Kept w w' (fun k_ => P0_ k_)) ∧ Aside0 (Below w0.heap.size w0 w'))
 case atStart => exact ⟨(l0), (a1), (0), (by first | rfl | (simp; done) | (simp [*]; done)), (by first | rfl | (simp; done) | (simp [*]; done)), H', ⟨Nat.le_refl _⟩, ⟨by (with_reducible repeat (first | apply Kd.R_alloc | apply Kd.R_drewN | apply Kd.R_drew)); exact HO0.o⟩, ⟨by repeat (first | (with_reducible first | exact HK.o | apply Kept.alloc | apply Kept.drewN | apply Kept.drew) | exact HK.o)⟩, ⟨bM HB.o⟩⟩
 case round =>
  clear H';obtain ⟨x0_1, x1_1, x5_1, rfl, rfl, HA, HK1, HO_0, HK, HB⟩ := hrel
  cases gk with
  | zero => exact absurd HA.o (by simp [laws_markStringS.l0])
  | succ k1 =>
   have H := HA.o;clear HA;simp only [laws_markStringS.l0] at H
   by_cases c3 : x5_1 < (x0_1.length : Int)
   ·rw [if_pos c3] at H;have c3b0 : decide (x5_1 < (x0_1.length : Int)) = true := decide_eq_true c3;clear c3;replace H := Option.bind_eq_some_iff.mp H;obtain ⟨t290, A40, H⟩ := H;replace H : (if 0 ≤ x5_1 then (laws_markStringS.l0 k1 (x0_1.set (x5_1 : Int).toNat t290) (wrap64 (x1_1 + 1)) (wrap64 (x5_1 + 1))) else (none)) = some (r1, r2) := H;have A4 := aM A40;clear A40
    by_cases c5 : 0 ≤ x5_1
    ·rw [if_pos c5] at H;have c5b0 : decide (0 ≤ x5_1) = true := decide_eq_true c5;clear c5;obtain ⟨y291, hy291⟩ : ∃ y_ : List ByteArray, y_ = (x0_1.set (x5_1 : Int).toNat t290) := ⟨_, rfl⟩
     replace H : (laws_markStringS.l0 k1 y291 (wrap64 (x1_1 + 1)) (wrap64 (x5_1 + 1))) = some (r1, r2) := by first | (rw [hy291]; with_reducible exact H) | (have H2_ := (Option.bind_some _ _).symm.trans H; rw [hy291]; with_reducible exact H2_) | (have H2_ := (Option.bind_some _ _).symm.trans H; with_reducible exact H2_) | with_reducible exact H | (rw [hy291]; exact H) | exact H
     have Ny291 := aM hy291;clear hy291;have H' := aM H;clear H;obtain ⟨Ao7, co7, eo7⟩ := Kd.R_slice HO_0.o;subst eo7
     go_wp2_with (first | ((with_reducible refine gate_callee (f := 39) rfl ?_); refine goesL_ (some 15) rfl rfl Tryd.func39 (by kernel_rfl) rfl #[.int .i64 x1_1] rfl (by (try simp only [zM]); first | done | rfl | (simp only [zL]; rfl)) ?_; (with_reducible refine (laws_markText.calls k1 x1_1 t290 _ A4.o).mono ?_); rintro e w8 ⟨rfl, hb⟩; refine ⟨_, rfl, ?_⟩; replace HO_0 := aM (Kd.R_below (rM HO_0.o) hb); replace HK := aM (Kept.below (S := (fun k_ => P0_ k_)) (by repeat (first | (with_reducible first | exact HK.o | apply Kept.alloc | apply Kept.drewN | apply Kept.drew) | exact HK.o)) hb); replace HB := aM (below_step (bM HB.o) hb); (try clear hb); have p6 : 0 ≤ (x5_1 : Int) := oD; have q6 : (x5_1 : Int) < ((x0_1.length : Int) : Int) := oD; obtain ⟨go6, co6, eo6, gb6, gl6, cl6, HG6⟩ := Kd.R_form HO_0.o (by omega); (first | cases eo6 | (injection eo6 with ea_ en_ ec_; (first | subst ea_ | (injection ea_ with ea_; subst ea_)); subst ec_; clear en_)); have GB6 := aM gb6; have GG6 := aM HG6; clear gb6 gl6 HG6; have HMgo6 := aM (show (P0_ go6 ∨ w.heap.size ≤ go6) from (HO_0.o.1 _ rfl)); obtain ⟨hx6_0, hf6_0⟩ := Kd.R_celln (⟨#[]⟩ : ByteArray) HO_0.o (x5_1 : Int) p6 q6; replace p6 := eq_true p6; replace q6 := eq_true q6; obtain ⟨hy9_, hz9_⟩ := Kd.R_celln (⟨#[]⟩ : ByteArray) HO_0.o (x5_1 : Int) oD oD; have HP9 := Kd.R_putg HO_0.o (x5_1 : Int) t290) | ((with_reducible refine gate_store (t := 9) (p := 16) rfl ?_); refine store_event (t := 9) (p := 16) (v := ?vo_w10) (w1 := (w8.setCell ⟨go6, (x5_1 : Int).toNat, none⟩ (.string t290))) ?hg ?ho ?hn ?hr ?_; (case ho => rfl); (case hg => rfl); (case hn => rfl); (case hr => first | (go_simp; done) | (go_simp; rfl)); intro w10 hw; have hg : w8.grownBy w10 (some go6) := (by rw [hw]; exact HP9.2); have hp_ : Kd.R Kd.string 9 w10 w0.heap.size (fun k_ => (P0_ k_ ∨ w.heap.size ≤ k_)) (.slice (some ⟨go6, 0, none⟩) x0_1.length co7) y291 := (by rw [hw, Ny291.o]; exact HP9.1); clear HP9; replace HB := aM ((by rw [hw]; exact bS (HB.o) GB6.o : Below w0.heap.size w0 w10)); replace HK := aM (Kept.of_grown (S := (fun k_ => P0_ k_)) hg (by repeat (first | (with_reducible first | exact HK.o | apply Kept.alloc | apply Kept.drewN | apply Kept.drew) | exact HK.o)) (fun k_ e_ => (HO_0.o.1 k_ e_))); replace HO_0 := aM (hp_); clear hg hw hp_))
     go_roundg k1
     case measure => have := HK1.o; omega
     case rel => exact ⟨(y291), (wrap64 (x1_1 + 1)), (wrap64 (x5_1 + 1)), (by first | rfl | (simp; done) | (simp [*]; done)), (by first | rfl | (simp; done) | (simp [*]; done)), H', ⟨by have := HK1.o; omega⟩, ⟨by (with_reducible repeat (first | apply Kd.R_alloc | apply Kd.R_drewN | apply Kd.R_drew)); exact HO_0.o⟩, ⟨by repeat (first | (with_reducible first | exact HK.o | apply Kept.alloc | apply Kept.drewN | apply Kept.drew) | exact HK.o)⟩, ⟨bM HB.o⟩⟩
    ·rw [if_neg c5] at H;exact absurd H (by simp)
   ·rw [if_neg c3] at H;have c3b0 : decide (x5_1 < (x0_1.length : Int)) = false := decide_eq_false c3;clear c3;simp only [Option.some.injEq, Prod.mk.injEq] at H;obtain ⟨rfl, rfl⟩ := H;obtain ⟨Ao11, co11, eo11⟩ := Kd.R_slice HO_0.o;subst eo11
    go_wp2
    go_ret
    exact ⟨by first | rfl | (simp [zE] <;> rfl) | (simp [*, zE] <;> rfl), by (with_reducible repeat (first | apply Kd.R_alloc | apply Kd.R_drewN | apply Kd.R_drew)); exact HO_0.o, bM HB.o, by repeat (first | (with_reducible first | exact HK.o | apply Kept.alloc | apply Kept.drewN | apply Kept.drew) | exact HK.o)⟩

def laws_markWal.f (k : Nat) (a0_0 : Int) (l0_1 : List ByteArray) (l0_2 : List ByteArray) (a0_3 : Int) (a1 : Int) : Option (Int × List ByteArray × List ByteArray) := (laws_markStringS.f k l0_1 a1).bind fun bt293 => ((laws_markStringS.f k l0_2 bt293.1).bind fun bt295 => (some (bt295.1, bt293.2, bt295.2)))
theorem laws_markWal.mono : ∀ a0 a1 a2 a3 a4 k, LeO (laws_markWal.f k a0 a1 a2 a3 a4) (laws_markWal.f (k + 1) a0 a1 a2 a3 a4) := by
 intro a0 a1 a2 a3 a4 k
 unfold laws_markWal.f
 repeat' first
   | (with_reducible exact laws_markStringS.mono _ _ _)
   | (with_reducible exact LeO.refl _)
   | (with_reducible exact LeO.none _)
   | (with_reducible refine LeO.ite ?_ ?_)
   | (with_reducible refine LeO.bind ?_ (fun _ => ?_))
   | exact laws_markStringS.mono _ _ _
   | exact LeO.none _
   | refine LeO.ite ?_ ?_
   | refine LeO.bind ?_ (fun _ => ?_)
set_option maxHeartbeats 8000000 in
set_option maxRecDepth 100000 in
theorem laws_markWal.calls (k : Nat) (a0_0 : Int) (P0_1_ : Nat → Prop) (u9000_ : Value) (l0_1 : List ByteArray) (P0_2_ : Nat → Prop) (u9001_ : Value) (l0_2 : List ByteArray) (a0_3 : Int) (a1 : Int) (r1 : Int) (r2 : List ByteArray) (r3 : List ByteArray) (w0 w : World) (hB : Below w0.heap.size w0 w) (ho0_1 : Kd.R Kd.string 9 w w0.heap.size P0_1_ u9000_ l0_1) (hp0_1_0_2 : ∀ k_, P0_1_ k_ → ¬ P0_2_ k_) (ho0_2 : Kd.R Kd.string 9 w w0.heap.size P0_2_ u9001_ l0_2) (hp0_2_0_1 : ∀ k_, P0_2_ k_ → ¬ P0_1_ k_) (h : laws_markWal.f k a0_0 l0_1 l0_2 a0_3 a1 = some (r1, r2, r3)) :
  Calls Tryd.prog 13 #[.agg #[.int .i64 a0_0, u9000_, u9001_, .int .i64 a0_3], .int .i64 a1] w fun e w' => e = .returned (.int .i64 r1) ∧ Kd.R Kd.string 9 w' w0.heap.size (fun k_ => ((P0_1_ k_ ∨ P0_2_ k_) ∨ w.heap.size ≤ k_)) u9000_ r2 ∧ Kd.R Kd.string 9 w' w0.heap.size (fun k_ => ((P0_1_ k_ ∨ P0_2_ k_) ∨ w.heap.size ≤ k_)) u9001_ r3 ∧ Below w0.heap.size w0 w' ∧ Kept w w' (fun k_ => P0_1_ k_ ∨ P0_2_ k_) := by
 have hu28 := Tryd.underlying28;have HO0_1 := aM (show Kd.R Kd.string 9 w w0.heap.size (fun k_ => ((P0_1_ k_ ∨ P0_2_ k_) ∨ w.heap.size ≤ k_) ∧ some k_ ≠ (u9001_ : Value).ownBlock) u9000_ l0_1 from Kd.R_mono ho0_1 (fun k_ hk => ⟨(.inl (.inl hk)), fun e_ => hp0_1_0_2 k_ hk (ho0_2.1 k_ e_.symm)⟩));have HO0_2 := aM (show Kd.R Kd.string 9 w w0.heap.size (fun k_ => ((P0_1_ k_ ∨ P0_2_ k_) ∨ w.heap.size ≤ k_) ∧ some k_ ≠ (u9000_ : Value).ownBlock) u9001_ l0_2 from Kd.R_mono ho0_2 (fun k_ hk => ⟨(.inl (.inr hk)), fun e_ => hp0_2_0_1 k_ hk (ho0_1.1 k_ e_.symm)⟩));have HK := aM (Kept.refl w (fun k_ => P0_1_ k_ ∨ P0_2_ k_));have HW0 := aM hB.size;have HB := aM hB;clear hB;have H : ((laws_markStringS.f k l0_1 a1).bind fun bt293 => ((laws_markStringS.f k l0_2 bt293.1).bind fun bt295 => (some (bt295.1, bt293.2, bt295.2)))) = some (r1, r2, r3) := h;clear h;replace H := Option.bind_eq_some_iff.mp H;obtain ⟨⟨t293, t294⟩, A30, H⟩ := H;replace H : ((laws_markStringS.f k l0_2 t293).bind fun bt295 => (some (bt295.1, t294, bt295.2))) = some (r1, r2, r3) := H;have A3 := aM A30;clear A30;replace H := Option.bind_eq_some_iff.mp H;obtain ⟨⟨t295, t296⟩, A40, H⟩ := H;replace H : (some (t295, t294, t296)) = some (r1, r2, r3) := H;have A4 := aM A40;clear A40;simp only [Option.some.injEq, Prod.mk.injEq] at H;obtain ⟨rfl, rfl, rfl⟩ := H;obtain ⟨Ao5, co5, eo5⟩ := Kd.R_slice HO0_1.o;subst eo5;obtain ⟨Ao6, co6, eo6⟩ := Kd.R_slice HO0_2.o;subst eo6
 go_enter Tryd.func13, Tryd.ntmps13
 go_wp2_with (first | ((with_reducible refine gate_dst (N := 2) rfl ?_); refine box_event ?hg (N := 2) ?hd (cs := #[.int .i64 a0_0, .slice Ao5 l0_1.length co5, .slice Ao6 l0_2.length co6, .int .i64 a0_3]) (t := 28) ?hr ?_; (case hd => rfl); (case hg => rfl); (case hr => first | (go_simp; done) | (go_simp; rfl)); intro gb292 hg w7 hbox hb; replace HO0_1 := aM (Kd.R_below (rM HO0_1.o) hb); replace HO0_2 := aM (Kd.R_below (rM HO0_2.o) hb); have BK292 := aM (hbox); have GW292 := aM ((by rw [hg]; exact (by first | exact HK.o.1 | exact (show Kept w _ (fun k_ => P0_1_ k_ ∨ P0_2_ k_) from by repeat (first | (with_reducible first | exact HK.o | apply Kept.alloc | apply Kept.drewN | apply Kept.drew) | exact HK.o)).1) : w.heap.size ≤ gb292)); replace HK := aM (Kept.below (S := (fun k_ => P0_1_ k_ ∨ P0_2_ k_)) (by repeat (first | (with_reducible first | exact HK.o | apply Kept.alloc | apply Kept.drewN | apply Kept.drew) | exact HK.o)) hb); have GE292 := aM ((by rw [hg]; exact (below_size (bM HB.o)) : w0.heap.size ≤ gb292)); replace HB := aM (below_step (bM HB.o) hb); clear hb hbox hg; have hcz8_0 := cL0 BK292.o; have hcz8_1 := cL1 BK292.o; have hcz8_2 := cL2 BK292.o; have hcz8_3 := cL3 BK292.o; have hfz8_0 := kF BK292.o 0; have hfz8_1 := kF BK292.o 1; have hfz8_2 := kF BK292.o 2; have hfz8_3 := kF BK292.o 3) | ((with_reducible refine gate_callee (f := 32) rfl ?_); refine goesL_ (some 8) rfl rfl Tryd.func32 (by kernel_rfl) rfl #[.slice Ao5 l0_1.length co5, .int .i64 a1] rfl (by (try simp only [zM]); first | done | rfl | (simp only [zL]; rfl)) ?_; (with_reducible refine (laws_markStringS.calls k (fun k_ => some k_ = (.slice Ao5 l0_1.length co5 : Value).ownBlock) (.slice Ao5 l0_1.length co5) l0_1 a1 t293 t294 w0 _ ?side1 ?side2 A3.o).mono ?_); (case side1 => with_reducible repeat (first | exact HB.o | apply bA | apply bN | apply bD | refine bS ?_ GE292.o)); (case side2 => exact Kd.R_tight rfl HO0_1.o); rintro e w9 ⟨rfl, hy0, hb, hkp⟩; refine ⟨_, rfl, ?_⟩; replace HO0_2 := aM (Kd.R_mono (ok' := fun k_ => ((P0_1_ k_ ∨ P0_2_ k_) ∨ w.heap.size ≤ k_) ∧ some k_ ≠ (.slice Ao5 l0_1.length co5 : Value).ownBlock) (Kd.R_keptB (HO0_2.o) hkp (fun k_ hk_ hs_ => (hk_.2) hs_)) (fun k_ hk_ => ⟨hk_.1.1, hk_.1.2⟩)); replace BK292 := aM (blk_kept (kM BK292.o) hkp (fun hs_ => (fun e_ => (Kd.R_ne HO0_1.o BK292.o (by decide)) e_) hs_)); replace HK := aM (Kept.then_ (S := (fun k_ => P0_1_ k_ ∨ P0_2_ k_)) (by repeat (first | (with_reducible first | exact HK.o | apply Kept.alloc | apply Kept.drewN | apply Kept.drew | refine Kept.setCell ?_ (.inr GW292.o) _) | exact HK.o)) hkp (fun k_ hs_ => (fun e_ => (HO0_1.o.1 k_ e_.symm).1) hs_)); replace HO0_1 := aM (Kd.R_reok rfl hy0 (fun k_ e_ => HO0_1.o.1 k_ e_)); replace HB := aM (hb); (try clear hb); (try clear hkp); (try clear hy0); have hcz10_0 := cL0 BK292.o; have hcz10_1 := cL1 BK292.o; have hcz10_2 := cL2 BK292.o; have hcz10_3 := cL3 BK292.o; have hfz10_0 := kF BK292.o 0; have hfz10_1 := kF BK292.o 1; have hfz10_2 := kF BK292.o 2; have hfz10_3 := kF BK292.o 3) | ((with_reducible refine gate_callee (f := 32) rfl ?_); refine goesL_ (some 12) rfl rfl Tryd.func32 (by kernel_rfl) rfl #[.slice Ao6 l0_2.length co6, .int .i64 t293] rfl (by (try simp only [zM]); first | done | rfl | (simp only [zL]; rfl)) ?_; (with_reducible refine (laws_markStringS.calls k (fun k_ => some k_ = (.slice Ao6 l0_2.length co6 : Value).ownBlock) (.slice Ao6 l0_2.length co6) l0_2 t293 t295 t296 w0 _ ?side1 ?side2 A4.o).mono ?_); (case side1 => with_reducible repeat (first | exact HB.o | apply bA | apply bN | apply bD | refine bS ?_ GE292.o)); (case side2 => exact Kd.R_tight rfl HO0_2.o); rintro e w11 ⟨rfl, hy0, hb, hkp⟩; refine ⟨_, rfl, ?_⟩; replace HO0_1 := aM (Kd.R_mono (ok' := fun k_ => ((P0_1_ k_ ∨ P0_2_ k_) ∨ w.heap.size ≤ k_) ∧ some k_ ≠ (.slice Ao6 l0_2.length co6 : Value).ownBlock) (Kd.R_keptB (HO0_1.o) hkp (fun k_ hk_ hs_ => (hk_.2) hs_)) (fun k_ hk_ => ⟨hk_.1.1, hk_.1.2⟩)); replace BK292 := aM (blk_kept (kM BK292.o) hkp (fun hs_ => (fun e_ => (Kd.R_ne HO0_2.o BK292.o (by decide)) e_) hs_)); replace HK := aM (Kept.then_ (S := (fun k_ => P0_1_ k_ ∨ P0_2_ k_)) (by repeat (first | (with_reducible first | exact HK.o | apply Kept.alloc | apply Kept.drewN | apply Kept.drew | refine Kept.setCell ?_ (.inr GW292.o) _) | exact HK.o)) hkp (fun k_ hs_ => (fun e_ => (HO0_2.o.1 k_ e_.symm).1) hs_)); replace HO0_2 := aM (Kd.R_reok rfl hy0 (fun k_ e_ => HO0_2.o.1 k_ e_)); replace HB := aM (hb); (try clear hb); (try clear hkp); (try clear hy0)))
 go_ret
 exact ⟨by first | rfl | (simp [zE] <;> rfl) | (simp [*, zE] <;> rfl), by (with_reducible repeat (first | apply Kd.R_alloc | apply Kd.R_drewN | apply Kd.R_drew)); exact Kd.R_mono HO0_1.o (fun _ hk => hk.1), by (with_reducible repeat (first | apply Kd.R_alloc | apply Kd.R_drewN | apply Kd.R_drew)); exact Kd.R_mono HO0_2.o (fun _ hk => hk.1), by with_reducible repeat (first | exact HB.o | apply bA | apply bN | apply bD | refine bS ?_ GE292.o), by repeat (first | (with_reducible first | exact HK.o | apply Kept.alloc | apply Kept.drewN | apply Kept.drew | refine Kept.setCell ?_ (.inr GW292.o) _) | exact HK.o)⟩

def laws_heldStringS.l0 : Nat → List ByteArray → Int → Int → Option (Int)
 | 0, _, _, _ => none
 | k + 1, x0, x1, x5 => if x5 < (x0.length : Int) then (if 0 ≤ x5 then ((laws_markText.f k x1).bind fun t298 => (if (rdOf ByteArray.empty x0 x5).toList = t298.toList then (laws_heldStringS.l0 k x0 (wrap64 (x1 + 1)) (wrap64 (x5 + 1))) else (some (-1)))) else (none)) else (some x1)
def laws_heldStringS.f (k : Nat) (l0 : List ByteArray) (a1 : Int) : Option (Int) := laws_heldStringS.l0 k l0 a1 0
theorem laws_heldStringS.mono_l : ∀ k, (∀ y0 y1 y2, LeO (laws_heldStringS.l0 k y0 y1 y2) (laws_heldStringS.l0 (k + 1) y0 y1 y2))
 | 0 => fun _ _ _ r h => by simp [laws_heldStringS.l0] at h
 | k + 1 => by
  have ih0 := laws_heldStringS.mono_l k
  ·intro y0 y1 y2
   unfold laws_heldStringS.l0
   repeat' first
   | (with_reducible exact ih0 _ _ _)
   | (with_reducible exact laws_markText.mono _ _)
   | (with_reducible exact LeO.refl _)
   | (with_reducible exact LeO.none _)
   | (with_reducible refine LeO.ite ?_ ?_)
   | (with_reducible refine LeO.bind ?_ (fun _ => ?_))
   | exact ih0 _ _ _
   | exact laws_markText.mono _ _
   | exact LeO.none _
   | refine LeO.ite ?_ ?_
   | refine LeO.bind ?_ (fun _ => ?_)
theorem laws_heldStringS.mono : ∀ a0 a1 k, LeO (laws_heldStringS.f k a0 a1) (laws_heldStringS.f (k + 1) a0 a1) := by
 intro a0 a1 k;have ih0 := laws_heldStringS.mono_l k
 unfold laws_heldStringS.f
 repeat' first
   | (with_reducible exact ih0 _ _ _)
   | (with_reducible exact laws_markText.mono _ _)
   | (with_reducible exact LeO.refl _)
   | (with_reducible exact LeO.none _)
   | (with_reducible refine LeO.ite ?_ ?_)
   | (with_reducible refine LeO.bind ?_ (fun _ => ?_))
   | exact ih0 _ _ _
   | exact laws_markText.mono _ _
   | exact LeO.none _
   | refine LeO.ite ?_ ?_
   | refine LeO.bind ?_ (fun _ => ?_)
set_option maxHeartbeats 8000000 in
set_option maxRecDepth 100000 in
theorem laws_heldStringS.calls (k : Nat) (A0 : Option Addr) (c0 : Nat) (l0 : List ByteArray) (a1 : Int) (r : Int) (w : World) (hr0 : Kd.C Kd.string w A0 l0.length l0) (hc0 : l0.length ≤ c0) (h : laws_heldStringS.f k l0 a1 = some r) :
  Calls Tryd.prog 33 #[.slice A0 l0.length c0, .int .i64 a1] w fun e w' => e = .returned (.int .i64 r) ∧ Below w.heap.size w w' := by
 have HR0 := aM hr0;have HC0 := aM hc0;clear hr0 hc0;have HB := aM (Below.refl w.heap.size w);have H : (laws_heldStringS.l0 k l0 a1 0) = some r := h;clear h;have H' := aM H;clear H
 go_enter Tryd.func33, Tryd.ntmps33
 go_wp2
 go_loopg [1, 5] k (fun kq v1 v5 w' => ∃ (x1_1 : Int) (x5_1 : Int), v1 = .int .i64 x1_1 ∧ v5 = .int .i64 x5_1 ∧ Aside0 (laws_heldStringS.l0 kq l0 x1_1 x5_1 = some r) ∧ Aside0 (kq ≤ k) ∧ Aside0 (Below w.heap.size w w'))
 case atStart => exact ⟨(a1), (0), (by first | rfl | (simp; done) | (simp [*]; done)), (by first | rfl | (simp; done) | (simp [*]; done)), H', ⟨Nat.le_refl _⟩, ⟨bM HB.o⟩⟩
 case round =>
  clear H';obtain ⟨x1_1, x5_1, rfl, rfl, HA, HK1, HB⟩ := hrel
  cases gk with
  | zero => exact absurd HA.o (by simp [laws_heldStringS.l0])
  | succ k1 =>
   have H := HA.o;clear HA;simp only [laws_heldStringS.l0] at H
   by_cases c3 : x5_1 < (l0.length : Int)
   ·rw [if_pos c3] at H;have c3b0 : decide (x5_1 < (l0.length : Int)) = true := decide_eq_true c3;clear c3
    by_cases c4 : 0 ≤ x5_1
    ·rw [if_pos c4] at H;have c4b0 : decide (0 ≤ x5_1) = true := decide_eq_true c4;clear c4;replace H := Option.bind_eq_some_iff.mp H;obtain ⟨t298, A50, H⟩ := H;replace H : (if (rdOf ByteArray.empty l0 x5_1).toList = t298.toList then (laws_heldStringS.l0 k1 l0 (wrap64 (x1_1 + 1)) (wrap64 (x5_1 + 1))) else (some (-1))) = some r := H;have A5 := aM A50;clear A50
     by_cases c6 : (rdOf ByteArray.empty l0 x5_1).toList = t298.toList
     ·rw [if_pos c6] at H;have c6b0 : ((rdOf ByteArray.empty l0 x5_1).toList == t298.toList) = true := beq_iff_eq.mpr c6;have c6b1 : ((rdOf ByteArray.empty l0 x5_1).toList != t298.toList) = false := bne_eq_false_iff_eq.mpr c6;clear c6;have H' := aM H;clear H
      try go_wp2
      have n0_ := aM (bD HB.o);clear HB;have HB := n0_;clear n0_;have p297 : 0 ≤ (x5_1 : Int) := oD;have q297 : x5_1 < (l0.length : Int) := oD;obtain ⟨ad297, e297, hx297_0⟩ := Kd.at_string HR0.o x5_1 p297 q297;have hw297_0 := hx297_0
      cases e297
      replace hx297_0 := (HB.o.cell (lC w _ hx297_0)).trans hx297_0;replace p297 := eq_true p297;replace q297 := eq_true q297;refine start_ (n := 7) (S := fun w' => w'.cell? (ad297.add (x5_1).toNat) = some (.string (rdOf ByteArray.empty l0 x5_1))) (ds := []) (fT 0 7) (by kernel_rfl) rfl rfl (((HB.o.cell (lC w _ hw297_0)).trans hw297_0)) (fun hHeld => ?_);generalize wr.drew = w7 at HB hx297_0 hHeld ⊢;refine pB 0 (some 12) ?_ (fT 1 7) rfl rfl (by kernel_rfl) (yI (by rfl) ?_) ?_ ?_ ?_;rotate_left;(·intro w';go_simp;with_reducible rfl);rotate_left;(·simp only [zA];rfl);refine pB 1 (some 13) ?_ (fT 2 7) rfl rfl (by kernel_rfl) (yI (by rfl) ?_) ?_ ?_ ?_;rotate_left;(·intro w';go_simp;with_reducible rfl);rotate_left;(·simp only [zA];rfl);refine pB 2 (some 14) ?_ (fT 3 7) rfl rfl (by kernel_rfl) (yI (by rfl) ?_) ?_ ?_ ?_;rotate_left;(·intro w';go_simp;with_reducible rfl);rotate_left;(·simp only [zA];rfl);refine pB 4 (some 16) ?_ #[T,T,T,F,T,F,F] rfl rfl (by kernel_rfl) (yI (by rfl) ?_) ?_ ?_ ?_;rotate_left;(·intro w';go_simp;with_reducible rfl);rotate_left;(·simp only [zA];rfl);refine tB 3 (some 15) ?_ (fT 5 7) rfl rfl (by kernel_rfl) (Or.inl ⟨by rfl, ?_⟩) hHeld ?_ ?_ ?_;rotate_left
      ·intro w' s0
       go_simp
       with_reducible rfl
      rotate_left;(·simp only [zA];rfl);refine one_ (i := 5) (N := some 17) (fT 6 7) rfl rfl (by kernel_rfl) (by decide) (fun K hK => ?_);refine goes_ Tryd.func39 (by kernel_rfl) rfl #[.int .i64 x1_1] (by rfl) rfl rfl (by (try simp only [zM]); first | done | rfl | (simp only [zL]; rfl)) ?_
      with_reducible refine (laws_markText.calls k1 x1_1 t298 _ A5.o).mono ?_
      rintro e w8 ⟨rfl, hb⟩
      refine ⟨_, rfl, ?_⟩;have n0_ := aM (below_step (bM HB.o) hb);clear HB;have HB := n0_;clear n0_
      (try clear hb)
      (try clear hb2)
      (try clear hk)
      (try clear hi)
      refine hK.out _ _ (((HB.o.cell (lC w _ hw297_0)).trans hw297_0)) (fun hHeld => ?_);clear hK K;refine norm_ (a' := ?_) ?_ ?_;rotate_left
      ·show Act.put _ (some 17) _ = _
       simp only [zA]
       rfl
      refine pB 6 (some 18) ?_ (fT 7 7) rfl rfl (by kernel_rfl) (yI (by rfl) ?_) ?_ ?_ ?_;rotate_left;(·intro w';go_simp;with_reducible rfl);rotate_left;(·simp only [zA];rfl);refine done_ (by kernel_rfl) ?_
      try go_wp2
      go_roundg k1
      case measure => have := HK1.o; omega
      case rel => exact ⟨(wrap64 (x1_1 + 1)), (wrap64 (x5_1 + 1)), (by first | rfl | (simp; done) | (simp [*]; done)), (by first | rfl | (simp; done) | (simp [*]; done)), H', ⟨by have := HK1.o; omega⟩, ⟨bM HB.o⟩⟩
     ·rw [if_neg c6] at H;have c6b0 : ((rdOf ByteArray.empty l0 x5_1).toList == t298.toList) = false := beq_eq_false_iff_ne.mpr c6;have c6b1 : ((rdOf ByteArray.empty l0 x5_1).toList != t298.toList) = true := bne_iff_ne.mpr c6;obtain rfl := Option.some.inj H
      try go_wp2
      have n0_ := aM (bD HB.o);clear HB;have HB := n0_;clear n0_;have p297 : 0 ≤ (x5_1 : Int) := oD;have q297 : x5_1 < (l0.length : Int) := oD;obtain ⟨ad297, e297, hx297_0⟩ := Kd.at_string HR0.o x5_1 p297 q297;have hw297_0 := hx297_0
      cases e297
      replace hx297_0 := (HB.o.cell (lC w _ hx297_0)).trans hx297_0;replace p297 := eq_true p297;replace q297 := eq_true q297;refine start_ (n := 7) (S := fun w' => w'.cell? (ad297.add (x5_1).toNat) = some (.string (rdOf ByteArray.empty l0 x5_1))) (ds := []) (fT 0 7) (by kernel_rfl) rfl rfl (((HB.o.cell (lC w _ hw297_0)).trans hw297_0)) (fun hHeld => ?_);generalize wr.drew = w9 at HB hx297_0 hHeld ⊢;refine pB 0 (some 12) ?_ (fT 1 7) rfl rfl (by kernel_rfl) (yI (by rfl) ?_) ?_ ?_ ?_;rotate_left;(·intro w';go_simp;with_reducible rfl);rotate_left;(·simp only [zA];rfl);refine pB 1 (some 13) ?_ (fT 2 7) rfl rfl (by kernel_rfl) (yI (by rfl) ?_) ?_ ?_ ?_;rotate_left;(·intro w';go_simp;with_reducible rfl);rotate_left;(·simp only [zA];rfl);refine pB 2 (some 14) ?_ (fT 3 7) rfl rfl (by kernel_rfl) (yI (by rfl) ?_) ?_ ?_ ?_;rotate_left;(·intro w';go_simp;with_reducible rfl);rotate_left;(·simp only [zA];rfl);refine pB 4 (some 16) ?_ #[T,T,T,F,T,F,F] rfl rfl (by kernel_rfl) (yI (by rfl) ?_) ?_ ?_ ?_;rotate_left;(·intro w';go_simp;with_reducible rfl);rotate_left;(·simp only [zA];rfl);refine tB 3 (some 15) ?_ (fT 5 7) rfl rfl (by kernel_rfl) (Or.inl ⟨by rfl, ?_⟩) hHeld ?_ ?_ ?_;rotate_left
      ·intro w' s0
       go_simp
       with_reducible rfl
      rotate_left;(·simp only [zA];rfl);refine one_ (i := 5) (N := some 17) (fT 6 7) rfl rfl (by kernel_rfl) (by decide) (fun K hK => ?_);refine goes_ Tryd.func39 (by kernel_rfl) rfl #[.int .i64 x1_1] (by rfl) rfl rfl (by (try simp only [zM]); first | done | rfl | (simp only [zL]; rfl)) ?_
      with_reducible refine (laws_markText.calls k1 x1_1 t298 _ A5.o).mono ?_
      rintro e w10 ⟨rfl, hb⟩
      refine ⟨_, rfl, ?_⟩;have n0_ := aM (below_step (bM HB.o) hb);clear HB;have HB := n0_;clear n0_
      (try clear hb)
      (try clear hb2)
      (try clear hk)
      (try clear hi)
      refine hK.out _ _ (((HB.o.cell (lC w _ hw297_0)).trans hw297_0)) (fun hHeld => ?_);clear hK K;refine norm_ (a' := ?_) ?_ ?_;rotate_left
      ·show Act.put _ (some 17) _ = _
       simp only [zA]
       rfl
      refine pB 6 (some 18) ?_ (fT 7 7) rfl rfl (by kernel_rfl) (yI (by rfl) ?_) ?_ ?_ ?_;rotate_left;(·intro w';go_simp;with_reducible rfl);rotate_left;(·simp only [zA];rfl);refine done_ (by kernel_rfl) ?_
      try go_wp2
      go_ret
      exact ⟨by first | rfl | (simp [zE] <;> rfl) | (simp [*, zE] <;> rfl), bM HB.o⟩
    ·rw [if_neg c4] at H;exact absurd H (by simp)
   ·rw [if_neg c3] at H;have c3b0 : decide (x5_1 < (l0.length : Int)) = false := decide_eq_false c3;clear c3;obtain rfl := Option.some.inj H
    go_wp2
    go_ret
    exact ⟨by first | rfl | (simp [zE] <;> rfl) | (simp [*, zE] <;> rfl), bM HB.o⟩

def laws_heldWal.f (k : Nat) (a0_0 : Int) (l0_1 : List ByteArray) (l0_2 : List ByteArray) (a0_3 : Int) (a1 : Int) : Option (Int) := (laws_heldStringS.f k l0_1 a1).bind fun t300 => (if t300 < 0 then (some (-1)) else ((laws_heldStringS.f k l0_2 t300).bind fun t301 => (if t301 < 0 then (some (-1)) else (some t301))))
theorem laws_heldWal.mono : ∀ a0 a1 a2 a3 a4 k, LeO (laws_heldWal.f k a0 a1 a2 a3 a4) (laws_heldWal.f (k + 1) a0 a1 a2 a3 a4) := by
 intro a0 a1 a2 a3 a4 k
 unfold laws_heldWal.f
 repeat' first
   | (with_reducible exact laws_heldStringS.mono _ _ _)
   | (with_reducible exact LeO.refl _)
   | (with_reducible exact LeO.none _)
   | (with_reducible refine LeO.ite ?_ ?_)
   | (with_reducible refine LeO.bind ?_ (fun _ => ?_))
   | exact laws_heldStringS.mono _ _ _
   | exact LeO.none _
   | refine LeO.ite ?_ ?_
   | refine LeO.bind ?_ (fun _ => ?_)
set_option maxHeartbeats 8000000 in
set_option maxRecDepth 100000 in
theorem laws_heldWal.calls (k : Nat) (a0_0 : Int) (A0_1 : Option Addr) (c0_1 : Nat) (l0_1 : List ByteArray) (A0_2 : Option Addr) (c0_2 : Nat) (l0_2 : List ByteArray) (a0_3 : Int) (a1 : Int) (r : Int) (w : World) (hr0_1 : Kd.C Kd.string w A0_1 l0_1.length l0_1) (hc0_1 : l0_1.length ≤ c0_1) (hr0_2 : Kd.C Kd.string w A0_2 l0_2.length l0_2) (hc0_2 : l0_2.length ≤ c0_2) (h : laws_heldWal.f k a0_0 l0_1 l0_2 a0_3 a1 = some r) :
  Calls Tryd.prog 14 #[.agg #[.int .i64 a0_0, .slice A0_1 l0_1.length c0_1, .slice A0_2 l0_2.length c0_2, .int .i64 a0_3], .int .i64 a1] w fun e w' => e = .returned (.int .i64 r) ∧ Below w.heap.size w w' := by
 have hu28 := Tryd.underlying28;have HR0_1 := aM hr0_1;have HC0_1 := aM hc0_1;clear hr0_1 hc0_1;have HR0_2 := aM hr0_2;have HC0_2 := aM hc0_2;clear hr0_2 hc0_2;have HB := aM (Below.refl w.heap.size w);have H : ((laws_heldStringS.f k l0_1 a1).bind fun t300 => (if t300 < 0 then (some (-1)) else ((laws_heldStringS.f k l0_2 t300).bind fun t301 => (if t301 < 0 then (some (-1)) else (some t301))))) = some r := h;clear h;replace H := Option.bind_eq_some_iff.mp H;obtain ⟨t300, A30, H⟩ := H;replace H : (if t300 < 0 then (some (-1)) else ((laws_heldStringS.f k l0_2 t300).bind fun t301 => (if t301 < 0 then (some (-1)) else (some t301)))) = some r := H;have A3 := aM A30;clear A30
 by_cases c4 : t300 < 0
 ·rw [if_pos c4] at H;have c4b0 : decide (t300 < 0) = true := decide_eq_true c4;clear c4;obtain rfl := Option.some.inj H
  go_enter Tryd.func14, Tryd.ntmps14
  go_wp2_with (first | ((with_reducible refine gate_dst (N := 2) rfl ?_); refine box_event ?hg (N := 2) ?hd (cs := #[.int .i64 a0_0, .slice A0_1 l0_1.length c0_1, .slice A0_2 l0_2.length c0_2, .int .i64 a0_3]) (t := 28) ?hr ?_; (case hd => rfl); (case hg => rfl); (case hr => first | (go_simp; done) | (go_simp; rfl)); intro gb299 hg w5 hbox hb; have BK299 := aM (hbox); have GW299 := aM ((by rw [hg]; exact (below_size (bM HB.o)) : w.heap.size ≤ gb299)); have GE299 := aM ((by rw [hg]; exact (below_size (bM HB.o)) : w.heap.size ≤ gb299)); replace HB := aM (below_step (bM HB.o) hb); clear hb hbox hg; have hcz6_0 := cL0 BK299.o; have hcz6_1 := cL1 BK299.o; have hcz6_2 := cL2 BK299.o; have hcz6_3 := cL3 BK299.o; have hfz6_0 := kF BK299.o 0; have hfz6_1 := kF BK299.o 1; have hfz6_2 := kF BK299.o 2; have hfz6_3 := kF BK299.o 3) | ((with_reducible refine gate_callee (f := 33) rfl ?_); refine goesL_ (some 8) rfl rfl Tryd.func33 (by kernel_rfl) rfl #[.slice A0_1 l0_1.length c0_1, .int .i64 a1] rfl (by (try simp only [zM]); first | done | rfl | (simp only [zL]; rfl)) ?_; (with_reducible refine (laws_heldStringS.calls k _ _ l0_1 a1 t300 _ ?side1 ?side2 A3.o).mono ?_); (case side1 => exact Kd.C_below HR0_1.o (bM HB.o)); (case side2 => exact HC0_1.o); rintro e w7 ⟨rfl, hb⟩; refine ⟨_, rfl, ?_⟩; replace BK299 := aM (blk_below (kM BK299.o) hb); replace HB := aM (below_step (by with_reducible repeat (first | exact HB.o | apply bA | apply bN | apply bD | refine bS ?_ GE299.o)) hb); (try clear hb); skip))
  go_ret
  exact ⟨by first | rfl | (simp [zE] <;> rfl) | (simp [*, zE] <;> rfl), by with_reducible repeat (first | exact HB.o | apply bA | apply bN | apply bD | refine bS ?_ GE299.o)⟩
 ·rw [if_neg c4] at H;have c4b0 : decide (t300 < 0) = false := decide_eq_false c4;clear c4;replace H := Option.bind_eq_some_iff.mp H;obtain ⟨t301, A80, H⟩ := H;replace H : (if t301 < 0 then (some (-1)) else (some t301)) = some r := H;have A8 := aM A80;clear A80
  by_cases c9 : t301 < 0
  ·rw [if_pos c9] at H;have c9b0 : decide (t301 < 0) = true := decide_eq_true c9;clear c9;obtain rfl := Option.some.inj H
   go_enter Tryd.func14, Tryd.ntmps14
   go_wp2_with (first | ((with_reducible refine gate_dst (N := 2) rfl ?_); refine box_event ?hg (N := 2) ?hd (cs := #[.int .i64 a0_0, .slice A0_1 l0_1.length c0_1, .slice A0_2 l0_2.length c0_2, .int .i64 a0_3]) (t := 28) ?hr ?_; (case hd => rfl); (case hg => rfl); (case hr => first | (go_simp; done) | (go_simp; rfl)); intro gb299 hg w10 hbox hb; have BK299 := aM (hbox); have GW299 := aM ((by rw [hg]; exact (below_size (bM HB.o)) : w.heap.size ≤ gb299)); have GE299 := aM ((by rw [hg]; exact (below_size (bM HB.o)) : w.heap.size ≤ gb299)); replace HB := aM (below_step (bM HB.o) hb); clear hb hbox hg; have hcz11_0 := cL0 BK299.o; have hcz11_1 := cL1 BK299.o; have hcz11_2 := cL2 BK299.o; have hcz11_3 := cL3 BK299.o; have hfz11_0 := kF BK299.o 0; have hfz11_1 := kF BK299.o 1; have hfz11_2 := kF BK299.o 2; have hfz11_3 := kF BK299.o 3) | ((with_reducible refine gate_callee (f := 33) rfl ?_); refine goesL_ (some 8) rfl rfl Tryd.func33 (by kernel_rfl) rfl #[.slice A0_1 l0_1.length c0_1, .int .i64 a1] rfl (by (try simp only [zM]); first | done | rfl | (simp only [zL]; rfl)) ?_; (with_reducible refine (laws_heldStringS.calls k _ _ l0_1 a1 t300 _ ?side1 ?side2 A3.o).mono ?_); (case side1 => exact Kd.C_below HR0_1.o (bM HB.o)); (case side2 => exact HC0_1.o); rintro e w12 ⟨rfl, hb⟩; refine ⟨_, rfl, ?_⟩; replace BK299 := aM (blk_below (kM BK299.o) hb); replace HB := aM (below_step (by with_reducible repeat (first | exact HB.o | apply bA | apply bN | apply bD | refine bS ?_ GE299.o)) hb); (try clear hb); have hcz13_0 := cL0 BK299.o; have hcz13_1 := cL1 BK299.o; have hcz13_2 := cL2 BK299.o; have hcz13_3 := cL3 BK299.o; have hfz13_0 := kF BK299.o 0; have hfz13_1 := kF BK299.o 1; have hfz13_2 := kF BK299.o 2; have hfz13_3 := kF BK299.o 3) | ((with_reducible refine gate_callee (f := 33) rfl ?_); refine goesL_ (some 14) rfl rfl Tryd.func33 (by kernel_rfl) rfl #[.slice A0_2 l0_2.length c0_2, .int .i64 t300] rfl (by (try simp only [zM]); first | done | rfl | (simp only [zL]; rfl)) ?_; (with_reducible refine (laws_heldStringS.calls k _ _ l0_2 t300 t301 _ ?side1 ?side2 A8.o).mono ?_); (case side1 => exact Kd.C_below HR0_2.o (bM HB.o)); (case side2 => exact HC0_2.o); rintro e w14 ⟨rfl, hb⟩; refine ⟨_, rfl, ?_⟩; replace BK299 := aM (blk_below (kM BK299.o) hb); replace HB := aM (below_step (by with_reducible repeat (first | exact HB.o | apply bA | apply bN | apply bD | refine bS ?_ GE299.o)) hb); (try clear hb); skip))
   go_ret
   exact ⟨by first | rfl | (simp [zE] <;> rfl) | (simp [*, zE] <;> rfl), by with_reducible repeat (first | exact HB.o | apply bA | apply bN | apply bD | refine bS ?_ GE299.o)⟩
  ·rw [if_neg c9] at H;have c9b0 : decide (t301 < 0) = false := decide_eq_false c9;clear c9;obtain rfl := Option.some.inj H
   go_enter Tryd.func14, Tryd.ntmps14
   go_wp2_with (first | ((with_reducible refine gate_dst (N := 2) rfl ?_); refine box_event ?hg (N := 2) ?hd (cs := #[.int .i64 a0_0, .slice A0_1 l0_1.length c0_1, .slice A0_2 l0_2.length c0_2, .int .i64 a0_3]) (t := 28) ?hr ?_; (case hd => rfl); (case hg => rfl); (case hr => first | (go_simp; done) | (go_simp; rfl)); intro gb299 hg w15 hbox hb; have BK299 := aM (hbox); have GW299 := aM ((by rw [hg]; exact (below_size (bM HB.o)) : w.heap.size ≤ gb299)); have GE299 := aM ((by rw [hg]; exact (below_size (bM HB.o)) : w.heap.size ≤ gb299)); replace HB := aM (below_step (bM HB.o) hb); clear hb hbox hg; have hcz16_0 := cL0 BK299.o; have hcz16_1 := cL1 BK299.o; have hcz16_2 := cL2 BK299.o; have hcz16_3 := cL3 BK299.o; have hfz16_0 := kF BK299.o 0; have hfz16_1 := kF BK299.o 1; have hfz16_2 := kF BK299.o 2; have hfz16_3 := kF BK299.o 3) | ((with_reducible refine gate_callee (f := 33) rfl ?_); refine goesL_ (some 8) rfl rfl Tryd.func33 (by kernel_rfl) rfl #[.slice A0_1 l0_1.length c0_1, .int .i64 a1] rfl (by (try simp only [zM]); first | done | rfl | (simp only [zL]; rfl)) ?_; (with_reducible refine (laws_heldStringS.calls k _ _ l0_1 a1 t300 _ ?side1 ?side2 A3.o).mono ?_); (case side1 => exact Kd.C_below HR0_1.o (bM HB.o)); (case side2 => exact HC0_1.o); rintro e w17 ⟨rfl, hb⟩; refine ⟨_, rfl, ?_⟩; replace BK299 := aM (blk_below (kM BK299.o) hb); replace HB := aM (below_step (by with_reducible repeat (first | exact HB.o | apply bA | apply bN | apply bD | refine bS ?_ GE299.o)) hb); (try clear hb); have hcz18_0 := cL0 BK299.o; have hcz18_1 := cL1 BK299.o; have hcz18_2 := cL2 BK299.o; have hcz18_3 := cL3 BK299.o; have hfz18_0 := kF BK299.o 0; have hfz18_1 := kF BK299.o 1; have hfz18_2 := kF BK299.o 2; have hfz18_3 := kF BK299.o 3) | ((with_reducible refine gate_callee (f := 33) rfl ?_); refine goesL_ (some 14) rfl rfl Tryd.func33 (by kernel_rfl) rfl #[.slice A0_2 l0_2.length c0_2, .int .i64 t300] rfl (by (try simp only [zM]); first | done | rfl | (simp only [zL]; rfl)) ?_; (with_reducible refine (laws_heldStringS.calls k _ _ l0_2 t300 t301 _ ?side1 ?side2 A8.o).mono ?_); (case side1 => exact Kd.C_below HR0_2.o (bM HB.o)); (case side2 => exact HC0_2.o); rintro e w19 ⟨rfl, hb⟩; refine ⟨_, rfl, ?_⟩; replace BK299 := aM (blk_below (kM BK299.o) hb); replace HB := aM (below_step (by with_reducible repeat (first | exact HB.o | apply bA | apply bN | apply bD | refine bS ?_ GE299.o)) hb); (try clear hb); skip))
   go_ret
   exact ⟨by first | rfl | (simp [zE] <;> rfl) | (simp [*, zE] <;> rfl), by with_reducible repeat (first | exact HB.o | apply bA | apply bN | apply bD | refine bS ?_ GE299.o)⟩

end Go.Proofs.YtpdhfoegbannkaaDoor.PFnExactWalRead
