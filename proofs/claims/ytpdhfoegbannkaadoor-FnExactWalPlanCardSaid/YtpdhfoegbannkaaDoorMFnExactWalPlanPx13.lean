import Derived.Test.YtpdhfoegbannkaaDoorMFnExactWalPlanPx0
namespace Go.Proofs.YtpdhfoegbannkaaDoor.PFnExactWalPlan
open Go.RowKit Go.Proofs.YtpdhfoegbannkaaDoorW.PrintWords Go.Proofs.YtpdhfoegbannkaaDoorW.PrintLast Go.Proofs.YtpdhfoegbannkaaDoorW.PrintMore
attribute [local go_sem] max2_int min2_int max_two min_two max_three min_three max_four min_four
set_option linter.unusedVariables false
set_option linter.unusedSimpArgs false
def impl_isText.p (t : ByteArray) : Bool := decide ((t.size : Int) > 65536)
def impl_isText.f (l0 : List ByteArray) : Option (Bool) := some (!(l0.any impl_isText.p))
set_option maxHeartbeats 1000000 in
theorem impl_isText.lit (s : ByteArray) (w : World) : Calls Tryd.prog 65 #[.string s] w fun e w' => e = .returned (.bool (impl_isText.p s)) ∧ Drawn0 w w' := by
 unfold impl_isText.p
 go_enter Tryd.func65, Tryd.ntmps65
 go_wp2
 go_ret
 exact ⟨by first | rfl | (simp; done) | (simp [*]; done), by repeat (first | exact Drawn0.refl _ | apply Drawn0.step)⟩
theorem impl_isText.any_at (l : List ByteArray) (i : Nat) (h : i < l.length) (hp : impl_isText.p (rdOf ByteArray.empty l (i : Int)) = true) : l.any impl_isText.p = true := by
 rw [List.any_eq_true];refine ⟨l[i], List.getElem_mem h, ?_⟩
 unfold rdOf at hp
 rw [Int.toNat_natCast, List.getD_eq_getElem?_getD, List.getElem?_eq_getElem h] at hp;exact hp
theorem impl_isText.any_none (l : List ByteArray) (h : ∀ j : Nat, j < l.length → impl_isText.p (rdOf ByteArray.empty l (j : Int)) = false) : l.any impl_isText.p = false := by
 rw [Bool.eq_false_iff];intro ha;rw [List.any_eq_true] at ha;obtain ⟨x, hx, hp⟩ := ha;obtain ⟨i, hi, rfl⟩ := List.mem_iff_getElem.1 hx;have := h i hi
 unfold rdOf at this
 rw [Int.toNat_natCast, List.getD_eq_getElem?_getD, List.getElem?_eq_getElem hi] at this;simp only [Option.getD_some] at this;rw [hp] at this;exact Bool.noConfusion this
def impl_isText.Idx (l : List ByteArray) (e : Ending) : Prop := ∃ i : Int, e = .returned (.int .i64 i) ∧ decide (0 ≤ i) = l.any impl_isText.p
set_option maxHeartbeats 2000000 in
set_option maxRecDepth 100000 in
theorem impl_isText.idx (A0 : Option Addr) (c0 : Nat) (l0 : List ByteArray) (w : World) (hr0 : Kd.C Kd.string w A0 l0.length l0) (hc0 : l0.length ≤ c0) :
  Calls Tryd.prog 83 #[.slice A0 l0.length c0, .func (.func 65) #[] #[]] w fun e w' => impl_isText.Idx l0 e ∧ Drawn0 w w' := by
 have hm : l0.length ≤ 9223372036854775807 := hr0.2.1;have HR0 := aM hr0;have HC0 := aM hc0;clear hr0 hc0
 go_enter Tryd.func83, Tryd.ntmps83
 go_wp2
 go_loopw [8] (fun v8 w' => ∃ x : Nat, x ≤ l0.length ∧ v8 = .int .i64 x ∧ Aside0 (∀ j : Nat, j < x → impl_isText.p (rdOf ByteArray.empty l0 (j : Int)) = false) ∧ Drawn0 w w') (fun v8 _ => l0.length - (intOf v8).toNat)
 case atStart => exact ⟨0, Nat.zero_le _, rfl, ⟨fun j hj => absurd hj (by omega)⟩, Drawn0.refl _⟩
 case round =>
  obtain ⟨x, hx, rfl, HA, ⟨m1, rfl⟩⟩ := hrel
  by_cases c3 : x < l0.length
  ·have p1 : (0 : Int) ≤ (x : Int) := by omega
   have q1 : (x : Int) < (l0.length : Int) := by omega
   obtain ⟨ad, e1, hx0⟩ := Kd.at_string HR0.o (x : Int) p1 q1
   cases e1
   rw [Int.toNat_natCast] at hx0
   cases hb : impl_isText.p (rdOf ByteArray.empty l0 (x : Int))
   ·have HP := aM hb;clear hb
    go_wp2_with (go_at_call 65; refine (impl_isText.lit _ _).mono ?_; rw [HP.o]; rintro e w' ⟨rfl, ⟨nd, rfl⟩⟩)
    go_roundw
    case rel => exact ⟨x + 1, by omega, by go_num, ⟨fun j hj => by
     rcases Nat.lt_or_ge j x with h | h
     ·exact HA.o j h
     ·have : j = x := by omega
      subst this
      exact HP.o⟩, by repeat (first | exact Drawn0.refl _ | apply Drawn0.step)⟩
    case measure => simp [intOf]; omega
   ·have HP := aM hb;clear hb
    go_wp2_with (go_at_call 65; refine (impl_isText.lit _ _).mono ?_; rw [HP.o]; rintro e w' ⟨rfl, ⟨nd, rfl⟩⟩)
    go_ret
    exact ⟨⟨_, rfl, by rw [impl_isText.any_at l0 x c3 HP.o]; simp⟩, by repeat (first | exact Drawn0.refl _ | apply Drawn0.step)⟩
  ·have hxe : l0.length ≤ x := by omega
   go_wp2
   go_ret
   exact ⟨⟨_, rfl, by rw [impl_isText.any_none l0 (fun j hj => HA.o j (by omega))]; rfl⟩, by repeat (first | exact Drawn0.refl _ | apply Drawn0.step)⟩
set_option maxHeartbeats 1000000 in
theorem impl_isText.has (A0 : Option Addr) (c0 : Nat) (l0 : List ByteArray) (w : World) (hr0 : Kd.C Kd.string w A0 l0.length l0) (hc0 : l0.length ≤ c0) :
  Calls Tryd.prog 64 #[.slice A0 l0.length c0, .func (.func 65) #[] #[]] w fun e w' => e = .returned (.bool (l0.any impl_isText.p)) ∧ Drawn0 w w' := by
 have HI := aM (impl_isText.idx A0 c0 l0 w hr0 hc0);clear hr0 hc0
 go_enter Tryd.func64, Tryd.ntmps64
 go_wp2_with (go_at_call 83; refine HI.o.mono ?_; rintro e w' ⟨⟨i, rfl, hi⟩, ⟨nd, rfl⟩⟩; have HJ := aM hi; clear hi)
 go_ret
 exact ⟨by rw [← HJ.o]; rfl, by repeat (first | exact Drawn0.refl _ | apply Drawn0.step)⟩
set_option maxHeartbeats 1000000 in
theorem impl_isText.calls (A0 : Option Addr) (c0 : Nat) (l0 : List ByteArray) (r : Bool) (w : World) (hr0 : Kd.C Kd.string w A0 l0.length l0) (hc0 : l0.length ≤ c0) (h : impl_isText.f l0 = some r) :
  Calls Tryd.prog 36 #[.slice A0 l0.length c0] w fun e w' => e = .returned (.bool r) ∧ Drawn0 w w' := by
 have HH := aM (impl_isText.has A0 c0 l0 w hr0 hc0);obtain rfl := Option.some.inj h;clear hr0 hc0 h
 go_enter Tryd.func36, Tryd.ntmps36
 go_wp2_with (go_at_call 64; refine HH.o.mono ?_; rintro e w' ⟨rfl, ⟨nd, rfl⟩⟩)
 go_ret
 exact ⟨rfl, by repeat (first | exact Drawn0.refl _ | apply Drawn0.step)⟩
def strings_Trim.f (a0 a1 : ByteArray) : Option (ByteArray) := if a0.size ≤ 9223372036854775807 ∧ a1.size < 4294967281 ∧ a1.data.toList.all (fun b => decide (b.toNat < 128)) = true then some ⟨(Lib.trimS a0.data.toList a1.data.toList).toArray⟩ else none
theorem strings_Trim.calls (a0 a1 : ByteArray) (r : ByteArray) (w : World) (h : strings_Trim.f a0 a1 = some r) :
  Calls Tryd.prog 76 #[.string a0, .string a1] w fun e w' => e = .returned (.string r) ∧ Below w.heap.size w w' := by
 unfold strings_Trim.f at h
 split at h
 ·rename_i hs
  obtain rfl := Option.some.inj h;exact Tryd.strings_Trim_ascii a0 a1 w hs.1 hs.2.1 (Go.Proofs.ascii_of_all hs.2.2)
 ·cases h
def impl_segmentOf.f (a0 : ByteArray) : Option (Int) := if (a0.size : Int) = 3 then (if 0 < (a0.size : Int) then (if (bt a0 0) = 115 then (if 1 ≤ (a0.size : Int) then ((strings_Trim.f (a0.extract 1 a0.size) (⟨#[48, 49, 50, 51, 52, 53, 54, 55, 56, 57]⟩ : ByteArray)).bind fun t283 => (if t283.toList = ([] : List UInt8) then (if 1 < (a0.size : Int) then (if 2 < (a0.size : Int) then (some (((((bt a0 1) - 48) % 256) * 10) + (((bt a0 2) - 48) % 256))) else (none)) else (none)) else (some 0))) else (none)) else (some 0)) else (none)) else (some 0)
set_option maxHeartbeats 8000000 in
set_option maxRecDepth 100000 in
theorem impl_segmentOf.calls (a0 : ByteArray) (r : Int) (w : World) (h : impl_segmentOf.f a0 = some r) :
  Calls Tryd.prog 59 #[.string a0] w fun e w' => e = .returned (.int .i64 r) ∧ Below w.heap.size w w' := by
 have HB := aM (Below.refl w.heap.size w);have H : (if (a0.size : Int) = 3 then (if 0 < (a0.size : Int) then (if (bt a0 0) = 115 then (if 1 ≤ (a0.size : Int) then ((strings_Trim.f (a0.extract 1 a0.size) (⟨#[48, 49, 50, 51, 52, 53, 54, 55, 56, 57]⟩ : ByteArray)).bind fun t283 => (if t283.toList = ([] : List UInt8) then (if 1 < (a0.size : Int) then (if 2 < (a0.size : Int) then (some (((((bt a0 1) - 48) % 256) * 10) + (((bt a0 2) - 48) % 256))) else (none)) else (none)) else (some 0))) else (none)) else (some 0)) else (none)) else (some 0)) = some r := h;clear h
 by_cases c2 : (a0.size : Int) = 3
 ·rw [if_pos c2] at H;have c2b0 : ((a0.size : Int) == 3) = true := beq_iff_eq.mpr c2;have c2b1 : ((a0.size : Int) != 3) = false := bne_eq_false_iff_eq.mpr c2;clear c2
  by_cases c3 : 0 < (a0.size : Int)
  ·rw [if_pos c3] at H;have c3b0 : decide (0 < (a0.size : Int)) = true := decide_eq_true c3;have c3b1 : decide (0 < a0.size) = true := decide_eq_true (by omega);clear c3
   by_cases c5 : (bt a0 0) = 115
   ·rw [if_pos c5] at H;have c5b0 : ((bt a0 0) == 115) = true := beq_iff_eq.mpr c5;have c5b1 : ((bt a0 0) != 115) = false := bne_eq_false_iff_eq.mpr c5;clear c5
    by_cases c6 : 1 ≤ (a0.size : Int)
    ·rw [if_pos c6] at H;have c6b0 := eq_true c6;have c6b1 : decide (1 ≤ (a0.size : Int)) = true := decide_eq_true c6;clear c6;obtain ⟨t283, A7, H⟩ := bX H;(try dsimp only at H)
     by_cases c8 : t283.toList = ([] : List UInt8)
     ·rw [if_pos c8] at H;have c8b0 : (t283.toList == ([] : List UInt8)) = true := beq_iff_eq.mpr c8;have c8b1 : (t283.toList != ([] : List UInt8)) = false := bne_eq_false_iff_eq.mpr c8;clear c8
      by_cases c9 : 1 < (a0.size : Int)
      ·rw [if_pos c9] at H;have c9b0 : decide (1 < (a0.size : Int)) = true := decide_eq_true c9;have c9b1 : decide (1 < a0.size) = true := decide_eq_true (by omega);clear c9
       by_cases c11 : 2 < (a0.size : Int)
       ·rw [if_pos c11] at H;have c11b0 : decide (2 < (a0.size : Int)) = true := decide_eq_true c11;have c11b1 : decide (2 < a0.size) = true := decide_eq_true (by omega);clear c11;obtain rfl := Option.some.inj H;have p4 : 0 ≤ (0 : Int) := (by omega);have q4 : 0 < a0.size := (by have : (0 : Int) < (a0.size : Int) := oD; omega);have hx4 : ∀ h : 0 < a0.size, ((a0[0]'h).toNat : Int) = bt a0 0 := bt_at a0 0;clear p4;have qi4 : (0 < (a0.size : Int)) = True := eq_true oD;replace q4 := eq_true q4
        go_enter Tryd.func59, Tryd.ntmps59
        go_wp2_with (first | (go_at_call 76; (with_reducible refine (strings_Trim.calls (a0.extract 1 a0.size) (⟨#[48, 49, 50, 51, 52, 53, 54, 55, 56, 57]⟩ : ByteArray) t283 _ A7.o).mono ?_); rintro e w13 ⟨rfl, hb⟩; replace HB := aM (below_step (bM HB.o) hb); (try clear hb); have p10 : 0 ≤ (1 : Int) := (by omega); have q10 : 1 < a0.size := (by have : (1 : Int) < (a0.size : Int) := oD; omega); have hx10 : ∀ h : 1 < a0.size, ((a0[1]'h).toNat : Int) = bt a0 1 := bt_at a0 1; clear p10; have qi10 : (1 < (a0.size : Int)) = True := eq_true oD; replace q10 := eq_true q10; have p12 : 0 ≤ (2 : Int) := (by omega); have q12 : 2 < a0.size := (by have : (2 : Int) < (a0.size : Int) := oD; omega); have hx12 : ∀ h : 2 < a0.size, ((a0[2]'h).toNat : Int) = bt a0 2 := bt_at a0 2; clear p12; have qi12 : (2 < (a0.size : Int)) = True := eq_true oD; replace q12 := eq_true q12))
        repeat (go_quiet (first | (go_at_call 76; (with_reducible refine (strings_Trim.calls (a0.extract 1 a0.size) (⟨#[48, 49, 50, 51, 52, 53, 54, 55, 56, 57]⟩ : ByteArray) t283 _ A7.o).mono ?_); rintro e w13 ⟨rfl, hb⟩; replace HB := aM (below_step (bM HB.o) hb); (try clear hb); have p10 : 0 ≤ (1 : Int) := (by omega); have q10 : 1 < a0.size := (by have : (1 : Int) < (a0.size : Int) := oD; omega); have hx10 : ∀ h : 1 < a0.size, ((a0[1]'h).toNat : Int) = bt a0 1 := bt_at a0 1; clear p10; have qi10 : (1 < (a0.size : Int)) = True := eq_true oD; replace q10 := eq_true q10; have p12 : 0 ≤ (2 : Int) := (by omega); have q12 : 2 < a0.size := (by have : (2 : Int) < (a0.size : Int) := oD; omega); have hx12 : ∀ h : 2 < a0.size, ((a0[2]'h).toNat : Int) = bt a0 2 := bt_at a0 2; clear p12; have qi12 : (2 < (a0.size : Int)) = True := eq_true oD; replace q12 := eq_true q12)); try go_wp2_with (first | (go_at_call 76; (with_reducible refine (strings_Trim.calls (a0.extract 1 a0.size) (⟨#[48, 49, 50, 51, 52, 53, 54, 55, 56, 57]⟩ : ByteArray) t283 _ A7.o).mono ?_); rintro e w13 ⟨rfl, hb⟩; replace HB := aM (below_step (bM HB.o) hb); (try clear hb); have p10 : 0 ≤ (1 : Int) := (by omega); have q10 : 1 < a0.size := (by have : (1 : Int) < (a0.size : Int) := oD; omega); have hx10 : ∀ h : 1 < a0.size, ((a0[1]'h).toNat : Int) = bt a0 1 := bt_at a0 1; clear p10; have qi10 : (1 < (a0.size : Int)) = True := eq_true oD; replace q10 := eq_true q10; have p12 : 0 ≤ (2 : Int) := (by omega); have q12 : 2 < a0.size := (by have : (2 : Int) < (a0.size : Int) := oD; omega); have hx12 : ∀ h : 2 < a0.size, ((a0[2]'h).toNat : Int) = bt a0 2 := bt_at a0 2; clear p12; have qi12 : (2 < (a0.size : Int)) = True := eq_true oD; replace q12 := eq_true q12)))
        go_ret
        exact ⟨by first | rfl | (simp [zE] <;> rfl) | (simp [*, zE] <;> rfl), bM HB.o⟩
       ·rw [if_neg c11] at H;exact absurd H (by simp)
      ·rw [if_neg c9] at H;exact absurd H (by simp)
     ·rw [if_neg c8] at H;have c8b0 : (t283.toList == ([] : List UInt8)) = false := beq_eq_false_iff_ne.mpr c8;have c8b1 : (t283.toList != ([] : List UInt8)) = true := bne_iff_ne.mpr c8;obtain rfl := Option.some.inj H;have p4 : 0 ≤ (0 : Int) := (by omega);have q4 : 0 < a0.size := (by have : (0 : Int) < (a0.size : Int) := oD; omega);have hx4 : ∀ h : 0 < a0.size, ((a0[0]'h).toNat : Int) = bt a0 0 := bt_at a0 0;clear p4;have qi4 : (0 < (a0.size : Int)) = True := eq_true oD;replace q4 := eq_true q4
      go_enter Tryd.func59, Tryd.ntmps59
      go_wp2_with (first | (go_at_call 76; (with_reducible refine (strings_Trim.calls (a0.extract 1 a0.size) (⟨#[48, 49, 50, 51, 52, 53, 54, 55, 56, 57]⟩ : ByteArray) t283 _ A7.o).mono ?_); rintro e w14 ⟨rfl, hb⟩; replace HB := aM (below_step (bM HB.o) hb); (try clear hb); skip))
      repeat (go_quiet (first | (go_at_call 76; (with_reducible refine (strings_Trim.calls (a0.extract 1 a0.size) (⟨#[48, 49, 50, 51, 52, 53, 54, 55, 56, 57]⟩ : ByteArray) t283 _ A7.o).mono ?_); rintro e w14 ⟨rfl, hb⟩; replace HB := aM (below_step (bM HB.o) hb); (try clear hb); skip)); try go_wp2_with (first | (go_at_call 76; (with_reducible refine (strings_Trim.calls (a0.extract 1 a0.size) (⟨#[48, 49, 50, 51, 52, 53, 54, 55, 56, 57]⟩ : ByteArray) t283 _ A7.o).mono ?_); rintro e w14 ⟨rfl, hb⟩; replace HB := aM (below_step (bM HB.o) hb); (try clear hb); skip)))
      go_ret
      exact ⟨by first | rfl | (simp [zE] <;> rfl) | (simp [*, zE] <;> rfl), bM HB.o⟩
    ·rw [if_neg c6] at H;exact absurd H (by simp)
   ·rw [if_neg c5] at H;have c5b0 : ((bt a0 0) == 115) = false := beq_eq_false_iff_ne.mpr c5;have c5b1 : ((bt a0 0) != 115) = true := bne_iff_ne.mpr c5;obtain rfl := Option.some.inj H;have p4 : 0 ≤ (0 : Int) := (by omega);have q4 : 0 < a0.size := (by have : (0 : Int) < (a0.size : Int) := oD; omega);have hx4 : ∀ h : 0 < a0.size, ((a0[0]'h).toNat : Int) = bt a0 0 := bt_at a0 0;clear p4;have qi4 : (0 < (a0.size : Int)) = True := eq_true oD;replace q4 := eq_true q4
    go_enter Tryd.func59, Tryd.ntmps59
    go_wp2
    repeat (go_quiet (fail); try go_wp2)
    go_ret
    exact ⟨by first | rfl | (simp [zE] <;> rfl) | (simp [*, zE] <;> rfl), bM HB.o⟩
  ·rw [if_neg c3] at H;exact absurd H (by simp)
 ·rw [if_neg c2] at H;have c2b0 : ((a0.size : Int) == 3) = false := beq_eq_false_iff_ne.mpr c2;have c2b1 : ((a0.size : Int) != 3) = true := bne_iff_ne.mpr c2;obtain rfl := Option.some.inj H
  go_enter Tryd.func59, Tryd.ntmps59
  go_wp2
  repeat (go_quiet (fail); try go_wp2)
  go_ret
  exact ⟨by first | rfl | (simp [zE] <;> rfl) | (simp [*, zE] <;> rfl), bM HB.o⟩
def impl_numberOf.l0 : Nat → ByteArray → Int → Int → Int → Option (Int)
 | 0, _, _, _, _ => none
 | k + 1, x0, x3, x6, x7 => if x7 < x6 then (if 0 ≤ x7 then (if x7 < (x0.size : Int) then (impl_numberOf.l0 k x0 (wrap64 ((wrap64 (x3 * 256)) + (wrap64 (bt x0 x7)))) x6 (wrap64 (x7 + 1))) else (none)) else (none)) else (some x3)
def impl_numberOf.f (k : Nat) (a0 : ByteArray) : Option (Int) := impl_numberOf.l0 k a0 0 (a0.size : Int) 0
theorem impl_numberOf.mono_l : ∀ k, (∀ y0 y1 y2 y3, LeO (impl_numberOf.l0 k y0 y1 y2 y3) (impl_numberOf.l0 (k + 1) y0 y1 y2 y3))
 | 0 => fun _ _ _ _ r h => by simp [impl_numberOf.l0] at h
 | k + 1 => by
  have ih0 := impl_numberOf.mono_l k
  ·intro y0 y1 y2 y3
   unfold impl_numberOf.l0
   repeat' first
   | (with_reducible exact ih0 _ _ _ _)
   | (with_reducible exact LeO.refl _)
   | (with_reducible exact LeO.none _)
   | (with_reducible refine LeO.ite ?_ ?_)
   | (with_reducible refine LeO.bind ?_ (fun _ => ?_))
   | exact ih0 _ _ _ _
   | exact LeO.none _
   | refine LeO.ite ?_ ?_
   | refine LeO.bind ?_ (fun _ => ?_)
theorem impl_numberOf.mono : ∀ a0 k, LeO (impl_numberOf.f k a0) (impl_numberOf.f (k + 1) a0) := by
 intro a0 k;have ih0 := impl_numberOf.mono_l k
 unfold impl_numberOf.f
 repeat' first
   | (with_reducible exact ih0 _ _ _ _)
   | (with_reducible exact LeO.refl _)
   | (with_reducible exact LeO.none _)
   | (with_reducible refine LeO.ite ?_ ?_)
   | (with_reducible refine LeO.bind ?_ (fun _ => ?_))
   | exact ih0 _ _ _ _
   | exact LeO.none _
   | refine LeO.ite ?_ ?_
   | refine LeO.bind ?_ (fun _ => ?_)
set_option maxHeartbeats 8000000 in
set_option maxRecDepth 100000 in
theorem impl_numberOf.calls (k : Nat) (a0 : ByteArray) (r : Int) (w : World) (h : impl_numberOf.f k a0 = some r) :
  Calls Tryd.prog 78 #[.string a0] w fun e w' => e = .returned (.int .i64 r) ∧ Drawn0 w w' := by
 have H : (impl_numberOf.l0 k a0 0 (a0.size : Int) 0) = some r := h;clear h;have H' := aM H;clear H
 go_enter Tryd.func78, Tryd.ntmps78
 go_wp2
 go_loopg [3, 7] k (fun kq v3 v7 w' => ∃ (x3_1 : Int) (x7_1 : Int), v3 = .int .i64 x3_1 ∧ v7 = .int .i64 x7_1 ∧ Aside0 (impl_numberOf.l0 kq a0 x3_1 (a0.size : Int) x7_1 = some r) ∧ Aside0 (kq ≤ k) ∧ Drawn0 w w')
 case atStart => exact ⟨(0), (0), (by first | rfl | (simp; done) | (simp [*]; done)), (by first | rfl | (simp; done) | (simp [*]; done)), H', ⟨Nat.le_refl _⟩, by repeat (first | exact Drawn0.refl _ | apply Drawn0.step)⟩
 case round =>
  clear H';obtain ⟨x3_1, x7_1, rfl, rfl, HA, HK1, ⟨m1, rfl⟩⟩ := hrel
  cases gk with
  | zero => exact absurd HA.o (by simp [impl_numberOf.l0])
  | succ k1 =>
   have H := HA.o;clear HA;simp only [impl_numberOf.l0] at H
   by_cases c2 : x7_1 < (a0.size : Int)
   ·rw [if_pos c2] at H;have c2b0 : decide (x7_1 < (a0.size : Int)) = true := decide_eq_true c2;clear c2
    by_cases c3 : 0 ≤ x7_1
    ·rw [if_pos c3] at H;have c3b0 : decide (0 ≤ x7_1) = true := decide_eq_true c3;clear c3
     by_cases c4 : x7_1 < (a0.size : Int)
     ·rw [if_pos c4] at H;have c4b0 : decide (x7_1 < (a0.size : Int)) = true := decide_eq_true c4;clear c4;have H' := aM H;clear H;have p5 : 0 ≤ (x7_1 : Int) := oD;have q5 : x7_1 < (a0.size : Int) := oD;have hx5 := bt_at a0 x7_1;replace p5 := eq_true p5;replace q5 := eq_true q5
      go_wp2
      go_roundg k1
      case measure => have := HK1.o; omega
      case rel => exact ⟨(wrap64 ((wrap64 (x3_1 * 256)) + (wrap64 (bt a0 x7_1)))), (wrap64 (x7_1 + 1)), (by first | rfl | (simp; done) | (simp [*]; done)), (by first | rfl | (simp; done) | (simp [*]; done)), H', ⟨by have := HK1.o; omega⟩, by repeat (first | exact Drawn0.refl _ | apply Drawn0.step)⟩
     ·rw [if_neg c4] at H;exact absurd H (by simp)
    ·rw [if_neg c3] at H;exact absurd H (by simp)
   ·rw [if_neg c2] at H;have c2b0 : decide (x7_1 < (a0.size : Int)) = false := decide_eq_false c2;clear c2;obtain rfl := Option.some.inj H
    go_wp2
    go_ret
    exact ⟨by first | rfl | (simp; done) | (simp [*]; done), by repeat (first | exact Drawn0.refl _ | apply Drawn0.step)⟩
def impl_number.l0 : Nat → Int → List Int → Int → Option (ByteArray)
 | 0, _, _, _ => none
 | k + 1, x0, x5, x6 => if x6 ≥ 0 then (if 0 ≤ x6 then (if x6 < (x5.length : Int) then (impl_number.l0 k (x0 / 256) (x5.set (x6 : Int).toNat ((x0) % 256)) (wrap64 (x6 - 1))) else (none)) else (none)) else (some (strOfNums x5))
def impl_number.f (k : Nat) (a0 : Int) (a1 : Int) : Option (ByteArray) := if 0 ≤ a1 then (if (a1 : Int).toNat ≤ 281474976710656 then (impl_number.l0 k a0 (List.replicate (a1 : Int).toNat 0) (wrap64 (a1 - 1))) else (none)) else (none)
theorem impl_number.mono_l : ∀ k, (∀ y0 y1 y2, LeO (impl_number.l0 k y0 y1 y2) (impl_number.l0 (k + 1) y0 y1 y2))
 | 0 => fun _ _ _ r h => by simp [impl_number.l0] at h
 | k + 1 => by
  have ih0 := impl_number.mono_l k
  ·intro y0 y1 y2
   unfold impl_number.l0
   repeat' first
   | (with_reducible exact ih0 _ _ _)
   | (with_reducible exact LeO.refl _)
   | (with_reducible exact LeO.none _)
   | (with_reducible refine LeO.ite ?_ ?_)
   | (with_reducible refine LeO.bind ?_ (fun _ => ?_))
   | exact ih0 _ _ _
   | exact LeO.none _
   | refine LeO.ite ?_ ?_
   | refine LeO.bind ?_ (fun _ => ?_)
theorem impl_number.mono : ∀ a0 a1 k, LeO (impl_number.f k a0 a1) (impl_number.f (k + 1) a0 a1) := by
 intro a0 a1 k;have ih0 := impl_number.mono_l k
 unfold impl_number.f
 repeat' first
   | (with_reducible exact ih0 _ _ _)
   | (with_reducible exact LeO.refl _)
   | (with_reducible exact LeO.none _)
   | (with_reducible refine LeO.ite ?_ ?_)
   | (with_reducible refine LeO.bind ?_ (fun _ => ?_))
   | exact ih0 _ _ _
   | exact LeO.none _
   | refine LeO.ite ?_ ?_
   | refine LeO.bind ?_ (fun _ => ?_)
set_option maxHeartbeats 8000000 in
set_option maxRecDepth 100000 in
theorem impl_number.calls (k : Nat) (a0 : Int) (a1 : Int) (r : ByteArray) (w : World) (h : impl_number.f k a0 a1 = some r) :
  Calls Tryd.prog 85 #[.int .i64 a0, .int .i64 a1] w fun e w' => e = .returned (.string r) ∧ Below w.heap.size w w' := by
 have HB := aM (Below.refl w.heap.size w);have H : (if 0 ≤ a1 then (if (a1 : Int).toNat ≤ 281474976710656 then (impl_number.l0 k a0 (List.replicate (a1 : Int).toNat 0) (wrap64 (a1 - 1))) else (none)) else (none)) = some r := h;clear h
 by_cases c3 : 0 ≤ a1
 ·rw [if_pos c3] at H;have c3b0 := eq_true c3;have c3b1 : decide (0 ≤ a1) = true := decide_eq_true c3;clear c3
  by_cases c4 : (a1 : Int).toNat ≤ 281474976710656
  ·rw [if_pos c4] at H;have c4b0 := eq_true c4;have c4b1 : decide ((a1 : Int).toNat ≤ 281474976710656) = true := decide_eq_true c4;clear c4;obtain ⟨y284, hy284⟩ : ∃ y_ : List Int, y_ = (List.replicate (a1 : Int).toNat 0) := ⟨_, rfl⟩
   replace H : (impl_number.l0 k a0 y284 (wrap64 (a1 - 1))) = some r := by first | (rw [hy284]; with_reducible exact H) | (have H2_ := (Option.bind_some _ _).symm.trans H; rw [hy284]; with_reducible exact H2_) | (have H2_ := (Option.bind_some _ _).symm.trans H; with_reducible exact H2_) | with_reducible exact H | (rw [hy284]; exact H) | exact H
   have Ny284 := aM hy284;clear hy284;have H' := aM H;clear H
   go_enter Tryd.func85, Tryd.ntmps85
   go_wp2_with (first | ((with_reducible refine gate_dst (N := 8) rfl ?_); refine Kd.R_make (Kd.int .u8) _ 5 rfl (N := 8) rfl 76 _ _ rfl a1 rfl rfl Tryd.underlying76 (.int .u8 0) 1 info5 rfl (by decide) (by omega) 0 (ok := fun _ => True) (okp := fun _ => True) rfl (fun _ hk => hk) trivial oD (Nat.le_trans (Nat.mul_le_mul_right _ (oD : a1.toNat ≤ 281474976710656)) (by omega)) (Below.refl _ _) (Nat.le_refl _) ?_; intro v285 w5 ho6 hb hg_ hnew_; clear hg_ hnew_; (first | rw [← Ny284.o] at ho6 | (simp only [Int.reduceToNat] at ho6; rw [← Ny284.o] at ho6)); have HO286 := aM (Kd.R_lower ho6 (below_size (bM HB.o))); replace HB := aM (below_step (bM HB.o) hb); clear hb ho6))
   go_loopg [0, 6] k (fun kq v0 v6 w' => ∃ (x0_1 : Int) (x5_1 : List Int) (x6_1 : Int), v0 = .int .i64 x0_1 ∧ v6 = .int .i64 x6_1 ∧ Aside0 (impl_number.l0 kq x0_1 x5_1 x6_1 = some r) ∧ Aside0 (kq ≤ k) ∧ Aside0 (Kd.R (Kd.int .u8) 5 w' w.heap.size (fun _ => True) v285 x5_1) ∧ Aside0 (Below w.heap.size w w'))
   case atStart => exact ⟨(a0), (y284), (wrap64 (a1 - 1)), (by first | rfl | (simp; done) | (simp [*]; done)), (by first | rfl | (simp; done) | (simp [*]; done)), H', ⟨Nat.le_refl _⟩, ⟨by (with_reducible repeat (first | apply Kd.R_alloc | apply Kd.R_drewN | apply Kd.R_drew)); exact HO286.o⟩, ⟨bM HB.o⟩⟩
   case round =>
    clear H';obtain ⟨x0_1, x5_1, x6_1, rfl, rfl, HA, HK1, HO_5, HB⟩ := hrel
    cases gk with
    | zero => exact absurd HA.o (by simp [impl_number.l0])
    | succ k1 =>
     have H := HA.o;clear HA;simp only [impl_number.l0] at H
     by_cases c7 : x6_1 ≥ 0
     ·rw [if_pos c7] at H;have c7b0 : decide (0 ≤ x6_1) = true := decide_eq_true c7;clear c7
      by_cases c8 : 0 ≤ x6_1
      ·rw [if_pos c8] at H;have c8b0 : decide (0 ≤ x6_1) = true := decide_eq_true c8;clear c8
       by_cases c9 : x6_1 < (x5_1.length : Int)
       ·rw [if_pos c9] at H;have c9b0 : decide (x6_1 < (x5_1.length : Int)) = true := decide_eq_true c9;clear c9;obtain ⟨y287, hy287⟩ : ∃ y_ : List Int, y_ = (x5_1.set (x6_1 : Int).toNat ((x0_1) % 256)) := ⟨_, rfl⟩
        replace H : (impl_number.l0 k1 (x0_1 / 256) y287 (wrap64 (x6_1 - 1))) = some r := by first | (rw [hy287]; with_reducible exact H) | (have H2_ := (Option.bind_some _ _).symm.trans H; rw [hy287]; with_reducible exact H2_) | (have H2_ := (Option.bind_some _ _).symm.trans H; with_reducible exact H2_) | with_reducible exact H | (rw [hy287]; exact H) | exact H
        have Ny287 := aM hy287;clear hy287;have H' := aM H;clear H;have p10 : 0 ≤ (x6_1 : Int) := oD;have q10 : (x6_1 : Int) < ((x5_1.length : Int) : Int) := oD;obtain ⟨go10, co10, eo10, gb10, gl10, cl10, HG10⟩ := Kd.R_form HO_5.o (by omega)
        (first | cases eo10 | (injection eo10 with ea_ en_ ec_; (first | subst ea_ | (injection ea_ with ea_; subst ea_)); subst ec_; clear en_))
        have GB10 := aM gb10;have GG10 := aM HG10;clear gb10 gl10 HG10;obtain ⟨hx10_0, hf10_0⟩ := Kd.R_celln 0 HO_5.o (x6_1 : Int) p10 q10;replace p10 := eq_true p10;replace q10 := eq_true q10;have HP11 := Kd.R_putg HO_5.o (x6_1 : Int) ((x0_1) % 256)
        go_wp2_with (first | ((with_reducible refine gate_store (t := 5) (p := 19) rfl ?_); refine store_event (t := 5) (p := 19) (v := ?vo_w12) (w1 := (wr.setCell ⟨go10, (x6_1 : Int).toNat, none⟩ (.int .u8 ((x0_1) % 256)))) ?hg ?ho ?hn ?hr ?_; (case ho => rfl); (case hg => rfl); (case hn => rfl); (case hr => first | (go_simp; done) | (go_simp; rfl)); intro w12 hw; have hg : wr.grownBy w12 (some go10) := (by rw [hw]; exact HP11.2); have hp_ : Kd.R (Kd.int .u8) 5 w12 w.heap.size (fun _ => True) (.slice (some ⟨go10, 0, none⟩) x5_1.length co10) y287 := (by rw [hw, Ny287.o]; exact HP11.1); clear HP11; replace HO_5 := aM (hp_); replace HB := aM ((by rw [hw]; exact bS (HB.o) GB10.o : Below w.heap.size w w12)); clear hg hw hp_))
        go_roundg k1
        case measure => have := HK1.o; omega
        case rel => exact ⟨(x0_1 / 256), (y287), (wrap64 (x6_1 - 1)), (by first | rfl | (simp; done) | (simp [*]; done)), (by first | rfl | (simp; done) | (simp [*]; done)), H', ⟨by have := HK1.o; omega⟩, ⟨by (with_reducible repeat (first | apply Kd.R_alloc | apply Kd.R_drewN | apply Kd.R_drew)); exact HO_5.o⟩, ⟨bM HB.o⟩⟩
       ·rw [if_neg c9] at H;exact absurd H (by simp)
      ·rw [if_neg c8] at H;exact absurd H (by simp)
     ·rw [if_neg c7] at H;have c7b0 : decide (0 ≤ x6_1) = false := decide_eq_false c7;clear c7;obtain rfl := Option.some.inj H;have hcv13 := own_string (P := Tryd.prog) Tryd.underlying76 Tryd.underlying5 Tryd.underlying9 (Kd.own_of_R HO_5.o)
      go_wp2
      go_ret
      exact ⟨by first | rfl | (simp [zE] <;> rfl) | (simp [*, zE] <;> rfl), bM HB.o⟩
  ·rw [if_neg c4] at H;exact absurd H (by simp)
 ·rw [if_neg c3] at H;exact absurd H (by simp)
mutual
def impl_check32.l0 : Nat → ByteArray → Int → Int → Int → Option (Int)
 | 0, _, _, _, _ => none
 | k + 1, x0, x3, x7, x8 => if x8 < x7 then (if 0 ≤ x8 then (if x8 < (x0.size : Int) then (impl_check32.l1 k x0 (Go.bits .xor .u32 x3 ((bt x0 x8) % 4294967296)) x7 x8 0) else (none)) else (none)) else (some (wrap64 (Go.bits .xor .u32 4294967295 x3)))
def impl_check32.l1 : Nat → ByteArray → Int → Int → Int → Int → Option (Int)
 | 0, _, _, _, _, _ => none
 | k + 1, x0, x3, x7, x8, x17 => if x17 < 8 then (if (Go.bits .and .u32 x3 1) = 1 then (impl_check32.l1 k x0 (Go.bits .xor .u32 (x3 / 2) 3988292384) x7 x8 (wrap64 (x17 + 1))) else (impl_check32.l1 k x0 (x3 / 2) x7 x8 (wrap64 (x17 + 1)))) else (impl_check32.l0 k x0 x3 x7 (wrap64 (x8 + 1)))
end
def impl_check32.f (k : Nat) (a0 : ByteArray) : Option (Int) := impl_check32.l0 k a0 4294967295 (a0.size : Int) 0
theorem impl_check32.mono_l : ∀ k, (∀ y0 y1 y2 y3, LeO (impl_check32.l0 k y0 y1 y2 y3) (impl_check32.l0 (k + 1) y0 y1 y2 y3)) ∧ (∀ y0 y1 y2 y3 y4, LeO (impl_check32.l1 k y0 y1 y2 y3 y4) (impl_check32.l1 (k + 1) y0 y1 y2 y3 y4))
 | 0 => ⟨fun _ _ _ _ r h => by simp [impl_check32.l0] at h, fun _ _ _ _ _ r h => by simp [impl_check32.l1] at h⟩
 | k + 1 => by
  obtain ⟨ih0, ih1⟩ := impl_check32.mono_l k;refine ⟨?_, ?_⟩
  ·intro y0 y1 y2 y3
   unfold impl_check32.l0
   repeat' first
   | (with_reducible exact ih0 _ _ _ _)
   | (with_reducible exact ih1 _ _ _ _ _)
   | (with_reducible exact LeO.refl _)
   | (with_reducible exact LeO.none _)
   | (with_reducible refine LeO.ite ?_ ?_)
   | (with_reducible refine LeO.bind ?_ (fun _ => ?_))
   | exact ih0 _ _ _ _
   | exact ih1 _ _ _ _ _
   | exact LeO.none _
   | refine LeO.ite ?_ ?_
   | refine LeO.bind ?_ (fun _ => ?_)
  ·intro y0 y1 y2 y3 y4
   unfold impl_check32.l1
   repeat' first
   | (with_reducible exact ih0 _ _ _ _)
   | (with_reducible exact ih1 _ _ _ _ _)
   | (with_reducible exact LeO.refl _)
   | (with_reducible exact LeO.none _)
   | (with_reducible refine LeO.ite ?_ ?_)
   | (with_reducible refine LeO.bind ?_ (fun _ => ?_))
   | exact ih0 _ _ _ _
   | exact ih1 _ _ _ _ _
   | exact LeO.none _
   | refine LeO.ite ?_ ?_
   | refine LeO.bind ?_ (fun _ => ?_)
theorem impl_check32.mono : ∀ a0 k, LeO (impl_check32.f k a0) (impl_check32.f (k + 1) a0) := by
 intro a0 k;obtain ⟨ih0, ih1⟩ := impl_check32.mono_l k
 unfold impl_check32.f
 repeat' first
   | (with_reducible exact ih0 _ _ _ _)
   | (with_reducible exact ih1 _ _ _ _ _)
   | (with_reducible exact LeO.refl _)
   | (with_reducible exact LeO.none _)
   | (with_reducible refine LeO.ite ?_ ?_)
   | (with_reducible refine LeO.bind ?_ (fun _ => ?_))
   | exact ih0 _ _ _ _
   | exact ih1 _ _ _ _ _
   | exact LeO.none _
   | refine LeO.ite ?_ ?_
   | refine LeO.bind ?_ (fun _ => ?_)
set_option maxHeartbeats 8000000 in
set_option maxRecDepth 100000 in
theorem impl_check32.calls (k : Nat) (a0 : ByteArray) (r : Int) (w : World) (h : impl_check32.f k a0 = some r) :
  Calls Tryd.prog 102 #[.string a0] w fun e w' => e = .returned (.int .i64 r) ∧ Drawn0 w w' := by
 have H : (impl_check32.l0 k a0 4294967295 (a0.size : Int) 0) = some r := h;clear h;have H' := aM H;clear H
 go_enter Tryd.func102, Tryd.ntmps102
 go_wp2
 go_loopg [3, 8] k (fun kq v3 v8 w' => ∃ (x3_1 : Int) (x8_1 : Int), v3 = .int .u32 x3_1 ∧ v8 = .int .i64 x8_1 ∧ Aside0 (impl_check32.l0 kq a0 x3_1 (a0.size : Int) x8_1 = some r) ∧ Aside0 (kq ≤ k) ∧ Drawn0 w w')
 case atStart => exact ⟨(4294967295), (0), (by first | rfl | (simp; done) | (simp [*]; done)), (by first | rfl | (simp; done) | (simp [*]; done)), H', ⟨Nat.le_refl _⟩, by repeat (first | exact Drawn0.refl _ | apply Drawn0.step)⟩
 case round =>
  clear H';obtain ⟨x3_1, x8_1, rfl, rfl, HA, HK1, ⟨m1, rfl⟩⟩ := hrel
  cases gk with
  | zero => exact absurd HA.o (by simp [impl_check32.l0])
  | succ k1 =>
   have H := HA.o;clear HA;simp only [impl_check32.l0] at H
   by_cases c2 : x8_1 < (a0.size : Int)
   ·rw [if_pos c2] at H;have c2b0 : decide (x8_1 < (a0.size : Int)) = true := decide_eq_true c2;clear c2
    by_cases c3 : 0 ≤ x8_1
    ·rw [if_pos c3] at H;have c3b0 : decide (0 ≤ x8_1) = true := decide_eq_true c3;clear c3
     by_cases c4 : x8_1 < (a0.size : Int)
     ·rw [if_pos c4] at H;have c4b0 : decide (x8_1 < (a0.size : Int)) = true := decide_eq_true c4;clear c4;have H' := aM H;clear H;have p5 : 0 ≤ (x8_1 : Int) := oD;have q5 : x8_1 < (a0.size : Int) := oD;have hx5 := bt_at a0 x8_1;replace p5 := eq_true p5;replace q5 := eq_true q5
      go_wp2
      go_loopg [3, 17] k1 (fun kq v3 v17 w' => ∃ (x3_2 : Int) (x17_2 : Int), v3 = .int .u32 x3_2 ∧ v17 = .int .i64 x17_2 ∧ Aside0 (impl_check32.l1 kq a0 x3_2 (a0.size : Int) x8_1 x17_2 = some r) ∧ Aside0 (kq ≤ k1) ∧ Drawn0 w w')
      case atStart => exact ⟨(Go.bits .xor .u32 x3_1 ((bt a0 x8_1) % 4294967296)), (0), (by first | rfl | (simp; done) | (simp [*]; done)), (by first | rfl | (simp; done) | (simp [*]; done)), H', ⟨Nat.le_refl _⟩, by repeat (first | exact Drawn0.refl _ | apply Drawn0.step)⟩
      case round =>
       clear H';obtain ⟨x3_2, x17_2, rfl, rfl, HA, HK2, ⟨m2, rfl⟩⟩ := hrel
       cases gk with
       | zero => exact absurd HA.o (by simp [impl_check32.l1])
       | succ k2 =>
        have H := HA.o;clear HA;simp only [impl_check32.l1] at H
        by_cases c6 : x17_2 < 8
        ·rw [if_pos c6] at H;have c6b0 : decide (x17_2 < 8) = true := decide_eq_true c6;clear c6
         by_cases c7 : (Go.bits .and .u32 x3_2 1) = 1
         ·rw [if_pos c7] at H;have c7b0 : ((Go.bits .and .u32 x3_2 1) == 1) = true := beq_iff_eq.mpr c7;have c7b1 : ((Go.bits .and .u32 x3_2 1) != 1) = false := bne_eq_false_iff_eq.mpr c7;clear c7;have H' := aM H;clear H
          go_wp2
          go_roundg k2
          case measure => have := HK1.o; have := HK2.o; omega
          case rel => exact ⟨(Go.bits .xor .u32 (x3_2 / 2) 3988292384), (wrap64 (x17_2 + 1)), (by first | rfl | (simp; done) | (simp [*]; done)), (by first | rfl | (simp; done) | (simp [*]; done)), H', ⟨by have := HK1.o; have := HK2.o; omega⟩, by repeat (first | exact Drawn0.refl _ | apply Drawn0.step)⟩
         ·rw [if_neg c7] at H;have c7b0 : ((Go.bits .and .u32 x3_2 1) == 1) = false := beq_eq_false_iff_ne.mpr c7;have c7b1 : ((Go.bits .and .u32 x3_2 1) != 1) = true := bne_iff_ne.mpr c7;have H' := aM H;clear H
          go_wp2
          go_roundg k2
          case measure => have := HK1.o; have := HK2.o; omega
          case rel => exact ⟨(x3_2 / 2), (wrap64 (x17_2 + 1)), (by first | rfl | (simp; done) | (simp [*]; done)), (by first | rfl | (simp; done) | (simp [*]; done)), H', ⟨by have := HK1.o; have := HK2.o; omega⟩, by repeat (first | exact Drawn0.refl _ | apply Drawn0.step)⟩
        ·rw [if_neg c6] at H;have c6b0 : decide (x17_2 < 8) = false := decide_eq_false c6;clear c6;have H' := aM H;clear H
         go_wp2
         go_roundg k2
         case measure => have := HK1.o; have := HK2.o; omega
         case rel => exact ⟨(x3_2), (wrap64 (x8_1 + 1)), (by first | rfl | (simp; done) | (simp [*]; done)), (by first | rfl | (simp; done) | (simp [*]; done)), H', ⟨by have := HK1.o; have := HK2.o; omega⟩, by repeat (first | exact Drawn0.refl _ | apply Drawn0.step)⟩
     ·rw [if_neg c4] at H;exact absurd H (by simp)
    ·rw [if_neg c3] at H;exact absurd H (by simp)
   ·rw [if_neg c2] at H;have c2b0 : decide (x8_1 < (a0.size : Int)) = false := decide_eq_false c2;clear c2;obtain rfl := Option.some.inj H
    go_wp2
    go_ret
    exact ⟨by first | rfl | (simp; done) | (simp [*]; done), by repeat (first | exact Drawn0.refl _ | apply Drawn0.step)⟩
def impl_frame.f (k : Nat) (a0 : ByteArray) : Option (ByteArray) := (impl_number.f k (a0.size : Int) 2).bind fun t288 => (if t288.size + a0.size ≤ 9223372036854775807 then ((impl_check32.f k (t288 ++ a0)).bind fun t289 => ((impl_number.f k t289 4).bind fun t290 => (if t288.size + t290.size ≤ 9223372036854775807 then (if t288.size + t290.size + a0.size ≤ 9223372036854775807 then (some ((t288 ++ t290) ++ a0)) else (none)) else (none)))) else (none))
theorem impl_frame.mono : ∀ a0 k, LeO (impl_frame.f k a0) (impl_frame.f (k + 1) a0) := by
 intro a0 k
 unfold impl_frame.f
 repeat' first
   | (with_reducible exact impl_check32.mono _ _)
   | (with_reducible exact impl_number.mono _ _ _)
   | (with_reducible exact LeO.refl _)
   | (with_reducible exact LeO.none _)
   | (with_reducible refine LeO.ite ?_ ?_)
   | (with_reducible refine LeO.bind ?_ (fun _ => ?_))
   | exact impl_check32.mono _ _
   | exact impl_number.mono _ _ _
   | exact LeO.none _
   | refine LeO.ite ?_ ?_
   | refine LeO.bind ?_ (fun _ => ?_)
set_option maxHeartbeats 8000000 in
set_option maxRecDepth 100000 in
theorem impl_frame.calls (k : Nat) (a0 : ByteArray) (r : ByteArray) (w : World) (h : impl_frame.f k a0 = some r) :
  Calls Tryd.prog 84 #[.string a0] w fun e w' => e = .returned (.string r) ∧ Below w.heap.size w w' := by
 have HB := aM (Below.refl w.heap.size w);have H : ((impl_number.f k (a0.size : Int) 2).bind fun t288 => (if t288.size + a0.size ≤ 9223372036854775807 then ((impl_check32.f k (t288 ++ a0)).bind fun t289 => ((impl_number.f k t289 4).bind fun t290 => (if t288.size + t290.size ≤ 9223372036854775807 then (if t288.size + t290.size + a0.size ≤ 9223372036854775807 then (some ((t288 ++ t290) ++ a0)) else (none)) else (none)))) else (none))) = some r := h;clear h;obtain ⟨t288, A2, H⟩ := bX H;(try dsimp only at H)
 by_cases c3 : t288.size + a0.size ≤ 9223372036854775807
 ·rw [if_pos c3] at H;have c3b0 := eq_true c3;have c3b1 : decide (t288.size + a0.size ≤ 9223372036854775807) = true := decide_eq_true c3
  try have c3b2 : (9223372036854775807 < t288.size + a0.size) = False := eq_false (Nat.not_lt.2 c3)
  obtain ⟨t289, A4, H⟩ := bX H;(try dsimp only at H);obtain ⟨t290, A5, H⟩ := bX H;(try dsimp only at H)
  by_cases c6 : t288.size + t290.size ≤ 9223372036854775807
  ·rw [if_pos c6] at H;have c6b0 := eq_true c6;have c6b1 : decide (t288.size + t290.size ≤ 9223372036854775807) = true := decide_eq_true c6
   try have c6b2 : (9223372036854775807 < t288.size + t290.size) = False := eq_false (Nat.not_lt.2 c6)
   by_cases c7 : t288.size + t290.size + a0.size ≤ 9223372036854775807
   ·rw [if_pos c7] at H;have c7b0 := eq_true c7;have c7b1 : decide (t288.size + t290.size + a0.size ≤ 9223372036854775807) = true := decide_eq_true c7
    try have c7b2 : (9223372036854775807 < t288.size + t290.size + a0.size) = False := eq_false (Nat.not_lt.2 c7)
    obtain rfl := Option.some.inj H
    go_enter Tryd.func84, Tryd.ntmps84
    go_wp2_with (first | ((with_reducible refine gate_callee (f := 85) rfl ?_); refine goesL_ (some 6) rfl rfl Tryd.func85 (by kernel_rfl) rfl #[.int .i64 (a0.size : Int), .int .i64 2] rfl (by (try simp only [zM]); first | done | rfl | (simp only [zL]; rfl)) ?_; (with_reducible refine (impl_number.calls k (a0.size : Int) 2 t288 _ A2.o).mono ?_); rintro e w8 ⟨rfl, hb⟩; refine ⟨_, rfl, ?_⟩; replace HB := aM (below_step (bM HB.o) hb); (try clear hb); skip) | ((with_reducible refine gate_callee (f := 102) rfl ?_); refine goesL_ (some 11) rfl rfl Tryd.func102 (by kernel_rfl) rfl #[.string (t288 ++ a0)] rfl (by (try simp only [zM]); first | done | rfl | (simp only [zL]; rfl)) ?_; (with_reducible refine (impl_check32.calls k (t288 ++ a0) t289 _ A4.o).mono ?_); rintro e w' ⟨rfl, ⟨nd, rfl⟩⟩; refine ⟨_, rfl, ?_⟩) | ((with_reducible refine gate_callee (f := 85) rfl ?_); refine goesL_ (some 12) rfl rfl Tryd.func85 (by kernel_rfl) rfl #[.int .i64 t289, .int .i64 4] rfl (by (try simp only [zM]); first | done | rfl | (simp only [zL]; rfl)) ?_; (with_reducible refine (impl_number.calls k t289 4 t290 _ A5.o).mono ?_); rintro e w9 ⟨rfl, hb⟩; refine ⟨_, rfl, ?_⟩; replace HB := aM (below_step (bM HB.o) hb); (try clear hb); skip))
    go_ret
    exact ⟨by first | rfl | (simp [zE] <;> rfl) | (simp [*, zE] <;> rfl), bM HB.o⟩
   ·rw [if_neg c7] at H;exact absurd H (by simp)
  ·rw [if_neg c6] at H;exact absurd H (by simp)
 ·rw [if_neg c3] at H;exact absurd H (by simp)
end Go.Proofs.YtpdhfoegbannkaaDoor.PFnExactWalPlan
