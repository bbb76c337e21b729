/- Written by a program (a session's own form of the print): plain functions with the answers of the Go functions, and the walks that show it. Lean checks it. -/
import Derived.Test.YtpdhfoegbannkaaDoorMFnExactWalSyncPx0
import Derived.Test.YtpdhfoegbannkaaDoorMFnExactWalSyncPx9
namespace Go.Proofs.YtpdhfoegbannkaaDoor.PFnExactWalSync
open Go.RowKit Go.Proofs.YtpdhfoegbannkaaDoorW.PrintWords Go.Proofs.YtpdhfoegbannkaaDoorW.PrintLast Go.Proofs.YtpdhfoegbannkaaDoorW.PrintMore
attribute [local go_sem] max2_int min2_int max_two min_two max_three min_three max_four min_four   -- for this text's walks alone
set_option linter.unusedVariables false
set_option linter.unusedSimpArgs false

/-! ### strings_Trim: function 76: by hand -/
-- IMPORT Trim
def strings_Trim.f (a0 a1 : ByteArray) : Option (ByteArray) := if a0.size ≤ 9223372036854775807 ∧ a1.size < 4294967281 ∧ a1.data.toList.all (fun b => decide (b.toNat < 128)) = true then some ⟨(Lib.trimS a0.data.toList a1.data.toList).toArray⟩ else none
theorem strings_Trim.calls (a0 a1 : ByteArray) (r : ByteArray) (w : World) (h : strings_Trim.f a0 a1 = some r) :
  Calls Tryd.prog 76 #[.string a0, .string a1] w fun e w' => e = .returned (.string r) ∧ Below w.heap.size w w' := by
 unfold strings_Trim.f at h
 split at h
 ·rename_i hs
  obtain rfl := Option.some.inj h
  exact Tryd.strings_Trim_ascii a0 a1 w hs.1 hs.2.1 (Go.Proofs.ascii_of_all hs.2.2)
 ·cases h

/-! ### impl_segmentOf: function 59 -/
def impl_segmentOf.f (a0 : ByteArray) : Option (Int) := if (a0.size : Int) = 3 then (if 0 < (a0.size : Int) then (if (bt a0 0) = 115 then (if 1 ≤ (a0.size : Int) then ((strings_Trim.f (a0.extract 1 a0.size) (⟨#[48, 49, 50, 51, 52, 53, 54, 55, 56, 57]⟩ : ByteArray)).bind fun t248 => (if t248.toList = ([] : List UInt8) then (if 1 < (a0.size : Int) then (if 2 < (a0.size : Int) then (some (((((bt a0 1) - 48) % 256) * 10) + (((bt a0 2) - 48) % 256))) else (none)) else (none)) else (some 0))) else (none)) else (some 0)) else (none)) else (some 0)
set_option maxHeartbeats 8000000 in
set_option maxRecDepth 100000 in
theorem impl_segmentOf.calls (a0 : ByteArray) (r : Int) (w : World) (h : impl_segmentOf.f a0 = some r) :
  Calls Tryd.prog 59 #[.string a0] w fun e w' => e = .returned (.int .i64 r) ∧ Below w.heap.size w w' := by
 have HB := aM (Below.refl w.heap.size w)
 have H : (if (a0.size : Int) = 3 then (if 0 < (a0.size : Int) then (if (bt a0 0) = 115 then (if 1 ≤ (a0.size : Int) then ((strings_Trim.f (a0.extract 1 a0.size) (⟨#[48, 49, 50, 51, 52, 53, 54, 55, 56, 57]⟩ : ByteArray)).bind fun t248 => (if t248.toList = ([] : List UInt8) then (if 1 < (a0.size : Int) then (if 2 < (a0.size : Int) then (some (((((bt a0 1) - 48) % 256) * 10) + (((bt a0 2) - 48) % 256))) else (none)) else (none)) else (some 0))) else (none)) else (some 0)) else (none)) else (some 0)) = some r := h
 clear h
 by_cases c2 : (a0.size : Int) = 3
 ·rw [if_pos c2] at H
  have c2b0 : ((a0.size : Int) == 3) = true := beq_iff_eq.mpr c2
  have c2b1 : ((a0.size : Int) != 3) = false := bne_eq_false_iff_eq.mpr c2
  clear c2
  by_cases c3 : 0 < (a0.size : Int)
  ·rw [if_pos c3] at H
   have c3b0 : decide (0 < (a0.size : Int)) = true := decide_eq_true c3
   have c3b1 : decide (0 < a0.size) = true := decide_eq_true (by omega)
   clear c3
   by_cases c5 : (bt a0 0) = 115
   ·rw [if_pos c5] at H
    have c5b0 : ((bt a0 0) == 115) = true := beq_iff_eq.mpr c5
    have c5b1 : ((bt a0 0) != 115) = false := bne_eq_false_iff_eq.mpr c5
    clear c5
    by_cases c6 : 1 ≤ (a0.size : Int)
    ·rw [if_pos c6] at H
     have c6b0 := eq_true c6
     have c6b1 : decide (1 ≤ (a0.size : Int)) = true := decide_eq_true c6
     clear c6
     replace H := Option.bind_eq_some_iff.mp H
     obtain ⟨t248, A70, H⟩ := H
     replace H : (if t248.toList = ([] : List UInt8) then (if 1 < (a0.size : Int) then (if 2 < (a0.size : Int) then (some (((((bt a0 1) - 48) % 256) * 10) + (((bt a0 2) - 48) % 256))) else (none)) else (none)) else (some 0)) = some r := H
     have A7 := aM A70
     clear A70
     by_cases c8 : t248.toList = ([] : List UInt8)
     ·rw [if_pos c8] at H
      have c8b0 : (t248.toList == ([] : List UInt8)) = true := beq_iff_eq.mpr c8
      have c8b1 : (t248.toList != ([] : List UInt8)) = false := bne_eq_false_iff_eq.mpr c8
      clear c8
      by_cases c9 : 1 < (a0.size : Int)
      ·rw [if_pos c9] at H
       have c9b0 : decide (1 < (a0.size : Int)) = true := decide_eq_true c9
       have c9b1 : decide (1 < a0.size) = true := decide_eq_true (by omega)
       clear c9
       by_cases c11 : 2 < (a0.size : Int)
       ·rw [if_pos c11] at H
        have c11b0 : decide (2 < (a0.size : Int)) = true := decide_eq_true c11
        have c11b1 : decide (2 < a0.size) = true := decide_eq_true (by omega)
        clear c11
        obtain rfl := Option.some.inj H
        have p4 : 0 ≤ (0 : Int) := (by omega)
        have q4 : 0 < a0.size := (by have : (0 : Int) < (a0.size : Int) := of_decide_eq_true (by assumption); omega)
        have hx4 : ∀ h : 0 < a0.size, ((a0[0]'h).toNat : Int) = bt a0 0 := bt_at a0 0
        clear p4
        have qi4 : (0 < (a0.size : Int)) = True := eq_true (of_decide_eq_true (by assumption))
        replace q4 := eq_true q4
        go_enter Tryd.func59, Tryd.ntmps59
        go_wp2_with (first | (go_at_call 76; (with_reducible refine (strings_Trim.calls (a0.extract 1 a0.size) (⟨#[48, 49, 50, 51, 52, 53, 54, 55, 56, 57]⟩ : ByteArray) t248 _ A7.out).mono ?_); rintro e w13 ⟨rfl, hb⟩; have n0_ := aM (below_step (by repeat (first | (with_reducible first | exact HB.out | apply bA | apply bN | apply bD) | exact HB.out)) hb); clear HB; have HB := n0_; clear n0_; (try clear hb); (try clear hb2); (try clear hk); (try clear hi); have p10 : 0 ≤ (1 : Int) := (by omega); have q10 : 1 < a0.size := (by have : (1 : Int) < (a0.size : Int) := of_decide_eq_true (by assumption); omega); have hx10 : ∀ h : 1 < a0.size, ((a0[1]'h).toNat : Int) = bt a0 1 := bt_at a0 1; clear p10; have qi10 : (1 < (a0.size : Int)) = True := eq_true (of_decide_eq_true (by assumption)); replace q10 := eq_true q10; have p12 : 0 ≤ (2 : Int) := (by omega); have q12 : 2 < a0.size := (by have : (2 : Int) < (a0.size : Int) := of_decide_eq_true (by assumption); omega); have hx12 : ∀ h : 2 < a0.size, ((a0[2]'h).toNat : Int) = bt a0 2 := bt_at a0 2; clear p12; have qi12 : (2 < (a0.size : Int)) = True := eq_true (of_decide_eq_true (by assumption)); replace q12 := eq_true q12))
        repeat (go_quiet (first | (go_at_call 76; (with_reducible refine (strings_Trim.calls (a0.extract 1 a0.size) (⟨#[48, 49, 50, 51, 52, 53, 54, 55, 56, 57]⟩ : ByteArray) t248 _ A7.out).mono ?_); rintro e w13 ⟨rfl, hb⟩; have n0_ := aM (below_step (by repeat (first | (with_reducible first | exact HB.out | apply bA | apply bN | apply bD) | exact HB.out)) hb); clear HB; have HB := n0_; clear n0_; (try clear hb); (try clear hb2); (try clear hk); (try clear hi); have p10 : 0 ≤ (1 : Int) := (by omega); have q10 : 1 < a0.size := (by have : (1 : Int) < (a0.size : Int) := of_decide_eq_true (by assumption); omega); have hx10 : ∀ h : 1 < a0.size, ((a0[1]'h).toNat : Int) = bt a0 1 := bt_at a0 1; clear p10; have qi10 : (1 < (a0.size : Int)) = True := eq_true (of_decide_eq_true (by assumption)); replace q10 := eq_true q10; have p12 : 0 ≤ (2 : Int) := (by omega); have q12 : 2 < a0.size := (by have : (2 : Int) < (a0.size : Int) := of_decide_eq_true (by assumption); omega); have hx12 : ∀ h : 2 < a0.size, ((a0[2]'h).toNat : Int) = bt a0 2 := bt_at a0 2; clear p12; have qi12 : (2 < (a0.size : Int)) = True := eq_true (of_decide_eq_true (by assumption)); replace q12 := eq_true q12)); try go_wp2_with (first | (go_at_call 76; (with_reducible refine (strings_Trim.calls (a0.extract 1 a0.size) (⟨#[48, 49, 50, 51, 52, 53, 54, 55, 56, 57]⟩ : ByteArray) t248 _ A7.out).mono ?_); rintro e w13 ⟨rfl, hb⟩; have n0_ := aM (below_step (by repeat (first | (with_reducible first | exact HB.out | apply bA | apply bN | apply bD) | exact HB.out)) hb); clear HB; have HB := n0_; clear n0_; (try clear hb); (try clear hb2); (try clear hk); (try clear hi); have p10 : 0 ≤ (1 : Int) := (by omega); have q10 : 1 < a0.size := (by have : (1 : Int) < (a0.size : Int) := of_decide_eq_true (by assumption); omega); have hx10 : ∀ h : 1 < a0.size, ((a0[1]'h).toNat : Int) = bt a0 1 := bt_at a0 1; clear p10; have qi10 : (1 < (a0.size : Int)) = True := eq_true (of_decide_eq_true (by assumption)); replace q10 := eq_true q10; have p12 : 0 ≤ (2 : Int) := (by omega); have q12 : 2 < a0.size := (by have : (2 : Int) < (a0.size : Int) := of_decide_eq_true (by assumption); omega); have hx12 : ∀ h : 2 < a0.size, ((a0[2]'h).toNat : Int) = bt a0 2 := bt_at a0 2; clear p12; have qi12 : (2 < (a0.size : Int)) = True := eq_true (of_decide_eq_true (by assumption)); replace q12 := eq_true q12)))
        go_ret
        exact ⟨by first | rfl | (simp [errW_none, errW_some] <;> rfl) | (simp [*, errW_none, errW_some] <;> rfl), by repeat (first | (with_reducible first | exact HB.out | apply bA | apply bN | apply bD) | exact HB.out)⟩
       ·rw [if_neg c11] at H
        exact absurd H (by simp)
      ·rw [if_neg c9] at H
       exact absurd H (by simp)
     ·rw [if_neg c8] at H
      have c8b0 : (t248.toList == ([] : List UInt8)) = false := beq_eq_false_iff_ne.mpr c8
      have c8b1 : (t248.toList != ([] : List UInt8)) = true := bne_iff_ne.mpr c8
      obtain rfl := Option.some.inj H
      have p4 : 0 ≤ (0 : Int) := (by omega)
      have q4 : 0 < a0.size := (by have : (0 : Int) < (a0.size : Int) := of_decide_eq_true (by assumption); omega)
      have hx4 : ∀ h : 0 < a0.size, ((a0[0]'h).toNat : Int) = bt a0 0 := bt_at a0 0
      clear p4
      have qi4 : (0 < (a0.size : Int)) = True := eq_true (of_decide_eq_true (by assumption))
      replace q4 := eq_true q4
      go_enter Tryd.func59, Tryd.ntmps59
      go_wp2_with (first | (go_at_call 76; (with_reducible refine (strings_Trim.calls (a0.extract 1 a0.size) (⟨#[48, 49, 50, 51, 52, 53, 54, 55, 56, 57]⟩ : ByteArray) t248 _ A7.out).mono ?_); rintro e w14 ⟨rfl, hb⟩; have n0_ := aM (below_step (by repeat (first | (with_reducible first | exact HB.out | apply bA | apply bN | apply bD) | exact HB.out)) hb); clear HB; have HB := n0_; clear n0_; (try clear hb); (try clear hb2); (try clear hk); (try clear hi)))
      repeat (go_quiet (first | (go_at_call 76; (with_reducible refine (strings_Trim.calls (a0.extract 1 a0.size) (⟨#[48, 49, 50, 51, 52, 53, 54, 55, 56, 57]⟩ : ByteArray) t248 _ A7.out).mono ?_); rintro e w14 ⟨rfl, hb⟩; have n0_ := aM (below_step (by repeat (first | (with_reducible first | exact HB.out | apply bA | apply bN | apply bD) | exact HB.out)) hb); clear HB; have HB := n0_; clear n0_; (try clear hb); (try clear hb2); (try clear hk); (try clear hi))); try go_wp2_with (first | (go_at_call 76; (with_reducible refine (strings_Trim.calls (a0.extract 1 a0.size) (⟨#[48, 49, 50, 51, 52, 53, 54, 55, 56, 57]⟩ : ByteArray) t248 _ A7.out).mono ?_); rintro e w14 ⟨rfl, hb⟩; have n0_ := aM (below_step (by repeat (first | (with_reducible first | exact HB.out | apply bA | apply bN | apply bD) | exact HB.out)) hb); clear HB; have HB := n0_; clear n0_; (try clear hb); (try clear hb2); (try clear hk); (try clear hi))))
      go_ret
      exact ⟨by first | rfl | (simp [errW_none, errW_some] <;> rfl) | (simp [*, errW_none, errW_some] <;> rfl), by repeat (first | (with_reducible first | exact HB.out | apply bA | apply bN | apply bD) | exact HB.out)⟩
    ·rw [if_neg c6] at H
     exact absurd H (by simp)
   ·rw [if_neg c5] at H
    have c5b0 : ((bt a0 0) == 115) = false := beq_eq_false_iff_ne.mpr c5
    have c5b1 : ((bt a0 0) != 115) = true := bne_iff_ne.mpr c5
    obtain rfl := Option.some.inj H
    have p4 : 0 ≤ (0 : Int) := (by omega)
    have q4 : 0 < a0.size := (by have : (0 : Int) < (a0.size : Int) := of_decide_eq_true (by assumption); omega)
    have hx4 : ∀ h : 0 < a0.size, ((a0[0]'h).toNat : Int) = bt a0 0 := bt_at a0 0
    clear p4
    have qi4 : (0 < (a0.size : Int)) = True := eq_true (of_decide_eq_true (by assumption))
    replace q4 := eq_true q4
    go_enter Tryd.func59, Tryd.ntmps59
    go_wp2
    repeat (go_quiet (fail); try go_wp2)
    go_ret
    exact ⟨by first | rfl | (simp [errW_none, errW_some] <;> rfl) | (simp [*, errW_none, errW_some] <;> rfl), by repeat (first | (with_reducible first | exact HB.out | apply bA | apply bN | apply bD) | exact HB.out)⟩
  ·rw [if_neg c3] at H
   exact absurd H (by simp)
 ·rw [if_neg c2] at H
  have c2b0 : ((a0.size : Int) == 3) = false := beq_eq_false_iff_ne.mpr c2
  have c2b1 : ((a0.size : Int) != 3) = true := bne_iff_ne.mpr c2
  obtain rfl := Option.some.inj H
  go_enter Tryd.func59, Tryd.ntmps59
  go_wp2
  repeat (go_quiet (fail); try go_wp2)
  go_ret
  exact ⟨by first | rfl | (simp [errW_none, errW_some] <;> rfl) | (simp [*, errW_none, errW_some] <;> rfl), by repeat (first | (with_reducible first | exact HB.out | apply bA | apply bN | apply bD) | exact HB.out)⟩

/-! ### impl_File: function 91: by hand -/
-- RAWIMPORT Derived.Lib.SliceRun
def impl_File.f (l0 : List (S69)) : Option (List (S69)) := if l0.length ≤ 1000000 then some l0 else none
theorem impl_File.eqnil (w : World) (a : Option Addr) (n c : Nat) : (binOp .eql 31 (.slice a n c) (.slice none 0 0)).run Tryd.prog w = .ok (.bool a.isNone) w := Lib.run_eql_slice_nil w _ _ a n c 0 0 Tryd.underlying31
set_option maxHeartbeats 1000000 in
set_option maxRecDepth 100000 in
theorem impl_File.calls (A0 : Option Addr) (c0 : Nat) (l0 : List (S69)) (r : List (S69)) (w : World) (hr0 : Kd.C k69 w A0 l0.length l0) (hc0 : l0.length ≤ c0) (h : impl_File.f l0 = some r) :
  Calls Tryd.prog 91 #[.slice A0 l0.length c0] w fun e w' => ∃ v0_ : Value, e = .returned (v0_) ∧ Kd.R k69 69 w' w.heap.size (fun _ => True) v0_ r ∧ Below w.heap.size w w' := by
 unfold impl_File.f at h
 split at h
 ·rename_i hs
  obtain rfl := Option.some.inj h
  clear h
  have hni := fun W => impl_File.eqnil W A0 l0.length c0
  cases A0 with
  | none =>
   have hn : l0 = [] := by
    rcases Nat.eq_zero_or_pos l0.length with h0 | h0
    ·exact List.eq_nil_of_length_eq_zero h0
    ·obtain ⟨ad, _, h, _⟩ := Kd.C_get hr0 (⟨⟨#[]⟩, ⟨#[]⟩, 0⟩ : S69) 0 (by omega) (by omega)
     cases h
   subst hn
   replace hni := fun W => impl_File.eqnil W none 0 c0
   go_enter Tryd.func91, Tryd.ntmps91
   go_wp2
   go_ret
   exact ⟨_, rfl, by (with_reducible repeat (first | apply Kd.R_alloc | apply Kd.R_drewN | apply Kd.R_drew)); exact Kd.R_nil _ _ _ _ _, by repeat (first | exact Below.refl _ _ | apply bA | apply bN | apply bD)⟩
  | some ad =>
   have HR0 := aM hr0
   have HS := aM hs
   clear hr0 hs hc0
   go_enter Tryd.func91, Tryd.ntmps91
   go_wp2_with (first
    | ((with_reducible refine gate_dst (N := 5) rfl ?_); refine Kd.R_lit k69 _ 69 ?hg (N := 5) ?hd (xs := ([] : List S69)) (inner := []) (ok := fun _ => True) (okp := fun _ => True) ?hr ?hp (fun _ hk => hk) trivial (Below.refl _ _) (Nat.le_refl _) (by simp) ?_; (case hd => rfl); (case hg => rfl); (case hr => first | (go_simp; done) | (go_simp; rfl)); (case hp => exact (Reps.none _ _)); intro v1 w1 ho hb hg_ hnew_; clear hg_ hnew_; have HO := aM ho; have HB := aM hb; clear ho hb)
    | ((with_reducible refine gate_builtin (b := .append) (xs := #[.tmp 5, .tmp 6]) rfl ?_); at_builtin; refine Kd.R_append_rows k69 (w0 := w) w.heap.size rfl (.tmp 5) (.tmp 6) 31 69 (.agg #[(.string ⟨#[]⟩), (.string ⟨#[]⟩), (.int .i64 0)]) 40 rfl Tryd.underlying31 info69 rfl (by decide) (by omega) v1 [] l0 _ _ _ (fun _ => True) (fun _ => False) rfl rfl HO.out (Kd.C_below HR0.out HB.out) (fun _ _ h => h) (fun _ h => h.elim) (fun _ _ => trivial) HB.out HB.out.size (by have := HS.out; simp; omega) ?_; intro v2 w2 ho2 hb2 hg2 hat2; have HO2 := aM ho2; have HB2 := aM hb2; clear ho2 hb2 hg2 hat2))
   go_ret
   exact ⟨_, rfl, HO2.out, HB2.out⟩
 ·cases h

/-! ### impl_copyDisk: function 71 -/
def impl_copyDisk.f (a0_0 : Int) (l0_1 : List (S69)) : Option (Int × (List (S69))) := (impl_File.f l0_1).bind fun t251 => (some (a0_0, t251))
set_option maxHeartbeats 8000000 in
set_option maxRecDepth 100000 in
theorem impl_copyDisk.calls (a0_0 : Int) (A0_1 : Option Addr) (c0_1 : Nat) (l0_1 : List (S69)) (r1 : Int) (r2 : List (S69)) (w : World) (hr0_1 : Kd.C k69 w A0_1 l0_1.length l0_1) (hc0_1 : l0_1.length ≤ c0_1) (h : impl_copyDisk.f a0_0 l0_1 = some (r1, r2)) :
  Calls Tryd.prog 71 #[.agg #[.int .i64 a0_0, .slice A0_1 l0_1.length c0_1]] w fun e w' => ∃ v1_ : Value, e = .returned (.agg #[.int .i64 r1, v1_]) ∧ Kd.R k69 69 w' w.heap.size (fun _ => True) v1_ r2 ∧ Below w.heap.size w w' := by
 have hu33 := Tryd.underlying33
 have HR0_1 := aM hr0_1
 have HC0_1 := aM hc0_1
 clear hr0_1 hc0_1
 have HB := aM (Below.refl w.heap.size w)
 have H : ((impl_File.f l0_1).bind fun t251 => (some (a0_0, t251))) = some (r1, r2) := h
 clear h
 replace H := Option.bind_eq_some_iff.mp H
 obtain ⟨t251, A20, H⟩ := H
 replace H : (some (a0_0, t251)) = some (r1, r2) := H
 have A2 := aM A20
 clear A20
 simp only [Option.some.injEq, Prod.mk.injEq] at H
 obtain ⟨rfl, rfl⟩ := H
 go_enter Tryd.func71, Tryd.ntmps71
 try go_wp2_with (first | ((with_reducible refine gate_dst (N := 1) rfl ?_); refine box_event ?hg (N := 1) ?hd (cs := #[.int .i64 a0_0, .slice A0_1 l0_1.length c0_1]) (t := 33) ?hr ?_; (case hd => rfl); (case hg => rfl); (case hr => first | (go_simp; done) | (go_simp; rfl)); intro gb249 hg w3 hbox hb; have n0_ := aM (below_step (by repeat (first | (with_reducible first | exact HB.out | apply bA | apply bN | apply bD) | exact HB.out)) hb); have n1_ := aM (hbox); have n2_ := aM ((by rw [hg]; exact (below_size (by repeat (first | (with_reducible first | exact HB.out | apply bA | apply bN | apply bD) | exact HB.out))) : w.heap.size ≤ gb249)); have n3_ := aM ((by rw [hg]; exact (below_size (by repeat (first | (with_reducible first | exact HB.out | apply bA | apply bN | apply bD) | exact HB.out))) : w.heap.size ≤ gb249)); clear HB; have HB := n0_; have BK249 := n1_; have GW249 := n2_; have GE249 := n3_; clear n0_ n1_ n2_ n3_; clear hb hbox hg) | ((with_reducible refine gate_dst (N := 2) rfl ?_); refine box_event ?hg (N := 2) ?hd (cs := #[.int .i64 0, .slice none 0 0]) (t := 33) ?hr ?_; (case hd => rfl); (case hg => rfl); (case hr => first | (go_simp; done) | (go_simp; rfl)); intro gb250 hg w4 hbox hb; have n0_ := aM (blk_below (g := gb249) (o := .cells #[.int .i64 a0_0, .slice A0_1 l0_1.length c0_1] 33 (0, 0)) (by (with_reducible repeat (first | refine kN ?_ _ | refine kD ?_ | refine kA ?_ _)); exact BK249.out) hb); have n1_ := aM (below_step (by repeat (first | (with_reducible first | exact HB.out | apply bA | apply bN | apply bD | refine bS ?_ GE249.out) | exact HB.out)) hb); have n2_ := aM (hbox); have n3_ := aM ((by rw [hg]; exact (below_size (by repeat (first | (with_reducible first | exact HB.out | apply bA | apply bN | apply bD | refine bS ?_ GE249.out) | exact HB.out))) : w.heap.size ≤ gb250)); have n4_ := aM ((by rw [hg]; exact (below_size (by repeat (first | (with_reducible first | exact HB.out | apply bA | apply bN | apply bD | refine bS ?_ GE249.out) | exact HB.out))) : w.heap.size ≤ gb250)); have n5_ := aM ((by rw [hg]; exact Nat.ne_of_lt (blk_lt (g := gb249) (o := .cells #[.int .i64 a0_0, .slice A0_1 l0_1.length c0_1] 33 (0, 0)) (by (with_reducible repeat (first | refine kN ?_ _ | refine kD ?_ | refine kA ?_ _)); exact BK249.out)) : gb249 ≠ gb250)); have n6_ := aM ((by rw [hg]; exact Nat.ne_of_gt (blk_lt (g := gb249) (o := .cells #[.int .i64 a0_0, .slice A0_1 l0_1.length c0_1] 33 (0, 0)) (by (with_reducible repeat (first | refine kN ?_ _ | refine kD ?_ | refine kA ?_ _)); exact BK249.out)) : gb250 ≠ gb249)); clear BK249; clear HB; have BK249 := n0_; have HB := n1_; have BK250 := n2_; have GW250 := n3_; have GE250 := n4_; have NB249_250 := n5_; have NB250_249 := n6_; clear n0_ n1_ n2_ n3_ n4_ n5_ n6_; clear hb hbox hg))
 have n0_ := aM (kD BK249.out)
 have n1_ := aM (kD BK250.out)
 have n2_ := aM (bD HB.out)
 clear BK249
 clear BK250
 clear HB
 have BK249 := n0_
 have BK250 := n1_
 have HB := n2_
 clear n0_ n1_ n2_
 refine start_ (n := 7) (S := fun w' => w'.cell? ⟨gb249, 0, none⟩ = some (.int .i64 a0_0) ∧ w'.cell? ⟨gb249, 1, none⟩ = some (.slice A0_1 l0_1.length c0_1)) (ds := []) #[F,F,F,F,F,F,F] (by kernel_rfl) rfl rfl ⟨(kC BK249.out 0).trans rfl, (kC BK249.out 1).trans rfl⟩ (fun hHeld => ?_)
 generalize w4.drew = w5 at BK249 BK250 HB hHeld ⊢
 refine pure_ (i := 0) (N := some 3) (v := ?_) (a' := ?_) #[T,F,F,F,F,F,F] rfl rfl (by kernel_rfl) (fun _ _ _ h => h) (Or.inl ⟨by rfl, ?_⟩) ?_ ?_
 rotate_left
 ·intro w'
  go_simp
  with_reducible rfl
 rotate_left
 ·simp only [Act.put, s1, s2, s3, i64_w, i32_w]
  rfl
 refine pure_ (i := 2) (N := some 5) (v := ?_) (a' := ?_) #[T,F,T,F,F,F,F] rfl rfl (by kernel_rfl) (fun _ _ _ h => h) (Or.inl ⟨by rfl, ?_⟩) ?_ ?_
 rotate_left
 ·intro w'
  go_simp
  with_reducible rfl
 rotate_left
 ·simp only [Act.put, s1, s2, s3, i64_w, i32_w]
  rfl
 refine take_ (i := 1) (N := some 4) (v := ?_) (a' := ?_) #[T,T,T,F,F,F,F] rfl rfl (by kernel_rfl) (fun _ _ _ h => h) (Or.inl ⟨by rfl, ?_⟩) hHeld ?_ ?_
 rotate_left
 ·rintro w' ⟨s0, s1⟩
  go_simp
  with_reducible rfl
 rotate_left
 ·simp only [Act.put, s1, s2, s3, i64_w, i32_w]
  rfl
 refine take_ (i := 3) (N := some 6) (v := ?_) (a' := ?_) #[T,T,T,T,F,F,F] rfl rfl (by kernel_rfl) (fun _ _ _ h => h) (Or.inl ⟨by rfl, ?_⟩) hHeld ?_ ?_
 rotate_left
 ·rintro w' ⟨s0, s1⟩
  go_simp
  with_reducible rfl
 rotate_left
 ·simp only [Act.put, s1, s2, s3, i64_w, i32_w]
  rfl
 refine one_ (i := 4) (N := some 7) #[T,T,T,T,T,F,F] rfl rfl (by kernel_rfl) (by decide) (fun K hK => ?_)
 refine goes_ Tryd.func91 (by kernel_rfl) rfl #[.slice A0_1 l0_1.length c0_1] (by rfl) rfl rfl (by (try simp only [List.map_toArray, List.map_cons, List.map_nil]); first | done | rfl | (simp only [List.length_drop, List.length_take]; rfl)) ?_
 with_reducible refine (impl_File.calls _ _ l0_1 t251 _ ?side1 ?side2 A2.out).mono ?_
 (case side1 => repeat (first | exact (Kd.C_below HR0_1.out HB.out) | (with_reducible refine Kd.C_alloc ?_ _) | (with_reducible refine Kd.C_drewN ?_ _) | (with_reducible refine Kd.C_drew ?_)))
 (case side2 => exact HC0_1.out)
 rintro e w6 ⟨v252, rfl, ho0, hb⟩
 refine ⟨_, rfl, ?_⟩
 have n0_ := aM (Kd.R_lower ho0 (below_size (by repeat (first | (with_reducible first | exact HB.out | apply bA | apply bN | apply bD | refine bS ?_ GE249.out | refine bS ?_ GE250.out) | exact HB.out))))
 have n1_ := aM (blk_below (g := gb249) (o := .cells #[.int .i64 a0_0, .slice A0_1 l0_1.length c0_1] 33 (0, 0)) (by (with_reducible repeat (first | refine kN ?_ _ | refine kD ?_ | refine kA ?_ _)); exact BK249.out) hb)
 have n2_ := aM (blk_below (g := gb250) (o := .cells #[.int .i64 0, .slice none 0 0] 33 (0, 0)) (by (with_reducible repeat (first | refine kN ?_ _ | refine kD ?_ | refine kA ?_ _)); exact BK250.out) hb)
 have n3_ := aM (below_step (by repeat (first | (with_reducible first | exact HB.out | apply bA | apply bN | apply bD | refine bS ?_ GE249.out | refine bS ?_ GE250.out) | exact HB.out)) hb)
 clear BK249
 clear BK250
 clear HB
 have HO253 := n0_
 have BK249 := n1_
 have BK250 := n2_
 have HB := n3_
 clear n0_ n1_ n2_ n3_
 (try clear hb)
 (try clear hb2)
 (try clear hk)
 (try clear hi)
 (try clear ho0)
 obtain ⟨Ao7, co7, eo7⟩ := Kd.R_slice HO253.out
 (first | subst eo7 | (injection eo7 with f1_ f2_ f3_; have f4_ := f1_.symm; have f5_ := f3_.symm; clear f1_ f2_ f3_; subst f4_; subst f5_))
 refine hK.out _ _ ⟨(kC BK249.out 0).trans rfl, (kC BK249.out 1).trans rfl⟩ (fun hHeld => ?_)
 clear hK K
 refine norm_ (a' := ?_) ?_ ?_
 rotate_left
 ·show Act.put _ (some 7) _ = _
  simp only [Act.put, s1, s2, s3, i64_w, i32_w]
  rfl
 refine pure_ (i := 5) (N := some 8) (v := ?_) (a' := ?_) #[T,T,T,T,T,T,F] rfl rfl (by kernel_rfl) (fun _ _ _ h => h) (Or.inl ⟨by rfl, ?_⟩) ?_ ?_
 rotate_left
 ·intro w'
  go_simp
  with_reducible rfl
 rotate_left
 ·simp only [Act.put, s1, s2, s3, i64_w, i32_w]
  rfl
 refine one_ (i := 6) (N := none) #[T,T,T,T,T,T,T] rfl rfl (by kernel_rfl) (by decide) (fun K hK => ?_)
 have hs8 : w6.cell? ⟨gb250, 0, none⟩ = some (.int .i64 0) := (kC BK250.out 0).trans rfl
 have hfs8 := kF BK250.out 0
 have hns8_0 := NB249_250.out
 have hms8_0 := NB250_249.out
 have hs9 : w6.cell? ⟨gb250, 1, none⟩ = some (.slice none 0 0) := (kC BK250.out 1).trans rfl
 have hfs9 := kF BK250.out 1
 have hns9_0 := NB249_250.out
 have hms9_0 := NB250_249.out
 refine skip_ (w1 := ?_) (by rfl) rfl ?_ ?_
 rotate_left
 ·go_simp
  rfl
 refine hK.out _ _ ⟨((cell_far (p := ⟨gb250, _, none⟩) NB249_250.out _).trans (((cell_far (p := ⟨gb250, _, none⟩) NB249_250.out _).trans (hHeld.1)))), ((cell_far (p := ⟨gb250, _, none⟩) NB249_250.out _).trans (((cell_far (p := ⟨gb250, _, none⟩) NB249_250.out _).trans (hHeld.2))))⟩ (fun hHeld => ?_)
 clear hK K
 refine done_ (by kernel_rfl) ?_
 try go_wp2
 refine bodyPost_ret (results_cell_row rfl _ _ gb250 33 #[.int .i64 a0_0, .slice Ao7 t251.length co7] (0, 0) _ rfl (by (with_reducible repeat (first | refine kN ?_ _ | refine kD ?_ | refine kA ?_ _)); refine blk_put (cs := #[.int .i64 a0_0, .slice none 0 0]) ?_ 1 _ rfl; (with_reducible repeat (first | refine kN ?_ _ | refine kD ?_ | refine kA ?_ _)); refine blk_put (cs := #[.int .i64 0, .slice none 0 0]) ?_ 0 _ rfl; (with_reducible repeat (first | refine kN ?_ _ | refine kD ?_ | refine kA ?_ _)); exact BK250.out) Tryd.underlying33 rfl (by kernel_rfl)) rfl ?_
 exact ⟨_, by first | rfl | (simp [errW_none, errW_some] <;> rfl) | (simp [*, errW_none, errW_some] <;> rfl), by (with_reducible repeat (first | apply Kd.R_alloc | apply Kd.R_drewN | apply Kd.R_drew)); exact Kd.R_mono (Kd.R_far (p := ⟨gb250, 1, none⟩) (Kd.R_far (p := ⟨gb250, 0, none⟩) (Kd.R_types HO253.out BK250.out (by decide)) (fun _ hk => hk.2) (.int .i64 a0_0)) (fun _ hk => hk.2) (.slice Ao7 t251.length co7)) (fun _ hk => trivial), by repeat (first | (with_reducible first | exact HB.out | apply bA | apply bN | apply bD | refine bS ?_ GE249.out | refine bS ?_ GE250.out) | exact HB.out)⟩

/-! ### impl_walSync: function 44: by hand -/
-- IMPORT U
-- RAWIMPORT Derived.StillTailTactics
theorem impl_walSync.file_put {W : World} {base g n cap : Nat} {ok : Nat → Prop} {xs : List S69} (h : Kd.R k69 69 W base ok (.slice (some ⟨g, 0, none⟩) n cap) xs) (hn : n = xs.length) (i : Nat) (hi : i < xs.length) (v : Int) :
  Kd.R k69 69 (W.setCell ⟨g, i * 3 + 2, none⟩ (.int .i64 v)) base ok (.slice (some ⟨g, 0, none⟩) n cap) (xs.set i ⟨xs[i].f0, xs[i].f1, v⟩) := by
 subst hn
 obtain ⟨hk, inner, ho, hr⟩ := h
 have hs := (ho.stored (i * 3 + 2) (.int .i64 v)).1
 have hsz : k69.sz = 3 := rfl
 rw [hsz] at ho hr hs
 refine ⟨hk, inner.set (i * 3 + 2) (.int .i64 v), by rw [List.length_set]; exact hs, ?_, ?_⟩
 ·rw [List.length_set, List.length_set]; exact hr.1
 ·intro j p hp
  by_cases hj : j = i
  ·subst hj
   rw [List.getElem?_set_self hi] at hp
   obtain rfl := Option.some.inj hp
   have h1 := k69_openM (hr.2 j xs[j] (List.getElem?_eq_getElem hi))
   have h2 : ((inner.set (j * 3 + 2) (.int .i64 v)).drop (j * 3)).take 3 = [.string xs[j].f0, .string xs[j].f1, .int .i64 v] := by
    rw [List.drop_set, if_neg (by omega), List.take_set, h1, show j * 3 + 2 - j * 3 = 2 by omega]
    rfl
   show k69.M _ _ _ _ (((inner.set (j * 3 + 2) (.int .i64 v)).drop (j * 3)).take 3)
   rw [h2]
   exact k69_mkM _ _ _ _
  ·rw [List.getElem?_set_ne (fun h => hj h.symm)] at hp
   have h1 := k69_openM (hr.2 j p hp)
   have h2 : ((inner.set (i * 3 + 2) (.int .i64 v)).drop (j * 3)).take 3 = (inner.drop (j * 3)).take 3 := by
    rcases Nat.lt_or_gt_of_ne hj with h | h
    ·rw [List.drop_set, if_neg (by omega), List.take_set, List.set_eq_of_length_le (by rw [List.length_take]; omega)]
    ·rw [List.drop_set_of_lt (by omega)]
   show k69.M _ _ _ _ (((inner.set (i * 3 + 2) (.int .i64 v)).drop (j * 3)).take 3)
   rw [h2, h1]
   exact k69_mkM _ _ _ _
/-- The place of the last segment, from a place on. -/
def impl_walSync.last (l : List S69) : Nat → Nat → Int → Option Int
 | 0, _, q => some q
 | d + 1, i, q => (impl_segmentOf.f (rd_T69 l (i : Int)).f0).bind fun n => impl_walSync.last l d (i + 1) (if n > 0 then (i : Int) else q)
theorem impl_walSync.last_in (l : List S69) (d : Nat) : ∀ (i : Nat) (q r : Int), i + d = l.length → -1 ≤ q → q < l.length → impl_walSync.last l d i q = some r → -1 ≤ r ∧ r < l.length := by
 induction d with
 | zero =>
  intro i q r _ h0 h1 h
  obtain rfl := Option.some.inj (show some q = some r from h)
  exact ⟨h0, h1⟩
 | succ d ih =>
  intro i q r hi h0 h1 h
  simp only [impl_walSync.last] at h
  replace h := Option.bind_eq_some_iff.mp h
  obtain ⟨n, _, h⟩ := h
  refine ih (i + 1) _ r (by omega) ?_ ?_ h
  ·split <;> omega
  ·split <;> omega
def impl_walSync.sync (l : List S69) (q : Int) : List S69 :=
 if 0 ≤ q then l.set q.toNat ⟨(rd_T69 l q).f0, (rd_T69 l q).f1, ((rd_T69 l q).f1.size : Int)⟩ else l
def impl_walSync.f (a0_0 : Int) (l0_1 : List (S69)) : Option (Int × (List (S69))) :=
 if l0_1.length ≤ 1000000 then (impl_walSync.last l0_1 l0_1.length 0 (-1)).bind fun q => some (a0_0, impl_walSync.sync l0_1 q) else none
theorem impl_walSync.io (n : Int) : intOf (Value.int .i64 n) = n := rfl
theorem impl_walSync.less {l i : Nat} (h : i < l) (hl : l ≤ 1000000) : ((l : Int) - wrap64 ((i : Int) + 1)).toNat < ((l : Int) - (i : Int)).toNat := by
 rw [Go.Proofs.YtpdhfoegbannkaaDoor.U.wrap_in (by omega) (by omega)]
 omega
set_option maxHeartbeats 4000000 in
set_option maxRecDepth 100000 in
theorem impl_walSync.calls (a0_0 : Int) (A0_1 : Option Addr) (c0_1 : Nat) (l0_1 : List (S69)) (r1 : Int) (r2 : List (S69)) (w : World) (hr0_1 : Kd.C k69 w A0_1 l0_1.length l0_1) (hc0_1 : l0_1.length ≤ c0_1) (h : impl_walSync.f a0_0 l0_1 = some (r1, r2)) :
  Calls Tryd.prog 44 #[.agg #[.int .i64 a0_0, .slice A0_1 l0_1.length c0_1]] w fun e w' => ∃ v1_ : Value, e = .returned (.agg #[.int .i64 r1, v1_]) ∧ Kd.R k69 69 w' w.heap.size (fun _ => True) v1_ r2 ∧ Below w.heap.size w w' := by
 have hu33 := Tryd.underlying33
 have hu69 := Tryd.underlying69
 unfold impl_walSync.f at h
 split at h
 ·rename_i hs
  replace h := Option.bind_eq_some_iff.mp h
  obtain ⟨q, hq, h⟩ := h
  simp only [Option.some.injEq, Prod.mk.injEq] at h
  obtain ⟨rfl, rfl⟩ := h
  have hcp : impl_copyDisk.f a0_0 l0_1 = some (a0_0, l0_1) := by
   unfold impl_copyDisk.f impl_File.f
   rw [if_pos hs]
   rfl
  have HCP := aM (fun (W : World) (hW : Below w.heap.size w W) => impl_copyDisk.calls a0_0 A0_1 c0_1 l0_1 a0_0 l0_1 W (Kd.C_below hr0_1 hW) hc0_1 hcp)
  have HQ := aM hq
  have HS := aM hs
  have HQR := aM (impl_walSync.last_in l0_1 l0_1.length 0 (-1) q (by omega) (by omega) (by omega) hq)
  clear hr0_1 hc0_1 hcp hq hs
  go_enter Tryd.func44, Tryd.ntmps44
  go_wp2_with (first
   | ((with_reducible refine gate_dst (N := 1) rfl ?_); refine box_event ?hg (N := 1) ?hd (cs := #[.int .i64 a0_0, .slice A0_1 l0_1.length c0_1]) (t := 33) ?hr ?_; (case hd => rfl); (case hg => rfl); (case hr => first | (go_simp; done) | (go_simp; rfl)); intro g1 hg1 w1 hbox1 hb1; have HX1 := aM hbox1; have HB1 := aM hb1; clear hbox1 hb1 hg1)
   | ((with_reducible refine gate_dst (N := 2) rfl ?_); refine box_event ?hg (N := 2) ?hd (cs := #[.int .i64 0, .slice none 0 0]) (t := 33) ?hr ?_; (case hd => rfl); (case hg => rfl); (case hr => first | (go_simp; done) | (go_simp; rfl)); intro g2 hg2 w2 hbox2 hb2; have HG2 : Aside0 (w.heap.size ≤ g2) := ⟨by rw [hg2]; exact HB1.out.size⟩; have HX2 := aM hbox2; have hx1_0 : w2.cell? ⟨g1, 0, none⟩ = some (.int .i64 a0_0) := (kC (blk_below HX1.out hb2) 0).trans rfl; have hx1_1 : w2.cell? ⟨g1, 1, none⟩ = some (.slice A0_1 l0_1.length c0_1) := (kC (blk_below HX1.out hb2) 1).trans rfl; have HB2 := aM (HB1.out.trans (hb2.mono HB1.out.size)); clear hbox2 hb2 hg2 HB1 HX1)
   | (go_at_call 71; refine (HCP.out w2 HB2.out).mono ?_; rintro e w3 ⟨v1, rfl, ho, hb3⟩; clear hx1_0 hx1_1; have HO1 := aM (Kd.R_lower ho HB2.out.size); have HX2' := aM (blk_below HX2.out hb3); have HB3 := aM (HB2.out.trans (hb3.mono HB2.out.size)); clear ho hb3 HX2 HB2; obtain ⟨Ao, co, eo⟩ := Kd.R_slice HO1.out; subst eo)
   | ((with_reducible refine gate_dst (N := 3) rfl ?_); refine box_event ?hg (N := 3) ?hd (cs := #[.int .i64 0, .slice none 0 0]) (t := 33) ?hr ?_; (case hd => rfl); (case hg => rfl); (case hr => first | (go_simp; done) | (go_simp; rfl)); intro g3 hg3 w4 hbox3 hb4; have HG3 : Aside0 (w.heap.size ≤ g3) := ⟨by rw [hg3]; exact HB3.out.size⟩; have HN : Aside0 (g2 ≠ g3) := ⟨by have := blk_lt HX2'.out; omega⟩; have HX3 := aM hbox3; have HX2 := aM (blk_below HX2'.out hb4); have HO2 := aM (Kd.R_below HO1.out hb4); have hx3_0 : w4.cell? ⟨g3, 0, none⟩ = some (.int .i64 0) := (kC hbox3 0).trans rfl; have hx3_1 : w4.cell? ⟨g3, 1, none⟩ = some (.slice none 0 0) := (kC hbox3 1).trans rfl; have hf3_0 := kF hbox3 0; have hf3_1 := kF hbox3 1; have HB4 := aM (HB3.out.trans (hb4.mono HB3.out.size)); clear hbox3 hb4 hg3 HB3 HX2' HO1))
  clear hx3_0 hx3_1 hf3_0 hf3_1
  go_loopw [4, 12] (fun v4 v12 wr => ∃ (i : Nat) (p : Int), i ≤ l0_1.length ∧ v12 = .int .i64 (i : Int) ∧ v4 = .int .i64 p ∧ Aside0 (impl_walSync.last l0_1 (l0_1.length - i) i p = some q) ∧ Aside0 (wr.heap[g2]? = some (.cells #[.int .i64 0, .slice none 0 0] 33 (0, 0))) ∧ Aside0 (wr.heap[g3]? = some (.cells #[.int .i64 a0_0, .slice Ao l0_1.length co] 33 (0, 0))) ∧ Aside0 (Kd.R k69 69 wr w.heap.size (fun _ => True) (.slice Ao l0_1.length co) l0_1) ∧ Aside0 (Below w.heap.size w wr))
   (fun _ v12 _ => (l0_1.length - intOf v12).toNat)
  case atStart =>
   refine ⟨0, -1, by omega, rfl, rfl, HQ, ⟨?_⟩, ⟨?_⟩, ⟨?_⟩, ⟨?_⟩⟩
   ·exact blk_far (blk_far HX2.out HN.out _) HN.out _
   ·refine blk_put (cs := #[.int .i64 a0_0, .slice none 0 0]) ?_ 1 _ rfl
    refine blk_put (cs := #[.int .i64 0, .slice none 0 0]) ?_ 0 _ rfl
    exact HX3.out
   ·exact Kd.R_mono (Kd.R_far (p := ⟨g3, 1, none⟩) (Kd.R_far (p := ⟨g3, 0, none⟩) (Kd.R_types HO2.out HX3.out (by decide)) (fun _ hk => hk.2) _) (fun _ hk => hk.2) _) (fun _ _ => trivial)
   ·exact (HB4.out.setCell (p := ⟨g3, 0, none⟩) HG3.out _).setCell (p := ⟨g3, 1, none⟩) HG3.out _
  case round =>
   clear HX2 HX3 HO2 HB4
   obtain ⟨i, p, hi, rfl, rfl, HA, HX2, HX3, HO, HB⟩ := hrel
   have hc3 : wr.cell? ⟨g3, 1, none⟩ = some (.slice Ao l0_1.length co) := (kC HX3.out 1).trans rfl
   by_cases hlt : i < l0_1.length
   ·have HA2 : Aside0 (((impl_segmentOf.f (rd_T69 l0_1 (i : Int)).f0).bind fun n => impl_walSync.last l0_1 (l0_1.length - (i + 1)) (i + 1) (if n > 0 then (i : Int) else p)) = some q) := ⟨by
     have h := HA.out
     obtain ⟨d, hd⟩ : ∃ d, l0_1.length - i = d + 1 := ⟨l0_1.length - i - 1, by omega⟩
     rw [hd] at h
     rw [show l0_1.length - (i + 1) = d by omega]
     exact h⟩
    obtain ⟨n, hn, hr⟩ := Option.bind_eq_some_iff.mp HA2.out
    have HN1 := aM hn
    have HR1 := aM hr
    clear HA HA2 hn hr
    obtain ⟨ad, e0, hx0, hx1, hx2⟩ := at_T69 (Kd.R_reads' HO.out).2.2 (i : Int) (by omega) (by omega)
    subst e0
    rw [Int.toNat_natCast] at hx0 hx1 hx2
    have hi0 : (0 : Int) ≤ (i : Int) := by omega
    have hi1 : (i : Int) < (l0_1.length : Int) := by omega
    have hfin : ∀ W : World, ∀ p' : Int, p' = (if n > 0 then (i : Int) else p) → Aside0 (W.heap[g2]? = some (.cells #[.int .i64 0, .slice none 0 0] 33 (0, 0))) → Aside0 (W.heap[g3]? = some (.cells #[.int .i64 a0_0, .slice (some ad) l0_1.length co] 33 (0, 0))) → Aside0 (Kd.R k69 69 W w.heap.size (fun _ => True) (.slice (some ad) l0_1.length co) l0_1) → Aside0 (Below w.heap.size w W) →
      ∃ (j : Nat) (p2 : Int), j ≤ l0_1.length ∧ Value.int .i64 (wrap64 ((i : Int) + 1)) = .int .i64 (j : Int) ∧ Value.int .i64 p' = .int .i64 p2 ∧ Aside0 (impl_walSync.last l0_1 (l0_1.length - j) j p2 = some q) ∧ Aside0 (W.heap[g2]? = some (.cells #[.int .i64 0, .slice none 0 0] 33 (0, 0))) ∧ Aside0 (W.heap[g3]? = some (.cells #[.int .i64 a0_0, .slice (some ad) l0_1.length co] 33 (0, 0))) ∧ Aside0 (Kd.R k69 69 W w.heap.size (fun _ => True) (.slice (some ad) l0_1.length co) l0_1) ∧ Aside0 (Below w.heap.size w W) := by
     intro W p' hp' h2 h3 h4 h5
     subst hp'
     have hs := HS.out
     exact ⟨i + 1, _, by omega, by rw [Go.Proofs.YtpdhfoegbannkaaDoor.U.wrap_in (by omega) (by omega)]; congr 1, rfl, HR1, h2, h3, h4, h5⟩
    have HF := aM hfin
    have HLT := aM hlt
    clear hfin hlt hi
    by_cases hn0 : n > 0
    ·have tn : decide (n > 0) = true := decide_eq_true hn0
     have tn2 : decide (0 < n) = true := decide_eq_true hn0
     have HN0 : Aside0 ((i : Int) = (if n > 0 then (i : Int) else p)) := ⟨by rw [if_pos hn0]⟩
     clear hn0
     go_wp2_with (first
      | ((with_reducible refine gate_dst (N := 6) rfl ?_); refine box_event ?hg (N := 6) ?hd (cs := #[.string ⟨#[]⟩, .string ⟨#[]⟩, .int .i64 0]) (t := 69) ?hr ?_; (case hd => rfl); (case hg => rfl); (case hr => first | (go_simp; done) | (go_simp; rfl)); intro g6 hg6 w6 hbox6 hb6; have HG6 : Aside0 (w.heap.size ≤ g6) := ⟨by rw [hg6]; exact HB.out.size⟩; have HN2 : Aside0 (g2 ≠ g6) := ⟨by have := blk_lt HX2.out; omega⟩; have HN3 : Aside0 (g3 ≠ g6) := ⟨by have := blk_lt HX3.out; omega⟩; have HX2' := aM (blk_below HX2.out hb6); have HX3' := aM (blk_below HX3.out hb6); have HO' := aM (Kd.R_below (Kd.R_elderB HO.out g6 (by omega)) hb6); have HB' := aM (HB.out.trans (hb6.mono HB.out.size)); have hc6_0 : w6.cell? ⟨g6, 0, none⟩ = some (.string ⟨#[]⟩) := (kC hbox6 0).trans rfl; have hc6_1 : w6.cell? ⟨g6, 1, none⟩ = some (.string ⟨#[]⟩) := (kC hbox6 1).trans rfl; have hc6_2 : w6.cell? ⟨g6, 2, none⟩ = some (.int .i64 0) := (kC hbox6 2).trans rfl; have hf6_0 := kF hbox6 0; have hf6_1 := kF hbox6 1; have hf6_2 := kF hbox6 2; clear hbox6 hb6 hg6)
      | (go_at_call 59; refine (impl_segmentOf.calls _ n _ HN1.out).mono ?_; rintro e w7 ⟨rfl, hb7⟩; have HB7 := aM hb7; clear hb7 hc6_0 hc6_1 hc6_2 hf6_0 hf6_1 hf6_2))
     have hb7 := HB7.out
     have HX2'' := aM (blk_below (blk_far (blk_far (blk_far HX2'.out HN2.out _) HN2.out _) HN2.out _) hb7)
     have HX3'' := aM (blk_below (blk_far (blk_far (blk_far HX3'.out HN3.out _) HN3.out _) HN3.out _) hb7)
     have HO'' := aM (Kd.R_mono (Kd.R_below (Kd.R_far (p := ⟨g6, 2, none⟩) (Kd.R_far (p := ⟨g6, 1, none⟩) (Kd.R_far (p := ⟨g6, 0, none⟩) HO'.out (fun _ hk => hk.2) _) (fun _ hk => hk.2) _) (fun _ hk => hk.2) _) hb7) (fun _ hk => hk.1))
     have HB'' := aM (below_step (((HB'.out.setCell (p := ⟨g6, 0, none⟩) HG6.out _).setCell (p := ⟨g6, 1, none⟩) HG6.out _).setCell (p := ⟨g6, 2, none⟩) HG6.out _) hb7)
     clear hb7
     go_roundw
     case rel => exact HF.out _ _ HN0.out HX2'' HX3'' HO'' HB''
     case measure => rw [impl_walSync.io, impl_walSync.io]; exact impl_walSync.less HLT.out HS.out
    ·have tn : decide (n > 0) = false := decide_eq_false hn0
     have tn2 : decide (0 < n) = false := decide_eq_false hn0
     have HN0 : Aside0 (p = (if n > 0 then (i : Int) else p)) := ⟨by rw [if_neg hn0]⟩
     clear hn0
     go_wp2_with (first
      | ((with_reducible refine gate_dst (N := 6) rfl ?_); refine box_event ?hg (N := 6) ?hd (cs := #[.string ⟨#[]⟩, .string ⟨#[]⟩, .int .i64 0]) (t := 69) ?hr ?_; (case hd => rfl); (case hg => rfl); (case hr => first | (go_simp; done) | (go_simp; rfl)); intro g6 hg6 w6 hbox6 hb6; have HG6 : Aside0 (w.heap.size ≤ g6) := ⟨by rw [hg6]; exact HB.out.size⟩; have HN2 : Aside0 (g2 ≠ g6) := ⟨by have := blk_lt HX2.out; omega⟩; have HN3 : Aside0 (g3 ≠ g6) := ⟨by have := blk_lt HX3.out; omega⟩; have HX2' := aM (blk_below HX2.out hb6); have HX3' := aM (blk_below HX3.out hb6); have HO' := aM (Kd.R_below (Kd.R_elderB HO.out g6 (by omega)) hb6); have HB' := aM (HB.out.trans (hb6.mono HB.out.size)); have hc6_0 : w6.cell? ⟨g6, 0, none⟩ = some (.string ⟨#[]⟩) := (kC hbox6 0).trans rfl; have hc6_1 : w6.cell? ⟨g6, 1, none⟩ = some (.string ⟨#[]⟩) := (kC hbox6 1).trans rfl; have hc6_2 : w6.cell? ⟨g6, 2, none⟩ = some (.int .i64 0) := (kC hbox6 2).trans rfl; have hf6_0 := kF hbox6 0; have hf6_1 := kF hbox6 1; have hf6_2 := kF hbox6 2; clear hbox6 hb6 hg6)
      | (go_at_call 59; refine (impl_segmentOf.calls _ n _ HN1.out).mono ?_; rintro e w7 ⟨rfl, hb7⟩; have HB7 := aM hb7; clear hb7 hc6_0 hc6_1 hc6_2 hf6_0 hf6_1 hf6_2))
     have hb7 := HB7.out
     have HX2'' := aM (blk_below (blk_far (blk_far (blk_far HX2'.out HN2.out _) HN2.out _) HN2.out _) hb7)
     have HX3'' := aM (blk_below (blk_far (blk_far (blk_far HX3'.out HN3.out _) HN3.out _) HN3.out _) hb7)
     have HO'' := aM (Kd.R_mono (Kd.R_below (Kd.R_far (p := ⟨g6, 2, none⟩) (Kd.R_far (p := ⟨g6, 1, none⟩) (Kd.R_far (p := ⟨g6, 0, none⟩) HO'.out (fun _ hk => hk.2) _) (fun _ hk => hk.2) _) (fun _ hk => hk.2) _) hb7) (fun _ hk => hk.1))
     have HB'' := aM (below_step (((HB'.out.setCell (p := ⟨g6, 0, none⟩) HG6.out _).setCell (p := ⟨g6, 1, none⟩) HG6.out _).setCell (p := ⟨g6, 2, none⟩) HG6.out _) hb7)
     clear hb7
     go_roundw
     case rel => exact HF.out _ _ HN0.out HX2'' HX3'' HO'' HB''
     case measure => rw [impl_walSync.io, impl_walSync.io]; exact impl_walSync.less HLT.out HS.out
   ·have hil : i = l0_1.length := by omega
    subst hil
    have hpq : p = q := by
     have h := HA.out
     rw [Nat.sub_self] at h
     exact Option.some.inj h
    subst hpq
    clear HA hi hlt
    have tl : decide ((l0_1.length : Int) < (l0_1.length : Int)) = false := decide_eq_false (by omega)
    by_cases hq0 : 0 ≤ p
    ·have tq : decide (p ≥ 0) = true := decide_eq_true hq0
     have hp1 := HQR.out.2
     obtain ⟨g, cap, e, hgb, hgl, cells, hcl⟩ := Kd.R_form HO.out (by omega)
     obtain ⟨ad, e0, hx0, hx1, hx2⟩ := at_T69 (Kd.R_reads' HO.out).2.2 p hq0 (by omega)
     subst e0
     have had : ad = ⟨g, 0, none⟩ := by
      injection e with e1 e2 e3
      injection e1
     have hfr : wr.frozen? ⟨(ad.add (p.toNat * 3)).block, (ad.add (p.toNat * 3)).off + 2, none⟩ = false := by
      rw [had, add_plain]
      exact kF hcl _
     have hne : g3 ≠ (ad.add (p.toNat * 3)).block := by
      rw [had, add_plain]
      exact blk_ne HX3.out hcl (by decide)
     have hne2 : g2 ≠ (ad.add (p.toNat * 3)).block := by
      rw [had, add_plain]
      exact blk_ne HX2.out hcl (by decide)
     have HAD := aM had
     have HCL := aM hcl
     clear e had hcl hgl hx0
     go_wp2
     go_still_tail 12, (by kernel_rfl)
     change wpList _ _ _ _ _ wr.drew
     replace hx2 : wr.drew.cell? _ = _ := hx2
     replace hfr : wr.drew.frozen? _ = _ := hfr
     have hne' := Ne.symm hne
     have hne2' := Ne.symm hne2
     have hn23 := HN.out
     have hn32 := Ne.symm hn23
     refine Go.Proofs.YtpdhfoegbannkaaDoor.U.set_event (w1 := wr.drew.setCell ⟨(ad.add (p.toNat * 3)).block, (ad.add (p.toNat * 3)).off + 2, none⟩ (.int .i64 ((rd_T69 l0_1 p).f1.size : Int))) rfl rfl ?hr ?_
     case hr => first | (go_simp; done) | (go_simp; rfl)
     intro W5 hW5
     have HW5 := aM hW5
     clear hW5
     have hX3 : W5.heap[g3]? = some (.cells #[.int .i64 a0_0, .slice (some ad) l0_1.length co] 33 (0, 0)) := by rw [HW5.out]; exact blk_far (p := ⟨(ad.add (p.toNat * 3)).block, (ad.add (p.toNat * 3)).off + 2, none⟩) (kD HX3.out) hne _
     have hX2 : W5.heap[g2]? = some (.cells #[.int .i64 0, .slice none 0 0] 33 (0, 0)) := by rw [HW5.out]; exact blk_far (p := ⟨(ad.add (p.toNat * 3)).block, (ad.add (p.toNat * 3)).off + 2, none⟩) (kD HX2.out) hne2 _
     have HX2' := aM hX2
     have hc30 := (kC hX3 0).trans (show _ = some (Value.int .i64 a0_0) from rfl)
     have hc31 := (kC hX3 1).trans (show _ = some (Value.slice (some ad) l0_1.length co) from rfl)
     have hc20 := (kC hX2 0).trans (show _ = some (Value.int .i64 0) from rfl)
     have hc21 := (kC hX2 1).trans (show _ = some (Value.slice none 0 0) from rfl)
     have hf20 := kF hX2 0
     have hf21 := kF hX2 1
     clear hX3 hX2 hne hne' hne2 hne2' hc3 hx1 hx2 hfr
     go_wp2
     have hO : Kd.R k69 69 W5 w.heap.size (fun _ => True) (.slice (some ad) l0_1.length co) (impl_walSync.sync l0_1 p) := by
      have h1 := HO.out
      unfold impl_walSync.sync
      rw [if_pos hq0, HAD.out, HW5.out]
      rw [HAD.out] at h1
      have h2 := impl_walSync.file_put h1 rfl p.toNat (by omega) ((rd_T69 l0_1 p).f1.size : Int)
      have hrd : rd_T69 l0_1 p = l0_1[p.toNat]'(by omega) := by
       unfold rd_T69
       rw [List.getD_eq_getElem?_getD, List.getElem?_eq_getElem (by omega), Option.getD_some]
      rw [hrd] at h2 ⊢
      simp only [HAD.out, add_plain]
      exact Kd.R_drew h2
     have hB : Below w.heap.size w W5 := by
      rw [HW5.out]
      exact (bD HB.out).setCell (p := ⟨(ad.add (p.toNat * 3)).block, (ad.add (p.toNat * 3)).off + 2, none⟩) (by rw [HAD.out, add_plain]; exact hgb) _
     refine bodyPost_ret (results_cell_row rfl _ _ g2 33 #[.int .i64 a0_0, .slice (some ad) l0_1.length co] (0, 0) _ rfl (by refine blk_put (cs := #[.int .i64 a0_0, .slice none 0 0]) ?_ 1 _ rfl; refine blk_put (cs := #[.int .i64 0, .slice none 0 0]) ?_ 0 _ rfl; exact HX2'.out) Tryd.underlying33 rfl (by kernel_rfl)) rfl ?_
     exact ⟨_, rfl, Kd.R_mono (Kd.R_far (p := ⟨g2, 1, none⟩) (Kd.R_far (p := ⟨g2, 0, none⟩) (Kd.R_types hO HX2'.out (by decide)) (fun _ hk => hk.2) _) (fun _ hk => hk.2) _) (fun _ _ => trivial), (hB.setCell (p := ⟨g2, 0, none⟩) HG2.out _).setCell (p := ⟨g2, 1, none⟩) HG2.out _⟩
    ·have tq : decide (p ≥ 0) = false := decide_eq_false hq0
     have hsync : impl_walSync.sync l0_1 p = l0_1 := by unfold impl_walSync.sync; rw [if_neg hq0]
     have HSY := aM hsync
     have hn23 := HN.out
     have hn32 := Ne.symm hn23
     have hc30 := (kC HX3.out 0).trans (show _ = some (Value.int .i64 a0_0) from rfl)
     have hc20 := (kC HX2.out 0).trans (show _ = some (Value.int .i64 0) from rfl)
     have hc21 := (kC HX2.out 1).trans (show _ = some (Value.slice none 0 0) from rfl)
     have hf20 := kF HX2.out 0
     have hf21 := kF HX2.out 1
     clear hq0 hsync
     go_wp2
     refine bodyPost_ret (results_cell_row rfl _ _ g2 33 #[.int .i64 a0_0, .slice Ao l0_1.length co] (0, 0) _ rfl (by refine blk_put (cs := #[.int .i64 a0_0, .slice none 0 0]) ?_ 1 _ rfl; refine blk_put (cs := #[.int .i64 0, .slice none 0 0]) ?_ 0 _ rfl; exact HX2.out) Tryd.underlying33 rfl (by kernel_rfl)) rfl ?_
     exact ⟨_, rfl, by rw [HSY.out]; exact Kd.R_mono (Kd.R_far (p := ⟨g2, 1, none⟩) (Kd.R_far (p := ⟨g2, 0, none⟩) (Kd.R_types HO.out HX2.out (by decide)) (fun _ hk => hk.2) _) (fun _ hk => hk.2) _) (fun _ _ => trivial), (HB.out.setCell (p := ⟨g2, 0, none⟩) HG2.out _).setCell (p := ⟨g2, 1, none⟩) HG2.out _⟩
 ·cases h

/-! ### impl_WalSync: function 21 -/
def impl_WalSync.f (k : Nat) (a0_0 : Int) (l0_1 : List (S69)) : Option (Int × (List (S69)) × Int) := (impl_DiskOK.f k a0_0 l0_1).bind fun t256 => (if t256 = true then ((impl_walSync.f a0_0 l0_1).bind fun bt257 => (some (bt257.1, bt257.2, 0))) else (some (0, ([] : List (S69)), 1)))
theorem impl_WalSync.mono : ∀ a0 a1 k, LeO (impl_WalSync.f k a0 a1) (impl_WalSync.f (k + 1) a0 a1) := by
 intro a0 a1 k
 unfold impl_WalSync.f
 repeat' first
   | (with_reducible exact impl_DiskOK.mono _ _ _)
   | (with_reducible exact LeO.refl _)
   | (with_reducible exact LeO.none _)
   | (with_reducible refine LeO.ite ?_ ?_)
   | (with_reducible refine LeO.bind ?_ (fun _ => ?_))
   | exact impl_DiskOK.mono _ _ _
   | exact LeO.none _
   | refine LeO.ite ?_ ?_
   | refine LeO.bind ?_ (fun _ => ?_)
set_option maxHeartbeats 8000000 in
set_option maxRecDepth 100000 in
theorem impl_WalSync.calls (k : Nat) (a0_0 : Int) (A0_1 : Option Addr) (c0_1 : Nat) (l0_1 : List (S69)) (r1 : Int) (r2 : List (S69)) (r3 : Int) (w : World) (hr0_1 : Kd.C k69 w A0_1 l0_1.length l0_1) (hc0_1 : l0_1.length ≤ c0_1) (h : impl_WalSync.f k a0_0 l0_1 = some (r1, r2, r3)) :
  Calls Tryd.prog 21 #[.agg #[.int .i64 a0_0, .slice A0_1 l0_1.length c0_1]] w fun e w' => ∃ v1_ : Value, e = .returned (.tuple #[.agg #[.int .i64 r1, v1_], .int .i64 r3]) ∧ Kd.R k69 69 w' w.heap.size (fun _ => True) v1_ r2 ∧ Below w.heap.size w w' := by
 have hu33 := Tryd.underlying33
 have HR0_1 := aM hr0_1
 have HC0_1 := aM hc0_1
 clear hr0_1 hc0_1
 have HB := aM (Below.refl w.heap.size w)
 have H : ((impl_DiskOK.f k a0_0 l0_1).bind fun t256 => (if t256 = true then ((impl_walSync.f a0_0 l0_1).bind fun bt257 => (some (bt257.1, bt257.2, 0))) else (some (0, ([] : List (S69)), 1)))) = some (r1, r2, r3) := h
 clear h
 replace H := Option.bind_eq_some_iff.mp H
 obtain ⟨t256, A20, H⟩ := H
 replace H : (if t256 = true then ((impl_walSync.f a0_0 l0_1).bind fun bt257 => (some (bt257.1, bt257.2, 0))) else (some (0, ([] : List (S69)), 1))) = some (r1, r2, r3) := H
 have A2 := aM A20
 clear A20
 by_cases c3 : t256 = true
 ·subst c3
  have H1 : ((impl_walSync.f a0_0 l0_1).bind fun bt257 => (some (bt257.1, bt257.2, 0))) = some (r1, r2, r3) := by rw [if_pos rfl] at H; exact H
  clear H
  have H := H1
  clear H1
  replace H := Option.bind_eq_some_iff.mp H
  obtain ⟨⟨t257, t258⟩, A40, H⟩ := H
  replace H : (some (t257, t258, 0)) = some (r1, r2, r3) := H
  have A4 := aM A40
  clear A40
  simp only [Option.some.injEq, Prod.mk.injEq] at H
  obtain ⟨rfl, rfl, rfl⟩ := H
  go_enter Tryd.func21, Tryd.ntmps21
  go_wp2_with (first | ((with_reducible refine gate_dst (N := 1) rfl ?_); refine box_event ?hg (N := 1) ?hd (cs := #[.int .i64 a0_0, .slice A0_1 l0_1.length c0_1]) (t := 33) ?hr ?_; (case hd => rfl); (case hg => rfl); (case hr => first | (go_simp; done) | (go_simp; rfl)); intro gb254 hg w5 hbox hb; have n0_ := aM (below_step (by repeat (first | (with_reducible first | exact HB.out | apply bA | apply bN | apply bD) | exact HB.out)) hb); have n1_ := aM (hbox); have n2_ := aM ((by rw [hg]; exact (below_size (by repeat (first | (with_reducible first | exact HB.out | apply bA | apply bN | apply bD) | exact HB.out))) : w.heap.size ≤ gb254)); have n3_ := aM ((by rw [hg]; exact (below_size (by repeat (first | (with_reducible first | exact HB.out | apply bA | apply bN | apply bD) | exact HB.out))) : w.heap.size ≤ gb254)); clear HB; have HB := n0_; have BK254 := n1_; have GW254 := n2_; have GE254 := n3_; clear n0_ n1_ n2_ n3_; clear hb hbox hg) | ((with_reducible refine gate_dst (N := 2) rfl ?_); refine box_event ?hg (N := 2) ?hd (cs := #[.int .i64 0, .slice none 0 0]) (t := 33) ?hr ?_; (case hd => rfl); (case hg => rfl); (case hr => first | (go_simp; done) | (go_simp; rfl)); intro gb255 hg w6 hbox hb; have n0_ := aM (blk_below (g := gb254) (o := .cells #[.int .i64 a0_0, .slice A0_1 l0_1.length c0_1] 33 (0, 0)) (by (with_reducible repeat (first | refine kN ?_ _ | refine kD ?_ | refine kA ?_ _)); exact BK254.out) hb); have n1_ := aM (below_step (by repeat (first | (with_reducible first | exact HB.out | apply bA | apply bN | apply bD | refine bS ?_ GE254.out) | exact HB.out)) hb); have n2_ := aM (hbox); have n3_ := aM ((by rw [hg]; exact (below_size (by repeat (first | (with_reducible first | exact HB.out | apply bA | apply bN | apply bD | refine bS ?_ GE254.out) | exact HB.out))) : w.heap.size ≤ gb255)); have n4_ := aM ((by rw [hg]; exact (below_size (by repeat (first | (with_reducible first | exact HB.out | apply bA | apply bN | apply bD | refine bS ?_ GE254.out) | exact HB.out))) : w.heap.size ≤ gb255)); have n5_ := aM ((by rw [hg]; exact Nat.ne_of_lt (blk_lt (g := gb254) (o := .cells #[.int .i64 a0_0, .slice A0_1 l0_1.length c0_1] 33 (0, 0)) (by (with_reducible repeat (first | refine kN ?_ _ | refine kD ?_ | refine kA ?_ _)); exact BK254.out)) : gb254 ≠ gb255)); have n6_ := aM ((by rw [hg]; exact Nat.ne_of_gt (blk_lt (g := gb254) (o := .cells #[.int .i64 a0_0, .slice A0_1 l0_1.length c0_1] 33 (0, 0)) (by (with_reducible repeat (first | refine kN ?_ _ | refine kD ?_ | refine kA ?_ _)); exact BK254.out)) : gb255 ≠ gb254)); clear BK254; clear HB; have BK254 := n0_; have HB := n1_; have BK255 := n2_; have GW255 := n3_; have GE255 := n4_; have NB254_255 := n5_; have NB255_254 := n6_; clear n0_ n1_ n2_ n3_ n4_ n5_ n6_; clear hb hbox hg; have hnb7 := NB254_255.out; have hnc7 := NB255_254.out; have hcz8_0 : w6.cell? ⟨gb254, 0, none⟩ = some (.int .i64 a0_0) := (kC BK254.out 0).trans rfl; have hcz8_1 : w6.cell? ⟨gb254, 1, none⟩ = some (.slice A0_1 l0_1.length c0_1) := (kC BK254.out 1).trans rfl; have hfz8_0 := kF BK254.out 0; have hfz8_1 := kF BK254.out 1) | ((with_reducible refine gate_callee (f := 27) rfl ?_); refine goesL_ (some 5) rfl rfl Tryd.func27 (by kernel_rfl) rfl #[.agg #[.int .i64 a0_0, .slice A0_1 l0_1.length c0_1]] rfl (by (try simp only [List.map_toArray, List.map_cons, List.map_nil]); first | done | rfl | (simp only [List.length_drop, List.length_take]; rfl)) ?_; (with_reducible refine (impl_DiskOK.calls k a0_0 _ _ l0_1 true _ ?side1 ?side2 A2.out).mono ?_); (case side1 => repeat (first | exact (Kd.C_below HR0_1.out HB.out) | (with_reducible refine Kd.C_alloc ?_ _) | (with_reducible refine Kd.C_drewN ?_ _) | (with_reducible refine Kd.C_drew ?_))); (case side2 => exact HC0_1.out); rintro e w9 ⟨rfl, hb⟩; refine ⟨_, rfl, ?_⟩; have n0_ := aM (blk_below (g := gb254) (o := .cells #[.int .i64 a0_0, .slice A0_1 l0_1.length c0_1] 33 (0, 0)) (by (with_reducible repeat (first | refine kN ?_ _ | refine kD ?_ | refine kA ?_ _)); exact BK254.out) hb); have n1_ := aM (blk_below (g := gb255) (o := .cells #[.int .i64 0, .slice none 0 0] 33 (0, 0)) (by (with_reducible repeat (first | refine kN ?_ _ | refine kD ?_ | refine kA ?_ _)); exact BK255.out) hb); have n2_ := aM (below_step (by repeat (first | (with_reducible first | exact HB.out | apply bA | apply bN | apply bD | refine bS ?_ GE254.out | refine bS ?_ GE255.out) | exact HB.out)) hb); clear BK254; clear BK255; clear HB; have BK254 := n0_; have BK255 := n1_; have HB := n2_; clear n0_ n1_ n2_; (try clear hb); (try clear hb2); (try clear hk); (try clear hi); have hcz10_0 : w9.cell? ⟨gb254, 0, none⟩ = some (.int .i64 a0_0) := (kC BK254.out 0).trans rfl; have hcz10_1 : w9.cell? ⟨gb254, 1, none⟩ = some (.slice A0_1 l0_1.length c0_1) := (kC BK254.out 1).trans rfl; have hfz10_0 := kF BK254.out 0; have hfz10_1 := kF BK254.out 1) | ((with_reducible refine gate_callee (f := 44) rfl ?_); refine goesL_ (some 9) rfl rfl Tryd.func44 (by kernel_rfl) rfl #[.agg #[.int .i64 a0_0, .slice A0_1 l0_1.length c0_1]] rfl (by (try simp only [List.map_toArray, List.map_cons, List.map_nil]); first | done | rfl | (simp only [List.length_drop, List.length_take]; rfl)) ?_; (with_reducible refine (impl_walSync.calls a0_0 _ _ l0_1 t257 t258 _ ?side1 ?side2 A4.out).mono ?_); (case side1 => repeat (first | exact (Kd.C_below HR0_1.out HB.out) | (with_reducible refine Kd.C_alloc ?_ _) | (with_reducible refine Kd.C_drewN ?_ _) | (with_reducible refine Kd.C_drew ?_))); (case side2 => exact HC0_1.out); rintro e w11 ⟨v259, rfl, ho0, hb⟩; refine ⟨_, rfl, ?_⟩; have n0_ := aM (Kd.R_lower ho0 (below_size (by repeat (first | (with_reducible first | exact HB.out | apply bA | apply bN | apply bD | refine bS ?_ GE254.out | refine bS ?_ GE255.out) | exact HB.out)))); have n1_ := aM (blk_below (g := gb254) (o := .cells #[.int .i64 a0_0, .slice A0_1 l0_1.length c0_1] 33 (0, 0)) (by (with_reducible repeat (first | refine kN ?_ _ | refine kD ?_ | refine kA ?_ _)); exact BK254.out) hb); have n2_ := aM (blk_below (g := gb255) (o := .cells #[.int .i64 0, .slice none 0 0] 33 (0, 0)) (by (with_reducible repeat (first | refine kN ?_ _ | refine kD ?_ | refine kA ?_ _)); exact BK255.out) hb); have n3_ := aM (below_step (by repeat (first | (with_reducible first | exact HB.out | apply bA | apply bN | apply bD | refine bS ?_ GE254.out | refine bS ?_ GE255.out) | exact HB.out)) hb); clear BK254; clear BK255; clear HB; have HO260 := n0_; have BK254 := n1_; have BK255 := n2_; have HB := n3_; clear n0_ n1_ n2_ n3_; (try clear hb); (try clear hb2); (try clear hk); (try clear hi); (try clear ho0); have hcz12_0 : w11.cell? ⟨gb255, 0, none⟩ = some (.int .i64 0) := (kC BK255.out 0).trans rfl; have hcz12_1 : w11.cell? ⟨gb255, 1, none⟩ = some (.slice none 0 0) := (kC BK255.out 1).trans rfl; have hfz12_0 := kF BK255.out 0; have hfz12_1 := kF BK255.out 1; obtain ⟨Ao13, co13, eo13⟩ := Kd.R_slice HO260.out; subst eo13))
  refine bodyPost_ret (results_ct rfl _ _ gb255 33 #[.int .i64 t257, .slice Ao13 t258.length co13] (0, 0) _ rfl (by (with_reducible repeat (first | refine kN ?_ _ | refine kD ?_ | refine kA ?_ _)); refine blk_put (cs := #[.int .i64 t257, .slice none 0 0]) ?_ 1 _ rfl; (with_reducible repeat (first | refine kN ?_ _ | refine kD ?_ | refine kA ?_ _)); refine blk_put (cs := #[.int .i64 0, .slice none 0 0]) ?_ 0 _ rfl; (with_reducible repeat (first | refine kN ?_ _ | refine kD ?_ | refine kA ?_ _)); exact BK255.out) Tryd.underlying33 rfl (by kernel_rfl)) rfl ?_
  exact ⟨_, by first | rfl | (simp [errW_none, errW_some] <;> rfl) | (simp [*, errW_none, errW_some] <;> rfl), by (with_reducible repeat (first | apply Kd.R_alloc | apply Kd.R_drewN | apply Kd.R_drew)); exact Kd.R_mono (Kd.R_far (p := ⟨gb255, 1, none⟩) (Kd.R_far (p := ⟨gb255, 0, none⟩) (Kd.R_types HO260.out BK255.out (by decide)) (fun _ hk => hk.2) (.int .i64 t257)) (fun _ hk => hk.2) (.slice Ao13 t258.length co13)) (fun _ hk => trivial), by repeat (first | (with_reducible first | exact HB.out | apply bA | apply bN | apply bD | refine bS ?_ GE254.out | refine bS ?_ GE255.out) | exact HB.out)⟩
 ·replace c3 := Bool.eq_false_iff.mpr c3
  subst c3
  have H1 : (some (0, ([] : List (S69)), 1)) = some (r1, r2, r3) := by rw [if_neg (show ¬ (false = true) by decide)] at H; exact H
  clear H
  have H := H1
  clear H1
  simp only [Option.some.injEq, Prod.mk.injEq] at H
  obtain ⟨rfl, rfl, rfl⟩ := H
  go_enter Tryd.func21, Tryd.ntmps21
  go_wp2_with (first | ((with_reducible refine gate_dst (N := 1) rfl ?_); refine box_event ?hg (N := 1) ?hd (cs := #[.int .i64 a0_0, .slice A0_1 l0_1.length c0_1]) (t := 33) ?hr ?_; (case hd => rfl); (case hg => rfl); (case hr => first | (go_simp; done) | (go_simp; rfl)); intro gb254 hg w14 hbox hb; have n0_ := aM (below_step (by repeat (first | (with_reducible first | exact HB.out | apply bA | apply bN | apply bD) | exact HB.out)) hb); have n1_ := aM (hbox); have n2_ := aM ((by rw [hg]; exact (below_size (by repeat (first | (with_reducible first | exact HB.out | apply bA | apply bN | apply bD) | exact HB.out))) : w.heap.size ≤ gb254)); have n3_ := aM ((by rw [hg]; exact (below_size (by repeat (first | (with_reducible first | exact HB.out | apply bA | apply bN | apply bD) | exact HB.out))) : w.heap.size ≤ gb254)); clear HB; have HB := n0_; have BK254 := n1_; have GW254 := n2_; have GE254 := n3_; clear n0_ n1_ n2_ n3_; clear hb hbox hg) | ((with_reducible refine gate_dst (N := 2) rfl ?_); refine box_event ?hg (N := 2) ?hd (cs := #[.int .i64 0, .slice none 0 0]) (t := 33) ?hr ?_; (case hd => rfl); (case hg => rfl); (case hr => first | (go_simp; done) | (go_simp; rfl)); intro gb255 hg w15 hbox hb; have n0_ := aM (blk_below (g := gb254) (o := .cells #[.int .i64 a0_0, .slice A0_1 l0_1.length c0_1] 33 (0, 0)) (by (with_reducible repeat (first | refine kN ?_ _ | refine kD ?_ | refine kA ?_ _)); exact BK254.out) hb); have n1_ := aM (below_step (by repeat (first | (with_reducible first | exact HB.out | apply bA | apply bN | apply bD | refine bS ?_ GE254.out) | exact HB.out)) hb); have n2_ := aM (hbox); have n3_ := aM ((by rw [hg]; exact (below_size (by repeat (first | (with_reducible first | exact HB.out | apply bA | apply bN | apply bD | refine bS ?_ GE254.out) | exact HB.out))) : w.heap.size ≤ gb255)); have n4_ := aM ((by rw [hg]; exact (below_size (by repeat (first | (with_reducible first | exact HB.out | apply bA | apply bN | apply bD | refine bS ?_ GE254.out) | exact HB.out))) : w.heap.size ≤ gb255)); have n5_ := aM ((by rw [hg]; exact Nat.ne_of_lt (blk_lt (g := gb254) (o := .cells #[.int .i64 a0_0, .slice A0_1 l0_1.length c0_1] 33 (0, 0)) (by (with_reducible repeat (first | refine kN ?_ _ | refine kD ?_ | refine kA ?_ _)); exact BK254.out)) : gb254 ≠ gb255)); have n6_ := aM ((by rw [hg]; exact Nat.ne_of_gt (blk_lt (g := gb254) (o := .cells #[.int .i64 a0_0, .slice A0_1 l0_1.length c0_1] 33 (0, 0)) (by (with_reducible repeat (first | refine kN ?_ _ | refine kD ?_ | refine kA ?_ _)); exact BK254.out)) : gb255 ≠ gb254)); clear BK254; clear HB; have BK254 := n0_; have HB := n1_; have BK255 := n2_; have GW255 := n3_; have GE255 := n4_; have NB254_255 := n5_; have NB255_254 := n6_; clear n0_ n1_ n2_ n3_ n4_ n5_ n6_; clear hb hbox hg; have hnb16 := NB254_255.out; have hnc16 := NB255_254.out; have hcz17_0 : w15.cell? ⟨gb254, 0, none⟩ = some (.int .i64 a0_0) := (kC BK254.out 0).trans rfl; have hcz17_1 : w15.cell? ⟨gb254, 1, none⟩ = some (.slice A0_1 l0_1.length c0_1) := (kC BK254.out 1).trans rfl; have hfz17_0 := kF BK254.out 0; have hfz17_1 := kF BK254.out 1) | ((with_reducible refine gate_callee (f := 27) rfl ?_); refine goesL_ (some 5) rfl rfl Tryd.func27 (by kernel_rfl) rfl #[.agg #[.int .i64 a0_0, .slice A0_1 l0_1.length c0_1]] rfl (by (try simp only [List.map_toArray, List.map_cons, List.map_nil]); first | done | rfl | (simp only [List.length_drop, List.length_take]; rfl)) ?_; (with_reducible refine (impl_DiskOK.calls k a0_0 _ _ l0_1 false _ ?side1 ?side2 A2.out).mono ?_); (case side1 => repeat (first | exact (Kd.C_below HR0_1.out HB.out) | (with_reducible refine Kd.C_alloc ?_ _) | (with_reducible refine Kd.C_drewN ?_ _) | (with_reducible refine Kd.C_drew ?_))); (case side2 => exact HC0_1.out); rintro e w18 ⟨rfl, hb⟩; refine ⟨_, rfl, ?_⟩; have n0_ := aM (blk_below (g := gb254) (o := .cells #[.int .i64 a0_0, .slice A0_1 l0_1.length c0_1] 33 (0, 0)) (by (with_reducible repeat (first | refine kN ?_ _ | refine kD ?_ | refine kA ?_ _)); exact BK254.out) hb); have n1_ := aM (blk_below (g := gb255) (o := .cells #[.int .i64 0, .slice none 0 0] 33 (0, 0)) (by (with_reducible repeat (first | refine kN ?_ _ | refine kD ?_ | refine kA ?_ _)); exact BK255.out) hb); have n2_ := aM (below_step (by repeat (first | (with_reducible first | exact HB.out | apply bA | apply bN | apply bD | refine bS ?_ GE254.out | refine bS ?_ GE255.out) | exact HB.out)) hb); clear BK254; clear BK255; clear HB; have BK254 := n0_; have BK255 := n1_; have HB := n2_; clear n0_ n1_ n2_; (try clear hb); (try clear hb2); (try clear hk); (try clear hi); have hcz19_0 : w18.cell? ⟨gb255, 0, none⟩ = some (.int .i64 0) := (kC BK255.out 0).trans rfl; have hcz19_1 : w18.cell? ⟨gb255, 1, none⟩ = some (.slice none 0 0) := (kC BK255.out 1).trans rfl; have hfz19_0 := kF BK255.out 0; have hfz19_1 := kF BK255.out 1))
  refine bodyPost_ret (results_ct rfl _ _ gb255 33 #[.int .i64 0, .slice none 0 0] (0, 0) _ rfl (by (with_reducible repeat (first | refine kN ?_ _ | refine kD ?_ | refine kA ?_ _)); refine blk_put (cs := #[.int .i64 0, .slice none 0 0]) ?_ 1 _ rfl; (with_reducible repeat (first | refine kN ?_ _ | refine kD ?_ | refine kA ?_ _)); refine blk_put (cs := #[.int .i64 0, .slice none 0 0]) ?_ 0 _ rfl; (with_reducible repeat (first | refine kN ?_ _ | refine kD ?_ | refine kA ?_ _)); exact BK255.out) Tryd.underlying33 rfl (by kernel_rfl)) rfl ?_
  exact ⟨_, by first | rfl | (simp [errW_none, errW_some] <;> rfl) | (simp [*, errW_none, errW_some] <;> rfl), by first | exact Kd.R_nil _ _ _ _ _ | exact Kd.N_nil _ _ _ _ _ | exact Kd.V_nil _ _ _ _ _ | exact Kd.Q_nil _ _ _ _ _ | exact Kd.S_nil _ _ _ _ _, by repeat (first | (with_reducible first | exact HB.out | apply bA | apply bN | apply bD | refine bS ?_ GE254.out | refine bS ?_ GE255.out) | exact HB.out)⟩

end Go.Proofs.YtpdhfoegbannkaaDoor.PFnExactWalSync
