/- Written by a program (a session's own form of the print): plain functions with the answers of the Go functions, and the walks that show it. Lean checks it. -/
import Derived.Test.YtfjpkblkdlgaeaaDoorPFnHashx0
import Derived.Test.YtfjpkblkdlgaeaaDoorPFnHashx1
import Derived.Test.YtfjpkblkdlgaeaaDoorPFnHashx2
import Derived.Test.YtfjpkblkdlgaeaaDoorPFnHashx3
namespace Go.Proofs.YtfjpkblkdlgaeaaDoor.PFnHash
open Go.RowKit Go.Proofs.YtfjpkblkdlgaeaaDoorW.PrintWords Go.Proofs.YtfjpkblkdlgaeaaDoorW.PrintLast Go.Proofs.YtfjpkblkdlgaeaaDoorW.PrintMore
attribute [local go_sem] max2_int min2_int max_two min_two max_three min_three max_four min_four   -- for this text's walks alone
set_option linter.unusedVariables false
set_option linter.unusedSimpArgs false

/-! ### spec_l01Check: function 26 -/
mutual
def spec_l01Check.l0 : Nat → List Int → Int → Int → Option (Int)
  | 0, _, _, _ => none
  | k + 1, x0, x3, x4 => if x4 < (x0.length : Int) then (if 0 ≤ x4 then (spec_l01Check.l1 k x0 (Go.bits .xor .i64 x3 (wrap64 (rd x0 x4))) x4 0) else (none)) else (some (Go.bits .xor .i64 x3 4294967295))
def spec_l01Check.l1 : Nat → List Int → Int → Int → Int → Option (Int)
  | 0, _, _, _, _ => none
  | k + 1, x0, x3, x4, x5 => if x5 < 8 then (if (Int.tmod x3 2) = 1 then (spec_l01Check.l1 k x0 (Go.bits .xor .i64 (wrap64 (Int.tdiv x3 2)) 3988292384) x4 (wrap64 (x5 + 1))) else (spec_l01Check.l1 k x0 (wrap64 (Int.tdiv x3 2)) x4 (wrap64 (x5 + 1)))) else (spec_l01Check.l0 k x0 x3 (wrap64 (x4 + 1)))
end
def spec_l01Check.f (k : Nat) (l0 : List Int) : Option (Int) := spec_l01Check.l0 k l0 4294967295 0
theorem spec_l01Check.mono_l : ∀ k, (∀ y0 y1 y2, LeO (spec_l01Check.l0 k y0 y1 y2) (spec_l01Check.l0 (k + 1) y0 y1 y2)) ∧ (∀ y0 y1 y2 y3, LeO (spec_l01Check.l1 k y0 y1 y2 y3) (spec_l01Check.l1 (k + 1) y0 y1 y2 y3))
  | 0 => ⟨fun _ _ _ r h => by simp [spec_l01Check.l0] at h, fun _ _ _ _ r h => by simp [spec_l01Check.l1] at h⟩
  | k + 1 => by
    obtain ⟨ih0, ih1⟩ := spec_l01Check.mono_l k
    refine ⟨?_, ?_⟩
    · intro y0 y1 y2
      unfold spec_l01Check.l0
      repeat' first
      | (with_reducible exact ih0 _ _ _)
      | (with_reducible exact ih1 _ _ _ _)
      | (with_reducible exact LeO.refl _)
      | (with_reducible exact LeO.none _)
      | (with_reducible refine LeO.ite ?_ ?_)
      | (with_reducible refine LeO.bind ?_ (fun _ => ?_))
      | exact ih0 _ _ _
      | exact ih1 _ _ _ _
      | exact LeO.none _
      | refine LeO.ite ?_ ?_
      | refine LeO.bind ?_ (fun _ => ?_)
    · intro y0 y1 y2 y3
      unfold spec_l01Check.l1
      repeat' first
      | (with_reducible exact ih0 _ _ _)
      | (with_reducible exact ih1 _ _ _ _)
      | (with_reducible exact LeO.refl _)
      | (with_reducible exact LeO.none _)
      | (with_reducible refine LeO.ite ?_ ?_)
      | (with_reducible refine LeO.bind ?_ (fun _ => ?_))
      | exact ih0 _ _ _
      | exact ih1 _ _ _ _
      | exact LeO.none _
      | refine LeO.ite ?_ ?_
      | refine LeO.bind ?_ (fun _ => ?_)
theorem spec_l01Check.mono : ∀ a0 k, LeO (spec_l01Check.f k a0) (spec_l01Check.f (k + 1) a0) := by
  intro a0 k
  obtain ⟨ih0, ih1⟩ := spec_l01Check.mono_l k
  unfold spec_l01Check.f
  repeat' first
      | (with_reducible exact ih0 _ _ _)
      | (with_reducible exact ih1 _ _ _ _)
      | (with_reducible exact LeO.refl _)
      | (with_reducible exact LeO.none _)
      | (with_reducible refine LeO.ite ?_ ?_)
      | (with_reducible refine LeO.bind ?_ (fun _ => ?_))
      | exact ih0 _ _ _
      | exact ih1 _ _ _ _
      | exact LeO.none _
      | refine LeO.ite ?_ ?_
      | refine LeO.bind ?_ (fun _ => ?_)
set_option maxHeartbeats 8000000 in
set_option maxRecDepth 100000 in
theorem spec_l01Check.calls (k : Nat) (A0 : Option Addr) (c0 : Nat) (l0 : List Int) (r : Int) (w : World) (hr0 : Kd.C (Kd.int .u8) w A0 l0.length l0) (hc0 : l0.length ≤ c0) (h : spec_l01Check.f k l0 = some r) :
    Calls Tryd.prog 26 #[.slice A0 l0.length c0] w fun e w' => e = .returned (.int .i64 r) ∧ Drawn0 w w' := by
  have HR0 := Aside0.mk hr0
  have HC0 := Aside0.mk hc0
  clear hr0 hc0
  have H : (spec_l01Check.l0 k l0 4294967295 0) = some r := h
  clear h
  have H' := Aside0.mk H
  clear H
  go_enter Tryd.func26, Tryd.ntmps26
  go_wp2
  go_loopg [3, 4] k (fun kq v3 v4 w' => ∃ (x3_1 : Int) (x4_1 : Int), v3 = .int .i64 x3_1 ∧ v4 = .int .i64 x4_1 ∧ Aside0 (spec_l01Check.l0 kq l0 x3_1 x4_1 = some r) ∧ Aside0 (kq ≤ k) ∧ Drawn0 w w')
  case atStart => exact ⟨(4294967295), (0), (by first | rfl | (simp; done) | (simp [*]; done)), (by first | rfl | (simp; done) | (simp [*]; done)), H', ⟨Nat.le_refl _⟩, by repeat (first | exact Drawn0.refl _ | apply Drawn0.step)⟩
  case round =>
    clear H'
    obtain ⟨x3_1, x4_1, rfl, rfl, HA, HK1, ⟨m1, rfl⟩⟩ := hrel
    cases gk with
    | zero => exact absurd HA.out (by simp [spec_l01Check.l0])
    | succ k1 =>
      have H := HA.out
      clear HA
      simp only [spec_l01Check.l0] at H
      by_cases c2 : x4_1 < (l0.length : Int)
      · rw [if_pos c2] at H
        have c2b0 : decide (x4_1 < (l0.length : Int)) = true := decide_eq_true c2
        clear c2
        by_cases c3 : 0 ≤ x4_1
        · rw [if_pos c3] at H
          have c3b0 : decide (0 ≤ x4_1) = true := decide_eq_true c3
          clear c3
          have H' := Aside0.mk H
          clear H
          have p196 : 0 ≤ (x4_1 : Int) := of_decide_eq_true (by assumption)
          have q196 : x4_1 < (l0.length : Int) := of_decide_eq_true (by assumption)
          obtain ⟨ad196, e196, hx196_0⟩ := Kd.at_int HR0.out x4_1 p196 q196
          cases e196
          replace p196 := eq_true p196
          replace q196 := eq_true q196
          go_wp2
          go_loopg [3, 5] k1 (fun kq v3 v5 w' => ∃ (x3_2 : Int) (x5_2 : Int), v3 = .int .i64 x3_2 ∧ v5 = .int .i64 x5_2 ∧ Aside0 (spec_l01Check.l1 kq l0 x3_2 x4_1 x5_2 = some r) ∧ Aside0 (kq ≤ k1) ∧ Drawn0 w w')
          case atStart => exact ⟨(Go.bits .xor .i64 x3_1 (wrap64 (rd l0 x4_1))), (0), (by first | rfl | (simp; done) | (simp [*]; done)), (by first | rfl | (simp; done) | (simp [*]; done)), H', ⟨Nat.le_refl _⟩, by repeat (first | exact Drawn0.refl _ | apply Drawn0.step)⟩
          case round =>
            clear H'
            try clear p1
            try clear q1
            try clear hx1
            try clear c2
            try clear c2b0
            try clear p2
            try clear c3
            try clear c3b0
            try clear hx196_0
            try clear p196
            try clear q196
            obtain ⟨x3_2, x5_2, rfl, rfl, HA, HK2, ⟨m2, rfl⟩⟩ := hrel
            cases gk with
            | zero => exact absurd HA.out (by simp [spec_l01Check.l1])
            | succ k2 =>
              have H := HA.out
              clear HA
              simp only [spec_l01Check.l1] at H
              by_cases c4 : x5_2 < 8
              · rw [if_pos c4] at H
                have c4b0 : decide (x5_2 < 8) = true := decide_eq_true c4
                clear c4
                by_cases c5 : (Int.tmod x3_2 2) = 1
                · rw [if_pos c5] at H
                  have c5b0 : ((Int.tmod x3_2 2) == 1) = true := beq_iff_eq.mpr c5
                  have c5b1 : ((Int.tmod x3_2 2) != 1) = false := bne_eq_false_iff_eq.mpr c5
                  clear c5
                  have H' := Aside0.mk H
                  clear H
                  go_wp2
                  go_roundg k2
                  case measure => have := HK1.out; have := HK2.out; omega
                  case rel => exact ⟨(Go.bits .xor .i64 (wrap64 (Int.tdiv x3_2 2)) 3988292384), (wrap64 (x5_2 + 1)), (by first | rfl | (simp; done) | (simp [*]; done)), (by first | rfl | (simp; done) | (simp [*]; done)), H', ⟨by have := HK1.out; have := HK2.out; omega⟩, by repeat (first | exact Drawn0.refl _ | apply Drawn0.step)⟩
                · rw [if_neg c5] at H
                  have c5b0 : ((Int.tmod x3_2 2) == 1) = false := beq_eq_false_iff_ne.mpr c5
                  have c5b1 : ((Int.tmod x3_2 2) != 1) = true := bne_iff_ne.mpr c5
                  have H' := Aside0.mk H
                  clear H
                  go_wp2
                  go_roundg k2
                  case measure => have := HK1.out; have := HK2.out; omega
                  case rel => exact ⟨(wrap64 (Int.tdiv x3_2 2)), (wrap64 (x5_2 + 1)), (by first | rfl | (simp; done) | (simp [*]; done)), (by first | rfl | (simp; done) | (simp [*]; done)), H', ⟨by have := HK1.out; have := HK2.out; omega⟩, by repeat (first | exact Drawn0.refl _ | apply Drawn0.step)⟩
              · rw [if_neg c4] at H
                have c4b0 : decide (x5_2 < 8) = false := decide_eq_false c4
                clear c4
                have H' := Aside0.mk H
                clear H
                go_wp2
                go_roundg k2
                case measure => have := HK1.out; have := HK2.out; omega
                case rel => exact ⟨(x3_2), (wrap64 (x4_1 + 1)), (by first | rfl | (simp; done) | (simp [*]; done)), (by first | rfl | (simp; done) | (simp [*]; done)), H', ⟨by have := HK1.out; have := HK2.out; omega⟩, by repeat (first | exact Drawn0.refl _ | apply Drawn0.step)⟩
        · rw [if_neg c3] at H
          exact absurd H (by simp)
      · rw [if_neg c2] at H
        have c2b0 : decide (x4_1 < (l0.length : Int)) = false := decide_eq_false c2
        clear c2
        obtain rfl := Option.some.inj H
        go_wp2
        go_ret
        exact ⟨by first | rfl | (simp; done) | (simp [*]; done), by repeat (first | exact Drawn0.refl _ | apply Drawn0.step)⟩

/-! ### spec_Check32: function 13 -/
def spec_Check32.f (k : Nat) (l0 : List Int) : Option (Int) := if (l0.length : Int) > 65536 then (some 0) else ((spec_l01Check.f k l0).bind fun t197 => (some t197))
theorem spec_Check32.mono : ∀ a0 k, LeO (spec_Check32.f k a0) (spec_Check32.f (k + 1) a0) := by
  intro a0 k
  unfold spec_Check32.f
  repeat' first
      | (with_reducible exact spec_l01Check.mono _ _)
      | (with_reducible exact LeO.refl _)
      | (with_reducible exact LeO.none _)
      | (with_reducible refine LeO.ite ?_ ?_)
      | (with_reducible refine LeO.bind ?_ (fun _ => ?_))
      | exact spec_l01Check.mono _ _
      | exact LeO.none _
      | refine LeO.ite ?_ ?_
      | refine LeO.bind ?_ (fun _ => ?_)
set_option maxHeartbeats 8000000 in
set_option maxRecDepth 100000 in
theorem spec_Check32.calls (k : Nat) (A0 : Option Addr) (c0 : Nat) (l0 : List Int) (r : Int) (w : World) (hr0 : Kd.C (Kd.int .u8) w A0 l0.length l0) (hc0 : l0.length ≤ c0) (h : spec_Check32.f k l0 = some r) :
    Calls Tryd.prog 13 #[.slice A0 l0.length c0] w fun e w' => e = .returned (.int .i64 r) ∧ Drawn0 w w' := by
  have HR0 := Aside0.mk hr0
  have HC0 := Aside0.mk hc0
  clear hr0 hc0
  have H : (if (l0.length : Int) > 65536 then (some 0) else ((spec_l01Check.f k l0).bind fun t197 => (some t197))) = some r := h
  clear h
  by_cases c2 : (l0.length : Int) > 65536
  · rw [if_pos c2] at H
    have c2b0 : decide (65536 < (l0.length : Int)) = true := decide_eq_true c2
    have c2b1 : decide (65536 < l0.length) = true := decide_eq_true (by omega)
    clear c2
    obtain rfl := Option.some.inj H
    go_enter Tryd.func13, Tryd.ntmps13
    go_wp2
    go_ret
    exact ⟨by first | rfl | (simp; done) | (simp [*]; done), by repeat (first | exact Drawn0.refl _ | apply Drawn0.step)⟩
  · rw [if_neg c2] at H
    have c2b0 : decide (65536 < (l0.length : Int)) = false := decide_eq_false c2
    have c2b1 : decide (65536 < l0.length) = false := decide_eq_false (by omega)
    clear c2
    replace H := Option.bind_eq_some_iff.mp H
    obtain ⟨t197, A30, H⟩ := H
    replace H : (some t197) = some r := H
    have A3 := Aside0.mk A30
    clear A30
    obtain rfl := Option.some.inj H
    go_enter Tryd.func13, Tryd.ntmps13
    go_wp2_with (first | ((with_reducible refine gate_callee (f := 26) rfl ?_); refine goesL_ (some 7) rfl rfl Tryd.func26 (by kernel_rfl) rfl #[.slice A0 l0.length c0] rfl (by (try simp only [List.map_toArray, List.map_cons, List.map_nil]); first | done | rfl | (simp only [List.length_drop, List.length_take]; rfl)) ?_; (with_reducible refine (spec_l01Check.calls k _ _ l0 t197 _ ?side1 ?side2 A3.out).mono ?_); (case side1 => repeat (first | exact HR0.out | (with_reducible refine Kd.C_alloc ?_ _) | (with_reducible refine Kd.C_drewN ?_ _) | (with_reducible refine Kd.C_drew ?_))); (case side2 => exact HC0.out); rintro e w' ⟨rfl, ⟨nd, rfl⟩⟩; refine ⟨_, rfl, ?_⟩))
    go_ret
    exact ⟨by first | rfl | (simp; done) | (simp [*]; done), by repeat (first | exact Drawn0.refl _ | apply Drawn0.step)⟩

/-! ### laws_FnHash: function 3 -/
mutual
def laws_FnHash.j0 : Nat → ByteArray → ByteArray → Bool → Option (Bool)
  | 0, _, _, _ => none
  | k + 1, x4, x11, x80 => if x80 = true then (some false) else (laws_FnHash.l0 k x4 x11 0)
def laws_FnHash.l0 : Nat → ByteArray → ByteArray → Int → Option (Bool)
  | 0, _, _, _ => none
  | k + 1, x4, x11, x13 => if x13 < 32 then (laws_FnHash.l1 k x4 x11 x13 0 0) else (some true)
def laws_FnHash.l1 : Nat → ByteArray → ByteArray → Int → Int → Int → Option (Bool)
  | 0, _, _, _, _, _ => none
  | k + 1, x4, x11, x13, x14, x15 => if x15 < 8 then (if 0 ≤ (wrap64 ((wrap64 (8 * x13)) + x15)) then (if (wrap64 ((wrap64 (8 * x13)) + x15)) < (x11.size : Int) then (laws_FnHash.l1 k x4 x11 x13 (wrap64 ((wrap64 (2 * x14)) + (((bt x11 (wrap64 ((wrap64 (8 * x13)) + x15))) - 48) % 256))) (wrap64 (x15 + 1))) else (none)) else (none)) else (if 0 ≤ x13 then (if x13 < (x4.size : Int) then (if x14 = (wrap64 (bt x4 x13)) then (laws_FnHash.l0 k x4 x11 (wrap64 (x13 + 1))) else (some false)) else (none)) else (none))
end
def laws_FnHash.f (k : Nat) (l0 : List Int) : Option (Bool) := if (l0.length : Int) > 1048576 then (some true) else ((spec_BytesOf.f k l0 150).bind fun t198 => ((impl_Hash.f t198).bind fun t201 => ((impl_HashText.f k t201).bind fun bt202 => ((spec_Hash.f t198).bind fun t204 => ((spec_HashText.f k t204).bind fun bt205 => ((impl_ReadHash.f k bt202.1).bind fun bt207 => ((impl_HashBits.f k t201).bind fun bt209 => (if (t201.size : Int) = 32 then (if bt202.2 = 0 then (if bt202.1.toList = bt205.1.toList then (if bt207.2 = 0 then (if bt207.1.toList = t201.toList then (if bt209.2 = 0 then (if (bt209.1.size : Int) = 256 then ((impl_Check32.f k t198).bind fun t211 => ((spec_Check32.f k t198).bind fun t212 => (laws_FnHash.j0 k t201 bt209.1 (t211 != t212)))) else (laws_FnHash.j0 k t201 bt209.1 true)) else (laws_FnHash.j0 k t201 bt209.1 true)) else (laws_FnHash.j0 k t201 bt209.1 true)) else (laws_FnHash.j0 k t201 bt209.1 true)) else (laws_FnHash.j0 k t201 bt209.1 true)) else (laws_FnHash.j0 k t201 bt209.1 true)) else (laws_FnHash.j0 k t201 bt209.1 true)))))))))
theorem laws_FnHash.mono_l : ∀ k, (∀ y0 y1 y2, LeO (laws_FnHash.j0 k y0 y1 y2) (laws_FnHash.j0 (k + 1) y0 y1 y2)) ∧ (∀ y0 y1 y2, LeO (laws_FnHash.l0 k y0 y1 y2) (laws_FnHash.l0 (k + 1) y0 y1 y2)) ∧ (∀ y0 y1 y2 y3 y4, LeO (laws_FnHash.l1 k y0 y1 y2 y3 y4) (laws_FnHash.l1 (k + 1) y0 y1 y2 y3 y4))
  | 0 => ⟨fun _ _ _ r h => by simp [laws_FnHash.j0] at h, fun _ _ _ r h => by simp [laws_FnHash.l0] at h, fun _ _ _ _ _ r h => by simp [laws_FnHash.l1] at h⟩
  | k + 1 => by
    obtain ⟨ih0, ih1, ih2⟩ := laws_FnHash.mono_l k
    refine ⟨?_, ?_, ?_⟩
    · intro y0 y1 y2
      unfold laws_FnHash.j0
      repeat' first
      | (with_reducible exact ih0 _ _ _)
      | (with_reducible exact ih1 _ _ _)
      | (with_reducible exact ih2 _ _ _ _ _)
      | (with_reducible exact impl_Check32.mono _ _)
      | (with_reducible exact impl_HashBits.mono _ _)
      | (with_reducible exact impl_HashText.mono _ _)
      | (with_reducible exact impl_ReadHash.mono _ _)
      | (with_reducible exact spec_BytesOf.mono _ _ _)
      | (with_reducible exact spec_Check32.mono _ _)
      | (with_reducible exact spec_HashText.mono _ _)
      | (with_reducible exact LeO.refl _)
      | (with_reducible exact LeO.none _)
      | (with_reducible refine LeO.ite ?_ ?_)
      | (with_reducible refine LeO.bind ?_ (fun _ => ?_))
      | exact ih0 _ _ _
      | exact ih1 _ _ _
      | exact ih2 _ _ _ _ _
      | exact impl_Check32.mono _ _
      | exact impl_HashBits.mono _ _
      | exact impl_HashText.mono _ _
      | exact impl_ReadHash.mono _ _
      | exact spec_BytesOf.mono _ _ _
      | exact spec_Check32.mono _ _
      | exact spec_HashText.mono _ _
      | exact LeO.none _
      | refine LeO.ite ?_ ?_
      | refine LeO.bind ?_ (fun _ => ?_)
    · intro y0 y1 y2
      unfold laws_FnHash.l0
      repeat' first
      | (with_reducible exact ih0 _ _ _)
      | (with_reducible exact ih1 _ _ _)
      | (with_reducible exact ih2 _ _ _ _ _)
      | (with_reducible exact impl_Check32.mono _ _)
      | (with_reducible exact impl_HashBits.mono _ _)
      | (with_reducible exact impl_HashText.mono _ _)
      | (with_reducible exact impl_ReadHash.mono _ _)
      | (with_reducible exact spec_BytesOf.mono _ _ _)
      | (with_reducible exact spec_Check32.mono _ _)
      | (with_reducible exact spec_HashText.mono _ _)
      | (with_reducible exact LeO.refl _)
      | (with_reducible exact LeO.none _)
      | (with_reducible refine LeO.ite ?_ ?_)
      | (with_reducible refine LeO.bind ?_ (fun _ => ?_))
      | exact ih0 _ _ _
      | exact ih1 _ _ _
      | exact ih2 _ _ _ _ _
      | exact impl_Check32.mono _ _
      | exact impl_HashBits.mono _ _
      | exact impl_HashText.mono _ _
      | exact impl_ReadHash.mono _ _
      | exact spec_BytesOf.mono _ _ _
      | exact spec_Check32.mono _ _
      | exact spec_HashText.mono _ _
      | exact LeO.none _
      | refine LeO.ite ?_ ?_
      | refine LeO.bind ?_ (fun _ => ?_)
    · intro y0 y1 y2 y3 y4
      unfold laws_FnHash.l1
      repeat' first
      | (with_reducible exact ih0 _ _ _)
      | (with_reducible exact ih1 _ _ _)
      | (with_reducible exact ih2 _ _ _ _ _)
      | (with_reducible exact impl_Check32.mono _ _)
      | (with_reducible exact impl_HashBits.mono _ _)
      | (with_reducible exact impl_HashText.mono _ _)
      | (with_reducible exact impl_ReadHash.mono _ _)
      | (with_reducible exact spec_BytesOf.mono _ _ _)
      | (with_reducible exact spec_Check32.mono _ _)
      | (with_reducible exact spec_HashText.mono _ _)
      | (with_reducible exact LeO.refl _)
      | (with_reducible exact LeO.none _)
      | (with_reducible refine LeO.ite ?_ ?_)
      | (with_reducible refine LeO.bind ?_ (fun _ => ?_))
      | exact ih0 _ _ _
      | exact ih1 _ _ _
      | exact ih2 _ _ _ _ _
      | exact impl_Check32.mono _ _
      | exact impl_HashBits.mono _ _
      | exact impl_HashText.mono _ _
      | exact impl_ReadHash.mono _ _
      | exact spec_BytesOf.mono _ _ _
      | exact spec_Check32.mono _ _
      | exact spec_HashText.mono _ _
      | exact LeO.none _
      | refine LeO.ite ?_ ?_
      | refine LeO.bind ?_ (fun _ => ?_)
theorem laws_FnHash.mono : ∀ a0 k, LeO (laws_FnHash.f k a0) (laws_FnHash.f (k + 1) a0) := by
  intro a0 k
  obtain ⟨ih0, ih1, ih2⟩ := laws_FnHash.mono_l k
  unfold laws_FnHash.f
  repeat' first
      | (with_reducible exact ih0 _ _ _)
      | (with_reducible exact ih1 _ _ _)
      | (with_reducible exact ih2 _ _ _ _ _)
      | (with_reducible exact impl_Check32.mono _ _)
      | (with_reducible exact impl_HashBits.mono _ _)
      | (with_reducible exact impl_HashText.mono _ _)
      | (with_reducible exact impl_ReadHash.mono _ _)
      | (with_reducible exact spec_BytesOf.mono _ _ _)
      | (with_reducible exact spec_Check32.mono _ _)
      | (with_reducible exact spec_HashText.mono _ _)
      | (with_reducible exact LeO.refl _)
      | (with_reducible exact LeO.none _)
      | (with_reducible refine LeO.ite ?_ ?_)
      | (with_reducible refine LeO.bind ?_ (fun _ => ?_))
      | exact ih0 _ _ _
      | exact ih1 _ _ _
      | exact ih2 _ _ _ _ _
      | exact impl_Check32.mono _ _
      | exact impl_HashBits.mono _ _
      | exact impl_HashText.mono _ _
      | exact impl_ReadHash.mono _ _
      | exact spec_BytesOf.mono _ _ _
      | exact spec_Check32.mono _ _
      | exact spec_HashText.mono _ _
      | exact LeO.none _
      | refine LeO.ite ?_ ?_
      | refine LeO.bind ?_ (fun _ => ?_)
set_option maxHeartbeats 8000000 in
set_option maxRecDepth 100000 in
theorem laws_FnHash.calls (k : Nat) (A0 : Option Addr) (c0 : Nat) (l0 : List Int) (r : Bool) (w : World) (hr0 : Kd.C (Kd.int .u8) w A0 l0.length l0) (hc0 : l0.length ≤ c0) (h : laws_FnHash.f k l0 = some r) :
    Calls Tryd.prog 3 #[.slice A0 l0.length c0] w fun e w' => e = .returned (.bool r) ∧ Below w.heap.size w w' := by
  have HR0 := Aside0.mk hr0
  have HC0 := Aside0.mk hc0
  clear hr0 hc0
  have HB := Aside0.mk (Below.refl w.heap.size w)
  have H : (if (l0.length : Int) > 1048576 then (some true) else ((spec_BytesOf.f k l0 150).bind fun t198 => ((impl_Hash.f t198).bind fun t201 => ((impl_HashText.f k t201).bind fun bt202 => ((spec_Hash.f t198).bind fun t204 => ((spec_HashText.f k t204).bind fun bt205 => ((impl_ReadHash.f k bt202.1).bind fun bt207 => ((impl_HashBits.f k t201).bind fun bt209 => (if (t201.size : Int) = 32 then (if bt202.2 = 0 then (if bt202.1.toList = bt205.1.toList then (if bt207.2 = 0 then (if bt207.1.toList = t201.toList then (if bt209.2 = 0 then (if (bt209.1.size : Int) = 256 then ((impl_Check32.f k t198).bind fun t211 => ((spec_Check32.f k t198).bind fun t212 => (laws_FnHash.j0 k t201 bt209.1 (t211 != t212)))) else (laws_FnHash.j0 k t201 bt209.1 true)) else (laws_FnHash.j0 k t201 bt209.1 true)) else (laws_FnHash.j0 k t201 bt209.1 true)) else (laws_FnHash.j0 k t201 bt209.1 true)) else (laws_FnHash.j0 k t201 bt209.1 true)) else (laws_FnHash.j0 k t201 bt209.1 true)) else (laws_FnHash.j0 k t201 bt209.1 true)))))))))) = some r := h
  clear h
  by_cases c2 : (l0.length : Int) > 1048576
  · rw [if_pos c2] at H
    have c2b0 : decide (1048576 < (l0.length : Int)) = true := decide_eq_true c2
    have c2b1 : decide (1048576 < l0.length) = true := decide_eq_true (by omega)
    clear c2
    obtain rfl := Option.some.inj H
    go_enter Tryd.func3, Tryd.ntmps3
    go_wp2
    go_ret
    exact ⟨by first | rfl | (simp [errW_none, errW_some] <;> rfl) | (simp [*, errW_none, errW_some] <;> rfl), by repeat (first | (with_reducible first | exact HB.out | apply below_alloc | apply pw_below_drewN | apply below_drew1) | exact HB.out)⟩
  · rw [if_neg c2] at H
    have c2b0 : decide (1048576 < (l0.length : Int)) = false := decide_eq_false c2
    have c2b1 : decide (1048576 < l0.length) = false := decide_eq_false (by omega)
    clear c2
    replace H := Option.bind_eq_some_iff.mp H
    obtain ⟨t198, A30, H⟩ := H
    replace H : ((impl_Hash.f t198).bind fun t201 => ((impl_HashText.f k t201).bind fun bt202 => ((spec_Hash.f t198).bind fun t204 => ((spec_HashText.f k t204).bind fun bt205 => ((impl_ReadHash.f k bt202.1).bind fun bt207 => ((impl_HashBits.f k t201).bind fun bt209 => (if (t201.size : Int) = 32 then (if bt202.2 = 0 then (if bt202.1.toList = bt205.1.toList then (if bt207.2 = 0 then (if bt207.1.toList = t201.toList then (if bt209.2 = 0 then (if (bt209.1.size : Int) = 256 then ((impl_Check32.f k t198).bind fun t211 => ((spec_Check32.f k t198).bind fun t212 => (laws_FnHash.j0 k t201 bt209.1 (t211 != t212)))) else (laws_FnHash.j0 k t201 bt209.1 true)) else (laws_FnHash.j0 k t201 bt209.1 true)) else (laws_FnHash.j0 k t201 bt209.1 true)) else (laws_FnHash.j0 k t201 bt209.1 true)) else (laws_FnHash.j0 k t201 bt209.1 true)) else (laws_FnHash.j0 k t201 bt209.1 true)) else (laws_FnHash.j0 k t201 bt209.1 true)))))))) = some r := H
    have A3 := Aside0.mk A30
    clear A30
    replace H := Option.bind_eq_some_iff.mp H
    obtain ⟨t201, A40, H⟩ := H
    replace H : ((impl_HashText.f k t201).bind fun bt202 => ((spec_Hash.f t198).bind fun t204 => ((spec_HashText.f k t204).bind fun bt205 => ((impl_ReadHash.f k bt202.1).bind fun bt207 => ((impl_HashBits.f k t201).bind fun bt209 => (if (t201.size : Int) = 32 then (if bt202.2 = 0 then (if bt202.1.toList = bt205.1.toList then (if bt207.2 = 0 then (if bt207.1.toList = t201.toList then (if bt209.2 = 0 then (if (bt209.1.size : Int) = 256 then ((impl_Check32.f k t198).bind fun t211 => ((spec_Check32.f k t198).bind fun t212 => (laws_FnHash.j0 k t201 bt209.1 (t211 != t212)))) else (laws_FnHash.j0 k t201 bt209.1 true)) else (laws_FnHash.j0 k t201 bt209.1 true)) else (laws_FnHash.j0 k t201 bt209.1 true)) else (laws_FnHash.j0 k t201 bt209.1 true)) else (laws_FnHash.j0 k t201 bt209.1 true)) else (laws_FnHash.j0 k t201 bt209.1 true)) else (laws_FnHash.j0 k t201 bt209.1 true))))))) = some r := H
    have A4 := Aside0.mk A40
    clear A40
    replace H := Option.bind_eq_some_iff.mp H
    obtain ⟨⟨t202, t203⟩, A50, H⟩ := H
    replace H : ((spec_Hash.f t198).bind fun t204 => ((spec_HashText.f k t204).bind fun bt205 => ((impl_ReadHash.f k t202).bind fun bt207 => ((impl_HashBits.f k t201).bind fun bt209 => (if (t201.size : Int) = 32 then (if t203 = 0 then (if t202.toList = bt205.1.toList then (if bt207.2 = 0 then (if bt207.1.toList = t201.toList then (if bt209.2 = 0 then (if (bt209.1.size : Int) = 256 then ((impl_Check32.f k t198).bind fun t211 => ((spec_Check32.f k t198).bind fun t212 => (laws_FnHash.j0 k t201 bt209.1 (t211 != t212)))) else (laws_FnHash.j0 k t201 bt209.1 true)) else (laws_FnHash.j0 k t201 bt209.1 true)) else (laws_FnHash.j0 k t201 bt209.1 true)) else (laws_FnHash.j0 k t201 bt209.1 true)) else (laws_FnHash.j0 k t201 bt209.1 true)) else (laws_FnHash.j0 k t201 bt209.1 true)) else (laws_FnHash.j0 k t201 bt209.1 true)))))) = some r := H
    have A5 := Aside0.mk A50
    clear A50
    replace H := Option.bind_eq_some_iff.mp H
    obtain ⟨t204, A60, H⟩ := H
    replace H : ((spec_HashText.f k t204).bind fun bt205 => ((impl_ReadHash.f k t202).bind fun bt207 => ((impl_HashBits.f k t201).bind fun bt209 => (if (t201.size : Int) = 32 then (if t203 = 0 then (if t202.toList = bt205.1.toList then (if bt207.2 = 0 then (if bt207.1.toList = t201.toList then (if bt209.2 = 0 then (if (bt209.1.size : Int) = 256 then ((impl_Check32.f k t198).bind fun t211 => ((spec_Check32.f k t198).bind fun t212 => (laws_FnHash.j0 k t201 bt209.1 (t211 != t212)))) else (laws_FnHash.j0 k t201 bt209.1 true)) else (laws_FnHash.j0 k t201 bt209.1 true)) else (laws_FnHash.j0 k t201 bt209.1 true)) else (laws_FnHash.j0 k t201 bt209.1 true)) else (laws_FnHash.j0 k t201 bt209.1 true)) else (laws_FnHash.j0 k t201 bt209.1 true)) else (laws_FnHash.j0 k t201 bt209.1 true))))) = some r := H
    have A6 := Aside0.mk A60
    clear A60
    replace H := Option.bind_eq_some_iff.mp H
    obtain ⟨⟨t205, t206⟩, A70, H⟩ := H
    replace H : ((impl_ReadHash.f k t202).bind fun bt207 => ((impl_HashBits.f k t201).bind fun bt209 => (if (t201.size : Int) = 32 then (if t203 = 0 then (if t202.toList = t205.toList then (if bt207.2 = 0 then (if bt207.1.toList = t201.toList then (if bt209.2 = 0 then (if (bt209.1.size : Int) = 256 then ((impl_Check32.f k t198).bind fun t211 => ((spec_Check32.f k t198).bind fun t212 => (laws_FnHash.j0 k t201 bt209.1 (t211 != t212)))) else (laws_FnHash.j0 k t201 bt209.1 true)) else (laws_FnHash.j0 k t201 bt209.1 true)) else (laws_FnHash.j0 k t201 bt209.1 true)) else (laws_FnHash.j0 k t201 bt209.1 true)) else (laws_FnHash.j0 k t201 bt209.1 true)) else (laws_FnHash.j0 k t201 bt209.1 true)) else (laws_FnHash.j0 k t201 bt209.1 true)))) = some r := H
    have A7 := Aside0.mk A70
    clear A70
    replace H := Option.bind_eq_some_iff.mp H
    obtain ⟨⟨t207, t208⟩, A80, H⟩ := H
    replace H : ((impl_HashBits.f k t201).bind fun bt209 => (if (t201.size : Int) = 32 then (if t203 = 0 then (if t202.toList = t205.toList then (if t208 = 0 then (if t207.toList = t201.toList then (if bt209.2 = 0 then (if (bt209.1.size : Int) = 256 then ((impl_Check32.f k t198).bind fun t211 => ((spec_Check32.f k t198).bind fun t212 => (laws_FnHash.j0 k t201 bt209.1 (t211 != t212)))) else (laws_FnHash.j0 k t201 bt209.1 true)) else (laws_FnHash.j0 k t201 bt209.1 true)) else (laws_FnHash.j0 k t201 bt209.1 true)) else (laws_FnHash.j0 k t201 bt209.1 true)) else (laws_FnHash.j0 k t201 bt209.1 true)) else (laws_FnHash.j0 k t201 bt209.1 true)) else (laws_FnHash.j0 k t201 bt209.1 true))) = some r := H
    have A8 := Aside0.mk A80
    clear A80
    replace H := Option.bind_eq_some_iff.mp H
    obtain ⟨⟨t209, t210⟩, A90, H⟩ := H
    replace H : (if (t201.size : Int) = 32 then (if t203 = 0 then (if t202.toList = t205.toList then (if t208 = 0 then (if t207.toList = t201.toList then (if t210 = 0 then (if (t209.size : Int) = 256 then ((impl_Check32.f k t198).bind fun t211 => ((spec_Check32.f k t198).bind fun t212 => (laws_FnHash.j0 k t201 t209 (t211 != t212)))) else (laws_FnHash.j0 k t201 t209 true)) else (laws_FnHash.j0 k t201 t209 true)) else (laws_FnHash.j0 k t201 t209 true)) else (laws_FnHash.j0 k t201 t209 true)) else (laws_FnHash.j0 k t201 t209 true)) else (laws_FnHash.j0 k t201 t209 true)) else (laws_FnHash.j0 k t201 t209 true)) = some r := H
    have A9 := Aside0.mk A90
    clear A90
    have HC10 := Aside0.mk H
    clear H
    go_enter Tryd.func3, Tryd.ntmps3
    go_upto_region 9 with (first | ((with_reducible refine gate_callee (f := 5) rfl ?_); refine goesL_ (some 20) rfl rfl Tryd.func5 (by kernel_rfl) rfl #[.slice A0 l0.length c0, .int .i64 150] rfl (by (try simp only [List.map_toArray, List.map_cons, List.map_nil]); first | done | rfl | (simp only [List.length_drop, List.length_take]; rfl)) ?_; (with_reducible refine (spec_BytesOf.calls k _ _ l0 150 t198 _ ?side1 ?side2 A3.out).mono ?_); (case side1 => repeat (first | exact HR0.out | (with_reducible refine Kd.C_alloc ?_ _) | (with_reducible refine Kd.C_drewN ?_ _) | (with_reducible refine Kd.C_drew ?_))); (case side2 => exact HC0.out); rintro e w11 ⟨v199, rfl, ho0, hb⟩; refine ⟨_, rfl, ?_⟩; have n0_ := Aside0.mk (Kd.R_lower ho0 (below_size (by repeat (first | (with_reducible first | exact HB.out | apply below_alloc | apply pw_below_drewN | apply below_drew1) | exact HB.out)))); have n1_ := Aside0.mk (below_step (by repeat (first | (with_reducible first | exact HB.out | apply below_alloc | apply pw_below_drewN | apply below_drew1) | exact HB.out)) hb); clear HB; have HO200 := n0_; have HB := n1_; clear n0_ n1_; (try clear hb); (try clear hb2); (try clear hk); (try clear hi); (try clear ho0); obtain ⟨Ao12, co12, eo12⟩ := Kd.R_slice HO200.out; subst eo12) | ((with_reducible refine gate_callee (f := 6) rfl ?_); refine goesL_ (some 22) rfl rfl Tryd.func6 (by kernel_rfl) rfl #[.slice Ao12 t198.length co12] rfl (by (try simp only [List.map_toArray, List.map_cons, List.map_nil]); first | done | rfl | (simp only [List.length_drop, List.length_take]; rfl)) ?_; (with_reducible refine (impl_Hash.calls _ _ t198 t201 _ ?side1 ?side2 A4.out).mono ?_); (case side1 => repeat (first | exact (Kd.R_reads' HO200.out).2.2 | (with_reducible refine Kd.C_alloc ?_ _) | (with_reducible refine Kd.C_drewN ?_ _) | (with_reducible refine Kd.C_drew ?_))); (case side2 => exact (Kd.R_reads' HO200.out).2.1); rintro e w13 ⟨rfl, hb⟩; refine ⟨_, rfl, ?_⟩; have n0_ := Aside0.mk (Kd.R_below (by (with_reducible repeat (first | apply Kd.R_alloc | apply Kd.R_drewN | apply Kd.R_drew)); exact HO200.out) hb); have n1_ := Aside0.mk (below_step (by repeat (first | (with_reducible first | exact HB.out | apply below_alloc | apply pw_below_drewN | apply below_drew1) | exact HB.out)) hb); clear HO200; clear HB; have HO200 := n0_; have HB := n1_; clear n0_ n1_; (try clear hb); (try clear hb2); (try clear hk); (try clear hi)) | ((with_reducible refine gate_callee (f := 7) rfl ?_); refine goesL_ (some 25) rfl rfl Tryd.func7 (by kernel_rfl) rfl #[.string t201] rfl (by (try simp only [List.map_toArray, List.map_cons, List.map_nil]); first | done | rfl | (simp only [List.length_drop, List.length_take]; rfl)) ?_; (with_reducible refine (impl_HashText.calls k t201 t202 t203 _ A5.out).mono ?_); rintro e w14 ⟨rfl, hb⟩; refine ⟨_, rfl, ?_⟩; have n0_ := Aside0.mk (Kd.R_below (by (with_reducible repeat (first | apply Kd.R_alloc | apply Kd.R_drewN | apply Kd.R_drew)); exact HO200.out) hb); have n1_ := Aside0.mk (below_step (by repeat (first | (with_reducible first | exact HB.out | apply below_alloc | apply pw_below_drewN | apply below_drew1) | exact HB.out)) hb); clear HO200; clear HB; have HO200 := n0_; have HB := n1_; clear n0_ n1_; (try clear hb); (try clear hb2); (try clear hk); (try clear hi)) | ((with_reducible refine gate_callee (f := 9) rfl ?_); refine goesL_ (some 30) rfl rfl Tryd.func9 (by kernel_rfl) rfl #[.slice Ao12 t198.length co12] rfl (by (try simp only [List.map_toArray, List.map_cons, List.map_nil]); first | done | rfl | (simp only [List.length_drop, List.length_take]; rfl)) ?_; (with_reducible refine (spec_Hash.calls _ _ t198 t204 _ ?side1 ?side2 A6.out).mono ?_); (case side1 => repeat (first | exact (Kd.R_reads' HO200.out).2.2 | (with_reducible refine Kd.C_alloc ?_ _) | (with_reducible refine Kd.C_drewN ?_ _) | (with_reducible refine Kd.C_drew ?_))); (case side2 => exact (Kd.R_reads' HO200.out).2.1); rintro e w15 ⟨rfl, hb⟩; refine ⟨_, rfl, ?_⟩; have n0_ := Aside0.mk (Kd.R_below (by (with_reducible repeat (first | apply Kd.R_alloc | apply Kd.R_drewN | apply Kd.R_drew)); exact HO200.out) hb); have n1_ := Aside0.mk (below_step (by repeat (first | (with_reducible first | exact HB.out | apply below_alloc | apply pw_below_drewN | apply below_drew1) | exact HB.out)) hb); clear HO200; clear HB; have HO200 := n0_; have HB := n1_; clear n0_ n1_; (try clear hb); (try clear hb2); (try clear hk); (try clear hi)) | ((with_reducible refine gate_callee (f := 8) rfl ?_); refine goesL_ (some 31) rfl rfl Tryd.func8 (by kernel_rfl) rfl #[.string t204] rfl (by (try simp only [List.map_toArray, List.map_cons, List.map_nil]); first | done | rfl | (simp only [List.length_drop, List.length_take]; rfl)) ?_; (with_reducible refine (spec_HashText.calls k t204 t205 t206 _ A7.out).mono ?_); rintro e w16 ⟨rfl, hb⟩; refine ⟨_, rfl, ?_⟩; have n0_ := Aside0.mk (Kd.R_below (by (with_reducible repeat (first | apply Kd.R_alloc | apply Kd.R_drewN | apply Kd.R_drew)); exact HO200.out) hb); have n1_ := Aside0.mk (below_step (by repeat (first | (with_reducible first | exact HB.out | apply below_alloc | apply pw_below_drewN | apply below_drew1) | exact HB.out)) hb); clear HO200; clear HB; have HO200 := n0_; have HB := n1_; clear n0_ n1_; (try clear hb); (try clear hb2); (try clear hk); (try clear hi)) | ((with_reducible refine gate_callee (f := 10) rfl ?_); refine goesL_ (some 36) rfl rfl Tryd.func10 (by kernel_rfl) rfl #[.string t202] rfl (by (try simp only [List.map_toArray, List.map_cons, List.map_nil]); first | done | rfl | (simp only [List.length_drop, List.length_take]; rfl)) ?_; (with_reducible refine (impl_ReadHash.calls k t202 t207 t208 _ A8.out).mono ?_); rintro e w17 ⟨rfl, hb⟩; refine ⟨_, rfl, ?_⟩; have n0_ := Aside0.mk (Kd.R_below (by (with_reducible repeat (first | apply Kd.R_alloc | apply Kd.R_drewN | apply Kd.R_drew)); exact HO200.out) hb); have n1_ := Aside0.mk (below_step (by repeat (first | (with_reducible first | exact HB.out | apply below_alloc | apply pw_below_drewN | apply below_drew1) | exact HB.out)) hb); clear HO200; clear HB; have HO200 := n0_; have HB := n1_; clear n0_ n1_; (try clear hb); (try clear hb2); (try clear hk); (try clear hi)) | ((with_reducible refine gate_callee (f := 11) rfl ?_); refine goesL_ (some 41) rfl rfl Tryd.func11 (by kernel_rfl) rfl #[.string t201] rfl (by (try simp only [List.map_toArray, List.map_cons, List.map_nil]); first | done | rfl | (simp only [List.length_drop, List.length_take]; rfl)) ?_; (with_reducible refine (impl_HashBits.calls k t201 t209 t210 _ A9.out).mono ?_); rintro e w18 ⟨rfl, hb⟩; refine ⟨_, rfl, ?_⟩; have n0_ := Aside0.mk (Kd.R_below (by (with_reducible repeat (first | apply Kd.R_alloc | apply Kd.R_drewN | apply Kd.R_drew)); exact HO200.out) hb); have n1_ := Aside0.mk (below_step (by repeat (first | (with_reducible first | exact HB.out | apply below_alloc | apply pw_below_drewN | apply below_drew1) | exact HB.out)) hb); clear HO200; clear HB; have HO200 := n0_; have HB := n1_; clear n0_ n1_; (try clear hb); (try clear hb2); (try clear hk); (try clear hi)))
    (try simp only [Act.put, List.setIfInBounds_toArray, List.set_cons_zero, List.set_cons_succ])
    go_cut [80] (fun v80 wc => ∃ (kq : Nat) (x80_9 : Bool), v80 = .bool x80_9 ∧ Aside0 (laws_FnHash.j0 kq t201 t209 x80_9 = some r) ∧ Aside0 (kq ≤ k) ∧ Aside0 (Below w.heap.size w wc))
    case first =>
      have H := HC10.out
      clear HC10
      by_cases c19 : (t201.size : Int) = 32
      · rw [if_pos c19] at H
        have c19b0 : ((t201.size : Int) == 32) = true := beq_iff_eq.mpr c19
        have c19b1 : ((t201.size : Int) != 32) = false := bne_eq_false_iff_eq.mpr c19
        clear c19
        (first | rw [c19b0] | (simp only [i64_w, i32_w]; rw [c19b0]) | skip)
        by_cases c20 : t203 = 0
        · rw [if_pos c20] at H
          have c20b0 : (t203 == 0) = true := beq_iff_eq.mpr c20
          have c20b1 : (t203 != 0) = false := bne_eq_false_iff_eq.mpr c20
          clear c20
          by_cases c21 : t202.toList = t205.toList
          · rw [if_pos c21] at H
            have c21b0 : (t202.toList == t205.toList) = true := beq_iff_eq.mpr c21
            have c21b1 : (t202.toList != t205.toList) = false := bne_eq_false_iff_eq.mpr c21
            clear c21
            by_cases c22 : t208 = 0
            · rw [if_pos c22] at H
              have c22b0 : (t208 == 0) = true := beq_iff_eq.mpr c22
              have c22b1 : (t208 != 0) = false := bne_eq_false_iff_eq.mpr c22
              clear c22
              by_cases c23 : t207.toList = t201.toList
              · rw [if_pos c23] at H
                have c23b0 : (t207.toList == t201.toList) = true := beq_iff_eq.mpr c23
                have c23b1 : (t207.toList != t201.toList) = false := bne_eq_false_iff_eq.mpr c23
                clear c23
                by_cases c24 : t210 = 0
                · rw [if_pos c24] at H
                  have c24b0 : (t210 == 0) = true := beq_iff_eq.mpr c24
                  have c24b1 : (t210 != 0) = false := bne_eq_false_iff_eq.mpr c24
                  clear c24
                  by_cases c25 : (t209.size : Int) = 256
                  · rw [if_pos c25] at H
                    have c25b0 : ((t209.size : Int) == 256) = true := beq_iff_eq.mpr c25
                    have c25b1 : ((t209.size : Int) != 256) = false := bne_eq_false_iff_eq.mpr c25
                    clear c25
                    replace H := Option.bind_eq_some_iff.mp H
                    obtain ⟨t211, A260, H⟩ := H
                    replace H : ((spec_Check32.f k t198).bind fun t212 => (laws_FnHash.j0 k t201 t209 (t211 != t212))) = some r := H
                    have A26 := Aside0.mk A260
                    clear A260
                    replace H := Option.bind_eq_some_iff.mp H
                    obtain ⟨t212, A270, H⟩ := H
                    replace H : (laws_FnHash.j0 k t201 t209 (t211 != t212)) = some r := H
                    have A27 := Aside0.mk A270
                    clear A270
                    have H' := Aside0.mk H
                    clear H
                    go_wp2_with (first | (go_at_call 12; (with_reducible refine (impl_Check32.calls k _ _ t198 t211 _ ?side1 ?side2 A26.out).mono ?_); (case side1 => repeat (first | exact (Kd.R_reads' HO200.out).2.2 | (with_reducible refine Kd.C_alloc ?_ _) | (with_reducible refine Kd.C_drewN ?_ _) | (with_reducible refine Kd.C_drew ?_))); (case side2 => exact (Kd.R_reads' HO200.out).2.1); rintro e w' ⟨rfl, ⟨nd, rfl⟩⟩) | (go_at_call 13; (with_reducible refine (spec_Check32.calls k _ _ t198 t212 _ ?side1 ?side2 A27.out).mono ?_); (case side1 => repeat (first | exact (Kd.R_reads' HO200.out).2.2 | (with_reducible refine Kd.C_alloc ?_ _) | (with_reducible refine Kd.C_drewN ?_ _) | (with_reducible refine Kd.C_drew ?_))); (case side2 => exact (Kd.R_reads' HO200.out).2.1); rintro e w' ⟨rfl, ⟨nd, rfl⟩⟩))
                    go_meet
                    case rel => exact ⟨_, ((t211 != t212)), (by first | rfl | (simp; done) | (simp [*]; done)), H', ⟨by first | omega | exact Nat.le_refl _⟩, ⟨by repeat (first | (with_reducible first | exact HB.out | apply below_alloc | apply pw_below_drewN | apply below_drew1) | exact HB.out)⟩⟩
                  · rw [if_neg c25] at H
                    have c25b0 : ((t209.size : Int) == 256) = false := beq_eq_false_iff_ne.mpr c25
                    have c25b1 : ((t209.size : Int) != 256) = true := bne_iff_ne.mpr c25
                    have H' := Aside0.mk H
                    clear H
                    go_wp2
                    go_meet
                    case rel => exact ⟨_, (true), (by first | rfl | (simp; done) | (simp [*]; done)), H', ⟨by first | omega | exact Nat.le_refl _⟩, ⟨by repeat (first | (with_reducible first | exact HB.out | apply below_alloc | apply pw_below_drewN | apply below_drew1) | exact HB.out)⟩⟩
                · rw [if_neg c24] at H
                  have c24b0 : (t210 == 0) = false := beq_eq_false_iff_ne.mpr c24
                  have c24b1 : (t210 != 0) = true := bne_iff_ne.mpr c24
                  have H' := Aside0.mk H
                  clear H
                  go_wp2
                  go_meet
                  case rel => exact ⟨_, (true), (by first | rfl | (simp; done) | (simp [*]; done)), H', ⟨by first | omega | exact Nat.le_refl _⟩, ⟨by repeat (first | (with_reducible first | exact HB.out | apply below_alloc | apply pw_below_drewN | apply below_drew1) | exact HB.out)⟩⟩
              · rw [if_neg c23] at H
                have c23b0 : (t207.toList == t201.toList) = false := beq_eq_false_iff_ne.mpr c23
                have c23b1 : (t207.toList != t201.toList) = true := bne_iff_ne.mpr c23
                have H' := Aside0.mk H
                clear H
                go_wp2
                go_meet
                case rel => exact ⟨_, (true), (by first | rfl | (simp; done) | (simp [*]; done)), H', ⟨by first | omega | exact Nat.le_refl _⟩, ⟨by repeat (first | (with_reducible first | exact HB.out | apply below_alloc | apply pw_below_drewN | apply below_drew1) | exact HB.out)⟩⟩
            · rw [if_neg c22] at H
              have c22b0 : (t208 == 0) = false := beq_eq_false_iff_ne.mpr c22
              have c22b1 : (t208 != 0) = true := bne_iff_ne.mpr c22
              have H' := Aside0.mk H
              clear H
              go_wp2
              go_meet
              case rel => exact ⟨_, (true), (by first | rfl | (simp; done) | (simp [*]; done)), H', ⟨by first | omega | exact Nat.le_refl _⟩, ⟨by repeat (first | (with_reducible first | exact HB.out | apply below_alloc | apply pw_below_drewN | apply below_drew1) | exact HB.out)⟩⟩
          · rw [if_neg c21] at H
            have c21b0 : (t202.toList == t205.toList) = false := beq_eq_false_iff_ne.mpr c21
            have c21b1 : (t202.toList != t205.toList) = true := bne_iff_ne.mpr c21
            have H' := Aside0.mk H
            clear H
            go_wp2
            go_meet
            case rel => exact ⟨_, (true), (by first | rfl | (simp; done) | (simp [*]; done)), H', ⟨by first | omega | exact Nat.le_refl _⟩, ⟨by repeat (first | (with_reducible first | exact HB.out | apply below_alloc | apply pw_below_drewN | apply below_drew1) | exact HB.out)⟩⟩
        · rw [if_neg c20] at H
          have c20b0 : (t203 == 0) = false := beq_eq_false_iff_ne.mpr c20
          have c20b1 : (t203 != 0) = true := bne_iff_ne.mpr c20
          have H' := Aside0.mk H
          clear H
          go_wp2
          go_meet
          case rel => exact ⟨_, (true), (by first | rfl | (simp; done) | (simp [*]; done)), H', ⟨by first | omega | exact Nat.le_refl _⟩, ⟨by repeat (first | (with_reducible first | exact HB.out | apply below_alloc | apply pw_below_drewN | apply below_drew1) | exact HB.out)⟩⟩
      · rw [if_neg c19] at H
        have c19b0 : ((t201.size : Int) == 32) = false := beq_eq_false_iff_ne.mpr c19
        have c19b1 : ((t201.size : Int) != 32) = true := bne_iff_ne.mpr c19
        (first | rw [c19b0] | (simp only [i64_w, i32_w]; rw [c19b0]) | skip)
        have H' := Aside0.mk H
        clear H
        go_wp2
        go_meet
        case rel => exact ⟨_, (true), (by first | rfl | (simp; done) | (simp [*]; done)), H', ⟨by first | omega | exact Nat.le_refl _⟩, ⟨by repeat (first | (with_reducible first | exact HB.out | apply below_alloc | apply pw_below_drewN | apply below_drew1) | exact HB.out)⟩⟩
    case rest =>
      clear HC10
      try clear c1
      try clear c2
      try clear c2b0
      try clear c2b1
      try clear p2
      try clear c3
      try clear c5
      try clear c6
      try clear c7
      try clear c8
      try clear c9
      try clear c10
      try clear c11
      try clear c19
      try clear c19b0
      try clear c19b1
      try clear c20
      try clear c20b0
      try clear c20b1
      try clear c21
      try clear c21b0
      try clear c21b1
      try clear c22
      try clear c22b0
      try clear c22b1
      try clear c23
      try clear c23b0
      try clear c23b1
      try clear c24
      try clear c24b0
      try clear c24b1
      try clear c25
      try clear c25b0
      try clear c25b1
      obtain ⟨kq, x80_9, rfl, HA, HJ9, HB⟩ := hcut
      cases kq with
      | zero => exact absurd HA.out (by simp [laws_FnHash.j0])
      | succ kj9 =>
        have H := HA.out
        clear HA
        simp only [laws_FnHash.j0] at H
        by_cases c28 : x80_9 = true
        · subst c28
          have H1 : (some false) = some r := by rw [if_pos rfl] at H; exact H
          clear H
          have H := H1
          clear H1
          obtain rfl := Option.some.inj H
          go_wp2
          go_ret
          exact ⟨by first | rfl | (simp [errW_none, errW_some] <;> rfl) | (simp [*, errW_none, errW_some] <;> rfl), by repeat (first | (with_reducible first | exact HB.out | apply below_alloc | apply pw_below_drewN | apply below_drew1) | exact HB.out)⟩
        · replace c28 := Bool.eq_false_iff.mpr c28
          subst c28
          have H1 : (laws_FnHash.l0 kj9 t201 t209 0) = some r := by rw [if_neg (show ¬ (false = true) by decide)] at H; exact H
          clear H
          have H := H1
          clear H1
          have H' := Aside0.mk H
          clear H
          go_wp2
          go_loopg [13] kj9 (fun kq v13 w' => ∃ (x13_2 : Int), v13 = .int .i64 x13_2 ∧ Aside0 (laws_FnHash.l0 kq t201 t209 x13_2 = some r) ∧ Aside0 (kq ≤ kj9) ∧ Aside0 (Below w.heap.size w w'))
          case atStart => exact ⟨(0), (by first | rfl | (simp; done) | (simp [*]; done)), H', ⟨Nat.le_refl _⟩, ⟨by repeat (first | (with_reducible first | exact HB.out | apply below_alloc | apply pw_below_drewN | apply below_drew1) | exact HB.out)⟩⟩
          case round =>
            clear H'
            try clear c1
            try clear c2
            try clear c2b0
            try clear c2b1
            try clear p2
            try clear c3
            try clear c5
            try clear c6
            try clear c7
            try clear c8
            try clear c9
            try clear c10
            try clear c11
            try clear c19
            try clear c19b0
            try clear c19b1
            try clear c20
            try clear c20b0
            try clear c20b1
            try clear c21
            try clear c21b0
            try clear c21b1
            try clear c22
            try clear c22b0
            try clear c22b1
            try clear c23
            try clear c23b0
            try clear c23b1
            try clear c24
            try clear c24b0
            try clear c24b1
            try clear c25
            try clear c25b0
            try clear c25b1
            try clear c28
            try clear p2
            obtain ⟨x13_2, rfl, HA, HK2, HB⟩ := hrel
            cases gk with
            | zero => exact absurd HA.out (by simp [laws_FnHash.l0])
            | succ k2 =>
              have H := HA.out
              clear HA
              simp only [laws_FnHash.l0] at H
              by_cases c29 : x13_2 < 32
              · rw [if_pos c29] at H
                have c29b0 : decide (x13_2 < 32) = true := decide_eq_true c29
                clear c29
                have H' := Aside0.mk H
                clear H
                go_wp2
                go_loopg [14, 15] k2 (fun kq v14 v15 w' => ∃ (x14_3 : Int) (x15_3 : Int), v14 = .int .i64 x14_3 ∧ v15 = .int .i64 x15_3 ∧ Aside0 (laws_FnHash.l1 kq t201 t209 x13_2 x14_3 x15_3 = some r) ∧ Aside0 (kq ≤ k2) ∧ Aside0 (Below w.heap.size w w'))
                case atStart => exact ⟨(0), (0), (by first | rfl | (simp; done) | (simp [*]; done)), (by first | rfl | (simp; done) | (simp [*]; done)), H', ⟨Nat.le_refl _⟩, ⟨by repeat (first | (with_reducible first | exact HB.out | apply below_alloc | apply pw_below_drewN | apply below_drew1) | exact HB.out)⟩⟩
                case round =>
                  clear H'
                  try clear c1
                  try clear c2
                  try clear c2b0
                  try clear c2b1
                  try clear p2
                  try clear c3
                  try clear c5
                  try clear c6
                  try clear c7
                  try clear c8
                  try clear c9
                  try clear c10
                  try clear c11
                  try clear c19
                  try clear c19b0
                  try clear c19b1
                  try clear c20
                  try clear c20b0
                  try clear c20b1
                  try clear c21
                  try clear c21b0
                  try clear c21b1
                  try clear c22
                  try clear c22b0
                  try clear c22b1
                  try clear c23
                  try clear c23b0
                  try clear c23b1
                  try clear c24
                  try clear c24b0
                  try clear c24b1
                  try clear c25
                  try clear c25b0
                  try clear c25b1
                  try clear c28
                  try clear c29
                  try clear c29b0
                  try clear p2
                  obtain ⟨x14_3, x15_3, rfl, rfl, HA, HK3, HB⟩ := hrel
                  cases gk with
                  | zero => exact absurd HA.out (by simp [laws_FnHash.l1])
                  | succ k3 =>
                    have H := HA.out
                    clear HA
                    simp only [laws_FnHash.l1] at H
                    by_cases c30 : x15_3 < 8
                    · rw [if_pos c30] at H
                      have c30b0 : decide (x15_3 < 8) = true := decide_eq_true c30
                      clear c30
                      obtain ⟨ji31, hji31⟩ : ∃ j_ : Int, (wrap64 ((wrap64 (8 * x13_2)) + x15_3)) = j_ := ⟨_, rfl⟩
                      replace H : (if 0 ≤ (ji31) then (if (ji31) < (t209.size : Int) then (laws_FnHash.l1 k3 t201 t209 x13_2 (wrap64 ((wrap64 (2 * x14_3)) + (((bt t209 (ji31)) - 48) % 256))) (wrap64 (x15_3 + 1))) else (none)) else (none)) = some r := by first | (rw [hji31] at H; exact H) | (simp only [hji31] at H ⊢; exact H)
                      have hji31w : (IntKind.i64.wrap ((wrap64 (8 * x13_2)) + x15_3)) = ji31 := (i64_w _).trans hji31
                      by_cases c32 : 0 ≤ (ji31)
                      · rw [if_pos c32] at H
                        have c32b0 : decide (0 ≤ (ji31)) = true := decide_eq_true c32
                        clear c32
                        by_cases c33 : (ji31) < (t209.size : Int)
                        · rw [if_pos c33] at H
                          have c33b0 : decide ((ji31) < (t209.size : Int)) = true := decide_eq_true c33
                          clear c33
                          have H' := Aside0.mk H
                          clear H
                          have p34 : 0 ≤ ((ji31) : Int) := of_decide_eq_true (by assumption)
                          have q34 : (ji31) < (t209.size : Int) := of_decide_eq_true (by assumption)
                          have hx34 := bt_at t209 (ji31)
                          replace p34 := eq_true p34
                          replace q34 := eq_true q34
                          go_wp2
                          go_roundg k3
                          case measure => have := HJ9.out; have := HK2.out; have := HK3.out; omega
                          case rel => exact ⟨(wrap64 ((wrap64 (2 * x14_3)) + (((bt t209 (ji31)) - 48) % 256))), (wrap64 (x15_3 + 1)), (by first | rfl | (simp; done) | (simp only [← hji31] <;> (first | rfl | simp)) | (simp [*]; done)), (by first | rfl | (simp; done) | (simp [*]; done)), H', ⟨by have := HJ9.out; have := HK2.out; have := HK3.out; omega⟩, ⟨by repeat (first | (with_reducible first | exact HB.out | apply below_alloc | apply pw_below_drewN | apply below_drew1) | exact HB.out)⟩⟩
                        · rw [if_neg c33] at H
                          exact absurd H (by simp)
                      · rw [if_neg c32] at H
                        exact absurd H (by simp)
                    · rw [if_neg c30] at H
                      have c30b0 : decide (x15_3 < 8) = false := decide_eq_false c30
                      clear c30
                      by_cases c35 : 0 ≤ x13_2
                      · rw [if_pos c35] at H
                        have c35b0 : decide (0 ≤ x13_2) = true := decide_eq_true c35
                        clear c35
                        by_cases c36 : x13_2 < (t201.size : Int)
                        · rw [if_pos c36] at H
                          have c36b0 : decide (x13_2 < (t201.size : Int)) = true := decide_eq_true c36
                          clear c36
                          by_cases c38 : x14_3 = (wrap64 (bt t201 x13_2))
                          · rw [if_pos c38] at H
                            have c38b0 : (x14_3 == (wrap64 (bt t201 x13_2))) = true := beq_iff_eq.mpr c38
                            have c38b1 : (x14_3 != (wrap64 (bt t201 x13_2))) = false := bne_eq_false_iff_eq.mpr c38
                            clear c38
                            have H' := Aside0.mk H
                            clear H
                            have p37 : 0 ≤ (x13_2 : Int) := of_decide_eq_true (by assumption)
                            have q37 : x13_2 < (t201.size : Int) := of_decide_eq_true (by assumption)
                            have hx37 := bt_at t201 x13_2
                            replace p37 := eq_true p37
                            replace q37 := eq_true q37
                            go_wp2
                            go_roundg k3
                            case measure => have := HJ9.out; have := HK2.out; have := HK3.out; omega
                            case rel => exact ⟨(wrap64 (x13_2 + 1)), (by first | rfl | (simp; done) | (simp [*]; done)), H', ⟨by have := HJ9.out; have := HK2.out; have := HK3.out; omega⟩, ⟨by repeat (first | (with_reducible first | exact HB.out | apply below_alloc | apply pw_below_drewN | apply below_drew1) | exact HB.out)⟩⟩
                          · rw [if_neg c38] at H
                            have c38b0 : (x14_3 == (wrap64 (bt t201 x13_2))) = false := beq_eq_false_iff_ne.mpr c38
                            have c38b1 : (x14_3 != (wrap64 (bt t201 x13_2))) = true := bne_iff_ne.mpr c38
                            obtain rfl := Option.some.inj H
                            have p37 : 0 ≤ (x13_2 : Int) := of_decide_eq_true (by assumption)
                            have q37 : x13_2 < (t201.size : Int) := of_decide_eq_true (by assumption)
                            have hx37 := bt_at t201 x13_2
                            replace p37 := eq_true p37
                            replace q37 := eq_true q37
                            go_wp2
                            go_ret
                            exact ⟨by first | rfl | (simp [errW_none, errW_some] <;> rfl) | (simp [*, errW_none, errW_some] <;> rfl), by repeat (first | (with_reducible first | exact HB.out | apply below_alloc | apply pw_below_drewN | apply below_drew1) | exact HB.out)⟩
                        · rw [if_neg c36] at H
                          exact absurd H (by simp)
                      · rw [if_neg c35] at H
                        exact absurd H (by simp)
              · rw [if_neg c29] at H
                have c29b0 : decide (x13_2 < 32) = false := decide_eq_false c29
                clear c29
                obtain rfl := Option.some.inj H
                go_wp2
                go_ret
                exact ⟨by first | rfl | (simp [errW_none, errW_some] <;> rfl) | (simp [*, errW_none, errW_some] <;> rfl), by repeat (first | (with_reducible first | exact HB.out | apply below_alloc | apply pw_below_drewN | apply below_drew1) | exact HB.out)⟩

/-- THE ONE PURE STATEMENT of laws_FnHash: yours. -/
def laws_FnHash.Pure : Prop := ∀ (l0 : List Int), l0.length ≤ maxLen → l0.length * 1 ≤ 140737488351232 → (∀ x ∈ l0, (Lit.int .u8 x).wf = true) → ∃ k, laws_FnHash.f k l0 = some true
theorem laws_FnHash.walk (P : laws_FnHash.Pure) (a0 : Option Addr) (len0 cap0 : Nat) (z0 : List Int) (w : World) (w0 : (a0 = none ∧ len0 = 0 ∧ cap0 = 0 ∧ z0 = []) ∨ ∃ x, a0 = some x ∧ len0 ≤ cap0 ∧ cap0 ≤ maxLen ∧ z0.length = cap0 ∧ (∀ i, i < z0.length → w.cell? (x.add i) = some (.int .u8 (z0.getD i 0))) ∧ ∀ n ∈ z0, (Lit.int .u8 n).wf = true) (y0 : len0 * 1 ≤ 140737488351232) :
    Calls Tryd.prog 3 #[.slice a0 len0 cap0] w fun e w' => e = .returned (.bool true) ∧ Below w.heap.size w w' := by
  obtain ⟨l0, rfl, hr0, hm0, hw0, hc0⟩ := ReadsInt.ofRowC w0
  obtain ⟨k, h⟩ := P l0 hm0 y0 hw0
  refine (laws_FnHash.calls k _ _ l0 true w (Kd.C_of_reads (d := (0 : Int)) (h1 := fun _ => rfl) hr0) hc0 h).mono ?_
  rintro e w' ⟨rfl, hd⟩
  exact ⟨rfl, hd⟩

end Go.Proofs.YtfjpkblkdlgaeaaDoor.PFnHash
