/- Written by a program (a session's own form of the print): plain functions with the answers of the Go functions, and the walks that show it. Lean checks it. -/
import Derived.Test.YtamjkgbimcpfaaaPFnMerklex0
import Derived.Test.YtamjkgbimcpfaaaPFnMerklex2
import Derived.Test.YtamjkgbimcpfaaaPFnMerklex3
import Derived.Test.YtamjkgbimcpfaaaPFnMerklex5
namespace Go.Proofs.Ytamjkgbimcpfaaa.PFnMerkle
open Go.RowKit Go.Proofs.YtamjkgbimcpfaaaW.PrintWords Go.Proofs.YtamjkgbimcpfaaaW.PrintLast Go.Proofs.YtamjkgbimcpfaaaW.PrintMore
attribute [local go_sem] max2_int min2_int max_two min_two max_three min_three max_four min_four   -- for this text's walks alone
set_option linter.unusedVariables false
set_option linter.unusedSimpArgs false

/-! ### impl_proofCode: function 77 -/
def impl_proofCode.j0 : Nat → List ByteArray → List ByteArray → Bool → Option (Int)
  | 0, _, _, _ => none
  | k + 1, x0, x1, x5 => if x5 = true then (some 2) else ((impl_isHash.f x1).bind fun t280 => (if t280 = true then (if (x0.length : Int) > 64 then (some 1) else ((impl_isHash.f x0).bind fun t281 => (if t281 = true then (some 0) else (some 1)))) else (some 1)))
def impl_proofCode.f (k : Nat) (l0 : List ByteArray) (l1 : List ByteArray) : Option (Int) := (impl_isList_string.f l0).bind fun t278 => (if t278 = true then ((impl_isText.f l1).bind fun t279 => (impl_proofCode.j0 k l0 l1 (!t279))) else (impl_proofCode.j0 k l0 l1 true))
theorem impl_proofCode.mono_l : ∀ k, (∀ y0 y1 y2, LeO (impl_proofCode.j0 k y0 y1 y2) (impl_proofCode.j0 (k + 1) y0 y1 y2))
  | 0 => fun _ _ _ r h => by simp [impl_proofCode.j0] at h
  | k + 1 => by
    have ih0 := impl_proofCode.mono_l k
    · intro y0 y1 y2
      unfold impl_proofCode.j0
      repeat' first
      | (with_reducible exact ih0 _ _ _)
      | (with_reducible exact LeO.refl _)
      | (with_reducible exact LeO.none _)
      | (with_reducible refine LeO.ite ?_ ?_)
      | (with_reducible refine LeO.bind ?_ (fun _ => ?_))
      | exact ih0 _ _ _
      | exact LeO.none _
      | refine LeO.ite ?_ ?_
      | refine LeO.bind ?_ (fun _ => ?_)
theorem impl_proofCode.mono : ∀ a0 a1 k, LeO (impl_proofCode.f k a0 a1) (impl_proofCode.f (k + 1) a0 a1) := by
  intro a0 a1 k
  have ih0 := impl_proofCode.mono_l k
  unfold impl_proofCode.f
  repeat' first
      | (with_reducible exact ih0 _ _ _)
      | (with_reducible exact LeO.refl _)
      | (with_reducible exact LeO.none _)
      | (with_reducible refine LeO.ite ?_ ?_)
      | (with_reducible refine LeO.bind ?_ (fun _ => ?_))
      | exact ih0 _ _ _
      | exact LeO.none _
      | refine LeO.ite ?_ ?_
      | refine LeO.bind ?_ (fun _ => ?_)
set_option maxHeartbeats 8000000 in
set_option maxRecDepth 100000 in
theorem impl_proofCode.calls (k : Nat) (A0 : Option Addr) (c0 : Nat) (l0 : List ByteArray) (A1 : Option Addr) (c1 : Nat) (l1 : List ByteArray) (r : Int) (w : World) (hr0 : Kd.C Kd.string w A0 l0.length l0) (hc0 : l0.length ≤ c0) (hr1 : Kd.C Kd.string w A1 l1.length l1) (hc1 : l1.length ≤ c1) (h : impl_proofCode.f k l0 l1 = some r) :
    Calls Try.prog 77 #[.slice A0 l0.length c0, .slice A1 l1.length c1] w fun e w' => e = .returned (.int .i64 r) ∧ Drawn0 w w' := by
  have HR0 := Aside0.mk hr0
  have HC0 := Aside0.mk hc0
  clear hr0 hc0
  have HR1 := Aside0.mk hr1
  have HC1 := Aside0.mk hc1
  clear hr1 hc1
  have H : ((impl_isList_string.f l0).bind fun t278 => (if t278 = true then ((impl_isText.f l1).bind fun t279 => (impl_proofCode.j0 k l0 l1 (!t279))) else (impl_proofCode.j0 k l0 l1 true))) = some r := h
  clear h
  have HC3 := Aside0.mk H
  clear H
  go_enter Try.func77, Try.ntmps77
  go_upto_region 1 with (fail)
  go_cut [5] (fun v5 wc => ∃ (kq : Nat) (x5_2 : Bool), v5 = .bool x5_2 ∧ Aside0 (impl_proofCode.j0 kq l0 l1 x5_2 = some r) ∧ Aside0 (kq ≤ k) ∧ Drawn0 w wc)
  case first =>
    have H := HC3.out
    clear HC3
    replace H := Option.bind_eq_some_iff.mp H
    obtain ⟨t278, A40, H⟩ := H
    replace H : (if t278 = true then ((impl_isText.f l1).bind fun t279 => (impl_proofCode.j0 k l0 l1 (!t279))) else (impl_proofCode.j0 k l0 l1 true)) = some r := H
    have A4 := Aside0.mk A40
    clear A40
    by_cases c5 : t278 = true
    · subst c5
      have H1 : ((impl_isText.f l1).bind fun t279 => (impl_proofCode.j0 k l0 l1 (!t279))) = some r := by rw [if_pos rfl] at H; exact H
      clear H
      have H := H1
      clear H1
      replace H := Option.bind_eq_some_iff.mp H
      obtain ⟨t279, A60, H⟩ := H
      replace H : (impl_proofCode.j0 k l0 l1 (!t279)) = some r := H
      have A6 := Aside0.mk A60
      clear A60
      have H' := Aside0.mk H
      clear H
      go_wp2_with (first | ((with_reducible refine gate_callee (f := 114) rfl ?_); refine goesL_ (some 7) rfl rfl Try.func114 (by kernel_rfl) rfl #[.slice A0 l0.length c0] rfl (by (try simp only [List.map_toArray, List.map_cons, List.map_nil]); first | done | rfl | (simp only [List.length_drop, List.length_take]; rfl)) ?_; (with_reducible refine (impl_isList_string.calls _ _ l0 true _ ?side1 ?side2 A4.out).mono ?_); (case side1 => repeat (first | exact HR0.out | (with_reducible refine Kd.C_alloc ?_ _) | (with_reducible refine Kd.C_drewN ?_ _) | (with_reducible refine Kd.C_drew ?_))); (case side2 => exact HC0.out); rintro e w' ⟨rfl, ⟨nd, rfl⟩⟩; refine ⟨_, rfl, ?_⟩) | (go_at_call 67; (with_reducible refine (impl_isText.calls _ _ l1 t279 _ ?side1 ?side2 A6.out).mono ?_); (case side1 => repeat (first | exact HR1.out | (with_reducible refine Kd.C_alloc ?_ _) | (with_reducible refine Kd.C_drewN ?_ _) | (with_reducible refine Kd.C_drew ?_))); (case side2 => exact HC1.out); rintro e w' ⟨rfl, ⟨nd, rfl⟩⟩))
      go_meet
      case rel => exact ⟨_, (!t279), (by first | rfl | (simp; done) | (simp [*]; done)), H', ⟨by first | omega | exact Nat.le_refl _⟩, by repeat (first | exact Drawn0.refl _ | apply Drawn0.step)⟩
    · replace c5 := Bool.eq_false_iff.mpr c5
      subst c5
      have H1 : (impl_proofCode.j0 k l0 l1 true) = some r := by rw [if_neg (show ¬ (false = true) by decide)] at H; exact H
      clear H
      have H := H1
      clear H1
      have H' := Aside0.mk H
      clear H
      go_wp2_with (first | ((with_reducible refine gate_callee (f := 114) rfl ?_); refine goesL_ (some 7) rfl rfl Try.func114 (by kernel_rfl) rfl #[.slice A0 l0.length c0] rfl (by (try simp only [List.map_toArray, List.map_cons, List.map_nil]); first | done | rfl | (simp only [List.length_drop, List.length_take]; rfl)) ?_; (with_reducible refine (impl_isList_string.calls _ _ l0 false _ ?side1 ?side2 A4.out).mono ?_); (case side1 => repeat (first | exact HR0.out | (with_reducible refine Kd.C_alloc ?_ _) | (with_reducible refine Kd.C_drewN ?_ _) | (with_reducible refine Kd.C_drew ?_))); (case side2 => exact HC0.out); rintro e w' ⟨rfl, ⟨nd, rfl⟩⟩; refine ⟨_, rfl, ?_⟩))
      go_meet
      case rel => exact ⟨_, (true), (by first | rfl | (simp; done) | (simp [*]; done)), H', ⟨by first | omega | exact Nat.le_refl _⟩, by repeat (first | exact Drawn0.refl _ | apply Drawn0.step)⟩
  case rest =>
    clear HC3
    try clear c1
    try clear p2
    try clear c5
    obtain ⟨kq, x5_2, rfl, HA, HJ2, ⟨mc2, rfl⟩⟩ := hcut
    cases kq with
    | zero => exact absurd HA.out (by simp [impl_proofCode.j0])
    | succ kj2 =>
      have H := HA.out
      clear HA
      simp only [impl_proofCode.j0] at H
      by_cases c7 : x5_2 = true
      · subst c7
        have H1 : (some 2) = some r := by rw [if_pos rfl] at H; exact H
        clear H
        have H := H1
        clear H1
        obtain rfl := Option.some.inj H
        go_wp2
        go_ret
        exact ⟨by first | rfl | (simp; done) | (simp [*]; done), by repeat (first | exact Drawn0.refl _ | apply Drawn0.step)⟩
      · replace c7 := Bool.eq_false_iff.mpr c7
        subst c7
        have H1 : ((impl_isHash.f l1).bind fun t280 => (if t280 = true then (if (l0.length : Int) > 64 then (some 1) else ((impl_isHash.f l0).bind fun t281 => (if t281 = true then (some 0) else (some 1)))) else (some 1))) = some r := by rw [if_neg (show ¬ (false = true) by decide)] at H; exact H
        clear H
        have H := H1
        clear H1
        replace H := Option.bind_eq_some_iff.mp H
        obtain ⟨t280, A80, H⟩ := H
        replace H : (if t280 = true then (if (l0.length : Int) > 64 then (some 1) else ((impl_isHash.f l0).bind fun t281 => (if t281 = true then (some 0) else (some 1)))) else (some 1)) = some r := H
        have A8 := Aside0.mk A80
        clear A80
        by_cases c9 : t280 = true
        · subst c9
          have H1 : (if (l0.length : Int) > 64 then (some 1) else ((impl_isHash.f l0).bind fun t281 => (if t281 = true then (some 0) else (some 1)))) = some r := by rw [if_pos rfl] at H; exact H
          clear H
          have H := H1
          clear H1
          by_cases c10 : (l0.length : Int) > 64
          · rw [if_pos c10] at H
            have c10b0 : decide (64 < (l0.length : Int)) = true := decide_eq_true c10
            have c10b1 : decide (64 < l0.length) = true := decide_eq_true (by omega)
            clear c10
            obtain rfl := Option.some.inj H
            go_wp2_with (first | ((with_reducible refine gate_callee (f := 68) rfl ?_); refine goesL_ (some 16) rfl rfl Try.func68 (by kernel_rfl) rfl #[.slice A1 l1.length c1] rfl (by (try simp only [List.map_toArray, List.map_cons, List.map_nil]); first | done | rfl | (simp only [List.length_drop, List.length_take]; rfl)) ?_; (with_reducible refine (impl_isHash.calls _ _ l1 true _ ?side1 ?side2 A8.out).mono ?_); (case side1 => repeat (first | exact HR1.out | (with_reducible refine Kd.C_alloc ?_ _) | (with_reducible refine Kd.C_drewN ?_ _) | (with_reducible refine Kd.C_drew ?_))); (case side2 => exact HC1.out); rintro e w' ⟨rfl, ⟨nd, rfl⟩⟩; refine ⟨_, rfl, ?_⟩))
            go_ret
            exact ⟨by first | rfl | (simp; done) | (simp [*]; done), by repeat (first | exact Drawn0.refl _ | apply Drawn0.step)⟩
          · rw [if_neg c10] at H
            have c10b0 : decide (64 < (l0.length : Int)) = false := decide_eq_false c10
            have c10b1 : decide (64 < l0.length) = false := decide_eq_false (by omega)
            clear c10
            replace H := Option.bind_eq_some_iff.mp H
            obtain ⟨t281, A110, H⟩ := H
            replace H : (if t281 = true then (some 0) else (some 1)) = some r := H
            have A11 := Aside0.mk A110
            clear A110
            by_cases c12 : t281 = true
            · subst c12
              have H1 : (some 0) = some r := by rw [if_pos rfl] at H; exact H
              clear H
              have H := H1
              clear H1
              obtain rfl := Option.some.inj H
              go_wp2_with (first | ((with_reducible refine gate_callee (f := 68) rfl ?_); refine goesL_ (some 16) rfl rfl Try.func68 (by kernel_rfl) rfl #[.slice A1 l1.length c1] rfl (by (try simp only [List.map_toArray, List.map_cons, List.map_nil]); first | done | rfl | (simp only [List.length_drop, List.length_take]; rfl)) ?_; (with_reducible refine (impl_isHash.calls _ _ l1 true _ ?side1 ?side2 A8.out).mono ?_); (case side1 => repeat (first | exact HR1.out | (with_reducible refine Kd.C_alloc ?_ _) | (with_reducible refine Kd.C_drewN ?_ _) | (with_reducible refine Kd.C_drew ?_))); (case side2 => exact HC1.out); rintro e w' ⟨rfl, ⟨nd, rfl⟩⟩; refine ⟨_, rfl, ?_⟩) | (go_at_call 68; (with_reducible refine (impl_isHash.calls _ _ l0 true _ ?side1 ?side2 A11.out).mono ?_); (case side1 => repeat (first | exact HR0.out | (with_reducible refine Kd.C_alloc ?_ _) | (with_reducible refine Kd.C_drewN ?_ _) | (with_reducible refine Kd.C_drew ?_))); (case side2 => exact HC0.out); rintro e w' ⟨rfl, ⟨nd, rfl⟩⟩))
              go_ret
              exact ⟨by first | rfl | (simp; done) | (simp [*]; done), by repeat (first | exact Drawn0.refl _ | apply Drawn0.step)⟩
            · replace c12 := Bool.eq_false_iff.mpr c12
              subst c12
              have H1 : (some 1) = some r := by rw [if_neg (show ¬ (false = true) by decide)] at H; exact H
              clear H
              have H := H1
              clear H1
              obtain rfl := Option.some.inj H
              go_wp2_with (first | ((with_reducible refine gate_callee (f := 68) rfl ?_); refine goesL_ (some 16) rfl rfl Try.func68 (by kernel_rfl) rfl #[.slice A1 l1.length c1] rfl (by (try simp only [List.map_toArray, List.map_cons, List.map_nil]); first | done | rfl | (simp only [List.length_drop, List.length_take]; rfl)) ?_; (with_reducible refine (impl_isHash.calls _ _ l1 true _ ?side1 ?side2 A8.out).mono ?_); (case side1 => repeat (first | exact HR1.out | (with_reducible refine Kd.C_alloc ?_ _) | (with_reducible refine Kd.C_drewN ?_ _) | (with_reducible refine Kd.C_drew ?_))); (case side2 => exact HC1.out); rintro e w' ⟨rfl, ⟨nd, rfl⟩⟩; refine ⟨_, rfl, ?_⟩) | (go_at_call 68; (with_reducible refine (impl_isHash.calls _ _ l0 false _ ?side1 ?side2 A11.out).mono ?_); (case side1 => repeat (first | exact HR0.out | (with_reducible refine Kd.C_alloc ?_ _) | (with_reducible refine Kd.C_drewN ?_ _) | (with_reducible refine Kd.C_drew ?_))); (case side2 => exact HC0.out); rintro e w' ⟨rfl, ⟨nd, rfl⟩⟩))
              go_ret
              exact ⟨by first | rfl | (simp; done) | (simp [*]; done), by repeat (first | exact Drawn0.refl _ | apply Drawn0.step)⟩
        · replace c9 := Bool.eq_false_iff.mpr c9
          subst c9
          have H1 : (some 1) = some r := by rw [if_neg (show ¬ (false = true) by decide)] at H; exact H
          clear H
          have H := H1
          clear H1
          obtain rfl := Option.some.inj H
          go_wp2_with (first | ((with_reducible refine gate_callee (f := 68) rfl ?_); refine goesL_ (some 16) rfl rfl Try.func68 (by kernel_rfl) rfl #[.slice A1 l1.length c1] rfl (by (try simp only [List.map_toArray, List.map_cons, List.map_nil]); first | done | rfl | (simp only [List.length_drop, List.length_take]; rfl)) ?_; (with_reducible refine (impl_isHash.calls _ _ l1 false _ ?side1 ?side2 A8.out).mono ?_); (case side1 => repeat (first | exact HR1.out | (with_reducible refine Kd.C_alloc ?_ _) | (with_reducible refine Kd.C_drewN ?_ _) | (with_reducible refine Kd.C_drew ?_))); (case side2 => exact HC1.out); rintro e w' ⟨rfl, ⟨nd, rfl⟩⟩; refine ⟨_, rfl, ?_⟩))
          go_ret
          exact ⟨by first | rfl | (simp; done) | (simp [*]; done), by repeat (first | exact Drawn0.refl _ | apply Drawn0.step)⟩

/-! ### impl_inclusionRoot: function 83: by hand -/
-- IMPORT Mk
-- IMPORT U
/-- What stands behind a prover: the hashes that are left, whether one lacked, and what was hashed. -/
structure impl_inclusionRoot.PS (w0 w : World) (bp : Nat) (xs : List ByteArray) (b : Bool) (st : List ByteArray) : Prop where
  low : Below bp w0 w
  base : w0.heap.size ≤ bp
  ex : ∃ A c v, w.cell? ⟨bp, 0, none⟩ = some (.slice A xs.length c) ∧ w.cell? ⟨bp, 1, none⟩ = some (.bool b) ∧ w.cell? ⟨bp, 2, none⟩ = some v ∧ (w.frozen? ⟨bp, 0, none⟩ = false ∧ w.frozen? ⟨bp, 1, none⟩ = false ∧ w.frozen? ⟨bp, 2, none⟩ = false) ∧ xs.length ≤ c ∧
    ReadsOf Value.string ByteArray.empty w0 A xs.length xs ∧ w.ownsRow (bp + 1) 9 1 v st.length (pw_strs st)
theorem impl_inclusionRoot.PS.step {w0 w w' : World} {bp : Nat} {xs st : List ByteArray} {b : Bool} (h : impl_inclusionRoot.PS w0 w bp xs b st) (hb : Below w.heap.size w w') : impl_inclusionRoot.PS w0 w' bp xs b st := by
  obtain ⟨A, c, v, h0, h1, h2, ⟨f0, f1, f2⟩, h4, h5, h6⟩ := h.ex
  have hlt : bp < w.heap.size := World.block_lt_of_cell? w _ h0
  exact ⟨h.low.trans (hb.mono (Nat.le_of_lt hlt)), h.base, A, c, v, (hb.cell (p := ⟨bp, 0, none⟩) hlt).trans h0, (hb.cell (p := ⟨bp, 1, none⟩) hlt).trans h1, (hb.cell (p := ⟨bp, 2, none⟩) hlt).trans h2, ⟨(hb.frozen (p := ⟨bp, 0, none⟩) hlt).trans f0, (hb.frozen (p := ⟨bp, 1, none⟩) hlt).trans f1, (hb.frozen (p := ⟨bp, 2, none⟩) hlt).trans f2⟩, h4, h5, pw_own_below h6 hb⟩
theorem impl_inclusionRoot.own_set {w : World} {bp j n : Nat} {v u : Value} {xs : List Value} {e : TypeId} (h : w.ownsRow (bp + 1) e 1 v n xs) : (w.setCell ⟨bp, j, none⟩ u).ownsRow (bp + 1) e 1 v n xs :=
  own_move h (fun k hk => Below.heap_setCell w ⟨bp, j, none⟩ u k (by have := own_base h k hk; show k ≠ bp; omega))
set_option maxHeartbeats 1000000 in
set_option maxRecDepth 100000 in
theorem impl_inclusionRoot.next (w0 w : World) (bp : Nat) (xs st : List ByteArray) (b : Bool) (h : impl_inclusionRoot.PS w0 w bp xs b st) :
    Calls Try.prog 160 #[.pointer (some ⟨bp, 0, none⟩)] w fun e w' => e = .returned (.string (Go.Proofs.Ytamjkgbimcpfaaa.Mk.nextP xs b).1) ∧ impl_inclusionRoot.PS w0 w' bp (Go.Proofs.Ytamjkgbimcpfaaa.Mk.nextP xs b).2.1 (Go.Proofs.Ytamjkgbimcpfaaa.Mk.nextP xs b).2.2 st := by
  obtain ⟨A, c, v, h0, h1, h2, ⟨f0, f1, f2⟩, h4, h5, h6⟩ := h.ex
  have HP := Aside0.mk h
  have HO := Aside0.mk h6
  have HR := Aside0.mk h5
  clear h h5 h6
  cases xs with
  | nil =>
    go_enter Try.func160, Try.ntmps160
    go_wp2
    go_ret
    refine ⟨rfl, ?_⟩
    have hb : Below bp w0 (w.setCell ⟨bp, 1, none⟩ (.bool true)) := HP.out.low.setCell (p := ⟨bp, 1, none⟩) (Nat.le_refl _) _
    refine ⟨hb, HP.out.base, A, c, v, ?_, ?_, ?_, ⟨?_, ?_, ?_⟩, h4, HR.out, impl_inclusionRoot.own_set HO.out⟩
    · rw [World.cell?_setCell_other _ _ _ _ (by simp)]; exact h0
    · rw [World.cell?_setCell_same _ _ _ h1]; rfl
    · rw [World.cell?_setCell_other _ _ _ _ (by simp)]; exact h2
    · rw [World.frozen?_setCell]; exact f0
    · rw [World.frozen?_setCell]; exact f1
    · rw [World.frozen?_setCell]; exact f2
  | cons x t =>
    obtain ⟨ad, e0, hx0⟩ := HR.out.at_ 0 (by omega) (by simp)
    subst e0
    replace hx0 := (HP.out.low.cell (Nat.lt_of_lt_of_le (World.block_lt_of_cell? w0 _ hx0) HP.out.base)).trans hx0
    have hx1 : w.cell? ad = some (.string x) := by
      have e : ad.add (0 : Int).toNat = ad := by unfold Addr.add; split <;> simp_all
      rw [e] at hx0
      exact hx0
    clear hx0
    obtain ⟨i0, hi0, _, hz0, _⟩ := info_parts info9
    obtain ⟨A', hcut, hcr⟩ := print_cut_of (P := Try.prog) Value.string ByteArray.empty 22 9 .i64 Try.underlying22 hi0 hz0 (some ad) (x :: t).length c 1 (by simp)
    have HR2 : Aside0 (ReadsOf Value.string ByteArray.empty w0 A' ((x :: t).length - 1) t) := ⟨hcr w0 (x :: t) h4 HR.out⟩
    have hcut' : ∀ W : World, (Instr.slice 22 (.slice (some ad) (t.length + 1) c) (some (.int .i64 1)) none none).run Try.prog W = .ok (.slice A' t.length (c - 1)) W := fun W => hcut W
    clear hcr hi0 hz0 hcut
    go_enter Try.func160, Try.ntmps160
    go_wp2
    go_ret
    refine ⟨rfl, ?_⟩
    have hb : Below bp w0 (w.setCell ⟨bp, 0, none⟩ (.slice A' t.length (c - 1))) := HP.out.low.setCell (p := ⟨bp, 0, none⟩) (Nat.le_refl _) _
    refine ⟨hb, HP.out.base, A', c - 1, v, ?_, ?_, ?_, ⟨?_, ?_, ?_⟩, ?_, HR2.out, impl_inclusionRoot.own_set HO.out⟩
    · rw [World.cell?_setCell_same _ _ _ h0]; rfl
    · rw [World.cell?_setCell_other _ _ _ _ (by simp)]; exact h1
    · rw [World.cell?_setCell_other _ _ _ _ (by simp)]; exact h2
    · rw [World.frozen?_setCell]; exact f0
    · rw [World.frozen?_setCell]; exact f1
    · rw [World.frozen?_setCell]; exact f2
    · simp only [List.length_cons] at h4
      show t.length ≤ c - 1
      omega
set_option maxHeartbeats 1000000 in
set_option maxRecDepth 100000 in
theorem impl_inclusionRoot.node (w0 w : World) (bp : Nat) (xs st : List ByteArray) (b : Bool) (l r : ByteArray) (h : impl_inclusionRoot.PS w0 w bp xs b st) (hl : l.size ≤ 100000000) (hr : r.size ≤ 100000000) (hst : st.length ≤ 1000000) :
    Calls Try.prog 161 #[.pointer (some ⟨bp, 0, none⟩), .string l, .string r] w fun e w' => e = .returned (.string (Go.Proofs.Ytamjkgbimcpfaaa.Mk.nodeOf l r)) ∧ impl_inclusionRoot.PS w0 w' bp xs b (st ++ [(⟨#[1]⟩ : ByteArray) ++ l ++ r]) := by
  obtain ⟨A, c, v, h0, h1, h2, ⟨f0, f1, f2⟩, h4, h5, h6⟩ := h.ex
  have HP := Aside0.mk h
  have HO := Aside0.mk h6
  have HR := Aside0.mk h5
  have HN : Aside0 (∀ w, Calls Try.prog 70 #[.string l, .string r] w fun e w' => e = .returned (.string (Go.Proofs.Ytamjkgbimcpfaaa.Mk.nodeOf l r)) ∧ Below w.heap.size w w') := ⟨fun w => impl_nodeHash.calls l r _ w (by
    unfold impl_nodeHash.f impl_hash.f
    rw [if_pos (by omega), if_pos (by omega), if_pos (by rw [ByteArray.size_append, ByteArray.size_append]; show 1 + _ + _ ≤ _; omega)]
    rfl)⟩
  have HS := Aside0.mk (And.intro hst (And.intro hl hr))
  clear h h5 h6 hst
  go_enter Try.func161, Try.ntmps161
  have hlt : bp < w.heap.size := World.block_lt_of_cell? w _ h0
  have HLT := Aside0.mk hlt
  clear hlt
  go_wp2_with (first
    | ((with_reducible refine gate_builtin (b := .append) (xs := #[.tmp 11, .tmp 16]) rfl ?_); at_builtin; refine print_append (w0 := w) (bp + 1) rfl (.tmp 11) (.tmp 16) 22 9 (.string ⟨#[]⟩) 16 rfl Try.underlying22 info9 rfl (by decide) v (pw_strs st) (.string ((⟨#[1]⟩ : ByteArray) ++ l ++ r)) rfl rfl rfl (by rw [show (pw_strs st).length = st.length by simp [pw_strs]]; exact HO.out) (Below.refl _ _) HLT.out (by rw [show (pw_strs st).length = st.length by simp [pw_strs]]; have := HS.out; omega) ?_; intro v1 w1 hown hB hg hat; obtain ⟨A1, c1, rfl⟩ := own_slice hown; have k0 := (hB.cell (p := ⟨bp, 0, none⟩) (Nat.lt_succ_self bp)).trans h0; have k1 := (hB.cell (p := ⟨bp, 1, none⟩) (Nat.lt_succ_self bp)).trans h1; have k2 := (hB.cell (p := ⟨bp, 2, none⟩) (Nat.lt_succ_self bp)).trans h2; have g0 := (hB.frozen (p := ⟨bp, 0, none⟩) (Nat.lt_succ_self bp)).trans f0; have g1 := (hB.frozen (p := ⟨bp, 1, none⟩) (Nat.lt_succ_self bp)).trans f1; have g2 := (hB.frozen (p := ⟨bp, 2, none⟩) (Nat.lt_succ_self bp)).trans f2; have HB1 := Aside0.mk hB; have HO1 := Aside0.mk hown; clear hown hB hg hat h0 h1 h2 f0 f1 f2)
    | (go_at_call 70; refine (HN.out _).mono ?_; rintro e w2 ⟨rfl, hb2⟩; have HB2 := Aside0.mk hb2; clear hb2))
  go_ret
  refine ⟨rfl, impl_inclusionRoot.PS.step ?_ HB2.out⟩
  refine ⟨(HP.out.low.trans (HB1.out.mono (Nat.le_succ bp))).setCell (p := ⟨bp, 2, none⟩) (Nat.le_refl _) _, HP.out.base, A, c, .slice A1 ((pw_strs st).length + 1) c1, ?_, ?_, ?_, ⟨?_, ?_, ?_⟩, h4, HR.out, impl_inclusionRoot.own_set ?_⟩
  · rw [World.cell?_setCell_other _ _ _ _ (by simp)]; exact k0
  · rw [World.cell?_setCell_other _ _ _ _ (by simp)]; exact k1
  · rw [World.cell?_setCell_same _ _ _ k2]
  · rw [World.frozen?_setCell]; exact g0
  · rw [World.frozen?_setCell]; exact g1
  · rw [World.frozen?_setCell]; exact g2
  · have := HO1.out
    have e1 : pw_strs (st ++ [(⟨#[1]⟩ : ByteArray) ++ l ++ r]) = pw_strs st ++ [Value.string ((⟨#[1]⟩ : ByteArray) ++ l ++ r)] := by simp [pw_strs]
    have e2 : (pw_strs st ++ [Value.string ((⟨#[1]⟩ : ByteArray) ++ l ++ r)]).length = (pw_strs st).length + 1 := by simp
    have e3 : (st ++ [(⟨#[1]⟩ : ByteArray) ++ l ++ r]).length = (pw_strs st).length + 1 := by simp [pw_strs]
    rw [e2] at this
    rw [e1, e3]
    exact this
theorem impl_inclusionRoot.split_from (f : Nat) : ∀ (n x : Nat), n ≤ 1000000 → 1 ≤ x → x ≤ 1000000 → n - x ≤ f → ∃ k, impl_split.l0 k (n : Int) (x : Int) = some ((Go.Proofs.Ytamjkgbimcpfaaa.Mk.halfGo f n x : Nat) : Int) := by
  induction f with
  | zero =>
    intro n x hn h1 h2 hf
    refine ⟨1, ?_⟩
    have w1 : wrap64 (2 * (x : Int)) = 2 * (x : Int) := Go.Proofs.Ytamjkgbimcpfaaa.U.wrap_in (by omega) (by omega)
    simp only [impl_split.l0, w1]
    rw [if_neg (by omega)]
    rfl
  | succ f ih =>
    intro n x hn h1 h2 hf
    have w1 : wrap64 (2 * (x : Int)) = 2 * (x : Int) := Go.Proofs.Ytamjkgbimcpfaaa.U.wrap_in (by omega) (by omega)
    have w2 : wrap64 ((x : Int) * 2) = ((2 * x : Nat) : Int) := (Go.Proofs.Ytamjkgbimcpfaaa.U.wrap_in (by omega) (by omega)).trans (by omega)
    by_cases h : 2 * x < n
    · obtain ⟨k, hk⟩ := ih n (2 * x) hn (by omega) (by omega) (by omega)
      refine ⟨k + 1, ?_⟩
      simp only [impl_split.l0, w1, w2]
      rw [if_pos (by clear w1 w2; omega), hk, Go.Proofs.Ytamjkgbimcpfaaa.Mk.halfGo, if_pos h]
    · refine ⟨1, ?_⟩
      simp only [impl_split.l0, w1]
      rw [if_neg (by clear w1 w2; omega), Go.Proofs.Ytamjkgbimcpfaaa.Mk.halfGo, if_neg h]
theorem impl_inclusionRoot.split (n : Nat) (hn : n ≤ 1000000) (w : World) : Calls Try.prog 115 #[.int .i64 (n : Int)] w fun e w' => e = .returned (.int .i64 ((Go.Proofs.Ytamjkgbimcpfaaa.Mk.halfN n : Nat) : Int)) ∧ Below w.heap.size w w' := by
  obtain ⟨k, hk⟩ := impl_inclusionRoot.split_from n n 1 hn (by omega) (by omega) (by omega)
  exact (impl_split.calls k (n : Int) _ w hk).mono fun e w' h => ⟨h.1, Drawn0.below h.2⟩
set_option maxHeartbeats 2000000 in
set_option maxRecDepth 100000 in
theorem impl_inclusionRoot.incl (w0 : World) (bp : Nat) (leaf : ByteArray) (hl : leaf.size ≤ 100000000) (m : Nat) : ∀ (i n : Nat) (xs st : List ByteArray) (b : Bool) (w : World), n ≤ m → n ≤ 100000 → i ≤ 100000 → st.length + n ≤ 1000000 → Go.Proofs.Ytamjkgbimcpfaaa.Mk.BS xs → impl_inclusionRoot.PS w0 w bp xs b st →
    Calls Try.prog 129 #[.pointer (some ⟨bp, 0, none⟩), .string leaf, .int .i64 (i : Int), .int .i64 (n : Int)] w fun e w' => e = .returned (.string (Go.Proofs.Ytamjkgbimcpfaaa.Mk.inclP leaf i n xs b st).1) ∧
      impl_inclusionRoot.PS w0 w' bp (Go.Proofs.Ytamjkgbimcpfaaa.Mk.inclP leaf i n xs b st).2.1 (Go.Proofs.Ytamjkgbimcpfaaa.Mk.inclP leaf i n xs b st).2.2.1 (Go.Proofs.Ytamjkgbimcpfaaa.Mk.inclP leaf i n xs b st).2.2.2 := by
  induction m with
  | zero =>
    intro i n xs st b w hm _ _ _ _ hP
    rw [Go.Proofs.Ytamjkgbimcpfaaa.Mk.inclP_one _ _ _ _ _ _ (by omega)]
    have HP := Aside0.mk hP
    have h1 : (n : Int) ≤ 1 := by omega
    clear hP hm
    go_enter Try.func129, Try.ntmps129
    go_wp2_with fail
    go_ret
    exact ⟨rfl, HP.out⟩
  | succ m ih =>
    intro i n xs st b w hm hn hi hst hx hP
    by_cases h1 : n ≤ 1
    · rw [Go.Proofs.Ytamjkgbimcpfaaa.Mk.inclP_one _ _ _ _ _ _ h1]
      have HP := Aside0.mk hP
      have h1' : (n : Int) ≤ 1 := by omega
      clear hP hm h1
      go_enter Try.func129, Try.ntmps129
      go_wp2_with fail
      go_ret
      exact ⟨rfl, HP.out⟩
    · have hh := Go.Proofs.Ytamjkgbimcpfaaa.Mk.halfN_lt n (by omega)
      have HSP : Aside0 (∀ w, Calls Try.prog 115 #[.int .i64 (n : Int)] w fun e w' => e = .returned (.int .i64 ((Go.Proofs.Ytamjkgbimcpfaaa.Mk.halfN n : Nat) : Int)) ∧ Below w.heap.size w w') := ⟨fun w => impl_inclusionRoot.split n (by omega) w⟩
      by_cases hlow : i < Go.Proofs.Ytamjkgbimcpfaaa.Mk.halfN n
      · rw [Go.Proofs.Ytamjkgbimcpfaaa.Mk.inclP_low _ _ _ _ _ _ (by omega) hlow]
        obtain ⟨a1, a2, a3, a4⟩ := Go.Proofs.Ytamjkgbimcpfaaa.Mk.inclP_bs leaf hl m i (Go.Proofs.Ytamjkgbimcpfaaa.Mk.halfN n) xs b st (by omega) hx
        have HI : Aside0 (∀ w, impl_inclusionRoot.PS w0 w bp xs b st → _) := ⟨fun w h => ih i (Go.Proofs.Ytamjkgbimcpfaaa.Mk.halfN n) xs st b w (by omega) (by omega) hi (by omega) hx h⟩
        generalize Go.Proofs.Ytamjkgbimcpfaaa.Mk.halfN n = k at *
        generalize Go.Proofs.Ytamjkgbimcpfaaa.Mk.inclP leaf i k xs b st = r at *
        obtain ⟨rh, rx, rb, rs⟩ := r
        simp only at a1 a2 a3 a4 HI ⊢
        obtain ⟨b1, b2, b3⟩ := Go.Proofs.Ytamjkgbimcpfaaa.Mk.nextP_bs rx rb a2
        have HX : Aside0 (∀ w, impl_inclusionRoot.PS w0 w bp rx rb rs → _) := ⟨fun w h => impl_inclusionRoot.next w0 w bp rx rs rb h⟩
        generalize Go.Proofs.Ytamjkgbimcpfaaa.Mk.nextP rx rb = t at *
        obtain ⟨th, tx, tb⟩ := t
        simp only at b1 b2 b3 HX ⊢
        have HD : Aside0 (∀ w, impl_inclusionRoot.PS w0 w bp tx tb rs → _) := ⟨fun w h => impl_inclusionRoot.node w0 w bp tx rs tb rh th h a1 b1 (by omega)⟩
        have HP := Aside0.mk hP
        have c1 : 1 < (n : Int) := by omega
        have c2 : (i : Int) < (k : Int) := by omega
        clear hP hm hn hi hst hx h1 hh hlow a1 a2 a3 a4 b1 b2 b3 ih
        go_enter Try.func129, Try.ntmps129
        go_wp2_with (first
          | (go_at_call 115; refine (HSP.out _).mono ?_; rintro e W1 ⟨rfl, hb1⟩; have HP1 := Aside0.mk (HP.out.step hb1); clear hb1)
          | (go_at_call 129; refine (HI.out _ HP1.out).mono ?_; rintro e W2 ⟨rfl, hp2⟩; have HP2 := Aside0.mk hp2; clear hp2)
          | (go_at_call 160; refine (HX.out _ HP2.out).mono ?_; rintro e W3 ⟨rfl, hp3⟩; have HP3 := Aside0.mk hp3; clear hp3)
          | (go_at_call 161; refine (HD.out _ HP3.out).mono ?_; rintro e W4 ⟨rfl, hp4⟩; have HP4 := Aside0.mk hp4; clear hp4))
        go_ret
        exact ⟨rfl, HP4.out⟩
      · rw [Go.Proofs.Ytamjkgbimcpfaaa.Mk.inclP_high _ _ _ _ _ _ (by omega) hlow]
        obtain ⟨a1, a2, a3, a4⟩ := Go.Proofs.Ytamjkgbimcpfaaa.Mk.inclP_bs leaf hl m (i - Go.Proofs.Ytamjkgbimcpfaaa.Mk.halfN n) (n - Go.Proofs.Ytamjkgbimcpfaaa.Mk.halfN n) xs b st (by omega) hx
        have HI : Aside0 (∀ w, impl_inclusionRoot.PS w0 w bp xs b st → _) := ⟨fun w h => ih (i - Go.Proofs.Ytamjkgbimcpfaaa.Mk.halfN n) (n - Go.Proofs.Ytamjkgbimcpfaaa.Mk.halfN n) xs st b w (by omega) (by omega) (by omega) (by omega) hx h⟩
        generalize Go.Proofs.Ytamjkgbimcpfaaa.Mk.halfN n = k at *
        obtain ⟨i1, hi1⟩ : ∃ q, i - k = q := ⟨_, rfl⟩
        obtain ⟨n1, hn1⟩ : ∃ q, n - k = q := ⟨_, rfl⟩
        rw [hi1, hn1] at HI a1 a2 a3 a4 ⊢
        have e1 : IntKind.i64.wrap ((i : Int) - (k : Int)) = (i1 : Int) := by rw [← hi1]; exact (IntWalk.i64_in _ (by omega)).trans (by omega)
        have e2 : IntKind.i64.wrap ((n : Int) - (k : Int)) = (n1 : Int) := by rw [← hn1]; exact (IntWalk.i64_in _ (by omega)).trans (by omega)
        generalize Go.Proofs.Ytamjkgbimcpfaaa.Mk.inclP leaf i1 n1 xs b st = r at *
        obtain ⟨rh, rx, rb, rs⟩ := r
        simp only at a1 a2 a3 a4 HI ⊢
        obtain ⟨b1, b2, b3⟩ := Go.Proofs.Ytamjkgbimcpfaaa.Mk.nextP_bs rx rb a2
        have HX : Aside0 (∀ w, impl_inclusionRoot.PS w0 w bp rx rb rs → _) := ⟨fun w h => impl_inclusionRoot.next w0 w bp rx rs rb h⟩
        generalize Go.Proofs.Ytamjkgbimcpfaaa.Mk.nextP rx rb = t at *
        obtain ⟨th, tx, tb⟩ := t
        simp only at b1 b2 b3 HX ⊢
        have HD : Aside0 (∀ w, impl_inclusionRoot.PS w0 w bp tx tb rs → _) := ⟨fun w h => impl_inclusionRoot.node w0 w bp tx rs tb th rh h b1 a1 (by omega)⟩
        have HP := Aside0.mk hP
        have c1 : 1 < (n : Int) := by omega
        have c2 : (k : Int) ≤ (i : Int) := by omega
        clear hP hm hn hi hst hx h1 hh hlow a1 a2 a3 a4 b1 b2 b3 ih hi1 hn1
        go_enter Try.func129, Try.ntmps129
        go_wp2_with (first
          | (go_at_call 115; refine (HSP.out _).mono ?_; rintro e W1 ⟨rfl, hb1⟩; have HP1 := Aside0.mk (HP.out.step hb1); clear hb1)
          | (go_at_call 129; refine (HI.out _ HP1.out).mono ?_; rintro e W2 ⟨rfl, hp2⟩; have HP2 := Aside0.mk hp2; clear hp2)
          | (go_at_call 160; refine (HX.out _ HP2.out).mono ?_; rintro e W3 ⟨rfl, hp3⟩; have HP3 := Aside0.mk hp3; clear hp3)
          | (go_at_call 161; refine (HD.out _ HP3.out).mono ?_; rintro e W4 ⟨rfl, hp4⟩; have HP4 := Aside0.mk hp4; clear hp4))
        go_ret
        exact ⟨rfl, HP4.out⟩
theorem impl_inclusionRoot.within (a b c : Int) (w : World) : Calls Try.prog 61 #[.int .i64 a, .int .i64 b, .int .i64 c] w fun e w' => e = .returned (.bool (decide (b ≤ a ∧ a ≤ c))) ∧ Below w.heap.size w w' := by
  have h : impl_within.f a b c = some (decide (b ≤ a ∧ a ≤ c)) := by
    unfold impl_within.f
    split <;> simp only [Option.some.injEq] <;> rw [Bool.eq_iff_iff] <;> simp <;> omega
  exact (impl_within.calls a b c _ w h).mono fun e w' h => ⟨h.1, Drawn0.below h.2⟩
theorem impl_inclusionRoot.start (w : World) (A : Option Addr) (c : Nat) (xs : List ByteArray) (hc : xs.length ≤ c) (hr : ReadsOf Value.string ByteArray.empty w A xs.length xs) (u : Nat) :
    impl_inclusionRoot.PS w (w.alloc (Obj.cells #[Value.slice A xs.length c, Value.bool false, Value.slice none 0 0] u)) w.heap.size xs false [] := by
  refine ⟨below_alloc (Below.refl _ _) _, Nat.le_refl _, A, c, .slice none 0 0, ?_, ?_, ?_, ⟨?_, ?_, ?_⟩, hc, hr, own_nil _ _ _ _⟩
  · rw [World.cell?_alloc_new]; rfl
  · rw [World.cell?_alloc_new]; rfl
  · rw [World.cell?_alloc_new]; rfl
  all_goals exact World.frozen?_alloc_new _ _ _ _
def impl_inclusionRoot.iroot (t : ByteArray × List ByteArray × Bool × List ByteArray) : ByteArray × List ByteArray × Int :=
  if t.2.2.1 = true ∨ 0 < t.2.1.length then (⟨#[]⟩, [], 10) else (t.1, t.2.2.2, 0)
def impl_inclusionRoot.f (a0 : ByteArray) (a1 a2 : Int) (l3 : List ByteArray) : Option (ByteArray × List ByteArray × Int) :=
  if a0.size ≤ 100000000 ∧ (l3.all fun x => decide (x.size ≤ 100000000)) = true then
    some (if 1 ≤ a2 ∧ a2 ≤ 64 ∧ 0 ≤ a1 ∧ a1 ≤ a2 - 1 then impl_inclusionRoot.iroot (Go.Proofs.Ytamjkgbimcpfaaa.Mk.inclP a0 a1.toNat a2.toNat l3 false []) else (⟨#[]⟩, [], 4)) else none
set_option maxHeartbeats 400000 in
set_option maxRecDepth 100000 in
theorem impl_inclusionRoot.calls_in (a0 : ByteArray) (i n : Nat) (A3 : Option Addr) (c3 : Nat) (l3 : List ByteArray) (r : ByteArray × List ByteArray × Bool × List ByteArray) (w : World) (hr3 : Kd.C Kd.string w A3 l3.length l3) (hc3 : l3.length ≤ c3)
    (hn1 : 1 ≤ n) (hn : n ≤ 64) (hi : i < n)
    (HI : Aside0 (∀ (w0 w : World) (bp : Nat), impl_inclusionRoot.PS w0 w bp l3 false [] → Calls Try.prog 129 #[.pointer (some ⟨bp, 0, none⟩), .string a0, .int .i64 (i : Int), .int .i64 (n : Int)] w fun e w' => e = .returned (.string r.1) ∧ impl_inclusionRoot.PS w0 w' bp r.2.1 r.2.2.1 r.2.2.2)) :
    Calls Try.prog 83 #[.string a0, .int .i64 (i : Int), .int .i64 (n : Int), .slice A3 l3.length c3] w fun e w' => ∃ v1_ : Value, e = .returned (.tuple #[.string (impl_inclusionRoot.iroot r).1, v1_, .int .i64 (impl_inclusionRoot.iroot r).2.2]) ∧ Kd.R Kd.string 9 w' w.heap.size (fun _ => True) v1_ (impl_inclusionRoot.iroot r).2.1 ∧ Below w.heap.size w w' := by
  have e1 : IntKind.i64.wrap ((n : Int) - 1) = (n : Int) - 1 := IntWalk.i64_in _ (by omega)
  have HW : Aside0 (∀ w, Calls Try.prog 61 #[.int .i64 (n : Int), .int .i64 1, .int .i64 64] w fun e w' => e = .returned (.bool true) ∧ Below w.heap.size w w') := ⟨fun w => by have := impl_inclusionRoot.within (n : Int) 1 64 w; rw [decide_eq_true (by omega)] at this; exact this⟩
  have HW2 : Aside0 (∀ w, Calls Try.prog 61 #[.int .i64 (i : Int), .int .i64 0, .int .i64 ((n : Int) - 1)] w fun e w' => e = .returned (.bool true) ∧ Below w.heap.size w w') := ⟨fun w => by have := impl_inclusionRoot.within (i : Int) 0 ((n : Int) - 1) w; rw [decide_eq_true (by omega)] at this; exact this⟩
  have HR3 := Aside0.mk hr3
  have HC3 := Aside0.mk hc3
  clear hr3 hc3 hn1 hn hi
  obtain ⟨rh, rx, rb, rs⟩ := r
  simp only at HI
  generalize hq : impl_inclusionRoot.iroot (rh, rx, rb, rs) = q
  obtain ⟨q1, q2, q3⟩ := q
  have HQ := Aside0.mk hq
  clear hq
  have hcs : (rb = true) ∨ (rb = false ∧ 0 < rx.length) ∨ (rb = false ∧ ¬ 0 < rx.length) := by
    cases rb
    · rcases Nat.eq_zero_or_pos rx.length with h0 | h0
      · exact .inr (.inr ⟨rfl, by omega⟩)
      · exact .inr (.inl ⟨rfl, by omega⟩)
    · exact .inl rfl
  rcases hcs with rfl | ⟨rfl, hlen⟩ | ⟨rfl, hlen⟩
  all_goals
    go_enter Try.func83, Try.ntmps83
    go_wp2_with (first
      | (go_at_call 61; with_reducible refine (HW.out _).mono ?_; rintro e W1 ⟨rfl, hb1⟩; have HB1 := Aside0.mk hb1; clear hb1)
      | (go_at_call 61; with_reducible refine (HW2.out _).mono ?_; rintro e W2 ⟨rfl, hb2⟩; have HB2 := Aside0.mk (HB1.out.trans (hb2.mono HB1.out.size)); clear hb2)
      | (go_at_call 129; go_loud (refine (HI.out W2 _ W2.heap.size (impl_inclusionRoot.start W2 A3 c3 l3 HC3.out ((Kd.reads_of_C (enc := Value.string) (d := ByteArray.empty) (h1 := fun _ => rfl) HR3.out).below HB2.out) _)).mono ?_; rintro e W3 ⟨rfl, hp3⟩; obtain ⟨A5, c5, v5, k0, k1, k2, ⟨g0, g1, g2⟩, hx5, _, ho5⟩ := hp3.ex; obtain ⟨A6, c6, rfl⟩ := own_slice ho5; have HP3 := Aside0.mk hp3; have HO5 := Aside0.mk ho5; clear hp3 ho5 hx5)))
    try (go_quiet (fail); go_wp2)
    go_ret3
  · have e := HQ.out
    rw [impl_inclusionRoot.iroot, if_pos (.inl rfl)] at e
    injection e with e1 e; injection e with e2 e3
    subst e1 e2 e3
    exact ⟨_, rfl, Kd.R_nil _ _ _ _ _, HB2.out.trans (HP3.out.low.mono HB2.out.size)⟩
  · have e := HQ.out
    rw [impl_inclusionRoot.iroot, if_pos (.inr hlen)] at e
    injection e with e1 e; injection e with e2 e3
    subst e1 e2 e3
    exact ⟨_, rfl, Kd.R_nil _ _ _ _ _, HB2.out.trans (HP3.out.low.mono HB2.out.size)⟩
  · have e := HQ.out
    rw [impl_inclusionRoot.iroot, if_neg (by rintro (h | h); exact absurd h (by simp); exact hlen h)] at e
    injection e with e1 e; injection e with e2 e3
    subst e1 e2 e3
    refine ⟨_, rfl, ?_, ?_⟩
    · refine Kd.R_mono (Kd.R_of_own (v := .slice A6 rs.length c6) (own_weaken (base' := w.heap.size) HO5.out ?_) (fun _ _ => trivial)) (fun _ h => h)
      exact Nat.le_trans HB2.out.size (Nat.le_succ _)
    · repeat (first | exact HB2.out.trans (HP3.out.low.mono HB2.out.size) | apply below_alloc | apply pw_below_drewN | apply below_drew1)
set_option maxHeartbeats 1000000 in
set_option maxRecDepth 100000 in
theorem impl_inclusionRoot.calls_out (a0 : ByteArray) (a1 a2 : Int) (A3 : Option Addr) (c3 : Nat) (n3 : Nat) (w : World) (h : ¬ (1 ≤ a2 ∧ a2 ≤ 64 ∧ 0 ≤ a1 ∧ a1 ≤ a2 - 1)) :
    Calls Try.prog 83 #[.string a0, .int .i64 a1, .int .i64 a2, .slice A3 n3 c3] w fun e w' => ∃ v1_ : Value, e = .returned (.tuple #[.string ⟨#[]⟩, v1_, .int .i64 4]) ∧ Kd.R Kd.string 9 w' w.heap.size (fun _ => True) v1_ [] ∧ Below w.heap.size w w' := by
  by_cases h1 : 1 ≤ a2 ∧ a2 ≤ 64
  · have h2 : ¬ (0 ≤ a1 ∧ a1 ≤ a2 - 1) := fun k => h ⟨h1.1, h1.2, k.1, k.2⟩
    have e1 : IntKind.i64.wrap (a2 - 1) = a2 - 1 := IntWalk.i64_in _ (by omega)
    have HW : Aside0 (∀ w, Calls Try.prog 61 #[.int .i64 a2, .int .i64 1, .int .i64 64] w fun e w' => e = .returned (.bool true) ∧ Below w.heap.size w w') := ⟨fun w => by have := impl_inclusionRoot.within a2 1 64 w; rw [decide_eq_true h1] at this; exact this⟩
    have HW2 : Aside0 (∀ w, Calls Try.prog 61 #[.int .i64 a1, .int .i64 0, .int .i64 (a2 - 1)] w fun e w' => e = .returned (.bool false) ∧ Below w.heap.size w w') := ⟨fun w => by have := impl_inclusionRoot.within a1 0 (a2 - 1) w; rw [decide_eq_false h2] at this; exact this⟩
    clear h h1 h2
    go_enter Try.func83, Try.ntmps83
    go_wp2_with (first
      | (go_at_call 61; with_reducible refine (HW.out _).mono ?_; rintro e W1 ⟨rfl, hb1⟩; have HB1 := Aside0.mk hb1; clear hb1)
      | (go_at_call 61; with_reducible refine (HW2.out _).mono ?_; rintro e W2 ⟨rfl, hb2⟩; have HB2 := Aside0.mk (HB1.out.trans (hb2.mono HB1.out.size)); clear hb2))
    go_ret3
    exact ⟨_, rfl, Kd.R_nil _ _ _ _ _, HB2.out⟩
  · have HW : Aside0 (∀ w, Calls Try.prog 61 #[.int .i64 a2, .int .i64 1, .int .i64 64] w fun e w' => e = .returned (.bool false) ∧ Below w.heap.size w w') := ⟨fun w => by have := impl_inclusionRoot.within a2 1 64 w; rw [decide_eq_false h1] at this; exact this⟩
    clear h h1
    go_enter Try.func83, Try.ntmps83
    go_wp2_with (first
      | (go_at_call 61; with_reducible refine (HW.out _).mono ?_; rintro e W1 ⟨rfl, hb1⟩; have HB1 := Aside0.mk hb1; clear hb1))
    go_ret3
    exact ⟨_, rfl, Kd.R_nil _ _ _ _ _, HB1.out⟩
theorem impl_inclusionRoot.bs_of {l : List ByteArray} (h : (l.all fun x => decide (x.size ≤ 100000000)) = true) : Go.Proofs.Ytamjkgbimcpfaaa.Mk.BS l := fun x hx => of_decide_eq_true (List.all_eq_true.mp h x hx)
theorem impl_inclusionRoot.calls (a0 : ByteArray) (a1 a2 : Int) (A3 : Option Addr) (c3 : Nat) (l3 : List ByteArray) (r1 : ByteArray) (r2 : List ByteArray) (r3 : Int) (w : World) (hr3 : Kd.C Kd.string w A3 l3.length l3) (hc3 : l3.length ≤ c3) (h : impl_inclusionRoot.f a0 a1 a2 l3 = some (r1, r2, r3)) :
    Calls Try.prog 83 #[.string a0, .int .i64 a1, .int .i64 a2, .slice A3 l3.length c3] w fun e w' => ∃ v1_ : Value, e = .returned (.tuple #[.string r1, v1_, .int .i64 r3]) ∧ Kd.R Kd.string 9 w' w.heap.size (fun _ => True) v1_ r2 ∧ Below w.heap.size w w' := by
  unfold impl_inclusionRoot.f at h
  split at h
  · rename_i hs
    replace h := Option.some.inj h
    obtain ⟨hs1, hs2⟩ := hs
    split at h
    · rename_i hin
      obtain ⟨i, rfl⟩ := Int.eq_ofNat_of_zero_le hin.2.2.1
      obtain ⟨n, rfl⟩ := Int.eq_ofNat_of_zero_le (show 0 ≤ a2 by omega)
      rw [Int.toNat_natCast, Int.toNat_natCast] at h
      have := impl_inclusionRoot.calls_in a0 i n A3 c3 l3 _ w hr3 hc3 (by omega) (by omega) (by omega) ⟨fun w0 w bp h => impl_inclusionRoot.incl w0 bp a0 hs1 n i n l3 [] false w (Nat.le_refl _) (by omega) (by omega) (by simp; omega) (impl_inclusionRoot.bs_of hs2) h⟩
      rw [h] at this
      exact this
    · rename_i hin
      injection h with e1 e; injection e with e2 e3
      subst e1 e2 e3
      exact impl_inclusionRoot.calls_out a0 a1 a2 A3 c3 l3.length w hin
  · cases h

/-! ### impl_InclusionRoot: function 34 -/
def impl_InclusionRoot.f (k : Nat) (a0 : ByteArray) (a1 : Int) (a2 : Int) (l3 : List ByteArray) : Option (ByteArray × Int) := (impl_proofCode.f k l3 (([a0] : List ByteArray))).bind fun t285 => (if t285 = 0 then ((impl_inclusionRoot.f a0 a1 a2 l3).bind fun bt286 => (some (bt286.1, bt286.2.2))) else (some ((⟨#[]⟩ : ByteArray), t285)))
theorem impl_InclusionRoot.mono : ∀ a0 a1 a2 a3 k, LeO (impl_InclusionRoot.f k a0 a1 a2 a3) (impl_InclusionRoot.f (k + 1) a0 a1 a2 a3) := by
  intro a0 a1 a2 a3 k
  unfold impl_InclusionRoot.f
  repeat' first
      | (with_reducible exact impl_proofCode.mono _ _ _)
      | (with_reducible exact LeO.refl _)
      | (with_reducible exact LeO.none _)
      | (with_reducible refine LeO.ite ?_ ?_)
      | (with_reducible refine LeO.bind ?_ (fun _ => ?_))
      | exact impl_proofCode.mono _ _ _
      | exact LeO.none _
      | refine LeO.ite ?_ ?_
      | refine LeO.bind ?_ (fun _ => ?_)
set_option maxHeartbeats 8000000 in
set_option maxRecDepth 100000 in
theorem impl_InclusionRoot.calls (k : Nat) (a0 : ByteArray) (a1 : Int) (a2 : Int) (A3 : Option Addr) (c3 : Nat) (l3 : List ByteArray) (r1 : ByteArray) (r2 : Int) (w : World) (hr3 : Kd.C Kd.string w A3 l3.length l3) (hc3 : l3.length ≤ c3) (h : impl_InclusionRoot.f k a0 a1 a2 l3 = some (r1, r2)) :
    Calls Try.prog 34 #[.string a0, .int .i64 a1, .int .i64 a2, .slice A3 l3.length c3] w fun e w' => e = .returned (.tuple #[.string r1, .int .i64 r2]) ∧ Below w.heap.size w w' := by
  have HR3 := Aside0.mk hr3
  have HC3 := Aside0.mk hc3
  clear hr3 hc3
  have HB := Aside0.mk (Below.refl w.heap.size w)
  have H : ((impl_proofCode.f k l3 (([a0] : List ByteArray))).bind fun t285 => (if t285 = 0 then ((impl_inclusionRoot.f a0 a1 a2 l3).bind fun bt286 => (some (bt286.1, bt286.2.2))) else (some ((⟨#[]⟩ : ByteArray), t285)))) = some (r1, r2) := h
  clear h
  obtain ⟨y282, hy282⟩ : ∃ y_ : List ByteArray, y_ = (([a0] : List ByteArray)) := ⟨_, rfl⟩
  replace H : ((impl_proofCode.f k l3 y282).bind fun t285 => (if t285 = 0 then ((impl_inclusionRoot.f a0 a1 a2 l3).bind fun bt286 => (some (bt286.1, bt286.2.2))) else (some ((⟨#[]⟩ : ByteArray), t285)))) = some (r1, r2) := by first | (rw [hy282]; with_reducible exact H) | (have H2_ := (Option.bind_some _ _).symm.trans H; rw [hy282]; with_reducible exact H2_) | (have H2_ := (Option.bind_some _ _).symm.trans H; with_reducible exact H2_) | with_reducible exact H | (rw [hy282]; exact H) | exact H
  have Ny282 := Aside0.mk hy282
  clear hy282
  replace H := Option.bind_eq_some_iff.mp H
  obtain ⟨t285, A50, H⟩ := H
  replace H : (if t285 = 0 then ((impl_inclusionRoot.f a0 a1 a2 l3).bind fun bt286 => (some (bt286.1, bt286.2.2))) else (some ((⟨#[]⟩ : ByteArray), t285))) = some (r1, r2) := H
  have A5 := Aside0.mk A50
  clear A50
  by_cases c6 : t285 = 0
  · rw [if_pos c6] at H
    have c6b0 : (t285 == 0) = true := beq_iff_eq.mpr c6
    have c6b1 : (t285 != 0) = false := bne_eq_false_iff_eq.mpr c6
    clear c6
    replace H := Option.bind_eq_some_iff.mp H
    obtain ⟨⟨t286, t287, t288⟩, A70, H⟩ := H
    replace H : (some (t286, t288)) = some (r1, r2) := H
    have A7 := Aside0.mk A70
    clear A70
    simp only [Option.some.injEq, Prod.mk.injEq] at H
    obtain ⟨rfl, rfl⟩ := H
    go_enter Try.func34, Try.ntmps34
    go_wp2_with (first | ((with_reducible refine gate_dst (N := 16) rfl ?_); refine Kd.R_lit Kd.string _ 9 ?hg (N := 16) ?hd (xs := ([a0] : List ByteArray)) (inner := [.string a0]) (ok := fun _ => True) (okp := fun _ => True) ?hr ?hp (fun _ hk => hk) trivial (Below.refl _ _) (Nat.le_refl _) (by simp) ?_; (case hd => rfl); (case hg => rfl); (case hr => first | (go_simp; done) | (go_simp; rfl)); (case hp => exact (Reps.one (show Kd.M Kd.string _ _ _ a0 [.string a0] from rfl) (Reps.none _ _))); intro v283 w8 ho9 hb hg_ hnew_; clear hg_ hnew_; (first | rw [← Ny282.out] at ho9 | (simp only [Int.reduceToNat] at ho9; rw [← Ny282.out] at ho9)); have n0_ := Aside0.mk (Kd.R_lower ho9 (below_size (by repeat (first | (with_reducible first | exact HB.out | apply below_alloc | apply pw_below_drewN | apply below_drew1) | exact HB.out)))); have n1_ := Aside0.mk (below_step (by repeat (first | (with_reducible first | exact HB.out | apply below_alloc | apply pw_below_drewN | apply below_drew1) | exact HB.out)) hb); clear HB; have HO284 := n0_; have HB := n1_; clear n0_ n1_; clear hb ho9; obtain ⟨Ao10, co10, eo10⟩ := Kd.R_slice HO284.out; subst eo10) | ((with_reducible refine gate_callee (f := 77) rfl ?_); refine goesL_ (some 17) rfl rfl Try.func77 (by kernel_rfl) rfl #[.slice A3 l3.length c3, .slice Ao10 y282.length co10] rfl (by (try simp only [List.map_toArray, List.map_cons, List.map_nil]); first | done | rfl | (simp only [List.length_drop, List.length_take]; rfl)) ?_; (with_reducible refine (impl_proofCode.calls k _ _ l3 _ _ y282 t285 _ ?side1 ?side2 ?side3 ?side4 A5.out).mono ?_); (case side1 => repeat (first | exact (Kd.C_below HR3.out HB.out) | (with_reducible refine Kd.C_alloc ?_ _) | (with_reducible refine Kd.C_drewN ?_ _) | (with_reducible refine Kd.C_drew ?_))); (case side2 => exact HC3.out); (case side3 => repeat (first | exact (Kd.R_reads' HO284.out).2.2 | (with_reducible refine Kd.C_alloc ?_ _) | (with_reducible refine Kd.C_drewN ?_ _) | (with_reducible refine Kd.C_drew ?_))); (case side4 => exact (Kd.R_reads' HO284.out).2.1); rintro e w' ⟨rfl, ⟨nd, rfl⟩⟩; refine ⟨_, rfl, ?_⟩) | ((with_reducible refine gate_callee (f := 83) rfl ?_); refine goesL_ (some 26) rfl rfl Try.func83 (by kernel_rfl) rfl #[.string a0, .int .i64 a1, .int .i64 a2, .slice A3 l3.length c3] rfl (by (try simp only [List.map_toArray, List.map_cons, List.map_nil]); first | done | rfl | (simp only [List.length_drop, List.length_take]; rfl)) ?_; (with_reducible refine (impl_inclusionRoot.calls a0 a1 a2 _ _ l3 t286 t287 t288 _ ?side1 ?side2 A7.out).mono ?_); (case side1 => repeat (first | exact (Kd.C_below HR3.out (by repeat (first | (with_reducible first | exact HB.out | apply below_alloc | apply pw_below_drewN | apply below_drew1) | exact HB.out))) | (with_reducible refine Kd.C_alloc ?_ _) | (with_reducible refine Kd.C_drewN ?_ _) | (with_reducible refine Kd.C_drew ?_))); (case side2 => exact HC3.out); rintro e w11 ⟨v289, rfl, ho0, hb⟩; refine ⟨_, rfl, ?_⟩; have n0_ := Aside0.mk (Kd.R_elder' (by (with_reducible repeat (first | apply Kd.R_alloc | apply Kd.R_drewN | apply Kd.R_drew)); exact HO284.out) (Kd.R_base ho0) hb); have n1_ := Aside0.mk (Kd.R_lower (Kd.R_new' ho0 (Kd.R_lt (by (with_reducible repeat (first | apply Kd.R_alloc | apply Kd.R_drewN | apply Kd.R_drew)); exact HO284.out))) (below_size (by repeat (first | (with_reducible first | exact HB.out | apply below_alloc | apply pw_below_drewN | apply below_drew1) | exact HB.out)))); have n2_ := Aside0.mk (below_step (by repeat (first | (with_reducible first | exact HB.out | apply below_alloc | apply pw_below_drewN | apply below_drew1) | exact HB.out)) hb); clear HO284; clear HB; have HO284 := n0_; have HO290 := n1_; have HB := n2_; clear n0_ n1_ n2_; (try clear hb); (try clear hb2); (try clear hk); (try clear hi); (try clear ho0)))
    go_ret2
    exact ⟨by first | rfl | (simp [errW_none, errW_some] <;> rfl) | (simp [*, errW_none, errW_some] <;> rfl), by repeat (first | (with_reducible first | exact HB.out | apply below_alloc | apply pw_below_drewN | apply below_drew1) | exact HB.out)⟩
  · rw [if_neg c6] at H
    have c6b0 : (t285 == 0) = false := beq_eq_false_iff_ne.mpr c6
    have c6b1 : (t285 != 0) = true := bne_iff_ne.mpr c6
    simp only [Option.some.injEq, Prod.mk.injEq] at H
    obtain ⟨rfl, rfl⟩ := H
    go_enter Try.func34, Try.ntmps34
    go_wp2_with (first | ((with_reducible refine gate_dst (N := 16) rfl ?_); refine Kd.R_lit Kd.string _ 9 ?hg (N := 16) ?hd (xs := ([a0] : List ByteArray)) (inner := [.string a0]) (ok := fun _ => True) (okp := fun _ => True) ?hr ?hp (fun _ hk => hk) trivial (Below.refl _ _) (Nat.le_refl _) (by simp) ?_; (case hd => rfl); (case hg => rfl); (case hr => first | (go_simp; done) | (go_simp; rfl)); (case hp => exact (Reps.one (show Kd.M Kd.string _ _ _ a0 [.string a0] from rfl) (Reps.none _ _))); intro v283 w12 ho13 hb hg_ hnew_; clear hg_ hnew_; (first | rw [← Ny282.out] at ho13 | (simp only [Int.reduceToNat] at ho13; rw [← Ny282.out] at ho13)); have n0_ := Aside0.mk (Kd.R_lower ho13 (below_size (by repeat (first | (with_reducible first | exact HB.out | apply below_alloc | apply pw_below_drewN | apply below_drew1) | exact HB.out)))); have n1_ := Aside0.mk (below_step (by repeat (first | (with_reducible first | exact HB.out | apply below_alloc | apply pw_below_drewN | apply below_drew1) | exact HB.out)) hb); clear HB; have HO284 := n0_; have HB := n1_; clear n0_ n1_; clear hb ho13; obtain ⟨Ao14, co14, eo14⟩ := Kd.R_slice HO284.out; subst eo14) | ((with_reducible refine gate_callee (f := 77) rfl ?_); refine goesL_ (some 17) rfl rfl Try.func77 (by kernel_rfl) rfl #[.slice A3 l3.length c3, .slice Ao14 y282.length co14] rfl (by (try simp only [List.map_toArray, List.map_cons, List.map_nil]); first | done | rfl | (simp only [List.length_drop, List.length_take]; rfl)) ?_; (with_reducible refine (impl_proofCode.calls k _ _ l3 _ _ y282 t285 _ ?side1 ?side2 ?side3 ?side4 A5.out).mono ?_); (case side1 => repeat (first | exact (Kd.C_below HR3.out HB.out) | (with_reducible refine Kd.C_alloc ?_ _) | (with_reducible refine Kd.C_drewN ?_ _) | (with_reducible refine Kd.C_drew ?_))); (case side2 => exact HC3.out); (case side3 => repeat (first | exact (Kd.R_reads' HO284.out).2.2 | (with_reducible refine Kd.C_alloc ?_ _) | (with_reducible refine Kd.C_drewN ?_ _) | (with_reducible refine Kd.C_drew ?_))); (case side4 => exact (Kd.R_reads' HO284.out).2.1); rintro e w' ⟨rfl, ⟨nd, rfl⟩⟩; refine ⟨_, rfl, ?_⟩))
    go_ret2
    exact ⟨by first | rfl | (simp [errW_none, errW_some] <;> rfl) | (simp [*, errW_none, errW_some] <;> rfl), by repeat (first | (with_reducible first | exact HB.out | apply below_alloc | apply pw_below_drewN | apply below_drew1) | exact HB.out)⟩

/-! ### impl_leafHash: function 84 -/
def impl_leafHash.f (a0 : ByteArray) : Option (ByteArray) := if 1 + a0.size ≤ 9223372036854775807 then ((impl_hash.f ((⟨#[0]⟩ : ByteArray) ++ a0)).bind fun t291 => (some t291)) else (none)
set_option maxHeartbeats 8000000 in
set_option maxRecDepth 100000 in
theorem impl_leafHash.calls (a0 : ByteArray) (r : ByteArray) (w : World) (h : impl_leafHash.f a0 = some r) :
    Calls Try.prog 84 #[.string a0] w fun e w' => e = .returned (.string r) ∧ Below w.heap.size w w' := by
  have HB := Aside0.mk (Below.refl w.heap.size w)
  have H : (if 1 + a0.size ≤ 9223372036854775807 then ((impl_hash.f ((⟨#[0]⟩ : ByteArray) ++ a0)).bind fun t291 => (some t291)) else (none)) = some r := h
  clear h
  by_cases c2 : 1 + a0.size ≤ 9223372036854775807
  · rw [if_pos c2] at H
    have c2b0 := eq_true c2
    have c2b1 : decide (1 + a0.size ≤ 9223372036854775807) = true := decide_eq_true c2
    try have c2b2 : (9223372036854775807 < 1 + a0.size) = False := eq_false (Nat.not_lt.2 c2)
    replace H := Option.bind_eq_some_iff.mp H
    obtain ⟨t291, A30, H⟩ := H
    replace H : (some t291) = some r := H
    have A3 := Aside0.mk A30
    clear A30
    obtain rfl := Option.some.inj H
    go_enter Try.func84, Try.ntmps84
    go_wp2_with (first | ((with_reducible refine gate_callee (f := 71) rfl ?_); refine goesL_ (some 5) rfl rfl Try.func71 (by kernel_rfl) rfl #[.string ((⟨#[0]⟩ : ByteArray) ++ a0)] rfl (by (try simp only [List.map_toArray, List.map_cons, List.map_nil]); first | done | rfl | (simp only [List.length_drop, List.length_take]; rfl)) ?_; (with_reducible refine (impl_hash.calls ((⟨#[0]⟩ : ByteArray) ++ a0) t291 _ A3.out).mono ?_); rintro e w4 ⟨rfl, hb⟩; refine ⟨_, rfl, ?_⟩; have n0_ := Aside0.mk (below_step (by repeat (first | (with_reducible first | exact HB.out | apply below_alloc | apply pw_below_drewN | apply below_drew1) | exact HB.out)) hb); clear HB; have HB := n0_; clear n0_; (try clear hb); (try clear hb2); (try clear hk); (try clear hi)))
    go_ret
    exact ⟨by first | rfl | (simp [errW_none, errW_some] <;> rfl) | (simp [*, errW_none, errW_some] <;> rfl), by repeat (first | (with_reducible first | exact HB.out | apply below_alloc | apply pw_below_drewN | apply below_drew1) | exact HB.out)⟩
  · rw [if_neg c2] at H
    exact absurd H (by simp)

/-! ### impl_LeafHash: function 35 -/
def impl_LeafHash.f (a0 : ByteArray) : Option (ByteArray × Int) := if (a0.size : Int) ≥ 65536 then (some ((⟨#[]⟩ : ByteArray), 2)) else ((impl_leafHash.f a0).bind fun t292 => (some (t292, 0)))
set_option maxHeartbeats 8000000 in
set_option maxRecDepth 100000 in
theorem impl_LeafHash.calls (a0 : ByteArray) (r1 : ByteArray) (r2 : Int) (w : World) (h : impl_LeafHash.f a0 = some (r1, r2)) :
    Calls Try.prog 35 #[.string a0] w fun e w' => e = .returned (.tuple #[.string r1, .int .i64 r2]) ∧ Below w.heap.size w w' := by
  have HB := Aside0.mk (Below.refl w.heap.size w)
  have H : (if (a0.size : Int) ≥ 65536 then (some ((⟨#[]⟩ : ByteArray), 2)) else ((impl_leafHash.f a0).bind fun t292 => (some (t292, 0)))) = some (r1, r2) := h
  clear h
  by_cases c2 : (a0.size : Int) ≥ 65536
  · rw [if_pos c2] at H
    have c2b0 : decide (65536 ≤ (a0.size : Int)) = true := decide_eq_true c2
    have c2b1 : decide (65536 ≤ a0.size) = true := decide_eq_true (by omega)
    clear c2
    simp only [Option.some.injEq, Prod.mk.injEq] at H
    obtain ⟨rfl, rfl⟩ := H
    go_enter Try.func35, Try.ntmps35
    go_wp2
    go_ret2
    exact ⟨by first | rfl | (simp [errW_none, errW_some] <;> rfl) | (simp [*, errW_none, errW_some] <;> rfl), by repeat (first | (with_reducible first | exact HB.out | apply below_alloc | apply pw_below_drewN | apply below_drew1) | exact HB.out)⟩
  · rw [if_neg c2] at H
    have c2b0 : decide (65536 ≤ (a0.size : Int)) = false := decide_eq_false c2
    have c2b1 : decide (65536 ≤ a0.size) = false := decide_eq_false (by omega)
    clear c2
    replace H := Option.bind_eq_some_iff.mp H
    obtain ⟨t292, A30, H⟩ := H
    replace H : (some (t292, 0)) = some (r1, r2) := H
    have A3 := Aside0.mk A30
    clear A30
    simp only [Option.some.injEq, Prod.mk.injEq] at H
    obtain ⟨rfl, rfl⟩ := H
    go_enter Try.func35, Try.ntmps35
    go_wp2_with (first | ((with_reducible refine gate_callee (f := 84) rfl ?_); refine goesL_ (some 8) rfl rfl Try.func84 (by kernel_rfl) rfl #[.string a0] rfl (by (try simp only [List.map_toArray, List.map_cons, List.map_nil]); first | done | rfl | (simp only [List.length_drop, List.length_take]; rfl)) ?_; (with_reducible refine (impl_leafHash.calls a0 t292 _ A3.out).mono ?_); rintro e w4 ⟨rfl, hb⟩; refine ⟨_, rfl, ?_⟩; have n0_ := Aside0.mk (below_step (by repeat (first | (with_reducible first | exact HB.out | apply below_alloc | apply pw_below_drewN | apply below_drew1) | exact HB.out)) hb); clear HB; have HB := n0_; clear n0_; (try clear hb); (try clear hb2); (try clear hk); (try clear hi)))
    go_ret2
    exact ⟨by first | rfl | (simp [errW_none, errW_some] <;> rfl) | (simp [*, errW_none, errW_some] <;> rfl), by repeat (first | (with_reducible first | exact HB.out | apply below_alloc | apply pw_below_drewN | apply below_drew1) | exact HB.out)⟩

/-! ### spec_l06Up: function 85 -/
def spec_l06Up.f : Nat → ByteArray → Int → Int → List ByteArray → Option (ByteArray × Bool)
  | 0, _, _, _, _ => none
  | k + 1, a0, a1, a2, l3 => if a2 = 1 then (some (a0, ((l3.length : Int) == 0))) else (if (l3.length : Int) = 0 then (some ((⟨#[]⟩ : ByteArray), false)) else ((spec_l06Half.f k a2).bind fun t293 => (if 0 ≤ (wrap64 ((l3.length : Int) - 1)) then (if (wrap64 ((l3.length : Int) - 1)) < (l3.length : Int) then (if (wrap64 ((l3.length : Int) - 1)) ≤ (l3.length : Int) then (if a1 < t293 then ((spec_l06Up.f k a0 a1 t293 (l3.take ((wrap64 ((l3.length : Int) - 1)) : Int).toNat)).bind fun bt296 => ((spec_l06Node.f bt296.1 (rdOf ByteArray.empty l3 (wrap64 ((l3.length : Int) - 1)))).bind fun t298 => (some (t298, bt296.2)))) else ((spec_l06Up.f k a0 (wrap64 (a1 - t293)) (wrap64 (a2 - t293)) (l3.take ((wrap64 ((l3.length : Int) - 1)) : Int).toNat)).bind fun bt299 => ((spec_l06Node.f (rdOf ByteArray.empty l3 (wrap64 ((l3.length : Int) - 1))) bt299.1).bind fun t301 => (some (t301, bt299.2))))) else (none)) else (none)) else (none))))
theorem spec_l06Up.mono_l : ∀ k, (∀ y0 y1 y2 y3, LeO (spec_l06Up.f k y0 y1 y2 y3) (spec_l06Up.f (k + 1) y0 y1 y2 y3))
  | 0 => fun _ _ _ _ r h => by simp [spec_l06Up.f] at h
  | k + 1 => by
    have ih0 := spec_l06Up.mono_l k
    · intro y0 y1 y2 y3
      unfold spec_l06Up.f
      repeat' first
      | (with_reducible exact ih0 _ _ _ _)
      | (with_reducible exact spec_l06Half.mono _ _)
      | (with_reducible exact LeO.refl _)
      | (with_reducible exact LeO.none _)
      | (with_reducible refine LeO.ite ?_ ?_)
      | (with_reducible refine LeO.bind ?_ (fun _ => ?_))
      | exact ih0 _ _ _ _
      | exact spec_l06Half.mono _ _
      | exact LeO.none _
      | refine LeO.ite ?_ ?_
      | refine LeO.bind ?_ (fun _ => ?_)
theorem spec_l06Up.mono : ∀ a0 a1 a2 a3 k, LeO (spec_l06Up.f k a0 a1 a2 a3) (spec_l06Up.f (k + 1) a0 a1 a2 a3) := by
  intro a0 a1 a2 a3 k
  have ih0 := spec_l06Up.mono_l k
  exact ih0 a0 a1 a2 a3
set_option maxHeartbeats 8000000 in
set_option maxRecDepth 100000 in
theorem spec_l06Up.calls (k : Nat) : ∀ (a0 : ByteArray) (a1 : Int) (a2 : Int) (A3 : Option Addr) (c3 : Nat) (l3 : List ByteArray) (r1 : ByteArray) (r2 : Bool) (w : World) (hr3 : Kd.C Kd.string w A3 l3.length l3) (hc3 : l3.length ≤ c3) (h : spec_l06Up.f k a0 a1 a2 l3 = some (r1, r2)),
    Calls Try.prog 85 #[.string a0, .int .i64 a1, .int .i64 a2, .slice A3 l3.length c3] w fun e w' => e = .returned (.tuple #[.string r1, .bool r2]) ∧ Below w.heap.size w w' := by
  induction k using Nat.strongRecOn with
  | _ k ih =>
  intro a0 a1 a2 A3 c3 l3 r1 r2 w hr3 hc3 h
  cases k with
  | zero => exact absurd h (by simp [spec_l06Up.f])
  | succ k =>
  simp only [spec_l06Up.f] at h
  have HR3 := Aside0.mk hr3
  have HC3 := Aside0.mk hc3
  clear hr3 hc3
  have HB := Aside0.mk (Below.refl w.heap.size w)
  have H : (if a2 = 1 then (some (a0, ((l3.length : Int) == 0))) else (if (l3.length : Int) = 0 then (some ((⟨#[]⟩ : ByteArray), false)) else ((spec_l06Half.f k a2).bind fun t293 => (if 0 ≤ (wrap64 ((l3.length : Int) - 1)) then (if (wrap64 ((l3.length : Int) - 1)) < (l3.length : Int) then (if (wrap64 ((l3.length : Int) - 1)) ≤ (l3.length : Int) then (if a1 < t293 then ((spec_l06Up.f k a0 a1 t293 (l3.take ((wrap64 ((l3.length : Int) - 1)) : Int).toNat)).bind fun bt296 => ((spec_l06Node.f bt296.1 (rdOf ByteArray.empty l3 (wrap64 ((l3.length : Int) - 1)))).bind fun t298 => (some (t298, bt296.2)))) else ((spec_l06Up.f k a0 (wrap64 (a1 - t293)) (wrap64 (a2 - t293)) (l3.take ((wrap64 ((l3.length : Int) - 1)) : Int).toNat)).bind fun bt299 => ((spec_l06Node.f (rdOf ByteArray.empty l3 (wrap64 ((l3.length : Int) - 1))) bt299.1).bind fun t301 => (some (t301, bt299.2))))) else (none)) else (none)) else (none))))) = some (r1, r2) := h
  clear h
  by_cases c5 : a2 = 1
  · rw [if_pos c5] at H
    have c5b0 : (a2 == 1) = true := beq_iff_eq.mpr c5
    have c5b1 : (a2 != 1) = false := bne_eq_false_iff_eq.mpr c5
    clear c5
    simp only [Option.some.injEq, Prod.mk.injEq] at H
    obtain ⟨rfl, rfl⟩ := H
    go_enter Try.func85, Try.ntmps85
    go_wp2
    go_ret2
    exact ⟨by first | rfl | (simp [errW_none, errW_some] <;> rfl) | (simp [*, errW_none, errW_some] <;> rfl), by repeat (first | (with_reducible first | exact HB.out | apply below_alloc | apply pw_below_drewN | apply below_drew1) | exact HB.out)⟩
  · rw [if_neg c5] at H
    have c5b0 : (a2 == 1) = false := beq_eq_false_iff_ne.mpr c5
    have c5b1 : (a2 != 1) = true := bne_iff_ne.mpr c5
    by_cases c6 : (l3.length : Int) = 0
    · rw [if_pos c6] at H
      have c6b0 : ((l3.length : Int) == 0) = true := beq_iff_eq.mpr c6
      have c6b1 : ((l3.length : Int) != 0) = false := bne_eq_false_iff_eq.mpr c6
      clear c6
      simp only [Option.some.injEq, Prod.mk.injEq] at H
      obtain ⟨rfl, rfl⟩ := H
      go_enter Try.func85, Try.ntmps85
      go_wp2
      go_ret2
      exact ⟨by first | rfl | (simp [errW_none, errW_some] <;> rfl) | (simp [*, errW_none, errW_some] <;> rfl), by repeat (first | (with_reducible first | exact HB.out | apply below_alloc | apply pw_below_drewN | apply below_drew1) | exact HB.out)⟩
    · rw [if_neg c6] at H
      have c6b0 : ((l3.length : Int) == 0) = false := beq_eq_false_iff_ne.mpr c6
      have c6b1 : ((l3.length : Int) != 0) = true := bne_iff_ne.mpr c6
      have c6b2 : ¬ (l3 = []) := fun h_ => c6 (by rw [h_]; rfl)
      replace H := Option.bind_eq_some_iff.mp H
      obtain ⟨t293, A70, H⟩ := H
      replace H : (if 0 ≤ (wrap64 ((l3.length : Int) - 1)) then (if (wrap64 ((l3.length : Int) - 1)) < (l3.length : Int) then (if (wrap64 ((l3.length : Int) - 1)) ≤ (l3.length : Int) then (if a1 < t293 then ((spec_l06Up.f k a0 a1 t293 (l3.take ((wrap64 ((l3.length : Int) - 1)) : Int).toNat)).bind fun bt296 => ((spec_l06Node.f bt296.1 (rdOf ByteArray.empty l3 (wrap64 ((l3.length : Int) - 1)))).bind fun t298 => (some (t298, bt296.2)))) else ((spec_l06Up.f k a0 (wrap64 (a1 - t293)) (wrap64 (a2 - t293)) (l3.take ((wrap64 ((l3.length : Int) - 1)) : Int).toNat)).bind fun bt299 => ((spec_l06Node.f (rdOf ByteArray.empty l3 (wrap64 ((l3.length : Int) - 1))) bt299.1).bind fun t301 => (some (t301, bt299.2))))) else (none)) else (none)) else (none)) = some (r1, r2) := H
      have A7 := Aside0.mk A70
      clear A70
      obtain ⟨ji8, hji8⟩ : ∃ j_ : Int, (wrap64 ((l3.length : Int) - 1)) = j_ := ⟨_, rfl⟩
      replace H : (if 0 ≤ (ji8) then (if (ji8) < (l3.length : Int) then (if (ji8) ≤ (l3.length : Int) then (if a1 < t293 then ((spec_l06Up.f k a0 a1 t293 (l3.take ((ji8) : Int).toNat)).bind fun bt296 => ((spec_l06Node.f bt296.1 (rdOf ByteArray.empty l3 (ji8))).bind fun t298 => (some (t298, bt296.2)))) else ((spec_l06Up.f k a0 (wrap64 (a1 - t293)) (wrap64 (a2 - t293)) (l3.take ((ji8) : Int).toNat)).bind fun bt299 => ((spec_l06Node.f (rdOf ByteArray.empty l3 (ji8)) bt299.1).bind fun t301 => (some (t301, bt299.2))))) else (none)) else (none)) else (none)) = some (r1, r2) := by first | (rw [hji8] at H; exact H) | (simp only [hji8] at H ⊢; exact H)
      (try rw [hji8] at A7)
      have hji8w : (IntKind.i64.wrap ((l3.length : Int) - 1)) = ji8 := (i64_w _).trans hji8
      by_cases c9 : 0 ≤ (ji8)
      · rw [if_pos c9] at H
        have c9b0 : decide (0 ≤ (ji8)) = true := decide_eq_true c9
        clear c9
        by_cases c10 : (ji8) < (l3.length : Int)
        · rw [if_pos c10] at H
          have c10b0 : decide ((ji8) < (l3.length : Int)) = true := decide_eq_true c10
          clear c10
          have c11b0 := eq_true (of_decide_eq_true (by assumption) : 0 ≤ (ji8))
          by_cases c12 : (ji8) ≤ (l3.length : Int)
          · rw [if_pos c12] at H
            have c12b0 := eq_true c12
            have c12b1 : decide ((ji8) ≤ (l3.length : Int)) = true := decide_eq_true c12
            clear c12
            by_cases c13 : a1 < t293
            · rw [if_pos c13] at H
              have c13b0 : decide (a1 < t293) = true := decide_eq_true c13
              clear c13
              replace H := Option.bind_eq_some_iff.mp H
              obtain ⟨⟨t296, t297⟩, A140, H⟩ := H
              replace H : ((spec_l06Node.f t296 (rdOf ByteArray.empty l3 (ji8))).bind fun t298 => (some (t298, t297))) = some (r1, r2) := H
              have A14 := Aside0.mk A140
              clear A140
              replace H := Option.bind_eq_some_iff.mp H
              obtain ⟨t298, A150, H⟩ := H
              replace H : (some (t298, t297)) = some (r1, r2) := H
              have A15 := Aside0.mk A150
              clear A150
              simp only [Option.some.injEq, Prod.mk.injEq] at H
              obtain ⟨rfl, rfl⟩ := H
              go_enter Try.func85, Try.ntmps85
              go_wp2_with (first | ((with_reducible refine gate_callee (f := 113) rfl ?_); refine goesL_ (some 27) rfl rfl Try.func113 (by kernel_rfl) rfl #[.int .i64 a2] rfl (by (try simp only [List.map_toArray, List.map_cons, List.map_nil]); first | done | rfl | (simp only [List.length_drop, List.length_take]; rfl)) ?_; (with_reducible refine (spec_l06Half.calls k a2 t293 _ A7.out).mono ?_); rintro e w' ⟨rfl, ⟨nd, rfl⟩⟩; refine ⟨_, rfl, ?_⟩; have p294 : 0 ≤ ((ji8) : Int) := of_decide_eq_true (by assumption); have q294 : (ji8) < (l3.length : Int) := of_decide_eq_true (by assumption); obtain ⟨ad294, e294, hx294_0⟩ := Kd.at_string HR3.out (ji8) p294 q294; cases e294; replace p294 := eq_true p294; replace q294 := eq_true q294; obtain ⟨i016, hi016, _, hsz16, _⟩ := info_parts info9; obtain ⟨hcut16, hA16, hC16⟩ := print_take_of (P := Try.prog) Value.string (⟨#[]⟩ : ByteArray) 22 9 .i64 Try.underlying22 hi016 hsz16 (some ad294) c3 l3 (ji8) (of_decide_eq_true (by assumption)) (of_decide_eq_true (by assumption)) HC3.out; have HR295 := Aside0.mk (Kd.C_of_reads (h1 := fun _ => rfl) (hA16 _ (Kd.reads_of_C HR3.out))); have HC295 := Aside0.mk hC16; clear hA16 hC16 hi016 hsz16) | ((with_reducible refine gate_callee (f := 85) rfl ?_); refine goesL_ (some 47) rfl rfl Try.func85 (by kernel_rfl) rfl #[.string a0, .int .i64 a1, .int .i64 t293, .slice (some ad294) (l3.take ((ji8) : Int).toNat).length c3] rfl (by (try simp only [List.map_toArray, List.map_cons, List.map_nil]); first | done | (rw [show (l3.take ((ji8) : Int).toNat).length = (ji8).toNat from (by rw [List.length_take]; have h_ : ((ji8) : Int) ≤ (l3.length : Int) := of_decide_eq_true (by assumption); omega)] <;> rfl) | (simp only [hji8]; rfl) | rfl | (simp only [List.length_drop, List.length_take]; rfl)) ?_; (with_reducible refine (ih k (by omega) a0 a1 t293 _ _ (l3.take ((ji8) : Int).toNat) t296 t297 _ ?side1 ?side2 A14.out).mono ?_); (case side1 => repeat (first | exact HR295.out | (with_reducible refine Kd.C_alloc ?_ _) | (with_reducible refine Kd.C_drewN ?_ _) | (with_reducible refine Kd.C_drew ?_))); (case side2 => exact HC295.out); rintro e w17 ⟨rfl, hb⟩; refine ⟨_, rfl, ?_⟩; have n0_ := Aside0.mk (below_step (by repeat (first | (with_reducible first | exact HB.out | apply below_alloc | apply pw_below_drewN | apply below_drew1) | exact HB.out)) hb); clear HB; have HB := n0_; clear n0_; (try clear hb); (try clear hb2); (try clear hk); (try clear hi)) | ((with_reducible refine gate_callee (f := 75) rfl ?_); refine goesL_ (some 52) rfl rfl Try.func75 (by kernel_rfl) rfl #[.string t296, .string (rdOf ByteArray.empty l3 (ji8))] rfl (by (try simp only [List.map_toArray, List.map_cons, List.map_nil]); first | done | (simp only [hji8]; rfl) | rfl | (simp only [List.length_drop, List.length_take]; rfl)) ?_; (with_reducible refine (spec_l06Node.calls t296 (rdOf ByteArray.empty l3 (ji8)) t298 _ A15.out).mono ?_); rintro e w18 ⟨rfl, hb⟩; refine ⟨_, rfl, ?_⟩; have n0_ := Aside0.mk (below_step (by repeat (first | (with_reducible first | exact HB.out | apply below_alloc | apply pw_below_drewN | apply below_drew1) | exact HB.out)) hb); clear HB; have HB := n0_; clear n0_; (try clear hb); (try clear hb2); (try clear hk); (try clear hi)))
              go_ret2
              exact ⟨by first | rfl | (simp [errW_none, errW_some] <;> rfl) | (simp only [← hji8]; first | rfl | (simp [errW_none, errW_some] <;> rfl)) | (simp [*, errW_none, errW_some] <;> rfl), by repeat (first | (with_reducible first | exact HB.out | apply below_alloc | apply pw_below_drewN | apply below_drew1) | exact HB.out)⟩
            · rw [if_neg c13] at H
              have c13b0 : decide (a1 < t293) = false := decide_eq_false c13
              clear c13
              replace H := Option.bind_eq_some_iff.mp H
              obtain ⟨⟨t299, t300⟩, A190, H⟩ := H
              replace H : ((spec_l06Node.f (rdOf ByteArray.empty l3 (ji8)) t299).bind fun t301 => (some (t301, t300))) = some (r1, r2) := H
              have A19 := Aside0.mk A190
              clear A190
              replace H := Option.bind_eq_some_iff.mp H
              obtain ⟨t301, A200, H⟩ := H
              replace H : (some (t301, t300)) = some (r1, r2) := H
              have A20 := Aside0.mk A200
              clear A200
              simp only [Option.some.injEq, Prod.mk.injEq] at H
              obtain ⟨rfl, rfl⟩ := H
              go_enter Try.func85, Try.ntmps85
              go_wp2_with (first | ((with_reducible refine gate_callee (f := 113) rfl ?_); refine goesL_ (some 27) rfl rfl Try.func113 (by kernel_rfl) rfl #[.int .i64 a2] rfl (by (try simp only [List.map_toArray, List.map_cons, List.map_nil]); first | done | rfl | (simp only [List.length_drop, List.length_take]; rfl)) ?_; (with_reducible refine (spec_l06Half.calls k a2 t293 _ A7.out).mono ?_); rintro e w' ⟨rfl, ⟨nd, rfl⟩⟩; refine ⟨_, rfl, ?_⟩; have p294 : 0 ≤ ((ji8) : Int) := of_decide_eq_true (by assumption); have q294 : (ji8) < (l3.length : Int) := of_decide_eq_true (by assumption); obtain ⟨ad294, e294, hx294_0⟩ := Kd.at_string HR3.out (ji8) p294 q294; cases e294; replace p294 := eq_true p294; replace q294 := eq_true q294; obtain ⟨i021, hi021, _, hsz21, _⟩ := info_parts info9; obtain ⟨hcut21, hA21, hC21⟩ := print_take_of (P := Try.prog) Value.string (⟨#[]⟩ : ByteArray) 22 9 .i64 Try.underlying22 hi021 hsz21 (some ad294) c3 l3 (ji8) (of_decide_eq_true (by assumption)) (of_decide_eq_true (by assumption)) HC3.out; have HR295 := Aside0.mk (Kd.C_of_reads (h1 := fun _ => rfl) (hA21 _ (Kd.reads_of_C HR3.out))); have HC295 := Aside0.mk hC21; clear hA21 hC21 hi021 hsz21) | ((with_reducible refine gate_callee (f := 85) rfl ?_); refine goesL_ (some 63) rfl rfl Try.func85 (by kernel_rfl) rfl #[.string a0, .int .i64 (wrap64 (a1 - t293)), .int .i64 (wrap64 (a2 - t293)), .slice (some ad294) (l3.take ((ji8) : Int).toNat).length c3] rfl (by (try simp only [List.map_toArray, List.map_cons, List.map_nil]); first | done | (rw [show (l3.take ((ji8) : Int).toNat).length = (ji8).toNat from (by rw [List.length_take]; have h_ : ((ji8) : Int) ≤ (l3.length : Int) := of_decide_eq_true (by assumption); omega)] <;> rfl) | (simp only [hji8]; rfl) | rfl | (simp only [List.length_drop, List.length_take]; rfl)) ?_; (with_reducible refine (ih k (by omega) a0 (wrap64 (a1 - t293)) (wrap64 (a2 - t293)) _ _ (l3.take ((ji8) : Int).toNat) t299 t300 _ ?side1 ?side2 A19.out).mono ?_); (case side1 => repeat (first | exact HR295.out | (with_reducible refine Kd.C_alloc ?_ _) | (with_reducible refine Kd.C_drewN ?_ _) | (with_reducible refine Kd.C_drew ?_))); (case side2 => exact HC295.out); rintro e w22 ⟨rfl, hb⟩; refine ⟨_, rfl, ?_⟩; have n0_ := Aside0.mk (below_step (by repeat (first | (with_reducible first | exact HB.out | apply below_alloc | apply pw_below_drewN | apply below_drew1) | exact HB.out)) hb); clear HB; have HB := n0_; clear n0_; (try clear hb); (try clear hb2); (try clear hk); (try clear hi)) | ((with_reducible refine gate_callee (f := 75) rfl ?_); refine goesL_ (some 68) rfl rfl Try.func75 (by kernel_rfl) rfl #[.string (rdOf ByteArray.empty l3 (ji8)), .string t299] rfl (by (try simp only [List.map_toArray, List.map_cons, List.map_nil]); first | done | (simp only [hji8]; rfl) | rfl | (simp only [List.length_drop, List.length_take]; rfl)) ?_; (with_reducible refine (spec_l06Node.calls (rdOf ByteArray.empty l3 (ji8)) t299 t301 _ A20.out).mono ?_); rintro e w23 ⟨rfl, hb⟩; refine ⟨_, rfl, ?_⟩; have n0_ := Aside0.mk (below_step (by repeat (first | (with_reducible first | exact HB.out | apply below_alloc | apply pw_below_drewN | apply below_drew1) | exact HB.out)) hb); clear HB; have HB := n0_; clear n0_; (try clear hb); (try clear hb2); (try clear hk); (try clear hi)))
              go_ret2
              exact ⟨by first | rfl | (simp [errW_none, errW_some] <;> rfl) | (simp only [← hji8]; first | rfl | (simp [errW_none, errW_some] <;> rfl)) | (simp [*, errW_none, errW_some] <;> rfl), by repeat (first | (with_reducible first | exact HB.out | apply below_alloc | apply pw_below_drewN | apply below_drew1) | exact HB.out)⟩
          · rw [if_neg c12] at H
            exact absurd H (by simp)
        · rw [if_neg c10] at H
          exact absurd H (by simp)
      · rw [if_neg c9] at H
        exact absurd H (by simp)

end Go.Proofs.Ytamjkgbimcpfaaa.PFnMerkle
