/- Written by a program (a session's own form of the print): plain functions with the answers of the Go functions, and the walks that show it. Lean checks it. -/
import Derived.Test.YtamjkgbimcpfaaaPFnGrowthx0
import Derived.Test.YtamjkgbimcpfaaaPFnGrowthx2
import Derived.Test.YtamjkgbimcpfaaaPFnGrowthx3
namespace Go.Proofs.Ytamjkgbimcpfaaa.PFnGrowth
open Go.RowKit Go.Proofs.YtamjkgbimcpfaaaW.PrintWords Go.Proofs.YtamjkgbimcpfaaaW.PrintLast Go.Proofs.YtamjkgbimcpfaaaW.PrintMore
attribute [local go_sem] max2_int min2_int max_two min_two max_three min_three max_four min_four   -- for this text's walks alone
set_option linter.unusedVariables false
set_option linter.unusedSimpArgs false

/-! ### impl_isText: function 67: by hand -/
def impl_isText.p (t : ByteArray) : Bool := decide ((t.size : Int) > 65536)
def impl_isText.f (l0 : List ByteArray) : Option (Bool) := some (!(l0.any impl_isText.p))
set_option maxHeartbeats 1000000 in
theorem impl_isText.lit (s : ByteArray) (w : World) : Calls Try.prog 120 #[.string s] w fun e w' => e = .returned (.bool (impl_isText.p s)) ∧ Drawn0 w w' := by
  unfold impl_isText.p
  go_enter Try.func120, Try.ntmps120
  go_wp2
  go_ret
  exact ⟨by first | rfl | (simp; done) | (simp [*]; done), by repeat (first | exact Drawn0.refl _ | apply Drawn0.step)⟩
theorem impl_isText.any_at (l : List ByteArray) (i : Nat) (h : i < l.length) (hp : impl_isText.p (rdOf ByteArray.empty l (i : Int)) = true) : l.any impl_isText.p = true := by
  rw [List.any_eq_true]
  refine ⟨l[i], List.getElem_mem h, ?_⟩
  unfold rdOf at hp
  rw [Int.toNat_natCast, List.getD_eq_getElem?_getD, List.getElem?_eq_getElem h] at hp
  exact hp
theorem impl_isText.any_none (l : List ByteArray) (h : ∀ j : Nat, j < l.length → impl_isText.p (rdOf ByteArray.empty l (j : Int)) = false) : l.any impl_isText.p = false := by
  rw [Bool.eq_false_iff]
  intro ha
  rw [List.any_eq_true] at ha
  obtain ⟨x, hx, hp⟩ := ha
  obtain ⟨i, hi, rfl⟩ := List.mem_iff_getElem.1 hx
  have := h i hi
  unfold rdOf at this
  rw [Int.toNat_natCast, List.getD_eq_getElem?_getD, List.getElem?_eq_getElem hi] at this
  simp only [Option.getD_some] at this
  rw [hp] at this
  exact Bool.noConfusion this
def impl_isText.Idx (l : List ByteArray) (e : Ending) : Prop := ∃ i : Int, e = .returned (.int .i64 i) ∧ decide (0 ≤ i) = l.any impl_isText.p
set_option maxHeartbeats 2000000 in
set_option maxRecDepth 100000 in
theorem impl_isText.idx (A0 : Option Addr) (c0 : Nat) (l0 : List ByteArray) (w : World) (hr0 : Kd.C Kd.string w A0 l0.length l0) (hc0 : l0.length ≤ c0) :
    Calls Try.prog 151 #[.slice A0 l0.length c0, .func (.func 120) #[] #[]] w fun e w' => impl_isText.Idx l0 e ∧ Drawn0 w w' := by
  have hm : l0.length ≤ 9223372036854775807 := hr0.2.1
  have HR0 := Aside0.mk hr0
  have HC0 := Aside0.mk hc0
  clear hr0 hc0
  go_enter Try.func151, Try.ntmps151
  go_wp2
  go_loopw [8] (fun v8 w' => ∃ x : Nat, x ≤ l0.length ∧ v8 = .int .i64 x ∧ Aside0 (∀ j : Nat, j < x → impl_isText.p (rdOf ByteArray.empty l0 (j : Int)) = false) ∧ Drawn0 w w') (fun v8 _ => l0.length - (intOf v8).toNat)
  case atStart => exact ⟨0, Nat.zero_le _, rfl, ⟨fun j hj => absurd hj (by omega)⟩, Drawn0.refl _⟩
  case round =>
    obtain ⟨x, hx, rfl, HA, ⟨m1, rfl⟩⟩ := hrel
    by_cases c3 : x < l0.length
    · have p1 : (0 : Int) ≤ (x : Int) := by omega
      have q1 : (x : Int) < (l0.length : Int) := by omega
      obtain ⟨ad, e1, hx0⟩ := Kd.at_string HR0.out (x : Int) p1 q1
      cases e1
      rw [Int.toNat_natCast] at hx0
      cases hb : impl_isText.p (rdOf ByteArray.empty l0 (x : Int))
      · have HP := Aside0.mk hb
        clear hb
        go_wp2_with (go_at_call 120; refine (impl_isText.lit _ _).mono ?_; rw [HP.out]; rintro e w' ⟨rfl, ⟨nd, rfl⟩⟩)
        go_roundw
        case rel => exact ⟨x + 1, by omega, by go_num, ⟨fun j hj => by
          rcases Nat.lt_or_ge j x with h | h
          · exact HA.out j h
          · have : j = x := by omega
            subst this
            exact HP.out⟩, by repeat (first | exact Drawn0.refl _ | apply Drawn0.step)⟩
        case measure => simp [intOf]; omega
      · have HP := Aside0.mk hb
        clear hb
        go_wp2_with (go_at_call 120; refine (impl_isText.lit _ _).mono ?_; rw [HP.out]; rintro e w' ⟨rfl, ⟨nd, rfl⟩⟩)
        go_ret
        exact ⟨⟨_, rfl, by rw [impl_isText.any_at l0 x c3 HP.out]; simp⟩, by repeat (first | exact Drawn0.refl _ | apply Drawn0.step)⟩
    · have hxe : l0.length ≤ x := by omega
      go_wp2
      go_ret
      exact ⟨⟨_, rfl, by rw [impl_isText.any_none l0 (fun j hj => HA.out j (by omega))]; rfl⟩, by repeat (first | exact Drawn0.refl _ | apply Drawn0.step)⟩
set_option maxHeartbeats 1000000 in
theorem impl_isText.has (A0 : Option Addr) (c0 : Nat) (l0 : List ByteArray) (w : World) (hr0 : Kd.C Kd.string w A0 l0.length l0) (hc0 : l0.length ≤ c0) :
    Calls Try.prog 119 #[.slice A0 l0.length c0, .func (.func 120) #[] #[]] w fun e w' => e = .returned (.bool (l0.any impl_isText.p)) ∧ Drawn0 w w' := by
  have HI := Aside0.mk (impl_isText.idx A0 c0 l0 w hr0 hc0)
  clear hr0 hc0
  go_enter Try.func119, Try.ntmps119
  go_wp2_with (go_at_call 151; refine HI.out.mono ?_; rintro e w' ⟨⟨i, rfl, hi⟩, ⟨nd, rfl⟩⟩; have HJ := Aside0.mk hi; clear hi)
  go_ret
  exact ⟨by rw [← HJ.out]; rfl, by repeat (first | exact Drawn0.refl _ | apply Drawn0.step)⟩
set_option maxHeartbeats 1000000 in
theorem impl_isText.calls (A0 : Option Addr) (c0 : Nat) (l0 : List ByteArray) (r : Bool) (w : World) (hr0 : Kd.C Kd.string w A0 l0.length l0) (hc0 : l0.length ≤ c0) (h : impl_isText.f l0 = some r) :
    Calls Try.prog 67 #[.slice A0 l0.length c0] w fun e w' => e = .returned (.bool r) ∧ Drawn0 w w' := by
  have HH := Aside0.mk (impl_isText.has A0 c0 l0 w hr0 hc0)
  obtain rfl := Option.some.inj h
  clear hr0 hc0 h
  go_enter Try.func67, Try.ntmps67
  go_wp2_with (go_at_call 119; refine HH.out.mono ?_; rintro e w' ⟨rfl, ⟨nd, rfl⟩⟩)
  go_ret
  exact ⟨rfl, by repeat (first | exact Drawn0.refl _ | apply Drawn0.step)⟩

/-! ### impl_proofCode: function 77 -/
def impl_proofCode.j0 : Nat → List ByteArray → List ByteArray → Bool → Option (Int)
  | 0, _, _, _ => none
  | k + 1, x0, x1, x5 => if x5 = true then (some 2) else ((impl_isHash.f x1).bind fun t301 => (if t301 = true then (if (x0.length : Int) > 64 then (some 1) else ((impl_isHash.f x0).bind fun t302 => (if t302 = true then (some 0) else (some 1)))) else (some 1)))
def impl_proofCode.f (k : Nat) (l0 : List ByteArray) (l1 : List ByteArray) : Option (Int) := (impl_isList_string.f l0).bind fun t299 => (if t299 = true then ((impl_isText.f l1).bind fun t300 => (impl_proofCode.j0 k l0 l1 (!t300))) else (impl_proofCode.j0 k l0 l1 true))
theorem impl_proofCode.mono_l : ∀ k, (∀ y0 y1 y2, LeO (impl_proofCode.j0 k y0 y1 y2) (impl_proofCode.j0 (k + 1) y0 y1 y2))
  | 0 => fun _ _ _ r h => by simp [impl_proofCode.j0] at h
  | k + 1 => by
    have ih0 := impl_proofCode.mono_l k
    · intro y0 y1 y2
      unfold impl_proofCode.j0
      repeat' first
      | (with_reducible exact ih0 _ _ _)
      | (with_reducible exact LeO.refl _)
      | (with_reducible exact LeO.none _)
      | (with_reducible refine LeO.ite ?_ ?_)
      | (with_reducible refine LeO.bind ?_ (fun _ => ?_))
      | exact ih0 _ _ _
      | exact LeO.none _
      | refine LeO.ite ?_ ?_
      | refine LeO.bind ?_ (fun _ => ?_)
theorem impl_proofCode.mono : ∀ a0 a1 k, LeO (impl_proofCode.f k a0 a1) (impl_proofCode.f (k + 1) a0 a1) := by
  intro a0 a1 k
  have ih0 := impl_proofCode.mono_l k
  unfold impl_proofCode.f
  repeat' first
      | (with_reducible exact ih0 _ _ _)
      | (with_reducible exact LeO.refl _)
      | (with_reducible exact LeO.none _)
      | (with_reducible refine LeO.ite ?_ ?_)
      | (with_reducible refine LeO.bind ?_ (fun _ => ?_))
      | exact ih0 _ _ _
      | exact LeO.none _
      | refine LeO.ite ?_ ?_
      | refine LeO.bind ?_ (fun _ => ?_)
set_option maxHeartbeats 8000000 in
set_option maxRecDepth 100000 in
theorem impl_proofCode.calls (k : Nat) (A0 : Option Addr) (c0 : Nat) (l0 : List ByteArray) (A1 : Option Addr) (c1 : Nat) (l1 : List ByteArray) (r : Int) (w : World) (hr0 : Kd.C Kd.string w A0 l0.length l0) (hc0 : l0.length ≤ c0) (hr1 : Kd.C Kd.string w A1 l1.length l1) (hc1 : l1.length ≤ c1) (h : impl_proofCode.f k l0 l1 = some r) :
    Calls Try.prog 77 #[.slice A0 l0.length c0, .slice A1 l1.length c1] w fun e w' => e = .returned (.int .i64 r) ∧ Drawn0 w w' := by
  have HR0 := Aside0.mk hr0
  have HC0 := Aside0.mk hc0
  clear hr0 hc0
  have HR1 := Aside0.mk hr1
  have HC1 := Aside0.mk hc1
  clear hr1 hc1
  have H : ((impl_isList_string.f l0).bind fun t299 => (if t299 = true then ((impl_isText.f l1).bind fun t300 => (impl_proofCode.j0 k l0 l1 (!t300))) else (impl_proofCode.j0 k l0 l1 true))) = some r := h
  clear h
  have HC3 := Aside0.mk H
  clear H
  go_enter Try.func77, Try.ntmps77
  go_upto_region 1 with (fail)
  go_cut [5] (fun v5 wc => ∃ (kq : Nat) (x5_2 : Bool), v5 = .bool x5_2 ∧ Aside0 (impl_proofCode.j0 kq l0 l1 x5_2 = some r) ∧ Aside0 (kq ≤ k) ∧ Drawn0 w wc)
  case first =>
    have H := HC3.out
    clear HC3
    replace H := Option.bind_eq_some_iff.mp H
    obtain ⟨t299, A40, H⟩ := H
    replace H : (if t299 = true then ((impl_isText.f l1).bind fun t300 => (impl_proofCode.j0 k l0 l1 (!t300))) else (impl_proofCode.j0 k l0 l1 true)) = some r := H
    have A4 := Aside0.mk A40
    clear A40
    by_cases c5 : t299 = true
    · subst c5
      have H1 : ((impl_isText.f l1).bind fun t300 => (impl_proofCode.j0 k l0 l1 (!t300))) = some r := by rw [if_pos rfl] at H; exact H
      clear H
      have H := H1
      clear H1
      replace H := Option.bind_eq_some_iff.mp H
      obtain ⟨t300, A60, H⟩ := H
      replace H : (impl_proofCode.j0 k l0 l1 (!t300)) = some r := H
      have A6 := Aside0.mk A60
      clear A60
      have H' := Aside0.mk H
      clear H
      go_wp2_with (first | ((with_reducible refine gate_callee (f := 114) rfl ?_); refine goesL_ (some 7) rfl rfl Try.func114 (by kernel_rfl) rfl #[.slice A0 l0.length c0] rfl (by (try simp only [List.map_toArray, List.map_cons, List.map_nil]); first | done | rfl | (simp only [List.length_drop, List.length_take]; rfl)) ?_; (with_reducible refine (impl_isList_string.calls _ _ l0 true _ ?side1 ?side2 A4.out).mono ?_); (case side1 => repeat (first | exact HR0.out | (with_reducible refine Kd.C_alloc ?_ _) | (with_reducible refine Kd.C_drewN ?_ _) | (with_reducible refine Kd.C_drew ?_))); (case side2 => exact HC0.out); rintro e w' ⟨rfl, ⟨nd, rfl⟩⟩; refine ⟨_, rfl, ?_⟩) | (go_at_call 67; (with_reducible refine (impl_isText.calls _ _ l1 t300 _ ?side1 ?side2 A6.out).mono ?_); (case side1 => repeat (first | exact HR1.out | (with_reducible refine Kd.C_alloc ?_ _) | (with_reducible refine Kd.C_drewN ?_ _) | (with_reducible refine Kd.C_drew ?_))); (case side2 => exact HC1.out); rintro e w' ⟨rfl, ⟨nd, rfl⟩⟩))
      go_meet
      case rel => exact ⟨_, (!t300), (by first | rfl | (simp; done) | (simp [*]; done)), H', ⟨by first | omega | exact Nat.le_refl _⟩, by repeat (first | exact Drawn0.refl _ | apply Drawn0.step)⟩
    · replace c5 := Bool.eq_false_iff.mpr c5
      subst c5
      have H1 : (impl_proofCode.j0 k l0 l1 true) = some r := by rw [if_neg (show ¬ (false = true) by decide)] at H; exact H
      clear H
      have H := H1
      clear H1
      have H' := Aside0.mk H
      clear H
      go_wp2_with (first | ((with_reducible refine gate_callee (f := 114) rfl ?_); refine goesL_ (some 7) rfl rfl Try.func114 (by kernel_rfl) rfl #[.slice A0 l0.length c0] rfl (by (try simp only [List.map_toArray, List.map_cons, List.map_nil]); first | done | rfl | (simp only [List.length_drop, List.length_take]; rfl)) ?_; (with_reducible refine (impl_isList_string.calls _ _ l0 false _ ?side1 ?side2 A4.out).mono ?_); (case side1 => repeat (first | exact HR0.out | (with_reducible refine Kd.C_alloc ?_ _) | (with_reducible refine Kd.C_drewN ?_ _) | (with_reducible refine Kd.C_drew ?_))); (case side2 => exact HC0.out); rintro e w' ⟨rfl, ⟨nd, rfl⟩⟩; refine ⟨_, rfl, ?_⟩))
      go_meet
      case rel => exact ⟨_, (true), (by first | rfl | (simp; done) | (simp [*]; done)), H', ⟨by first | omega | exact Nat.le_refl _⟩, by repeat (first | exact Drawn0.refl _ | apply Drawn0.step)⟩
  case rest =>
    clear HC3
    try clear c1
    try clear p2
    try clear c5
    obtain ⟨kq, x5_2, rfl, HA, HJ2, ⟨mc2, rfl⟩⟩ := hcut
    cases kq with
    | zero => exact absurd HA.out (by simp [impl_proofCode.j0])
    | succ kj2 =>
      have H := HA.out
      clear HA
      simp only [impl_proofCode.j0] at H
      by_cases c7 : x5_2 = true
      · subst c7
        have H1 : (some 2) = some r := by rw [if_pos rfl] at H; exact H
        clear H
        have H := H1
        clear H1
        obtain rfl := Option.some.inj H
        go_wp2
        go_ret
        exact ⟨by first | rfl | (simp; done) | (simp [*]; done), by repeat (first | exact Drawn0.refl _ | apply Drawn0.step)⟩
      · replace c7 := Bool.eq_false_iff.mpr c7
        subst c7
        have H1 : ((impl_isHash.f l1).bind fun t301 => (if t301 = true then (if (l0.length : Int) > 64 then (some 1) else ((impl_isHash.f l0).bind fun t302 => (if t302 = true then (some 0) else (some 1)))) else (some 1))) = some r := by rw [if_neg (show ¬ (false = true) by decide)] at H; exact H
        clear H
        have H := H1
        clear H1
        replace H := Option.bind_eq_some_iff.mp H
        obtain ⟨t301, A80, H⟩ := H
        replace H : (if t301 = true then (if (l0.length : Int) > 64 then (some 1) else ((impl_isHash.f l0).bind fun t302 => (if t302 = true then (some 0) else (some 1)))) else (some 1)) = some r := H
        have A8 := Aside0.mk A80
        clear A80
        by_cases c9 : t301 = true
        · subst c9
          have H1 : (if (l0.length : Int) > 64 then (some 1) else ((impl_isHash.f l0).bind fun t302 => (if t302 = true then (some 0) else (some 1)))) = some r := by rw [if_pos rfl] at H; exact H
          clear H
          have H := H1
          clear H1
          by_cases c10 : (l0.length : Int) > 64
          · rw [if_pos c10] at H
            have c10b0 : decide (64 < (l0.length : Int)) = true := decide_eq_true c10
            have c10b1 : decide (64 < l0.length) = true := decide_eq_true (by omega)
            clear c10
            obtain rfl := Option.some.inj H
            go_wp2_with (first | ((with_reducible refine gate_callee (f := 68) rfl ?_); refine goesL_ (some 16) rfl rfl Try.func68 (by kernel_rfl) rfl #[.slice A1 l1.length c1] rfl (by (try simp only [List.map_toArray, List.map_cons, List.map_nil]); first | done | rfl | (simp only [List.length_drop, List.length_take]; rfl)) ?_; (with_reducible refine (impl_isHash.calls _ _ l1 true _ ?side1 ?side2 A8.out).mono ?_); (case side1 => repeat (first | exact HR1.out | (with_reducible refine Kd.C_alloc ?_ _) | (with_reducible refine Kd.C_drewN ?_ _) | (with_reducible refine Kd.C_drew ?_))); (case side2 => exact HC1.out); rintro e w' ⟨rfl, ⟨nd, rfl⟩⟩; refine ⟨_, rfl, ?_⟩))
            go_ret
            exact ⟨by first | rfl | (simp; done) | (simp [*]; done), by repeat (first | exact Drawn0.refl _ | apply Drawn0.step)⟩
          · rw [if_neg c10] at H
            have c10b0 : decide (64 < (l0.length : Int)) = false := decide_eq_false c10
            have c10b1 : decide (64 < l0.length) = false := decide_eq_false (by omega)
            clear c10
            replace H := Option.bind_eq_some_iff.mp H
            obtain ⟨t302, A110, H⟩ := H
            replace H : (if t302 = true then (some 0) else (some 1)) = some r := H
            have A11 := Aside0.mk A110
            clear A110
            by_cases c12 : t302 = true
            · subst c12
              have H1 : (some 0) = some r := by rw [if_pos rfl] at H; exact H
              clear H
              have H := H1
              clear H1
              obtain rfl := Option.some.inj H
              go_wp2_with (first | ((with_reducible refine gate_callee (f := 68) rfl ?_); refine goesL_ (some 16) rfl rfl Try.func68 (by kernel_rfl) rfl #[.slice A1 l1.length c1] rfl (by (try simp only [List.map_toArray, List.map_cons, List.map_nil]); first | done | rfl | (simp only [List.length_drop, List.length_take]; rfl)) ?_; (with_reducible refine (impl_isHash.calls _ _ l1 true _ ?side1 ?side2 A8.out).mono ?_); (case side1 => repeat (first | exact HR1.out | (with_reducible refine Kd.C_alloc ?_ _) | (with_reducible refine Kd.C_drewN ?_ _) | (with_reducible refine Kd.C_drew ?_))); (case side2 => exact HC1.out); rintro e w' ⟨rfl, ⟨nd, rfl⟩⟩; refine ⟨_, rfl, ?_⟩) | (go_at_call 68; (with_reducible refine (impl_isHash.calls _ _ l0 true _ ?side1 ?side2 A11.out).mono ?_); (case side1 => repeat (first | exact HR0.out | (with_reducible refine Kd.C_alloc ?_ _) | (with_reducible refine Kd.C_drewN ?_ _) | (with_reducible refine Kd.C_drew ?_))); (case side2 => exact HC0.out); rintro e w' ⟨rfl, ⟨nd, rfl⟩⟩))
              go_ret
              exact ⟨by first | rfl | (simp; done) | (simp [*]; done), by repeat (first | exact Drawn0.refl _ | apply Drawn0.step)⟩
            · replace c12 := Bool.eq_false_iff.mpr c12
              subst c12
              have H1 : (some 1) = some r := by rw [if_neg (show ¬ (false = true) by decide)] at H; exact H
              clear H
              have H := H1
              clear H1
              obtain rfl := Option.some.inj H
              go_wp2_with (first | ((with_reducible refine gate_callee (f := 68) rfl ?_); refine goesL_ (some 16) rfl rfl Try.func68 (by kernel_rfl) rfl #[.slice A1 l1.length c1] rfl (by (try simp only [List.map_toArray, List.map_cons, List.map_nil]); first | done | rfl | (simp only [List.length_drop, List.length_take]; rfl)) ?_; (with_reducible refine (impl_isHash.calls _ _ l1 true _ ?side1 ?side2 A8.out).mono ?_); (case side1 => repeat (first | exact HR1.out | (with_reducible refine Kd.C_alloc ?_ _) | (with_reducible refine Kd.C_drewN ?_ _) | (with_reducible refine Kd.C_drew ?_))); (case side2 => exact HC1.out); rintro e w' ⟨rfl, ⟨nd, rfl⟩⟩; refine ⟨_, rfl, ?_⟩) | (go_at_call 68; (with_reducible refine (impl_isHash.calls _ _ l0 false _ ?side1 ?side2 A11.out).mono ?_); (case side1 => repeat (first | exact HR0.out | (with_reducible refine Kd.C_alloc ?_ _) | (with_reducible refine Kd.C_drewN ?_ _) | (with_reducible refine Kd.C_drew ?_))); (case side2 => exact HC0.out); rintro e w' ⟨rfl, ⟨nd, rfl⟩⟩))
              go_ret
              exact ⟨by first | rfl | (simp; done) | (simp [*]; done), by repeat (first | exact Drawn0.refl _ | apply Drawn0.step)⟩
        · replace c9 := Bool.eq_false_iff.mpr c9
          subst c9
          have H1 : (some 1) = some r := by rw [if_neg (show ¬ (false = true) by decide)] at H; exact H
          clear H
          have H := H1
          clear H1
          obtain rfl := Option.some.inj H
          go_wp2_with (first | ((with_reducible refine gate_callee (f := 68) rfl ?_); refine goesL_ (some 16) rfl rfl Try.func68 (by kernel_rfl) rfl #[.slice A1 l1.length c1] rfl (by (try simp only [List.map_toArray, List.map_cons, List.map_nil]); first | done | rfl | (simp only [List.length_drop, List.length_take]; rfl)) ?_; (with_reducible refine (impl_isHash.calls _ _ l1 false _ ?side1 ?side2 A8.out).mono ?_); (case side1 => repeat (first | exact HR1.out | (with_reducible refine Kd.C_alloc ?_ _) | (with_reducible refine Kd.C_drewN ?_ _) | (with_reducible refine Kd.C_drew ?_))); (case side2 => exact HC1.out); rintro e w' ⟨rfl, ⟨nd, rfl⟩⟩; refine ⟨_, rfl, ?_⟩))
          go_ret
          exact ⟨by first | rfl | (simp; done) | (simp [*]; done), by repeat (first | exact Drawn0.refl _ | apply Drawn0.step)⟩

/-! ### impl_growthRoots: function 78: by hand -/
-- IMPORT Mk
-- IMPORT U
/-- What stands behind a prover: the hashes that are left, whether one lacked, and what was hashed. -/
structure impl_growthRoots.PS (w0 w : World) (bp : Nat) (xs : List ByteArray) (b : Bool) (st : List ByteArray) : Prop where
  low : Below bp w0 w
  base : w0.heap.size ≤ bp
  ex : ∃ A c v, w.cell? ⟨bp, 0, none⟩ = some (.slice A xs.length c) ∧ w.cell? ⟨bp, 1, none⟩ = some (.bool b) ∧ w.cell? ⟨bp, 2, none⟩ = some v ∧ (w.frozen? ⟨bp, 0, none⟩ = false ∧ w.frozen? ⟨bp, 1, none⟩ = false ∧ w.frozen? ⟨bp, 2, none⟩ = false) ∧ xs.length ≤ c ∧
    ReadsOf Value.string ByteArray.empty w0 A xs.length xs ∧ w.ownsRow (bp + 1) 9 1 v st.length (pw_strs st)
theorem impl_growthRoots.PS.step {w0 w w' : World} {bp : Nat} {xs st : List ByteArray} {b : Bool} (h : impl_growthRoots.PS w0 w bp xs b st) (hb : Below w.heap.size w w') : impl_growthRoots.PS w0 w' bp xs b st := by
  obtain ⟨A, c, v, h0, h1, h2, ⟨f0, f1, f2⟩, h4, h5, h6⟩ := h.ex
  have hlt : bp < w.heap.size := World.block_lt_of_cell? w _ h0
  exact ⟨h.low.trans (hb.mono (Nat.le_of_lt hlt)), h.base, A, c, v, (hb.cell (p := ⟨bp, 0, none⟩) hlt).trans h0, (hb.cell (p := ⟨bp, 1, none⟩) hlt).trans h1, (hb.cell (p := ⟨bp, 2, none⟩) hlt).trans h2, ⟨(hb.frozen (p := ⟨bp, 0, none⟩) hlt).trans f0, (hb.frozen (p := ⟨bp, 1, none⟩) hlt).trans f1, (hb.frozen (p := ⟨bp, 2, none⟩) hlt).trans f2⟩, h4, h5, pw_own_below h6 hb⟩
theorem impl_growthRoots.own_set {w : World} {bp j n : Nat} {v u : Value} {xs : List Value} {e : TypeId} (h : w.ownsRow (bp + 1) e 1 v n xs) : (w.setCell ⟨bp, j, none⟩ u).ownsRow (bp + 1) e 1 v n xs :=
  own_move h (fun k hk => Below.heap_setCell w ⟨bp, j, none⟩ u k (by have := own_base h k hk; show k ≠ bp; omega))
set_option maxHeartbeats 1000000 in
set_option maxRecDepth 100000 in
theorem impl_growthRoots.next (w0 w : World) (bp : Nat) (xs st : List ByteArray) (b : Bool) (h : impl_growthRoots.PS w0 w bp xs b st) :
    Calls Try.prog 160 #[.pointer (some ⟨bp, 0, none⟩)] w fun e w' => e = .returned (.string (Go.Proofs.Ytamjkgbimcpfaaa.Mk.nextP xs b).1) ∧ impl_growthRoots.PS w0 w' bp (Go.Proofs.Ytamjkgbimcpfaaa.Mk.nextP xs b).2.1 (Go.Proofs.Ytamjkgbimcpfaaa.Mk.nextP xs b).2.2 st := by
  obtain ⟨A, c, v, h0, h1, h2, ⟨f0, f1, f2⟩, h4, h5, h6⟩ := h.ex
  have HP := Aside0.mk h
  have HO := Aside0.mk h6
  have HR := Aside0.mk h5
  clear h h5 h6
  cases xs with
  | nil =>
    go_enter Try.func160, Try.ntmps160
    go_wp2
    go_ret
    refine ⟨rfl, ?_⟩
    have hb : Below bp w0 (w.setCell ⟨bp, 1, none⟩ (.bool true)) := HP.out.low.setCell (p := ⟨bp, 1, none⟩) (Nat.le_refl _) _
    refine ⟨hb, HP.out.base, A, c, v, ?_, ?_, ?_, ⟨?_, ?_, ?_⟩, h4, HR.out, impl_growthRoots.own_set HO.out⟩
    · rw [World.cell?_setCell_other _ _ _ _ (by simp)]; exact h0
    · rw [World.cell?_setCell_same _ _ _ h1]; rfl
    · rw [World.cell?_setCell_other _ _ _ _ (by simp)]; exact h2
    · rw [World.frozen?_setCell]; exact f0
    · rw [World.frozen?_setCell]; exact f1
    · rw [World.frozen?_setCell]; exact f2
  | cons x t =>
    obtain ⟨ad, e0, hx0⟩ := HR.out.at_ 0 (by omega) (by simp)
    subst e0
    replace hx0 := (HP.out.low.cell (Nat.lt_of_lt_of_le (World.block_lt_of_cell? w0 _ hx0) HP.out.base)).trans hx0
    have hx1 : w.cell? ad = some (.string x) := by
      have e : ad.add (0 : Int).toNat = ad := by unfold Addr.add; split <;> simp_all
      rw [e] at hx0
      exact hx0
    clear hx0
    obtain ⟨i0, hi0, _, hz0, _⟩ := info_parts info9
    obtain ⟨A', hcut, hcr⟩ := print_cut_of (P := Try.prog) Value.string ByteArray.empty 22 9 .i64 Try.underlying22 hi0 hz0 (some ad) (x :: t).length c 1 (by simp)
    have HR2 : Aside0 (ReadsOf Value.string ByteArray.empty w0 A' ((x :: t).length - 1) t) := ⟨hcr w0 (x :: t) h4 HR.out⟩
    have hcut' : ∀ W : World, (Instr.slice 22 (.slice (some ad) (t.length + 1) c) (some (.int .i64 1)) none none).run Try.prog W = .ok (.slice A' t.length (c - 1)) W := fun W => hcut W
    clear hcr hi0 hz0 hcut
    go_enter Try.func160, Try.ntmps160
    go_wp2
    go_ret
    refine ⟨rfl, ?_⟩
    have hb : Below bp w0 (w.setCell ⟨bp, 0, none⟩ (.slice A' t.length (c - 1))) := HP.out.low.setCell (p := ⟨bp, 0, none⟩) (Nat.le_refl _) _
    refine ⟨hb, HP.out.base, A', c - 1, v, ?_, ?_, ?_, ⟨?_, ?_, ?_⟩, ?_, HR2.out, impl_growthRoots.own_set HO.out⟩
    · rw [World.cell?_setCell_same _ _ _ h0]; rfl
    · rw [World.cell?_setCell_other _ _ _ _ (by simp)]; exact h1
    · rw [World.cell?_setCell_other _ _ _ _ (by simp)]; exact h2
    · rw [World.frozen?_setCell]; exact f0
    · rw [World.frozen?_setCell]; exact f1
    · rw [World.frozen?_setCell]; exact f2
    · simp only [List.length_cons] at h4
      show t.length ≤ c - 1
      omega
theorem impl_growthRoots.split_from (f : Nat) : ∀ (n x : Nat), n ≤ 1000000 → 1 ≤ x → x ≤ 1000000 → n - x ≤ f → ∃ k, impl_split.l0 k (n : Int) (x : Int) = some ((Go.Proofs.Ytamjkgbimcpfaaa.Mk.halfGo f n x : Nat) : Int) := by
  induction f with
  | zero =>
    intro n x hn h1 h2 hf
    refine ⟨1, ?_⟩
    have w1 : wrap64 (2 * (x : Int)) = 2 * (x : Int) := Go.Proofs.Ytamjkgbimcpfaaa.U.wrap_in (by omega) (by omega)
    simp only [impl_split.l0, w1]
    rw [if_neg (by omega)]
    rfl
  | succ f ih =>
    intro n x hn h1 h2 hf
    have w1 : wrap64 (2 * (x : Int)) = 2 * (x : Int) := Go.Proofs.Ytamjkgbimcpfaaa.U.wrap_in (by omega) (by omega)
    have w2 : wrap64 ((x : Int) * 2) = ((2 * x : Nat) : Int) := (Go.Proofs.Ytamjkgbimcpfaaa.U.wrap_in (by omega) (by omega)).trans (by omega)
    by_cases h : 2 * x < n
    · obtain ⟨k, hk⟩ := ih n (2 * x) hn (by omega) (by omega) (by omega)
      refine ⟨k + 1, ?_⟩
      simp only [impl_split.l0, w1, w2]
      rw [if_pos (by clear w1 w2; omega), hk, Go.Proofs.Ytamjkgbimcpfaaa.Mk.halfGo, if_pos h]
    · refine ⟨1, ?_⟩
      simp only [impl_split.l0, w1]
      rw [if_neg (by clear w1 w2; omega), Go.Proofs.Ytamjkgbimcpfaaa.Mk.halfGo, if_neg h]
theorem impl_growthRoots.split (n : Nat) (hn : n ≤ 1000000) (w : World) : Calls Try.prog 115 #[.int .i64 (n : Int)] w fun e w' => e = .returned (.int .i64 ((Go.Proofs.Ytamjkgbimcpfaaa.Mk.halfN n : Nat) : Int)) ∧ Below w.heap.size w w' := by
  obtain ⟨k, hk⟩ := impl_growthRoots.split_from n n 1 hn (by omega) (by omega) (by omega)
  exact (impl_split.calls k (n : Int) _ w hk).mono fun e w' h => ⟨h.1, Drawn0.below h.2⟩
theorem impl_growthRoots.within (a b c : Int) (w : World) : Calls Try.prog 61 #[.int .i64 a, .int .i64 b, .int .i64 c] w fun e w' => e = .returned (.bool (decide (b ≤ a ∧ a ≤ c))) ∧ Below w.heap.size w w' := by
  have h : impl_within.f a b c = some (decide (b ≤ a ∧ a ≤ c)) := by
    unfold impl_within.f
    split <;> simp only [Option.some.injEq] <;> rw [Bool.eq_iff_iff] <;> simp <;> omega
  exact (impl_within.calls a b c _ w h).mono fun e w' h => ⟨h.1, Drawn0.below h.2⟩
theorem impl_growthRoots.start (w : World) (A : Option Addr) (c : Nat) (xs : List ByteArray) (hc : xs.length ≤ c) (hr : ReadsOf Value.string ByteArray.empty w A xs.length xs) (u : Nat) :
    impl_growthRoots.PS w (w.alloc (Obj.cells #[Value.slice A xs.length c, Value.bool false, Value.slice none 0 0] u)) w.heap.size xs false [] := by
  refine ⟨below_alloc (Below.refl _ _) _, Nat.le_refl _, A, c, .slice none 0 0, ?_, ?_, ?_, ⟨?_, ?_, ?_⟩, hc, hr, own_nil _ _ _ _⟩
  · rw [World.cell?_alloc_new]; rfl
  · rw [World.cell?_alloc_new]; rfl
  · rw [World.cell?_alloc_new]; rfl
  all_goals exact World.frozen?_alloc_new _ _ _ _
theorem impl_growthRoots.bs_of {l : List ByteArray} (h : (l.all fun x => decide (x.size ≤ 100000000)) = true) : Go.Proofs.Ytamjkgbimcpfaaa.Mk.BS l := fun x hx => of_decide_eq_true (List.all_eq_true.mp h x hx)
set_option maxHeartbeats 2000000 in
set_option maxRecDepth 100000 in
theorem impl_growthRoots.grow (w0 : World) (bp : Nat) (root : ByteArray) (hl : root.size ≤ 100000000) (q : Nat) : ∀ (m n : Nat) (known : Bool) (xs : List ByteArray) (b : Bool) (w : World), n ≤ q → n ≤ 100000 → 1 ≤ m → m ≤ n → Go.Proofs.Ytamjkgbimcpfaaa.Mk.BS xs → impl_growthRoots.PS w0 w bp xs b [] →
    Calls Try.prog 128 #[.pointer (some ⟨bp, 0, none⟩), .int .i64 (m : Int), .int .i64 (n : Int), .bool known, .string root] w fun e w' => e = .returned (.tuple #[.string (Go.Proofs.Ytamjkgbimcpfaaa.Mk.growP m n known root xs b).1, .string (Go.Proofs.Ytamjkgbimcpfaaa.Mk.growP m n known root xs b).2.1]) ∧
      impl_growthRoots.PS w0 w' bp (Go.Proofs.Ytamjkgbimcpfaaa.Mk.growP m n known root xs b).2.2.1 (Go.Proofs.Ytamjkgbimcpfaaa.Mk.growP m n known root xs b).2.2.2 [] := by
  induction q with
  | zero => intro m n known xs b w h1 h2 h3 h4; exact absurd h4 (by omega)
  | succ q ih =>
    intro m n known xs b w hq hn hm1 hmn hx hP
    by_cases he : m = n
    · subst he
      cases known with
      | true =>
        rw [Go.Proofs.Ytamjkgbimcpfaaa.Mk.growP_known]
        have HP := Aside0.mk hP
        clear hP hq hn hm1 hmn hx ih
        go_enter Try.func128, Try.ntmps128
        go_wp2_with fail
        go_ret2
        exact ⟨rfl, HP.out⟩
      | false =>
        rw [Go.Proofs.Ytamjkgbimcpfaaa.Mk.growP_next]
        have HX : Aside0 (∀ w, impl_growthRoots.PS w0 w bp xs b [] → _) := ⟨fun w h => impl_growthRoots.next w0 w bp xs [] b h⟩
        generalize Go.Proofs.Ytamjkgbimcpfaaa.Mk.nextP xs b = t at *
        obtain ⟨th, tx, tb⟩ := t
        simp only at HX ⊢
        have HP := Aside0.mk hP
        clear hP hq hn hm1 hmn hx ih
        go_enter Try.func128, Try.ntmps128
        go_wp2_with (first
          | (go_at_call 160; refine (HX.out _ HP.out).mono ?_; rintro e W3 ⟨rfl, hp3⟩; have HP3 := Aside0.mk hp3; clear hp3))
        go_ret2
        exact ⟨rfl, HP3.out⟩
    · have hh := Go.Proofs.Ytamjkgbimcpfaaa.Mk.halfN_lt n (by omega)
      have HSP : Aside0 (∀ w, Calls Try.prog 115 #[.int .i64 (n : Int)] w fun e w' => e = .returned (.int .i64 ((Go.Proofs.Ytamjkgbimcpfaaa.Mk.halfN n : Nat) : Int)) ∧ Below w.heap.size w w') := ⟨fun w => impl_growthRoots.split n (by omega) w⟩
      have HNO : Aside0 (∀ (l r : ByteArray) (w : World), l.size ≤ 100000000 → r.size ≤ 100000000 → Calls Try.prog 70 #[.string l, .string r] w fun e w' => e = .returned (.string (Go.Proofs.Ytamjkgbimcpfaaa.Mk.nodeOf l r)) ∧ Below w.heap.size w w') := ⟨fun l r w hl hr => impl_nodeHash.calls l r _ w (by
        unfold impl_nodeHash.f impl_hash.f
        rw [if_pos (by omega), if_pos (by omega), if_pos (by rw [ByteArray.size_append, ByteArray.size_append]; show 1 + _ + _ ≤ _; omega)]
        rfl)⟩
      have c0 : ((m : Int) == (n : Int)) = false := beq_eq_false_iff_ne.mpr (by omega)
      by_cases hlow : m ≤ Go.Proofs.Ytamjkgbimcpfaaa.Mk.halfN n
      · rw [Go.Proofs.Ytamjkgbimcpfaaa.Mk.growP_low _ _ _ _ _ _ he (by omega) hlow]
        obtain ⟨a1, a2, a3, a4⟩ := Go.Proofs.Ytamjkgbimcpfaaa.Mk.growP_bs root hl q m (Go.Proofs.Ytamjkgbimcpfaaa.Mk.halfN n) known xs b (by omega) hm1 hlow hx
        have HI : Aside0 (∀ w, impl_growthRoots.PS w0 w bp xs b [] → _) := ⟨fun w h => ih m (Go.Proofs.Ytamjkgbimcpfaaa.Mk.halfN n) known xs b w (by omega) (by omega) hm1 hlow hx h⟩
        generalize Go.Proofs.Ytamjkgbimcpfaaa.Mk.halfN n = k at *
        generalize Go.Proofs.Ytamjkgbimcpfaaa.Mk.growP m k known root xs b = r at *
        obtain ⟨r1, r2, rx, rb⟩ := r
        simp only at a1 a2 a3 a4 HI ⊢
        obtain ⟨b1, b2, b3⟩ := Go.Proofs.Ytamjkgbimcpfaaa.Mk.nextP_bs rx rb a3
        have HX : Aside0 (∀ w, impl_growthRoots.PS w0 w bp rx rb [] → _) := ⟨fun w h => impl_growthRoots.next w0 w bp rx [] rb h⟩
        generalize Go.Proofs.Ytamjkgbimcpfaaa.Mk.nextP rx rb = t at *
        obtain ⟨th, tx, tb⟩ := t
        simp only at b1 b2 b3 HX ⊢
        have HD : Aside0 (∀ w, _) := ⟨fun w => HNO.out r2 th w a2 b1⟩
        have HP := Aside0.mk hP
        have c2 : (m : Int) ≤ (k : Int) := by omega
        clear hP hm1 hmn hn hq hx hh hlow a1 a2 a3 a4 b1 b2 b3 ih HNO he
        go_enter Try.func128, Try.ntmps128
        go_wp2_with (first
          | (go_at_call 115; refine (HSP.out _).mono ?_; rintro e W1 ⟨rfl, hb1⟩; have HP1 := Aside0.mk (HP.out.step hb1); clear hb1)
          | (go_at_call 128; refine (HI.out _ HP1.out).mono ?_; rintro e W2 ⟨rfl, hp2⟩; have HP2 := Aside0.mk hp2; clear hp2)
          | (go_at_call 160; refine (HX.out _ HP2.out).mono ?_; rintro e W3 ⟨rfl, hp3⟩; have HP3 := Aside0.mk hp3; clear hp3)
          | (go_at_call 70; refine (HD.out _).mono ?_; rintro e W4 ⟨rfl, hb4⟩; have HP4 := Aside0.mk (HP3.out.step hb4); clear hb4))
        go_ret2
        exact ⟨rfl, HP4.out⟩
      · rw [Go.Proofs.Ytamjkgbimcpfaaa.Mk.growP_high _ _ _ _ _ _ he (by omega) hlow]
        obtain ⟨a1, a2, a3, a4⟩ := Go.Proofs.Ytamjkgbimcpfaaa.Mk.growP_bs root hl q (m - Go.Proofs.Ytamjkgbimcpfaaa.Mk.halfN n) (n - Go.Proofs.Ytamjkgbimcpfaaa.Mk.halfN n) false xs b (by omega) (by omega) (by omega) hx
        have HI : Aside0 (∀ w, impl_growthRoots.PS w0 w bp xs b [] → _) := ⟨fun w h => ih (m - Go.Proofs.Ytamjkgbimcpfaaa.Mk.halfN n) (n - Go.Proofs.Ytamjkgbimcpfaaa.Mk.halfN n) false xs b w (by omega) (by omega) (by omega) (by omega) hx h⟩
        generalize Go.Proofs.Ytamjkgbimcpfaaa.Mk.halfN n = k at *
        obtain ⟨m1, hi1⟩ : ∃ q, m - k = q := ⟨_, rfl⟩
        obtain ⟨n1, hn1⟩ : ∃ q, n - k = q := ⟨_, rfl⟩
        rw [hi1, hn1] at HI a1 a2 a3 a4 ⊢
        have e1 : IntKind.i64.wrap ((m : Int) - (k : Int)) = (m1 : Int) := by rw [← hi1]; exact (IntWalk.i64_in _ (by omega)).trans (by omega)
        have e2 : IntKind.i64.wrap ((n : Int) - (k : Int)) = (n1 : Int) := by rw [← hn1]; exact (IntWalk.i64_in _ (by omega)).trans (by omega)
        generalize Go.Proofs.Ytamjkgbimcpfaaa.Mk.growP m1 n1 false root xs b = r at *
        obtain ⟨r1, r2, rx, rb⟩ := r
        simp only at a1 a2 a3 a4 HI ⊢
        obtain ⟨b1, b2, b3⟩ := Go.Proofs.Ytamjkgbimcpfaaa.Mk.nextP_bs rx rb a3
        have HX : Aside0 (∀ w, impl_growthRoots.PS w0 w bp rx rb [] → _) := ⟨fun w h => impl_growthRoots.next w0 w bp rx [] rb h⟩
        generalize Go.Proofs.Ytamjkgbimcpfaaa.Mk.nextP rx rb = t at *
        obtain ⟨th, tx, tb⟩ := t
        simp only at b1 b2 b3 HX ⊢
        have HD : Aside0 (∀ w, _) := ⟨fun w => HNO.out th r1 w b1 a1⟩
        have HD2 : Aside0 (∀ w, _) := ⟨fun w => HNO.out th r2 w b1 a2⟩
        have HP := Aside0.mk hP
        have c2 : (k : Int) < (m : Int) := by omega
        clear hP hm1 hmn hn hq hx hh hlow a1 a2 a3 a4 b1 b2 b3 ih HNO he hi1 hn1
        go_enter Try.func128, Try.ntmps128
        go_wp2_with (first
          | (go_at_call 115; refine (HSP.out _).mono ?_; rintro e W1 ⟨rfl, hb1⟩; have HP1 := Aside0.mk (HP.out.step hb1); clear hb1)
          | (go_at_call 128; refine (HI.out _ HP1.out).mono ?_; rintro e W2 ⟨rfl, hp2⟩; have HP2 := Aside0.mk hp2; clear hp2)
          | (go_at_call 160; refine (HX.out _ HP2.out).mono ?_; rintro e W3 ⟨rfl, hp3⟩; have HP3 := Aside0.mk hp3; clear hp3)
          | (go_at_call 70; with_reducible refine (HD.out _).mono ?_; rintro e W4 ⟨rfl, hb4⟩; have HP4 := Aside0.mk (HP3.out.step hb4); clear hb4)
          | (go_at_call 70; with_reducible refine (HD2.out _).mono ?_; rintro e W5 ⟨rfl, hb5⟩; have HP5 := Aside0.mk (HP4.out.step hb5); clear hb5))
        go_ret2
        exact ⟨rfl, HP5.out⟩
def impl_growthRoots.groot (t : ByteArray × ByteArray × List ByteArray × Bool) : ByteArray × ByteArray × Int :=
  if t.2.2.2 = true ∨ 0 < t.2.2.1.length then (⟨#[]⟩, ⟨#[]⟩, 10) else (t.1, t.2.1, 0)
def impl_growthRoots.f (a0 a1 : Int) (a2 : ByteArray) (l3 : List ByteArray) : Option (ByteArray × ByteArray × Int) :=
  if a2.size ≤ 100000000 ∧ (l3.all fun x => decide (x.size ≤ 100000000)) = true then
    some (if 1 ≤ a1 ∧ a1 ≤ 64 ∧ 1 ≤ a0 ∧ a0 ≤ a1 then impl_growthRoots.groot (Go.Proofs.Ytamjkgbimcpfaaa.Mk.growP a0.toNat a1.toNat true a2 l3 false) else (⟨#[]⟩, ⟨#[]⟩, 4)) else none
set_option maxHeartbeats 400000 in
set_option maxRecDepth 100000 in
theorem impl_growthRoots.calls_in (a2 : ByteArray) (i n : Nat) (A3 : Option Addr) (c3 : Nat) (l3 : List ByteArray) (r : ByteArray × ByteArray × List ByteArray × Bool) (w : World) (hr3 : Kd.C Kd.string w A3 l3.length l3) (hc3 : l3.length ≤ c3)
    (hn1 : 1 ≤ n) (hn : n ≤ 64) (hi1 : 1 ≤ i) (hi : i ≤ n)
    (HI : Aside0 (∀ (w0 w : World) (bp : Nat), impl_growthRoots.PS w0 w bp l3 false [] → Calls Try.prog 128 #[.pointer (some ⟨bp, 0, none⟩), .int .i64 (i : Int), .int .i64 (n : Int), .bool true, .string a2] w fun e w' => e = .returned (.tuple #[.string r.1, .string r.2.1]) ∧ impl_growthRoots.PS w0 w' bp r.2.2.1 r.2.2.2 [])) :
    Calls Try.prog 78 #[.int .i64 (i : Int), .int .i64 (n : Int), .string a2, .slice A3 l3.length c3] w fun e w' => e = .returned (.tuple #[.string (impl_growthRoots.groot r).1, .string (impl_growthRoots.groot r).2.1, .int .i64 (impl_growthRoots.groot r).2.2]) ∧ Below w.heap.size w w' := by
  have HW : Aside0 (∀ w, Calls Try.prog 61 #[.int .i64 (n : Int), .int .i64 1, .int .i64 64] w fun e w' => e = .returned (.bool true) ∧ Below w.heap.size w w') := ⟨fun w => by have := impl_growthRoots.within (n : Int) 1 64 w; rw [decide_eq_true (by omega)] at this; exact this⟩
  have HW2 : Aside0 (∀ w, Calls Try.prog 61 #[.int .i64 (i : Int), .int .i64 1, .int .i64 (n : Int)] w fun e w' => e = .returned (.bool true) ∧ Below w.heap.size w w') := ⟨fun w => by have := impl_growthRoots.within (i : Int) 1 (n : Int) w; rw [decide_eq_true (by omega)] at this; exact this⟩
  have HR3 := Aside0.mk hr3
  have HC3 := Aside0.mk hc3
  clear hr3 hc3 hn1 hn hi hi1
  obtain ⟨rh, rg, rx, rb⟩ := r
  simp only at HI
  generalize hq : impl_growthRoots.groot (rh, rg, rx, rb) = q
  obtain ⟨q1, q2, q3⟩ := q
  have HQ := Aside0.mk hq
  clear hq
  have hcs : (rb = true) ∨ (rb = false ∧ 0 < rx.length) ∨ (rb = false ∧ ¬ 0 < rx.length) := by
    cases rb
    · rcases Nat.eq_zero_or_pos rx.length with h0 | h0
      · exact .inr (.inr ⟨rfl, by omega⟩)
      · exact .inr (.inl ⟨rfl, by omega⟩)
    · exact .inl rfl
  rcases hcs with rfl | ⟨rfl, hlen⟩ | ⟨rfl, hlen⟩
  all_goals
    go_enter Try.func78, Try.ntmps78
    go_wp2_with (first
      | (go_at_call 61; with_reducible refine (HW.out _).mono ?_; rintro e W1 ⟨rfl, hb1⟩; have HB1 := Aside0.mk hb1; clear hb1)
      | (go_at_call 61; with_reducible refine (HW2.out _).mono ?_; rintro e W2 ⟨rfl, hb2⟩; have HB2 := Aside0.mk (HB1.out.trans (hb2.mono HB1.out.size)); clear hb2)
      | (go_at_call 128; refine (HI.out W2 _ W2.heap.size (impl_growthRoots.start W2 A3 c3 l3 HC3.out ((Kd.reads_of_C (enc := Value.string) (d := ByteArray.empty) (h1 := fun _ => rfl) HR3.out).below HB2.out) _)).mono ?_; rintro e W3 ⟨rfl, hp3⟩; obtain ⟨A5, c5, v5, k0, k1, k2, ⟨g0, g1, g2⟩, hx5, _, ho5⟩ := hp3.ex; have HP3 := Aside0.mk hp3; clear hp3 ho5 hx5))
    go_ret3
  · have e := HQ.out
    rw [impl_growthRoots.groot, if_pos (.inl rfl)] at e
    injection e with e1 e; injection e with e2 e3
    subst e1 e2 e3
    exact ⟨rfl, HB2.out.trans (HP3.out.low.mono HB2.out.size)⟩
  · have e := HQ.out
    rw [impl_growthRoots.groot, if_pos (.inr hlen)] at e
    injection e with e1 e; injection e with e2 e3
    subst e1 e2 e3
    exact ⟨rfl, HB2.out.trans (HP3.out.low.mono HB2.out.size)⟩
  · have e := HQ.out
    rw [impl_growthRoots.groot, if_neg (by rintro (h | h); exact absurd h (by simp); exact hlen h)] at e
    injection e with e1 e; injection e with e2 e3
    subst e1 e2 e3
    exact ⟨rfl, HB2.out.trans (HP3.out.low.mono HB2.out.size)⟩
set_option maxHeartbeats 1000000 in
set_option maxRecDepth 100000 in
theorem impl_growthRoots.calls_out (a0 a1 : Int) (a2 : ByteArray) (A3 : Option Addr) (c3 : Nat) (n3 : Nat) (w : World) (h : ¬ (1 ≤ a1 ∧ a1 ≤ 64 ∧ 1 ≤ a0 ∧ a0 ≤ a1)) :
    Calls Try.prog 78 #[.int .i64 a0, .int .i64 a1, .string a2, .slice A3 n3 c3] w fun e w' => e = .returned (.tuple #[.string ⟨#[]⟩, .string ⟨#[]⟩, .int .i64 4]) ∧ Below w.heap.size w w' := by
  by_cases h1 : 1 ≤ a1 ∧ a1 ≤ 64
  · have h2 : ¬ (1 ≤ a0 ∧ a0 ≤ a1) := fun k => h ⟨h1.1, h1.2, k.1, k.2⟩
    have HW : Aside0 (∀ w, Calls Try.prog 61 #[.int .i64 a1, .int .i64 1, .int .i64 64] w fun e w' => e = .returned (.bool true) ∧ Below w.heap.size w w') := ⟨fun w => by have := impl_growthRoots.within a1 1 64 w; rw [decide_eq_true h1] at this; exact this⟩
    have HW2 : Aside0 (∀ w, Calls Try.prog 61 #[.int .i64 a0, .int .i64 1, .int .i64 a1] w fun e w' => e = .returned (.bool false) ∧ Below w.heap.size w w') := ⟨fun w => by have := impl_growthRoots.within a0 1 a1 w; rw [decide_eq_false h2] at this; exact this⟩
    clear h h1 h2
    go_enter Try.func78, Try.ntmps78
    go_wp2_with (first
      | (go_at_call 61; with_reducible refine (HW.out _).mono ?_; rintro e W1 ⟨rfl, hb1⟩; have HB1 := Aside0.mk hb1; clear hb1)
      | (go_at_call 61; with_reducible refine (HW2.out _).mono ?_; rintro e W2 ⟨rfl, hb2⟩; have HB2 := Aside0.mk (HB1.out.trans (hb2.mono HB1.out.size)); clear hb2))
    go_ret3
    exact ⟨rfl, HB2.out⟩
  · have HW : Aside0 (∀ w, Calls Try.prog 61 #[.int .i64 a1, .int .i64 1, .int .i64 64] w fun e w' => e = .returned (.bool false) ∧ Below w.heap.size w w') := ⟨fun w => by have := impl_growthRoots.within a1 1 64 w; rw [decide_eq_false h1] at this; exact this⟩
    clear h h1
    go_enter Try.func78, Try.ntmps78
    go_wp2_with (first
      | (go_at_call 61; with_reducible refine (HW.out _).mono ?_; rintro e W1 ⟨rfl, hb1⟩; have HB1 := Aside0.mk hb1; clear hb1))
    go_ret3
    exact ⟨rfl, HB1.out⟩
theorem impl_growthRoots.calls (a0 a1 : Int) (a2 : ByteArray) (A3 : Option Addr) (c3 : Nat) (l3 : List ByteArray) (r1 : ByteArray) (r2 : ByteArray) (r3 : Int) (w : World) (hr3 : Kd.C Kd.string w A3 l3.length l3) (hc3 : l3.length ≤ c3) (h : impl_growthRoots.f a0 a1 a2 l3 = some (r1, r2, r3)) :
    Calls Try.prog 78 #[.int .i64 a0, .int .i64 a1, .string a2, .slice A3 l3.length c3] w fun e w' => e = .returned (.tuple #[.string r1, .string r2, .int .i64 r3]) ∧ Below w.heap.size w w' := by
  unfold impl_growthRoots.f at h
  split at h
  · rename_i hs
    replace h := Option.some.inj h
    obtain ⟨hs1, hs2⟩ := hs
    split at h
    · rename_i hin
      obtain ⟨i, rfl⟩ := Int.eq_ofNat_of_zero_le (show 0 ≤ a0 by omega)
      obtain ⟨n, rfl⟩ := Int.eq_ofNat_of_zero_le (show 0 ≤ a1 by omega)
      rw [Int.toNat_natCast, Int.toNat_natCast] at h
      have := impl_growthRoots.calls_in a2 i n A3 c3 l3 _ w hr3 hc3 (by omega) (by omega) (by omega) (by omega) ⟨fun w0 w bp h => impl_growthRoots.grow w0 bp a2 hs1 n i n true l3 false w (Nat.le_refl _) (by omega) (by omega) (by omega) (impl_growthRoots.bs_of hs2) h⟩
      rw [h] at this
      exact this
    · rename_i hin
      injection h with e1 e; injection e with e2 e3
      subst e1 e2 e3
      exact impl_growthRoots.calls_out a0 a1 a2 A3 c3 l3.length w hin
  · cases h

/-! ### impl_ConsistencyRoots: function 29 -/
def impl_ConsistencyRoots.f (k : Nat) (a0 : Int) (a1 : Int) (a2 : ByteArray) (l3 : List ByteArray) : Option (ByteArray × ByteArray × Int) := (impl_proofCode.f k l3 (([a2] : List ByteArray))).bind fun t306 => (if t306 = 0 then ((impl_growthRoots.f a0 a1 a2 l3).bind fun bt307 => (some (bt307.1, bt307.2.1, bt307.2.2))) else (some ((⟨#[]⟩ : ByteArray), (⟨#[]⟩ : ByteArray), t306)))
theorem impl_ConsistencyRoots.mono : ∀ a0 a1 a2 a3 k, LeO (impl_ConsistencyRoots.f k a0 a1 a2 a3) (impl_ConsistencyRoots.f (k + 1) a0 a1 a2 a3) := by
  intro a0 a1 a2 a3 k
  unfold impl_ConsistencyRoots.f
  repeat' first
      | (with_reducible exact impl_proofCode.mono _ _ _)
      | (with_reducible exact LeO.refl _)
      | (with_reducible exact LeO.none _)
      | (with_reducible refine LeO.ite ?_ ?_)
      | (with_reducible refine LeO.bind ?_ (fun _ => ?_))
      | exact impl_proofCode.mono _ _ _
      | exact LeO.none _
      | refine LeO.ite ?_ ?_
      | refine LeO.bind ?_ (fun _ => ?_)
set_option maxHeartbeats 8000000 in
set_option maxRecDepth 100000 in
theorem impl_ConsistencyRoots.calls (k : Nat) (a0 : Int) (a1 : Int) (a2 : ByteArray) (A3 : Option Addr) (c3 : Nat) (l3 : List ByteArray) (r1 : ByteArray) (r2 : ByteArray) (r3 : Int) (w : World) (hr3 : Kd.C Kd.string w A3 l3.length l3) (hc3 : l3.length ≤ c3) (h : impl_ConsistencyRoots.f k a0 a1 a2 l3 = some (r1, r2, r3)) :
    Calls Try.prog 29 #[.int .i64 a0, .int .i64 a1, .string a2, .slice A3 l3.length c3] w fun e w' => e = .returned (.tuple #[.string r1, .string r2, .int .i64 r3]) ∧ Below w.heap.size w w' := by
  have HR3 := Aside0.mk hr3
  have HC3 := Aside0.mk hc3
  clear hr3 hc3
  have HB := Aside0.mk (Below.refl w.heap.size w)
  have H : ((impl_proofCode.f k l3 (([a2] : List ByteArray))).bind fun t306 => (if t306 = 0 then ((impl_growthRoots.f a0 a1 a2 l3).bind fun bt307 => (some (bt307.1, bt307.2.1, bt307.2.2))) else (some ((⟨#[]⟩ : ByteArray), (⟨#[]⟩ : ByteArray), t306)))) = some (r1, r2, r3) := h
  clear h
  obtain ⟨y303, hy303⟩ : ∃ y_ : List ByteArray, y_ = (([a2] : List ByteArray)) := ⟨_, rfl⟩
  replace H : ((impl_proofCode.f k l3 y303).bind fun t306 => (if t306 = 0 then ((impl_growthRoots.f a0 a1 a2 l3).bind fun bt307 => (some (bt307.1, bt307.2.1, bt307.2.2))) else (some ((⟨#[]⟩ : ByteArray), (⟨#[]⟩ : ByteArray), t306)))) = some (r1, r2, r3) := by first | (rw [hy303]; with_reducible exact H) | (have H2_ := (Option.bind_some _ _).symm.trans H; rw [hy303]; with_reducible exact H2_) | (have H2_ := (Option.bind_some _ _).symm.trans H; with_reducible exact H2_) | with_reducible exact H | (rw [hy303]; exact H) | exact H
  have Ny303 := Aside0.mk hy303
  clear hy303
  replace H := Option.bind_eq_some_iff.mp H
  obtain ⟨t306, A50, H⟩ := H
  replace H : (if t306 = 0 then ((impl_growthRoots.f a0 a1 a2 l3).bind fun bt307 => (some (bt307.1, bt307.2.1, bt307.2.2))) else (some ((⟨#[]⟩ : ByteArray), (⟨#[]⟩ : ByteArray), t306))) = some (r1, r2, r3) := H
  have A5 := Aside0.mk A50
  clear A50
  by_cases c6 : t306 = 0
  · rw [if_pos c6] at H
    have c6b0 : (t306 == 0) = true := beq_iff_eq.mpr c6
    have c6b1 : (t306 != 0) = false := bne_eq_false_iff_eq.mpr c6
    clear c6
    replace H := Option.bind_eq_some_iff.mp H
    obtain ⟨⟨t307, t308, t309⟩, A70, H⟩ := H
    replace H : (some (t307, t308, t309)) = some (r1, r2, r3) := H
    have A7 := Aside0.mk A70
    clear A70
    simp only [Option.some.injEq, Prod.mk.injEq] at H
    obtain ⟨rfl, rfl, rfl⟩ := H
    go_enter Try.func29, Try.ntmps29
    go_wp2_with (first | ((with_reducible refine gate_dst (N := 14) rfl ?_); refine Kd.R_lit Kd.string _ 9 ?hg (N := 14) ?hd (xs := ([a2] : List ByteArray)) (inner := [.string a2]) (ok := fun _ => True) (okp := fun _ => True) ?hr ?hp (fun _ hk => hk) trivial (Below.refl _ _) (Nat.le_refl _) (by simp) ?_; (case hd => rfl); (case hg => rfl); (case hr => first | (go_simp; done) | (go_simp; rfl)); (case hp => exact (Reps.one (show Kd.M Kd.string _ _ _ a2 [.string a2] from rfl) (Reps.none _ _))); intro v304 w8 ho9 hb hg_ hnew_; clear hg_ hnew_; (first | rw [← Ny303.out] at ho9 | (simp only [Int.reduceToNat] at ho9; rw [← Ny303.out] at ho9)); have n0_ := Aside0.mk (Kd.R_lower ho9 (below_size (by repeat (first | (with_reducible first | exact HB.out | apply below_alloc | apply pw_below_drewN | apply below_drew1) | exact HB.out)))); have n1_ := Aside0.mk (below_step (by repeat (first | (with_reducible first | exact HB.out | apply below_alloc | apply pw_below_drewN | apply below_drew1) | exact HB.out)) hb); clear HB; have HO305 := n0_; have HB := n1_; clear n0_ n1_; clear hb ho9; obtain ⟨Ao10, co10, eo10⟩ := Kd.R_slice HO305.out; subst eo10) | ((with_reducible refine gate_callee (f := 77) rfl ?_); refine goesL_ (some 15) rfl rfl Try.func77 (by kernel_rfl) rfl #[.slice A3 l3.length c3, .slice Ao10 y303.length co10] rfl (by (try simp only [List.map_toArray, List.map_cons, List.map_nil]); first | done | rfl | (simp only [List.length_drop, List.length_take]; rfl)) ?_; (with_reducible refine (impl_proofCode.calls k _ _ l3 _ _ y303 t306 _ ?side1 ?side2 ?side3 ?side4 A5.out).mono ?_); (case side1 => repeat (first | exact (Kd.C_below HR3.out HB.out) | (with_reducible refine Kd.C_alloc ?_ _) | (with_reducible refine Kd.C_drewN ?_ _) | (with_reducible refine Kd.C_drew ?_))); (case side2 => exact HC3.out); (case side3 => repeat (first | exact (Kd.R_reads' HO305.out).2.2 | (with_reducible refine Kd.C_alloc ?_ _) | (with_reducible refine Kd.C_drewN ?_ _) | (with_reducible refine Kd.C_drew ?_))); (case side4 => exact (Kd.R_reads' HO305.out).2.1); rintro e w' ⟨rfl, ⟨nd, rfl⟩⟩; refine ⟨_, rfl, ?_⟩) | ((with_reducible refine gate_callee (f := 78) rfl ?_); refine goesL_ (some 23) rfl rfl Try.func78 (by kernel_rfl) rfl #[.int .i64 a0, .int .i64 a1, .string a2, .slice A3 l3.length c3] rfl (by (try simp only [List.map_toArray, List.map_cons, List.map_nil]); first | done | rfl | (simp only [List.length_drop, List.length_take]; rfl)) ?_; (with_reducible refine (impl_growthRoots.calls a0 a1 a2 _ _ l3 t307 t308 t309 _ ?side1 ?side2 A7.out).mono ?_); (case side1 => repeat (first | exact (Kd.C_below HR3.out (by repeat (first | (with_reducible first | exact HB.out | apply below_alloc | apply pw_below_drewN | apply below_drew1) | exact HB.out))) | (with_reducible refine Kd.C_alloc ?_ _) | (with_reducible refine Kd.C_drewN ?_ _) | (with_reducible refine Kd.C_drew ?_))); (case side2 => exact HC3.out); rintro e w11 ⟨rfl, hb⟩; refine ⟨_, rfl, ?_⟩; have n0_ := Aside0.mk (Kd.R_below (by (with_reducible repeat (first | apply Kd.R_alloc | apply Kd.R_drewN | apply Kd.R_drew)); exact HO305.out) hb); have n1_ := Aside0.mk (below_step (by repeat (first | (with_reducible first | exact HB.out | apply below_alloc | apply pw_below_drewN | apply below_drew1) | exact HB.out)) hb); clear HO305; clear HB; have HO305 := n0_; have HB := n1_; clear n0_ n1_; (try clear hb); (try clear hb2); (try clear hk); (try clear hi)))
    go_ret3
    exact ⟨by first | rfl | (simp [errW_none, errW_some] <;> rfl) | (simp [*, errW_none, errW_some] <;> rfl), by repeat (first | (with_reducible first | exact HB.out | apply below_alloc | apply pw_below_drewN | apply below_drew1) | exact HB.out)⟩
  · rw [if_neg c6] at H
    have c6b0 : (t306 == 0) = false := beq_eq_false_iff_ne.mpr c6
    have c6b1 : (t306 != 0) = true := bne_iff_ne.mpr c6
    simp only [Option.some.injEq, Prod.mk.injEq] at H
    obtain ⟨rfl, rfl, rfl⟩ := H
    go_enter Try.func29, Try.ntmps29
    go_wp2_with (first | ((with_reducible refine gate_dst (N := 14) rfl ?_); refine Kd.R_lit Kd.string _ 9 ?hg (N := 14) ?hd (xs := ([a2] : List ByteArray)) (inner := [.string a2]) (ok := fun _ => True) (okp := fun _ => True) ?hr ?hp (fun _ hk => hk) trivial (Below.refl _ _) (Nat.le_refl _) (by simp) ?_; (case hd => rfl); (case hg => rfl); (case hr => first | (go_simp; done) | (go_simp; rfl)); (case hp => exact (Reps.one (show Kd.M Kd.string _ _ _ a2 [.string a2] from rfl) (Reps.none _ _))); intro v304 w12 ho13 hb hg_ hnew_; clear hg_ hnew_; (first | rw [← Ny303.out] at ho13 | (simp only [Int.reduceToNat] at ho13; rw [← Ny303.out] at ho13)); have n0_ := Aside0.mk (Kd.R_lower ho13 (below_size (by repeat (first | (with_reducible first | exact HB.out | apply below_alloc | apply pw_below_drewN | apply below_drew1) | exact HB.out)))); have n1_ := Aside0.mk (below_step (by repeat (first | (with_reducible first | exact HB.out | apply below_alloc | apply pw_below_drewN | apply below_drew1) | exact HB.out)) hb); clear HB; have HO305 := n0_; have HB := n1_; clear n0_ n1_; clear hb ho13; obtain ⟨Ao14, co14, eo14⟩ := Kd.R_slice HO305.out; subst eo14) | ((with_reducible refine gate_callee (f := 77) rfl ?_); refine goesL_ (some 15) rfl rfl Try.func77 (by kernel_rfl) rfl #[.slice A3 l3.length c3, .slice Ao14 y303.length co14] rfl (by (try simp only [List.map_toArray, List.map_cons, List.map_nil]); first | done | rfl | (simp only [List.length_drop, List.length_take]; rfl)) ?_; (with_reducible refine (impl_proofCode.calls k _ _ l3 _ _ y303 t306 _ ?side1 ?side2 ?side3 ?side4 A5.out).mono ?_); (case side1 => repeat (first | exact (Kd.C_below HR3.out HB.out) | (with_reducible refine Kd.C_alloc ?_ _) | (with_reducible refine Kd.C_drewN ?_ _) | (with_reducible refine Kd.C_drew ?_))); (case side2 => exact HC3.out); (case side3 => repeat (first | exact (Kd.R_reads' HO305.out).2.2 | (with_reducible refine Kd.C_alloc ?_ _) | (with_reducible refine Kd.C_drewN ?_ _) | (with_reducible refine Kd.C_drew ?_))); (case side4 => exact (Kd.R_reads' HO305.out).2.1); rintro e w' ⟨rfl, ⟨nd, rfl⟩⟩; refine ⟨_, rfl, ?_⟩))
    go_ret3
    exact ⟨by first | rfl | (simp [errW_none, errW_some] <;> rfl) | (simp [*, errW_none, errW_some] <;> rfl), by repeat (first | (with_reducible first | exact HB.out | apply below_alloc | apply pw_below_drewN | apply below_drew1) | exact HB.out)⟩

/-! ### laws_sameTexts: function 30 -/
def laws_sameTexts.l0 : Nat → List ByteArray → List ByteArray → Int → Option (Bool)
  | 0, _, _, _ => none
  | k + 1, x0, x1, x5 => if x5 < (x0.length : Int) then (if 0 ≤ x5 then (if x5 < (x1.length : Int) then (if (rdOf ByteArray.empty x0 x5).toList = (rdOf ByteArray.empty x1 x5).toList then (laws_sameTexts.l0 k x0 x1 (wrap64 (x5 + 1))) else (some false)) else (none)) else (none)) else (some true)
def laws_sameTexts.f (k : Nat) (l0 : List ByteArray) (l1 : List ByteArray) : Option (Bool) := if (l0.length : Int) = (l1.length : Int) then (laws_sameTexts.l0 k l0 l1 0) else (some false)
theorem laws_sameTexts.mono_l : ∀ k, (∀ y0 y1 y2, LeO (laws_sameTexts.l0 k y0 y1 y2) (laws_sameTexts.l0 (k + 1) y0 y1 y2))
  | 0 => fun _ _ _ r h => by simp [laws_sameTexts.l0] at h
  | k + 1 => by
    have ih0 := laws_sameTexts.mono_l k
    · intro y0 y1 y2
      unfold laws_sameTexts.l0
      repeat' first
      | (with_reducible exact ih0 _ _ _)
      | (with_reducible exact LeO.refl _)
      | (with_reducible exact LeO.none _)
      | (with_reducible refine LeO.ite ?_ ?_)
      | (with_reducible refine LeO.bind ?_ (fun _ => ?_))
      | exact ih0 _ _ _
      | exact LeO.none _
      | refine LeO.ite ?_ ?_
      | refine LeO.bind ?_ (fun _ => ?_)
theorem laws_sameTexts.mono : ∀ a0 a1 k, LeO (laws_sameTexts.f k a0 a1) (laws_sameTexts.f (k + 1) a0 a1) := by
  intro a0 a1 k
  have ih0 := laws_sameTexts.mono_l k
  unfold laws_sameTexts.f
  repeat' first
      | (with_reducible exact ih0 _ _ _)
      | (with_reducible exact LeO.refl _)
      | (with_reducible exact LeO.none _)
      | (with_reducible refine LeO.ite ?_ ?_)
      | (with_reducible refine LeO.bind ?_ (fun _ => ?_))
      | exact ih0 _ _ _
      | exact LeO.none _
      | refine LeO.ite ?_ ?_
      | refine LeO.bind ?_ (fun _ => ?_)
set_option maxHeartbeats 8000000 in
set_option maxRecDepth 100000 in
theorem laws_sameTexts.calls (k : Nat) (A0 : Option Addr) (c0 : Nat) (l0 : List ByteArray) (A1 : Option Addr) (c1 : Nat) (l1 : List ByteArray) (r : Bool) (w : World) (hr0 : Kd.C Kd.string w A0 l0.length l0) (hc0 : l0.length ≤ c0) (hr1 : Kd.C Kd.string w A1 l1.length l1) (hc1 : l1.length ≤ c1) (h : laws_sameTexts.f k l0 l1 = some r) :
    Calls Try.prog 30 #[.slice A0 l0.length c0, .slice A1 l1.length c1] w fun e w' => e = .returned (.bool r) ∧ Drawn0 w w' := by
  have HR0 := Aside0.mk hr0
  have HC0 := Aside0.mk hc0
  clear hr0 hc0
  have HR1 := Aside0.mk hr1
  have HC1 := Aside0.mk hc1
  clear hr1 hc1
  have H : (if (l0.length : Int) = (l1.length : Int) then (laws_sameTexts.l0 k l0 l1 0) else (some false)) = some r := h
  clear h
  by_cases c3 : (l0.length : Int) = (l1.length : Int)
  · rw [if_pos c3] at H
    have c3b0 : ((l0.length : Int) == (l1.length : Int)) = true := beq_iff_eq.mpr c3
    have c3b1 : ((l0.length : Int) != (l1.length : Int)) = false := bne_eq_false_iff_eq.mpr c3
    have c3b2 : (l0.length == l1.length) = true := by first | simpa using c3 | (simp at c3 ⊢; omega)
    clear c3
    have H' := Aside0.mk H
    clear H
    go_enter Try.func30, Try.ntmps30
    go_wp2
    repeat (go_quiet (fail); try go_wp2)
    go_loopg [5] k (fun kq v5 w' => ∃ (x5_1 : Int), v5 = .int .i64 x5_1 ∧ Aside0 (laws_sameTexts.l0 kq l0 l1 x5_1 = some r) ∧ Aside0 (kq ≤ k) ∧ Drawn0 w w')
    case atStart => exact ⟨(0), (by first | rfl | (simp; done) | (simp [*]; done)), H', ⟨Nat.le_refl _⟩, by repeat (first | exact Drawn0.refl _ | apply Drawn0.step)⟩
    case round =>
      clear H'
      try clear c1
      try clear p2
      try clear c3
      try clear c3b0
      try clear c3b1
      try clear c3b2
      obtain ⟨x5_1, rfl, HA, HK1, ⟨m1, rfl⟩⟩ := hrel
      cases gk with
      | zero => exact absurd HA.out (by simp [laws_sameTexts.l0])
      | succ k1 =>
        have H := HA.out
        clear HA
        simp only [laws_sameTexts.l0] at H
        by_cases c4 : x5_1 < (l0.length : Int)
        · rw [if_pos c4] at H
          have c4b0 : decide (x5_1 < (l0.length : Int)) = true := decide_eq_true c4
          clear c4
          by_cases c5 : 0 ≤ x5_1
          · rw [if_pos c5] at H
            have c5b0 : decide (0 ≤ x5_1) = true := decide_eq_true c5
            clear c5
            by_cases c6 : x5_1 < (l1.length : Int)
            · rw [if_pos c6] at H
              have c6b0 : decide (x5_1 < (l1.length : Int)) = true := decide_eq_true c6
              clear c6
              by_cases c7 : (rdOf ByteArray.empty l0 x5_1).toList = (rdOf ByteArray.empty l1 x5_1).toList
              · rw [if_pos c7] at H
                have c7b0 : ((rdOf ByteArray.empty l0 x5_1).toList == (rdOf ByteArray.empty l1 x5_1).toList) = true := beq_iff_eq.mpr c7
                have c7b1 : ((rdOf ByteArray.empty l0 x5_1).toList != (rdOf ByteArray.empty l1 x5_1).toList) = false := bne_eq_false_iff_eq.mpr c7
                clear c7
                have H' := Aside0.mk H
                clear H
                have p310 : 0 ≤ (x5_1 : Int) := of_decide_eq_true (by assumption)
                have q310 : x5_1 < (l0.length : Int) := of_decide_eq_true (by assumption)
                obtain ⟨ad310, e310, hx310_0⟩ := Kd.at_string HR0.out x5_1 p310 q310
                cases e310
                replace p310 := eq_true p310
                replace q310 := eq_true q310
                have p311 : 0 ≤ (x5_1 : Int) := of_decide_eq_true (by assumption)
                have q311 : x5_1 < (l1.length : Int) := of_decide_eq_true (by assumption)
                obtain ⟨ad311, e311, hx311_0⟩ := Kd.at_string HR1.out x5_1 p311 q311
                cases e311
                replace p311 := eq_true p311
                replace q311 := eq_true q311
                go_wp2
                repeat (go_quiet (fail); try go_wp2)
                go_roundg k1
                case measure => have := HK1.out; omega
                case rel => exact ⟨(wrap64 (x5_1 + 1)), (by first | rfl | (simp; done) | (simp [*]; done)), H', ⟨by have := HK1.out; omega⟩, by repeat (first | exact Drawn0.refl _ | apply Drawn0.step)⟩
              · rw [if_neg c7] at H
                have c7b0 : ((rdOf ByteArray.empty l0 x5_1).toList == (rdOf ByteArray.empty l1 x5_1).toList) = false := beq_eq_false_iff_ne.mpr c7
                have c7b1 : ((rdOf ByteArray.empty l0 x5_1).toList != (rdOf ByteArray.empty l1 x5_1).toList) = true := bne_iff_ne.mpr c7
                obtain rfl := Option.some.inj H
                have p310 : 0 ≤ (x5_1 : Int) := of_decide_eq_true (by assumption)
                have q310 : x5_1 < (l0.length : Int) := of_decide_eq_true (by assumption)
                obtain ⟨ad310, e310, hx310_0⟩ := Kd.at_string HR0.out x5_1 p310 q310
                cases e310
                replace p310 := eq_true p310
                replace q310 := eq_true q310
                have p311 : 0 ≤ (x5_1 : Int) := of_decide_eq_true (by assumption)
                have q311 : x5_1 < (l1.length : Int) := of_decide_eq_true (by assumption)
                obtain ⟨ad311, e311, hx311_0⟩ := Kd.at_string HR1.out x5_1 p311 q311
                cases e311
                replace p311 := eq_true p311
                replace q311 := eq_true q311
                go_wp2
                repeat (go_quiet (fail); try go_wp2)
                go_ret
                exact ⟨by first | rfl | (simp; done) | (simp [*]; done), by repeat (first | exact Drawn0.refl _ | apply Drawn0.step)⟩
            · rw [if_neg c6] at H
              exact absurd H (by simp)
          · rw [if_neg c5] at H
            exact absurd H (by simp)
        · rw [if_neg c4] at H
          have c4b0 : decide (x5_1 < (l0.length : Int)) = false := decide_eq_false c4
          clear c4
          obtain rfl := Option.some.inj H
          go_wp2
          repeat (go_quiet (fail); try go_wp2)
          go_ret
          exact ⟨by first | rfl | (simp; done) | (simp [*]; done), by repeat (first | exact Drawn0.refl _ | apply Drawn0.step)⟩
  · rw [if_neg c3] at H
    have c3b0 : ((l0.length : Int) == (l1.length : Int)) = false := beq_eq_false_iff_ne.mpr c3
    have c3b1 : ((l0.length : Int) != (l1.length : Int)) = true := bne_iff_ne.mpr c3
    have c3b2 : (l0.length == l1.length) = false := by first | simpa using c3 | (simp at c3 ⊢; omega)
    obtain rfl := Option.some.inj H
    go_enter Try.func30, Try.ntmps30
    go_wp2
    repeat (go_quiet (fail); try go_wp2)
    go_ret
    exact ⟨by first | rfl | (simp; done) | (simp [*]; done), by repeat (first | exact Drawn0.refl _ | apply Drawn0.step)⟩

end Go.Proofs.Ytamjkgbimcpfaaa.PFnGrowth
