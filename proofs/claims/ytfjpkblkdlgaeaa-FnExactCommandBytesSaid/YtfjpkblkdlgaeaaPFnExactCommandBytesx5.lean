import Derived.Test.YtfjpkblkdlgaeaaPFnExactCommandBytesx1
import Derived.Test.YtfjpkblkdlgaeaaPFnExactCommandBytesx2
import Derived.Test.YtfjpkblkdlgaeaaPFnExactCommandBytesx3
import Derived.Test.YtfjpkblkdlgaeaaPFnExactCommandBytesx4
import Derived.Test.YtfjpkblkdlgaeaaU
namespace Go.Proofs.Ytfjpkblkdlgaeaa.PFnExactCommandBytes
open Go.RowKit Go.Proofs.YtfjpkblkdlgaeaaW.PrintWords Go.Proofs.YtfjpkblkdlgaeaaW.PrintLast Go.Proofs.YtfjpkblkdlgaeaaW.PrintMore
set_option linter.unusedVariables false
set_option linter.unusedSimpArgs false
-- BEGIN mb
/-- A row of bytes that a text was turned into: its block bears a mark behind its end. -/
def mb.At (w : World) (g c : Nat) (l : List Int) : Prop := ∃ cs : Array Value, w.heap[g]? = some (.cells cs 5 (c, c + 1)) ∧ cs.size = c ∧ l.length ≤ c ∧ (∀ j (h : j < l.length), cs[j]? = some (.int .u8 l[j])) ∧ l.length ≤ 9223372036854775807
theorem mb.At.cell {w : World} {g c : Nat} {l : List Int} (h : mb.At w g c l) (j : Nat) (hj : j < l.length) : w.cell? ⟨g, j, none⟩ = some (.int .u8 l[j]) := by
  obtain ⟨cs, h1, h2, h3, h4, h5⟩ := h
  unfold World.cell?
  rw [h1]
  exact h4 j hj
theorem mb.At.free {w : World} {g c : Nat} {l : List Int} (h : mb.At w g c l) (j : Nat) (hj : j < c) : w.frozen? ⟨g, j, none⟩ = false := by
  obtain ⟨cs, h1, h2, h3, h4, h5⟩ := h
  unfold World.frozen?
  rw [h1]
  simp
  omega
theorem mb.At.lt {w : World} {g c : Nat} {l : List Int} (h : mb.At w g c l) : g < w.heap.size := by
  obtain ⟨cs, h1, _⟩ := h
  exact blk_lt h1
theorem mb.At.moved {w w' : World} {g c : Nat} {l : List Int} (h : mb.At w g c l) (hm : w'.heap[g]? = w.heap[g]?) : mb.At w' g c l := by
  obtain ⟨cs, h1, h2⟩ := h
  exact ⟨cs, hm.trans h1, h2⟩
theorem mb.At.set {w : World} {g c : Nat} {l : List Int} (h : mb.At w g c l) (j : Nat) (hj : j < l.length) (v : Int) : mb.At (w.setCell ⟨g, j, none⟩ (.int .u8 v)) g c (l.set j v) := by
  obtain ⟨cs, h1, h2, h3, h4, h5⟩ := h
  refine ⟨cs.setIfInBounds j (.int .u8 v), ?_, ?_, ?_, ?_, by rw [List.length_set]; exact h5⟩
  · unfold World.setCell
    simp only
    rw [Array.getElem?_modify]
    simp only [if_true, h1, Option.map_some]
    rfl
  · simpa using h2
  · rw [List.length_set]; exact h3
  · intro i hi
    rw [List.length_set] at hi
    rw [List.getElem_set, Array.getElem?_setIfInBounds]
    by_cases e : j = i
    · subst e
      simp only [if_true]
      rw [if_pos (by omega)]
    · rw [if_neg e, if_neg e]
      exact h4 i hi
theorem mb.At.reads {w : World} {g c : Nat} {l : List Int} (h : mb.At w g c l) : Kd.C (Kd.int .u8) w (some ⟨g, 0, none⟩) l.length l := by
  refine Kd.C_of_reads (enc := Value.int .u8) (d := (0 : Int)) (h1 := fun _ => rfl) ⟨rfl, ?_, fun hn => ⟨⟨g, 0, none⟩, rfl, fun j hj => ?_⟩⟩
  · obtain ⟨cs, h1, h2, h3, h4, h5⟩ := h
    exact h5
  · have := h.cell j hj
    rw [List.getD_eq_getElem?_getD, List.getElem?_eq_getElem hj, Option.getD_some]
    have e : (⟨g, 0, none⟩ : Addr).add j = ⟨g, j, none⟩ := by unfold Addr.add; split <;> simp_all
    rw [e]
    exact this
set_option maxHeartbeats 1000000 in
set_option maxRecDepth 100000 in
theorem mb.mark (k : Nat) (g c : Nat) (l0 : List Int) (a1 r1 : Int) (r2 : List Int) (w : World) (h0 : mb.At w g c l0) (h : laws_markByteS.f k l0 a1 = some (r1, r2)) :
    Calls Try.prog 17 #[.slice (some ⟨g, 0, none⟩) l0.length c, .int .i64 a1] w fun e w' => e = .returned (.int .i64 r1) ∧ mb.At w' g c r2 ∧ r2.length = l0.length ∧ Kept w w' (fun i => i = g) ∧ Below g w w' := by
  have HO0 := Aside0.mk h0
  have HK := Aside0.mk (Kept.refl w (fun i => i = g))
  have HB := Aside0.mk (Below.refl g w)
  have H' : Aside0 (laws_markByteS.l0 k l0 a1 0 = some (r1, r2)) := ⟨h⟩
  clear h h0
  go_enter Try.func17, Try.ntmps17
  go_wp2
  go_loopg [1, 5] k (fun kq v1 v5 w' => ∃ (x0_1 : List Int) (x1_1 : Int) (x5_1 : Int), v1 = .int .i64 x1_1 ∧ v5 = .int .i64 x5_1 ∧ Aside0 (laws_markByteS.l0 kq x0_1 x1_1 x5_1 = some (r1, r2)) ∧ Aside0 (kq ≤ k) ∧ Aside0 (mb.At w' g c x0_1) ∧ Aside0 (x0_1.length = l0.length) ∧ Aside0 (Kept w w' (fun i => i = g)) ∧ Aside0 (Below g w w'))
  case atStart => exact ⟨l0, a1, 0, rfl, rfl, H', ⟨Nat.le_refl _⟩, ⟨HO0.out.moved rfl⟩, ⟨rfl⟩, ⟨by repeat (first | (with_reducible first | exact HK.out | apply Kept.alloc | apply Kept.drewN | apply Kept.drew) | exact HK.out)⟩, ⟨by repeat (first | (with_reducible first | exact HB.out | apply pw_below_drewN | apply below_drew1 | apply below_drew) | exact HB.out)⟩⟩
  case round =>
    clear H' HO0
    obtain ⟨x0_1, x1_1, x5_1, rfl, rfl, HA, HK1, HO_0, HL, HK, HB⟩ := hrel
    cases gk with
    | zero => exact absurd HA.out (by simp [laws_markByteS.l0])
    | succ k1 =>
      have H := HA.out
      clear HA
      simp only [laws_markByteS.l0, HL.out] at H
      by_cases c3 : x5_1 < (l0.length : Int)
      · rw [if_pos c3] at H
        have c3b0 : decide (x5_1 < (l0.length : Int)) = true := decide_eq_true c3
        by_cases c4 : 0 ≤ x5_1
        · rw [if_pos c4] at H
          have c4b0 : decide (0 ≤ x5_1) = true := decide_eq_true c4
          obtain ⟨j, rfl⟩ := Int.eq_ofNat_of_zero_le c4
          rw [Int.toNat_natCast] at H
          have H' := Aside0.mk H
          clear H
          have hj : j < x0_1.length := by rw [HL.out]; omega
          have HJ := Aside0.mk hj
          obtain ⟨v0, hx⟩ : ∃ v0, wr.cell? ⟨g, j, none⟩ = some v0 := ⟨_, HO_0.out.cell j hj⟩
          have hf := HO_0.out.free j (by obtain ⟨cs, h1, h2, h3, h4, h5⟩ := HO_0.out; omega)
          have HS := Aside0.mk (HO_0.out.set j hj (x1_1 % 256))
          have c3n : j < l0.length := by omega
          clear hj c3 c4 c3b0
          go_wp2
          go_roundg k1
          case measure => have := HK1.out; omega
          case rel => exact ⟨_, _, _, rfl, rfl, H', ⟨by have := HK1.out; omega⟩, HS, ⟨by rw [List.length_set]; exact HL.out⟩, ⟨HK.out.setCell (.inl rfl) _⟩, ⟨HB.out.setCell (p := ⟨g, j, none⟩) (Nat.le_refl _) _⟩⟩
        · rw [if_neg c4] at H
          exact absurd H (by simp)
      · rw [if_neg c3] at H
        have c3b0 : decide (x5_1 < (l0.length : Int)) = false := decide_eq_false c3
        clear c3
        simp only [Option.some.injEq, Prod.mk.injEq] at H
        obtain ⟨rfl, rfl⟩ := H
        go_wp2
        go_ret
        exact ⟨rfl, HO_0.out, HL.out, HK.out, HB.out⟩
theorem mb.made (w : World) (s : ByteArray) (hs : s.size ≤ 2000000) : mb.At (Lib.bytesWorld w 5 s) w.heap.size (grownCap w s.size 0 5) (bytesOf s) := by
  have hge := grownCap_ge w s.size 0 5
  have hsz : (Lib.bytesCells w 5 s).size = grownCap w s.size 0 5 := by
    simp [Lib.bytesCells]
    omega
  refine ⟨Lib.bytesCells w 5 s, ?_, hsz, ?_, fun j hj => ?_, ?_⟩
  · rw [← hsz]; exact Lib.bytesWorld_at_new w _ s
  · rw [bytesOf_length]; exact hge
  · rw [bytesOf_length] at hj
    have := Lib.bytesWorld_cell w 5 s j hj
    unfold World.cell? at this
    rw [Lib.bytesWorld_at_new] at this
    simp only [Option.isSome_none, Bool.false_eq_true, if_false] at this
    rw [this]
    simp [bytesOf, List.getD_eq_getElem?_getD, hj]
  · rw [bytesOf_length]; omega
theorem mb.below (w : World) (s : ByteArray) : Below w.heap.size w (Lib.bytesWorld w 5 s) :=
  bytes_below (Below.refl _ _) (Nat.le_refl _) _ s
theorem mb.held (k g c n : Nat) (l : List Int) (a r : Int) (w : World) (h0 : mb.At w g c l) (hn : l.length = n) (h : laws_heldByteS.f k l a = some r) :
    Calls Try.prog 18 #[.slice (some ⟨g, 0, none⟩) n c, .int .i64 a] w fun e w' => e = .returned (.int .i64 r) ∧ Drawn0 w w' := by
  subst hn
  exact laws_heldByteS.calls k _ c l a r w h0.reads (by obtain ⟨cs, h1, h2, h3, h4, h5⟩ := h0; exact h3) h
theorem mb.same (k g c n : Nat) (l : List Int) (A : Option Addr) (n2 c2 : Nat) (l2 : List Int) (r : Bool) (w : World) (h0 : mb.At w g c l) (hn : l.length = n) (hn2 : n2 = l2.length) (hc2 : n2 ≤ c2) (hr2 : Kd.C (Kd.int .u8) w A l2.length l2) (h : laws_eqByteS.f k l l2 = some r) :
    Calls Try.prog 16 #[.slice (some ⟨g, 0, none⟩) n c, .slice A n2 c2] w fun e w' => e = .returned (.bool r) ∧ Drawn0 w w' := by
  subst hn hn2
  exact laws_eqByteS.calls k _ c l _ c2 l2 r w h0.reads (by obtain ⟨cs, h1, h2, h3, h4, h5⟩ := h0; exact h3) hr2 hc2 h
theorem mb.mark_n (k g c n : Nat) (l0 : List Int) (a1 r1 : Int) (r2 : List Int) (w : World) (h0 : mb.At w g c l0) (hn : l0.length = n) (h : laws_markByteS.f k l0 a1 = some (r1, r2)) :
    Calls Try.prog 17 #[.slice (some ⟨g, 0, none⟩) n c, .int .i64 a1] w fun e w' => e = .returned (.int .i64 r1) ∧ mb.At w' g c r2 ∧ r2.length = n ∧ Kept w w' (fun i => i = g) ∧ Below g w w' := by
  subst hn
  exact mb.mark k g c l0 a1 r1 r2 w h0 h
-- END mb
-- BEGIN eb
theorem eb.up {w W1 : World} {o : Obj} (h : Below (w.alloc o).heap.size (w.alloc o) W1) : Below w.heap.size w W1 :=
  (below_alloc (Below.refl _ _) o).trans (h.mono (below_alloc (Below.refl _ _) o).size)
theorem eb.box {w W1 : World} {cs : Array Value} {q : TypeId} (h : Below (w.alloc (.cells cs q)).heap.size (w.alloc (.cells cs q)) W1) (j : Nat) (v : Value) (hv : cs[j]? = some v) : W1.cell? ⟨w.heap.size, j, none⟩ = some v := by
  rw [h.cell (p := ⟨w.heap.size, j, none⟩) (by show w.heap.size < (w.heap.push _).size; simp)]
  rw [World.cell?_alloc_new]
  exact hv
set_option maxHeartbeats 1000000 in
set_option maxRecDepth 100000 in
theorem eb.bad (k : Nat) (t u v : Int) (d y : ByteArray) (w : World) (hok : impl_CommandOK.f k t u v d y = some false) :
    Calls Try.prog 15 #[.agg #[.int .i64 t, .int .i64 u, .int .i64 v, .string d, .string y]] w fun e w' => e = .returned (.tuple #[.slice none 0 0, .int .i64 1]) ∧ Below w.heap.size w w' := by
  have HE := Aside0.mk hok
  clear hok
  go_enter Try.func15, Try.ntmps15
  go_wp2_with (first
    | (go_at_call 42; with_reducible refine (impl_CommandOK.calls k t u v d y false _ HE.out).mono ?_; rintro e W1 ⟨rfl, hb1⟩; have HB1 := Aside0.mk hb1; clear hb1))
  go_ret2
  exact ⟨rfl, eb.up HB1.out⟩
set_option maxHeartbeats 1000000 in
set_option maxRecDepth 100000 in
theorem eb.good (k : Nat) (t u v : Int) (d y s : ByteArray) (w : World) (hok : impl_CommandOK.f k t u v d y = some true) (hb : impl_Command_bytes.f k t u v d y = some s) (hs : s.size ≤ 2000000) :
    Calls Try.prog 15 #[.agg #[.int .i64 t, .int .i64 u, .int .i64 v, .string d, .string y]] w fun e w' => ∃ g c, e = .returned (.tuple #[.slice (some ⟨g, 0, none⟩) s.size c, .int .i64 0]) ∧ mb.At w' g c (bytesOf s) ∧ w.heap.size ≤ g ∧ Below w.heap.size w w' := by
  have HE := Aside0.mk hok
  have HY := Aside0.mk hb
  clear hok hb
  go_enter Try.func15, Try.ntmps15
  go_wp2_with (first
    | (go_at_call 42; with_reducible refine (impl_CommandOK.calls k t u v d y true _ HE.out).mono ?_; rintro e W1 ⟨rfl, hb1⟩; have HB1 := Aside0.mk hb1; have x0 := eb.box hb1 0 _ rfl; have x1 := eb.box hb1 1 _ rfl; have x2 := eb.box hb1 2 _ rfl; have x3 := eb.box hb1 3 _ rfl; have x4 := eb.box hb1 4 _ rfl; clear hb1)
    | (go_at_call 43; with_reducible refine (impl_Command_bytes.calls k t u v d y s _ HY.out).mono ?_; rintro e W2 ⟨rfl, hb2⟩; have HB2 := Aside0.mk hb2.size; have HM := Aside0.mk (mb.made W2 s hs); have hcv := print_bytes (P := Try.prog) 9 33 5 Try.underlying9 Try.underlying33 Try.underlying5 s W2; have HB3 := Aside0.mk (hb2.trans ((mb.below W2 s).mono hb2.size)); generalize Lib.bytesWorld W2 5 s = W3 at *; generalize grownCap W2 s.size 0 5 = c at *; clear hb2))
  go_ret2
  have b1 := eb.up HB1.out
  exact ⟨_, _, rfl, HM.out, Nat.le_trans b1.size HB2.out, b1.trans (HB3.out.mono b1.size)⟩
-- END eb
-- BEGIN law
set_option maxHeartbeats 2000000 in
set_option maxRecDepth 100000 in
theorem lw.good (k : Nat) (t u v s0 m : Int) (d y s : ByteArray) (l2 : List Int) (w : World) (hsz : laws_szCommand.f t u v d y 1048576 = some s0) (hs0 : 0 ≤ s0) (hsp : spec_CommandBytes.f k t u v d y = some (bytesOf s, 0)) (hok : impl_CommandOK.f k t u v d y = some true) (hb : impl_Command_bytes.f k t u v d y = some s) (hs : s.size ≤ 2000000)
    (heq : laws_eqByteS.f k (bytesOf s) (bytesOf s) = some true) (hmk : laws_markByteS.f k (bytesOf s) 1 = some (m, l2)) (hhd : laws_heldByteS.f k l2 1 = some m) (hm : 0 ≤ m) :
    Calls Try.prog 4 #[.agg #[.int .i64 t, .int .i64 u, .int .i64 v, .string d, .string y]] w fun e w' => e = .returned (.bool true) ∧ Below w.heap.size w w' := by
  have HZ := Aside0.mk hsz
  have HSP := Aside0.mk hsp
  have HOK := Aside0.mk hok
  have HY := Aside0.mk hb
  have HS := Aside0.mk hs
  have HEQ := Aside0.mk heq
  have HMK := Aside0.mk hmk
  have HHD := Aside0.mk hhd
  have c0 : decide (s0 < 0) = false := decide_eq_false (by omega)
  have c1 : decide (m < 0) = false := decide_eq_false (by omega)
  clear hsz hsp hok hb hs heq hmk hhd hs0 hm
  go_enter Try.func4, Try.ntmps4
  go_wp2_with (first
    | (go_at_call 12; with_reducible refine (laws_szCommand.calls t u v d y 1048576 s0 _ HZ.out).mono ?_; rintro e W1 ⟨rfl, hb⟩; have HX := Aside0.mk hb; have x0 := eb.box hb 0 _ rfl; have x1 := eb.box hb 1 _ rfl; have x2 := eb.box hb 2 _ rfl; have x3 := eb.box hb 3 _ rfl; have x4 := eb.box hb 4 _ rfl; clear hb)
    | (go_at_call 14; with_reducible refine (laws_toCommand.calls t u v d y t u v d y _ rfl).mono ?_; rintro e W2 ⟨rfl, hb⟩; have n0 := Aside0.mk (below_step (by repeat (first | (with_reducible first | exact HX.out | apply below_alloc | apply pw_below_drewN | apply below_drew1) | exact HX.out)) hb); clear HX x0 x1 x2 x3 x4; have HX := n0; clear n0; have x0 := eb.box HX.out 0 _ rfl; have x1 := eb.box HX.out 1 _ rfl; have x2 := eb.box HX.out 2 _ rfl; have x3 := eb.box HX.out 3 _ rfl; have x4 := eb.box HX.out 4 _ rfl; (try (have n1 := Aside0.mk (below_step (by repeat (first | (with_reducible first | exact H3.out | apply below_alloc | apply pw_below_drewN | apply below_drew1) | exact H3.out)) hb); clear H3; have H3 := n1; clear n1)); (try (have n2 := Aside0.mk (HG.out.moved (hb.block g HG.out.lt)); clear HG; have HG := n2; clear n2)); clear hb)
    | (go_at_call 13; with_reducible refine (spec_CommandBytes.calls k t u v d y (bytesOf s) 0 _ HSP.out).mono ?_; rintro e W3 ⟨vw, rfl, hr, hb⟩; have n0 := Aside0.mk (below_step (by repeat (first | (with_reducible first | exact HX.out | apply below_alloc | apply pw_below_drewN | apply below_drew1) | exact HX.out)) hb); clear HX x0 x1 x2 x3 x4; have HX := n0; clear n0; have x0 := eb.box HX.out 0 _ rfl; have x1 := eb.box HX.out 1 _ rfl; have x2 := eb.box HX.out 2 _ rfl; have x3 := eb.box HX.out 3 _ rfl; have x4 := eb.box HX.out 4 _ rfl; (try (have n1 := Aside0.mk (below_step (by repeat (first | (with_reducible first | exact H3.out | apply below_alloc | apply pw_below_drewN | apply below_drew1) | exact H3.out)) hb); clear H3; have H3 := n1; clear n1)); (try (have n2 := Aside0.mk (HG.out.moved (hb.block g HG.out.lt)); clear HG; have HG := n2; clear n2)); obtain ⟨Aw, cw, rfl⟩ := Kd.R_slice hr; have hrr := Kd.R_reads' hr; have HCW := Aside0.mk hrr; have H3 := Aside0.mk (Below.refl W3.heap.size W3); clear hrr hr hb)
    | (go_at_call 15; have hg1 := HG.out; refine (eb.good k t u v d y s _ HOK.out HY.out HS.out).mono ?_; rintro e W5 ⟨g2, c2, rfl, hat, hge, hb⟩; have n0 := Aside0.mk (below_step (by repeat (first | (with_reducible first | exact HX.out | apply below_alloc | apply pw_below_drewN | apply below_drew1) | exact HX.out)) hb); clear HX x0 x1 x2 x3 x4; have HX := n0; clear n0; have x0 := eb.box HX.out 0 _ rfl; have x1 := eb.box HX.out 1 _ rfl; have x2 := eb.box HX.out 2 _ rfl; have x3 := eb.box HX.out 3 _ rfl; have x4 := eb.box HX.out 4 _ rfl; (try (have n1 := Aside0.mk (below_step (by repeat (first | (with_reducible first | exact H3.out | apply below_alloc | apply pw_below_drewN | apply below_drew1) | exact H3.out)) hb); clear H3; have H3 := n1; clear n1)); (try (have n2 := Aside0.mk (HG.out.moved (hb.block g HG.out.lt)); clear HG; have HG := n2; clear n2)); have HG2 := Aside0.mk hat; clear hat hge hb hg1)
    | (go_at_call 15; refine (eb.good k t u v d y s _ HOK.out HY.out HS.out).mono ?_; rintro e W5 ⟨g, c, rfl, hat, hge, hb⟩; have h3s := H3.out.size; have hxs := HX.out.size; have n0 := Aside0.mk (below_step (by repeat (first | (with_reducible first | exact HX.out | apply below_alloc | apply pw_below_drewN | apply below_drew1) | exact HX.out)) hb); clear HX x0 x1 x2 x3 x4; have HX := n0; clear n0; have x0 := eb.box HX.out 0 _ rfl; have x1 := eb.box HX.out 1 _ rfl; have x2 := eb.box HX.out 2 _ rfl; have x3 := eb.box HX.out 3 _ rfl; have x4 := eb.box HX.out 4 _ rfl; (try (have n1 := Aside0.mk (below_step (by repeat (first | (with_reducible first | exact H3.out | apply below_alloc | apply pw_below_drewN | apply below_drew1) | exact H3.out)) hb); clear H3; have H3 := n1; clear n1)); (try (have n2 := Aside0.mk (HG.out.moved (hb.block g HG.out.lt)); clear HG; have HG := n2; clear n2)); have HG := Aside0.mk hat; have HGE := Aside0.mk (And.intro (Nat.le_trans h3s hge) (Nat.le_trans hxs hge)); clear hat hge hb h3s hxs)
    | (go_at_call 16; have hg1 := HG2.out; refine (mb.same k g2 c2 s.size (bytesOf s) Aw _ cw (bytesOf s) true _ (by exact HG2.out) (bytesOf_length s) rfl HCW.out.2.1 (by exact Kd.C_below HCW.out.2.2 H3.out) HEQ.out).mono ?_; rintro e W6 ⟨rfl, hd⟩; have hb := Drawn0.below hd; clear hd hg1; have n0 := Aside0.mk (below_step (by repeat (first | (with_reducible first | exact HX.out | apply below_alloc | apply pw_below_drewN | apply below_drew1) | exact HX.out)) hb); clear HX x0 x1 x2 x3 x4; have HX := n0; clear n0; have x0 := eb.box HX.out 0 _ rfl; have x1 := eb.box HX.out 1 _ rfl; have x2 := eb.box HX.out 2 _ rfl; have x3 := eb.box HX.out 3 _ rfl; have x4 := eb.box HX.out 4 _ rfl; (try (have n1 := Aside0.mk (below_step (by repeat (first | (with_reducible first | exact H3.out | apply below_alloc | apply pw_below_drewN | apply below_drew1) | exact H3.out)) hb); clear H3; have H3 := n1; clear n1)); (try (have n2 := Aside0.mk (HG.out.moved (hb.block g HG.out.lt)); clear HG; have HG := n2; clear n2)); clear hb HG2)
    | (go_at_call 16; refine (mb.same k g c s.size (bytesOf s) Aw _ cw (bytesOf s) true _ (by exact HG.out) (bytesOf_length s) rfl HCW.out.2.1 (by exact Kd.C_below HCW.out.2.2 H3.out) HEQ.out).mono ?_; rintro e W6 ⟨rfl, hd⟩; have hb := Drawn0.below hd; clear hd; have n0 := Aside0.mk (below_step (by repeat (first | (with_reducible first | exact HX.out | apply below_alloc | apply pw_below_drewN | apply below_drew1) | exact HX.out)) hb); clear HX x0 x1 x2 x3 x4; have HX := n0; clear n0; have x0 := eb.box HX.out 0 _ rfl; have x1 := eb.box HX.out 1 _ rfl; have x2 := eb.box HX.out 2 _ rfl; have x3 := eb.box HX.out 3 _ rfl; have x4 := eb.box HX.out 4 _ rfl; (try (have n1 := Aside0.mk (below_step (by repeat (first | (with_reducible first | exact H3.out | apply below_alloc | apply pw_below_drewN | apply below_drew1) | exact H3.out)) hb); clear H3; have H3 := n1; clear n1)); (try (have n2 := Aside0.mk (HG.out.moved (hb.block g HG.out.lt)); clear HG; have HG := n2; clear n2)); clear hb)
    | (go_at_call 17; refine (mb.mark_n k g c s.size (bytesOf s) 1 m l2 _ (by exact HG.out) (bytesOf_length s) HMK.out).mono ?_; rintro e W7 ⟨rfl, hat, hln, hk, hb⟩; have HL2 := Aside0.mk hln; have n0 := Aside0.mk (HX.out.trans (hb.mono HGE.out.2)); have n1 := Aside0.mk (H3.out.trans (hb.mono HGE.out.1)); clear HX H3 HG x0 x1 x2 x3 x4; have HX := n0; have H3 := n1; have HG := Aside0.mk hat; clear n0 n1 hat hln hk hb; have x0 := eb.box HX.out 0 _ rfl; have x1 := eb.box HX.out 1 _ rfl; have x2 := eb.box HX.out 2 _ rfl; have x3 := eb.box HX.out 3 _ rfl; have x4 := eb.box HX.out 4 _ rfl)
    | (go_at_call 18; refine (mb.held k g c s.size l2 1 m _ (by exact HG.out) HL2.out HHD.out).mono ?_; rintro e W8 ⟨rfl, hd⟩; have hb := Drawn0.below hd; clear hd; have n0 := Aside0.mk (below_step (by repeat (first | (with_reducible first | exact HX.out | apply below_alloc | apply pw_below_drewN | apply below_drew1) | exact HX.out)) hb); clear HX x0 x1 x2 x3 x4; have HX := n0; clear n0; have x0 := eb.box HX.out 0 _ rfl; have x1 := eb.box HX.out 1 _ rfl; have x2 := eb.box HX.out 2 _ rfl; have x3 := eb.box HX.out 3 _ rfl; have x4 := eb.box HX.out 4 _ rfl; (try (have n1 := Aside0.mk (below_step (by repeat (first | (with_reducible first | exact H3.out | apply below_alloc | apply pw_below_drewN | apply below_drew1) | exact H3.out)) hb); clear H3; have H3 := n1; clear n1)); (try (have n2 := Aside0.mk (HG.out.moved (hb.block g HG.out.lt)); clear HG; have HG := n2; clear n2)); clear hb))
  go_ret
  exact ⟨rfl, eb.up HX.out⟩
set_option maxHeartbeats 2000000 in
set_option maxRecDepth 100000 in
theorem lw.bad (k : Nat) (t u v s0 : Int) (d y : ByteArray) (w : World) (hsz : laws_szCommand.f t u v d y 1048576 = some s0) (hs0 : 0 ≤ s0) (hsp : spec_CommandBytes.f k t u v d y = some ([], 1)) (hok : impl_CommandOK.f k t u v d y = some false)
    (heq : laws_eqByteS.f k [] [] = some true) (hmk : laws_markByteS.f k [] 1 = some (1, [])) (hhd : laws_heldByteS.f k [] 1 = some 1) :
    Calls Try.prog 4 #[.agg #[.int .i64 t, .int .i64 u, .int .i64 v, .string d, .string y]] w fun e w' => e = .returned (.bool true) ∧ Below w.heap.size w w' := by
  have HZ := Aside0.mk hsz
  have HSP := Aside0.mk hsp
  have HOK := Aside0.mk hok
  have HEQ := Aside0.mk heq
  have HMK := Aside0.mk hmk
  have HHD := Aside0.mk hhd
  have c0 : decide (s0 < 0) = false := decide_eq_false (by omega)
  clear hsz hsp hok heq hmk hhd hs0
  go_enter Try.func4, Try.ntmps4
  go_wp2_with (first
    | (go_at_call 12; with_reducible refine (laws_szCommand.calls t u v d y 1048576 s0 _ HZ.out).mono ?_; rintro e W1 ⟨rfl, hb⟩; have HX := Aside0.mk hb; have x0 := eb.box hb 0 _ rfl; have x1 := eb.box hb 1 _ rfl; have x2 := eb.box hb 2 _ rfl; have x3 := eb.box hb 3 _ rfl; have x4 := eb.box hb 4 _ rfl; clear hb)
    | (go_at_call 14; with_reducible refine (laws_toCommand.calls t u v d y t u v d y _ rfl).mono ?_; rintro e W2 ⟨rfl, hb⟩; have n0 := Aside0.mk (below_step (by repeat (first | (with_reducible first | exact HX.out | apply below_alloc | apply pw_below_drewN | apply below_drew1) | exact HX.out)) hb); clear HX x0 x1 x2 x3 x4; have HX := n0; clear n0; have x0 := eb.box HX.out 0 _ rfl; have x1 := eb.box HX.out 1 _ rfl; have x2 := eb.box HX.out 2 _ rfl; have x3 := eb.box HX.out 3 _ rfl; have x4 := eb.box HX.out 4 _ rfl; (try (have n1 := Aside0.mk (below_step (by repeat (first | (with_reducible first | exact H3.out | apply below_alloc | apply pw_below_drewN | apply below_drew1) | exact H3.out)) hb); clear H3; have H3 := n1; clear n1)); clear hb)
    | (go_at_call 13; with_reducible refine (spec_CommandBytes.calls k t u v d y [] 1 _ HSP.out).mono ?_; rintro e W3 ⟨vw, rfl, hr, hb⟩; have n0 := Aside0.mk (below_step (by repeat (first | (with_reducible first | exact HX.out | apply below_alloc | apply pw_below_drewN | apply below_drew1) | exact HX.out)) hb); clear HX x0 x1 x2 x3 x4; have HX := n0; clear n0; have x0 := eb.box HX.out 0 _ rfl; have x1 := eb.box HX.out 1 _ rfl; have x2 := eb.box HX.out 2 _ rfl; have x3 := eb.box HX.out 3 _ rfl; have x4 := eb.box HX.out 4 _ rfl; (try (have n1 := Aside0.mk (below_step (by repeat (first | (with_reducible first | exact H3.out | apply below_alloc | apply pw_below_drewN | apply below_drew1) | exact H3.out)) hb); clear H3; have H3 := n1; clear n1)); obtain ⟨Aw, cw, rfl⟩ := Kd.R_slice hr; have hrr := Kd.R_reads' hr; have HCW := Aside0.mk hrr; have H3 := Aside0.mk (Below.refl W3.heap.size W3); clear hrr hr hb)
    | (go_at_call 15; refine (eb.bad k t u v d y _ HOK.out).mono ?_; rintro e W5 ⟨rfl, hb⟩; have n0 := Aside0.mk (below_step (by repeat (first | (with_reducible first | exact HX.out | apply below_alloc | apply pw_below_drewN | apply below_drew1) | exact HX.out)) hb); clear HX x0 x1 x2 x3 x4; have HX := n0; clear n0; have x0 := eb.box HX.out 0 _ rfl; have x1 := eb.box HX.out 1 _ rfl; have x2 := eb.box HX.out 2 _ rfl; have x3 := eb.box HX.out 3 _ rfl; have x4 := eb.box HX.out 4 _ rfl; (try (have n1 := Aside0.mk (below_step (by repeat (first | (with_reducible first | exact H3.out | apply below_alloc | apply pw_below_drewN | apply below_drew1) | exact H3.out)) hb); clear H3; have H3 := n1; clear n1)); clear hb)
    | (go_at_call 16; refine (laws_eqByteS.calls k none 0 [] Aw cw [] true _ (Kd.C_of_reads (enc := Value.int .u8) (d := (0 : Int)) (h1 := fun _ => rfl) (ReadsOf.nil _ _ _)) (Nat.le_refl _) (by exact Kd.C_below HCW.out.2.2 H3.out) (Nat.zero_le _) HEQ.out).mono ?_; rintro e W6 ⟨rfl, hd⟩; have hb := Drawn0.below hd; clear hd; have n0 := Aside0.mk (below_step (by repeat (first | (with_reducible first | exact HX.out | apply below_alloc | apply pw_below_drewN | apply below_drew1) | exact HX.out)) hb); clear HX x0 x1 x2 x3 x4; have HX := n0; clear n0; have x0 := eb.box HX.out 0 _ rfl; have x1 := eb.box HX.out 1 _ rfl; have x2 := eb.box HX.out 2 _ rfl; have x3 := eb.box HX.out 3 _ rfl; have x4 := eb.box HX.out 4 _ rfl; (try (have n1 := Aside0.mk (below_step (by repeat (first | (with_reducible first | exact H3.out | apply below_alloc | apply pw_below_drewN | apply below_drew1) | exact H3.out)) hb); clear H3; have H3 := n1; clear n1)); clear hb)
    | (go_at_call 17; refine (laws_markByteS.calls k (fun _ => True) (.slice none 0 0) [] 1 1 [] _ _ (Below.refl _ _) (Kd.R_nil _ _ _ _ _) HMK.out).mono ?_; rintro e W7 ⟨rfl, hat, hb, hk⟩; clear hat hk; have n0 := Aside0.mk (below_step (by repeat (first | (with_reducible first | exact HX.out | apply below_alloc | apply pw_below_drewN | apply below_drew1) | exact HX.out)) hb); clear HX x0 x1 x2 x3 x4; have HX := n0; clear n0; have x0 := eb.box HX.out 0 _ rfl; have x1 := eb.box HX.out 1 _ rfl; have x2 := eb.box HX.out 2 _ rfl; have x3 := eb.box HX.out 3 _ rfl; have x4 := eb.box HX.out 4 _ rfl; (try (have n1 := Aside0.mk (below_step (by repeat (first | (with_reducible first | exact H3.out | apply below_alloc | apply pw_below_drewN | apply below_drew1) | exact H3.out)) hb); clear H3; have H3 := n1; clear n1)); clear hb)
    | (go_at_call 18; refine (laws_heldByteS.calls k none 0 [] 1 1 _ (Kd.C_of_reads (enc := Value.int .u8) (d := (0 : Int)) (h1 := fun _ => rfl) (ReadsOf.nil _ _ _)) (Nat.le_refl _) HHD.out).mono ?_; rintro e W8 ⟨rfl, hd⟩; have hb := Drawn0.below hd; clear hd; have n0 := Aside0.mk (below_step (by repeat (first | (with_reducible first | exact HX.out | apply below_alloc | apply pw_below_drewN | apply below_drew1) | exact HX.out)) hb); clear HX x0 x1 x2 x3 x4; have HX := n0; clear n0; have x0 := eb.box HX.out 0 _ rfl; have x1 := eb.box HX.out 1 _ rfl; have x2 := eb.box HX.out 2 _ rfl; have x3 := eb.box HX.out 3 _ rfl; have x4 := eb.box HX.out 4 _ rfl; (try (have n1 := Aside0.mk (below_step (by repeat (first | (with_reducible first | exact H3.out | apply below_alloc | apply pw_below_drewN | apply below_drew1) | exact H3.out)) hb); clear H3; have H3 := n1; clear n1)); clear hb))
  go_ret
  exact ⟨rfl, eb.up HX.out⟩
set_option maxHeartbeats 2000000 in
set_option maxRecDepth 100000 in
theorem lw.early (t u v s0 : Int) (d y : ByteArray) (w : World) (hsz : laws_szCommand.f t u v d y 1048576 = some s0) (hs0 : s0 < 0) :
    Calls Try.prog 4 #[.agg #[.int .i64 t, .int .i64 u, .int .i64 v, .string d, .string y]] w fun e w' => e = .returned (.bool true) ∧ Below w.heap.size w w' := by
  have HZ := Aside0.mk hsz
  have c0 : decide (s0 < 0) = true := decide_eq_true hs0
  clear hsz hs0
  go_enter Try.func4, Try.ntmps4
  go_wp2_with (first
    | (go_at_call 12; with_reducible refine (laws_szCommand.calls t u v d y 1048576 s0 _ HZ.out).mono ?_; rintro e W1 ⟨rfl, hb⟩; have HX := Aside0.mk hb; have x0 := eb.box hb 0 _ rfl; have x1 := eb.box hb 1 _ rfl; have x2 := eb.box hb 2 _ rfl; have x3 := eb.box hb 3 _ rfl; have x4 := eb.box hb 4 _ rfl; clear hb))
  go_ret
  exact ⟨rfl, eb.up HX.out⟩
/-- What the law's answer hangs on. -/
def laws_FnExactCommandBytes.f (k : Nat) (t u v : Int) (d y : ByteArray) : Option Bool :=
  (laws_szCommand.f t u v d y 1048576).bind fun s0 => if s0 < 0 then some true else
    (spec_CommandBytes.f k t u v d y).bind fun r => (impl_CommandOK.f k t u v d y).bind fun ok =>
      (laws_eqByteS.f k r.1 r.1).bind fun q => (laws_markByteS.f k r.1 1).bind fun b => (laws_heldByteS.f k b.2 1).bind fun m =>
        if ok = true then ((impl_Command_bytes.f k t u v d y).bind fun s => if s.size ≤ 2000000 ∧ r = (bytesOf s, 0) ∧ q = true ∧ m = b.1 ∧ 0 ≤ m then some true else none)
        else (if r = ([], 1) ∧ q = true ∧ b = (1, []) ∧ m = 1 then some true else none)
theorem laws_FnExactCommandBytes.calls (k : Nat) (a0_0 : Int) (a0_1 : Int) (a0_2 : Int) (a0_3 : ByteArray) (a0_4 : ByteArray) (r : Bool) (w : World) (h : laws_FnExactCommandBytes.f k a0_0 a0_1 a0_2 a0_3 a0_4 = some r) :
    Calls Try.prog 4 #[.agg #[.int .i64 a0_0, .int .i64 a0_1, .int .i64 a0_2, .string a0_3, .string a0_4]] w fun e w' => e = .returned (.bool r) ∧ Below w.heap.size w w' := by
  unfold laws_FnExactCommandBytes.f at h
  obtain ⟨s0, hsz, h⟩ := Option.bind_eq_some_iff.mp h
  by_cases hs : s0 < 0
  · rw [if_pos hs] at h
    obtain rfl := Option.some.inj h
    exact lw.early _ _ _ _ _ _ w hsz hs
  · rw [if_neg hs] at h
    obtain ⟨rr, hsp, h⟩ := Option.bind_eq_some_iff.mp h
    obtain ⟨ok, hok, h⟩ := Option.bind_eq_some_iff.mp h
    obtain ⟨q, heq, h⟩ := Option.bind_eq_some_iff.mp h
    obtain ⟨b, hmk, h⟩ := Option.bind_eq_some_iff.mp h
    obtain ⟨m, hhd, h⟩ := Option.bind_eq_some_iff.mp h
    cases ok with
    | true =>
      rw [if_pos rfl] at h
      obtain ⟨s, hy, h⟩ := Option.bind_eq_some_iff.mp h
      by_cases hc : s.size ≤ 2000000 ∧ rr = (bytesOf s, 0) ∧ q = true ∧ m = b.1 ∧ 0 ≤ m
      · rw [if_pos hc] at h
        obtain rfl := Option.some.inj h
        obtain ⟨h1, rfl, rfl, h4, h5⟩ := hc
        obtain ⟨b1, b2⟩ := b
        simp only at h4
        subst h4
        exact lw.good k _ _ _ s0 m _ _ s b2 w hsz (by omega) hsp hok hy h1 heq hmk hhd h5
      · rw [if_neg hc] at h
        cases h
    | false =>
      rw [if_neg (by simp)] at h
      by_cases hc : rr = ([], 1) ∧ q = true ∧ b = (1, []) ∧ m = 1
      · rw [if_pos hc] at h
        obtain rfl := Option.some.inj h
        obtain ⟨rfl, rfl, rfl, rfl⟩ := hc
        exact lw.bad k _ _ _ s0 _ _ w hsz (by omega) hsp hok heq hmk hhd
      · rw [if_neg hc] at h
        cases h
-- END law
end Go.Proofs.Ytfjpkblkdlgaeaa.PFnExactCommandBytes
