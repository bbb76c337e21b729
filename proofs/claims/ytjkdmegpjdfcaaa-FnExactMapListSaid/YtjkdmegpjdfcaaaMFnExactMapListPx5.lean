/- Written by a program (a session's own form of the print): plain functions with the answers of the Go functions, and the walks that show it. Lean checks it. -/
import Derived.Test.YtjkdmegpjdfcaaaMFnExactMapListPx0
import Derived.Test.YtjkdmegpjdfcaaaMFnExactMapListPx4
namespace Go.Proofs.Ytjkdmegpjdfcaaa.PFnExactMapList
open Go.RowKit Go.Proofs.YtjkdmegpjdfcaaaW.PrintWords Go.Proofs.YtjkdmegpjdfcaaaW.PrintLast Go.Proofs.YtjkdmegpjdfcaaaW.PrintMore
attribute [local go_sem] max2_int min2_int max_two min_two max_three min_three max_four min_four   -- for this text's walks alone
set_option linter.unusedVariables false
set_option linter.unusedSimpArgs false

/-! ### impl_mapPairs: function 23: by hand -/
-- IMPORT U
-- RAWIMPORT Derived.Deep.RegionHeld3
/-- Whether one of the pairs is so. -/
def impl_mapPairs.any (P : S51 → Option Bool) : List S51 → Option Bool
 | [] => some false
 | x :: r => (P x).bind fun b => if b = true then some true else impl_mapPairs.any P r
def impl_mapPairs.p1 (at_ side : Int) (x : S51) : Option Bool := (impl_bit.f x.f2 at_).bind fun b => some (b != side)
def impl_mapPairs.p2 (k : Nat) (h : ByteArray) (at_ : Int) (x : S51) : Option Bool := (impl_sameAhead.f k x.f2 h at_).bind fun b => some (!b)
set_option maxHeartbeats 1000000 in
theorem impl_mapPairs.lit1 (x : S51) (k0 v0 : ByteArray) (at_ side : Int) (s0 : Value) (gb gs : Nat) (r : Bool) (w : World) (hb : w.heap[gb]? = some (.cells #[.string k0, .string v0, .int .i64 at_, s0] 29 (0, 0))) (hs : w.heap[gs]? = some (.cells #[.int .i64 side] 3 (0, 0))) (h : impl_mapPairs.p1 at_ side x = some r) :
  Calls Try.prog 47 #[.agg #[.string x.f0, .string x.f1, .string x.f2], .pointer (some ⟨gb, 0, none⟩), .pointer (some ⟨gs, 0, none⟩)] w fun e w' => e = .returned (.bool r) ∧ Below w.heap.size w w' := by
 have hu51 := Try.underlying51
 have hu29 := Try.underlying29
 unfold impl_mapPairs.p1 at h
 replace h := Option.bind_eq_some_iff.mp h
 obtain ⟨b, h1, h2⟩ := h
 obtain rfl := Option.some.inj h2
 have H1 := Aside0.mk h1
 have HBB := Aside0.mk hb
 have HSS := Aside0.mk hs
 clear h1 h2 hb hs
 go_enter Try.func47, Try.ntmps47
 go_wp2_with (first | ((with_reducible refine gate_dst (N := 3) rfl ?_); refine box_event ?hg (N := 3) ?hd (cs := #[.string x.f0, .string x.f1, .string x.f2]) (t := 51) ?hr ?_; (case hd => rfl); (case hg => rfl); (case hr => first | (go_simp; done) | (go_simp; rfl)); intro g3 hg w1 hbox hb1; have hx2 : w1.cell? ⟨g3, 2, none⟩ = some (.string x.f2) := (blk_cell hbox 2).trans rfl; have hc2 : w1.cell? ⟨gb, 2, none⟩ = some (.int .i64 at_) := (blk_cell (blk_below HBB.out hb1) 2).trans rfl; have hs0 : w1.cell? ⟨gs, 0, none⟩ = some (.int .i64 side) := (blk_cell (blk_below HSS.out hb1) 0).trans rfl; have HB1 := Aside0.mk hb1; clear hbox hb1 hg))
 go_quiet ((go_at_call 48; exact Calls.quiet_of ((impl_bit.calls _ _ _ _ H1.out).mono fun e w' hh => ⟨hh.1, hh.2.out⟩)))
 go_wp2
 go_ret
 exact ⟨rfl, by repeat (first | exact HB1.out | apply below_alloc | apply pw_below_drewN | apply below_drew1)⟩
set_option maxHeartbeats 1000000 in
theorem impl_mapPairs.lit2 (k : Nat) (x : S51) (k0 v0 : ByteArray) (at_ : Int) (s0 : Value) (gb go : Nat) (out : List S51) (ad : Addr) (c : Nat) (r : Bool) (w : World) (hb : w.heap[gb]? = some (.cells #[.string k0, .string v0, .int .i64 at_, s0] 29 (0, 0))) (hs : w.heap[go]? = some (.cells #[.slice (some ad) out.length c] 44 (0, 0))) (hr : Kd.C k51 w (some ad) out.length out) (hp : 0 < out.length) (h : impl_mapPairs.p2 k (rd_T51 out 0).f2 at_ x = some r) :
  Calls Try.prog 49 #[.agg #[.string x.f0, .string x.f1, .string x.f2], .pointer (some ⟨go, 0, none⟩), .pointer (some ⟨gb, 0, none⟩)] w fun e w' => e = .returned (.bool r) ∧ Below w.heap.size w w' := by
 have hu51 := Try.underlying51
 have hu29 := Try.underlying29
 unfold impl_mapPairs.p2 at h
 replace h := Option.bind_eq_some_iff.mp h
 obtain ⟨b, h1, h2⟩ := h
 obtain rfl := Option.some.inj h2
 obtain ⟨ad', e, hx0, hx1, hx2⟩ := at_T51 hr 0 (by omega) (by omega)
 cases e
 rw [show ((0 : Int)).toNat = 0 from rfl, show 0 * 3 = 0 from rfl, Addr.add_zero'] at hx2
 have H1 := Aside0.mk h1
 have HBB := Aside0.mk hb
 have HSS := Aside0.mk hs
 have HX2 := Aside0.mk hx2
 have hp1 : (0 : Int) < (out.length : Int) := by omega
 have hp2 : decide (0 < out.length) = true := decide_eq_true hp
 clear h1 h2 hb hs hr hx0 hx1 hx2
 go_enter Try.func49, Try.ntmps49
 go_wp2_with (first | ((with_reducible refine gate_dst (N := 3) rfl ?_); refine box_event ?hg (N := 3) ?hd (cs := #[.string x.f0, .string x.f1, .string x.f2]) (t := 51) ?hr ?_; (case hd => rfl); (case hg => rfl); (case hr => first | (go_simp; done) | (go_simp; rfl)); intro g3 hg w1 hbox hb1; have hx2 : w1.cell? ⟨g3, 2, none⟩ = some (.string x.f2) := (blk_cell hbox 2).trans rfl; have hc2 : w1.cell? ⟨gb, 2, none⟩ = some (.int .i64 at_) := (blk_cell (blk_below HBB.out hb1) 2).trans rfl; have hs0 : w1.cell? ⟨go, 0, none⟩ = some (.slice (some ad) out.length c) := (blk_cell (blk_below HSS.out hb1) 0).trans rfl; have he2 := (hb1.cell (World.block_lt_of_cell? _ _ HX2.out)).trans HX2.out; have HB1 := Aside0.mk hb1; clear hbox hb1 hg))
 go_quiet ((go_at_call 50; exact Calls.quiet_of ((impl_sameAhead.calls _ _ _ _ _ _ H1.out).mono fun e w' hh => ⟨hh.1, hh.2.out⟩)))
 go_wp2
 go_ret
 exact ⟨rfl, by repeat (first | exact HB1.out | apply below_alloc | apply pw_below_drewN | apply below_drew1)⟩
set_option maxHeartbeats 2000000 in
set_option maxRecDepth 100000 in
theorem impl_mapPairs.idx47 (P : S51 → Option Bool) (pa pb : Addr) (A : Option Addr) (c : Nat) (l : List S51) (r : Bool) (w : World) (hr : Kd.C k51 w A l.length l) (hc : l.length ≤ c) (hl : ∀ W x b, Below w.heap.size w W → x ∈ l → P x = some b → Calls Try.prog 47 #[.agg #[.string x.f0, .string x.f1, .string x.f2], .pointer (some pa), .pointer (some pb)] W fun e w' => e = .returned (.bool b) ∧ Below W.heap.size W w') (h : impl_mapPairs.any P l = some r) :
  Calls Try.prog 62 #[.slice A l.length c, .func (.func 47) #[] #[.pointer (some pa), .pointer (some pb)]] w fun e w' => (∃ i : Int, e = .returned (.int .i64 i) ∧ decide (0 ≤ i) = r) ∧ Below w.heap.size w w' := by
 have hm : l.length ≤ 9223372036854775807 := hr.2.1
 have hu51 := Try.underlying51
 have HR := Aside0.mk hr
 have HC := Aside0.mk hc
 have HL : Aside0 (∀ W x b, Below w.heap.size w W → x ∈ l → P x = some b → Calls Try.prog 47 #[.agg #[.string x.f0, .string x.f1, .string x.f2], .pointer (some pa), .pointer (some pb)] W fun e w' => e = .returned (.bool b) ∧ Below W.heap.size W w') := ⟨hl⟩
 have HA := Aside0.mk h
 have HB := Aside0.mk (Below.refl w.heap.size w)
 clear hr hc hl h
 go_enter Try.func62, Try.ntmps62
 go_wp2
 go_loopw [8] (fun v8 w' => ∃ i : Nat, i ≤ l.length ∧ v8 = .int .i64 i ∧ Aside0 (impl_mapPairs.any P (l.drop i) = some r) ∧ Aside0 (Below w.heap.size w w')) (fun v8 _ => l.length - (intOf v8).toNat)
 case atStart => exact ⟨0, Nat.zero_le _, rfl, ⟨by rw [List.drop_zero]; exact HA.out⟩, HB⟩
 case round =>
  clear HA HB
  obtain ⟨i, hi, rfl, HA, HB⟩ := hrel
  by_cases hlt : i < l.length
  ·have p1 : (0 : Int) ≤ (i : Int) := by omega
   have q1 : (i : Int) < (l.length : Int) := by omega
   obtain ⟨ad, e1, hx0, hx1, hx2⟩ := at_T51 HR.out (i : Int) p1 q1
   cases e1
   rw [Int.toNat_natCast] at hx0 hx1 hx2
   replace hx0 := (HB.out.cell (World.block_lt_of_cell? w _ hx0)).trans hx0
   replace hx1 := (HB.out.cell (World.block_lt_of_cell? w _ hx1)).trans hx1
   replace hx2 := (HB.out.cell (World.block_lt_of_cell? w _ hx2)).trans hx2
   have hget : rd_T51 l (i : Int) = l[i] := by
    unfold rd_T51
    rw [Int.toNat_natCast, List.getD_eq_getElem?_getD, List.getElem?_eq_getElem hlt, Option.getD_some]
   have hA := HA.out
   rw [List.drop_eq_getElem_cons hlt, ← hget] at hA
   simp only [impl_mapPairs.any] at hA
   obtain ⟨b, hb, hA⟩ := Option.bind_eq_some_iff.mp hA
   have HM : Aside0 (rd_T51 l (i : Int) ∈ l) := ⟨by rw [hget]; exact List.getElem_mem hlt⟩
   have HP := Aside0.mk hb
   have HN := Aside0.mk hA
   have HLT := Aside0.mk hlt
   clear hb hA hget hlt
   cases b with
   | false =>
    go_wp2_with (go_at_call 47; refine (HL.out _ (rd_T51 l (i : Int)) false HB.out HM.out HP.out).mono ?_; rintro e w' ⟨rfl, hb⟩; have HB2 := Aside0.mk (below_step HB.out hb); clear hb)
    go_roundw
    case rel => exact ⟨i + 1, by have := HLT.out; omega, by go_num, ⟨by have h := HN.out; rw [if_neg (by simp)] at h; exact h⟩, HB2⟩
    case measure => have := HLT.out; simp [intOf]; omega
   | true =>
    go_wp2_with (go_at_call 47; refine (HL.out _ (rd_T51 l (i : Int)) true HB.out HM.out HP.out).mono ?_; rintro e w' ⟨rfl, hb⟩; have HB2 := Aside0.mk (below_step HB.out hb); clear hb)
    go_ret
    exact ⟨⟨_, rfl, by have h := HN.out; rw [if_pos (by trivial)] at h; rw [← Option.some.inj h]; exact decide_eq_true (by omega)⟩, HB2.out⟩
  ·have hA := HA.out
   rw [List.drop_eq_nil_of_le (by omega)] at hA
   have HN := Aside0.mk (show some false = some r from hA)
   clear hA HA
   go_wp2
   go_ret
   exact ⟨⟨_, rfl, by rw [← Option.some.inj HN.out]; rfl⟩, HB.out⟩
set_option maxHeartbeats 1000000 in
theorem impl_mapPairs.has47 (P : S51 → Option Bool) (pa pb : Addr) (A : Option Addr) (c : Nat) (l : List S51) (r : Bool) (w : World) (hr : Kd.C k51 w A l.length l) (hc : l.length ≤ c) (hl : ∀ W x b, Below w.heap.size w W → x ∈ l → P x = some b → Calls Try.prog 47 #[.agg #[.string x.f0, .string x.f1, .string x.f2], .pointer (some pa), .pointer (some pb)] W fun e w' => e = .returned (.bool b) ∧ Below W.heap.size W w') (h : impl_mapPairs.any P l = some r) :
  Calls Try.prog 46 #[.slice A l.length c, .func (.func 47) #[] #[.pointer (some pa), .pointer (some pb)]] w fun e w' => e = .returned (.bool r) ∧ Below w.heap.size w w' := by
 have HI : Aside0 (Calls Try.prog 62 #[.slice A l.length c, .func (.func 47) #[] #[.pointer (some pa), .pointer (some pb)]] w fun e w' => (∃ i : Int, e = .returned (.int .i64 i) ∧ decide (0 ≤ i) = r) ∧ Below w.heap.size w w') := ⟨impl_mapPairs.idx47 P pa pb A c l r w hr hc hl h⟩
 clear hr hc hl h
 go_enter Try.func46, Try.ntmps46
 go_wp2_with (go_at_call 62; refine HI.out.mono ?_; rintro e w' ⟨⟨i, rfl, hi⟩, hb⟩; have HJ := Aside0.mk hi; have HB := Aside0.mk hb; clear hi hb)
 go_ret
 exact ⟨by rw [← HJ.out]; rfl, HB.out⟩
set_option maxHeartbeats 2000000 in
set_option maxRecDepth 100000 in
theorem impl_mapPairs.idx49 (P : S51 → Option Bool) (pa pb : Addr) (A : Option Addr) (c : Nat) (l : List S51) (r : Bool) (w : World) (hr : Kd.C k51 w A l.length l) (hc : l.length ≤ c) (hl : ∀ W x b, Below w.heap.size w W → x ∈ l → P x = some b → Calls Try.prog 49 #[.agg #[.string x.f0, .string x.f1, .string x.f2], .pointer (some pa), .pointer (some pb)] W fun e w' => e = .returned (.bool b) ∧ Below W.heap.size W w') (h : impl_mapPairs.any P l = some r) :
  Calls Try.prog 62 #[.slice A l.length c, .func (.func 49) #[] #[.pointer (some pa), .pointer (some pb)]] w fun e w' => (∃ i : Int, e = .returned (.int .i64 i) ∧ decide (0 ≤ i) = r) ∧ Below w.heap.size w w' := by
 have hm : l.length ≤ 9223372036854775807 := hr.2.1
 have hu51 := Try.underlying51
 have HR := Aside0.mk hr
 have HC := Aside0.mk hc
 have HL : Aside0 (∀ W x b, Below w.heap.size w W → x ∈ l → P x = some b → Calls Try.prog 49 #[.agg #[.string x.f0, .string x.f1, .string x.f2], .pointer (some pa), .pointer (some pb)] W fun e w' => e = .returned (.bool b) ∧ Below W.heap.size W w') := ⟨hl⟩
 have HA := Aside0.mk h
 have HB := Aside0.mk (Below.refl w.heap.size w)
 clear hr hc hl h
 go_enter Try.func62, Try.ntmps62
 go_wp2
 go_loopw [8] (fun v8 w' => ∃ i : Nat, i ≤ l.length ∧ v8 = .int .i64 i ∧ Aside0 (impl_mapPairs.any P (l.drop i) = some r) ∧ Aside0 (Below w.heap.size w w')) (fun v8 _ => l.length - (intOf v8).toNat)
 case atStart => exact ⟨0, Nat.zero_le _, rfl, ⟨by rw [List.drop_zero]; exact HA.out⟩, HB⟩
 case round =>
  clear HA HB
  obtain ⟨i, hi, rfl, HA, HB⟩ := hrel
  by_cases hlt : i < l.length
  ·have p1 : (0 : Int) ≤ (i : Int) := by omega
   have q1 : (i : Int) < (l.length : Int) := by omega
   obtain ⟨ad, e1, hx0, hx1, hx2⟩ := at_T51 HR.out (i : Int) p1 q1
   cases e1
   rw [Int.toNat_natCast] at hx0 hx1 hx2
   replace hx0 := (HB.out.cell (World.block_lt_of_cell? w _ hx0)).trans hx0
   replace hx1 := (HB.out.cell (World.block_lt_of_cell? w _ hx1)).trans hx1
   replace hx2 := (HB.out.cell (World.block_lt_of_cell? w _ hx2)).trans hx2
   have hget : rd_T51 l (i : Int) = l[i] := by
    unfold rd_T51
    rw [Int.toNat_natCast, List.getD_eq_getElem?_getD, List.getElem?_eq_getElem hlt, Option.getD_some]
   have hA := HA.out
   rw [List.drop_eq_getElem_cons hlt, ← hget] at hA
   simp only [impl_mapPairs.any] at hA
   obtain ⟨b, hb, hA⟩ := Option.bind_eq_some_iff.mp hA
   have HM : Aside0 (rd_T51 l (i : Int) ∈ l) := ⟨by rw [hget]; exact List.getElem_mem hlt⟩
   have HP := Aside0.mk hb
   have HN := Aside0.mk hA
   have HLT := Aside0.mk hlt
   clear hb hA hget hlt
   cases b with
   | false =>
    go_wp2_with (go_at_call 49; refine (HL.out _ (rd_T51 l (i : Int)) false HB.out HM.out HP.out).mono ?_; rintro e w' ⟨rfl, hb⟩; have HB2 := Aside0.mk (below_step HB.out hb); clear hb)
    go_roundw
    case rel => exact ⟨i + 1, by have := HLT.out; omega, by go_num, ⟨by have h := HN.out; rw [if_neg (by simp)] at h; exact h⟩, HB2⟩
    case measure => have := HLT.out; simp [intOf]; omega
   | true =>
    go_wp2_with (go_at_call 49; refine (HL.out _ (rd_T51 l (i : Int)) true HB.out HM.out HP.out).mono ?_; rintro e w' ⟨rfl, hb⟩; have HB2 := Aside0.mk (below_step HB.out hb); clear hb)
    go_ret
    exact ⟨⟨_, rfl, by have h := HN.out; rw [if_pos (by trivial)] at h; rw [← Option.some.inj h]; exact decide_eq_true (by omega)⟩, HB2.out⟩
  ·have hA := HA.out
   rw [List.drop_eq_nil_of_le (by omega)] at hA
   have HN := Aside0.mk (show some false = some r from hA)
   clear hA HA
   go_wp2
   go_ret
   exact ⟨⟨_, rfl, by rw [← Option.some.inj HN.out]; rfl⟩, HB.out⟩
set_option maxHeartbeats 1000000 in
theorem impl_mapPairs.has49 (P : S51 → Option Bool) (pa pb : Addr) (A : Option Addr) (c : Nat) (l : List S51) (r : Bool) (w : World) (hr : Kd.C k51 w A l.length l) (hc : l.length ≤ c) (hl : ∀ W x b, Below w.heap.size w W → x ∈ l → P x = some b → Calls Try.prog 49 #[.agg #[.string x.f0, .string x.f1, .string x.f2], .pointer (some pa), .pointer (some pb)] W fun e w' => e = .returned (.bool b) ∧ Below W.heap.size W w') (h : impl_mapPairs.any P l = some r) :
  Calls Try.prog 46 #[.slice A l.length c, .func (.func 49) #[] #[.pointer (some pa), .pointer (some pb)]] w fun e w' => e = .returned (.bool r) ∧ Below w.heap.size w w' := by
 have HI : Aside0 (Calls Try.prog 62 #[.slice A l.length c, .func (.func 49) #[] #[.pointer (some pa), .pointer (some pb)]] w fun e w' => (∃ i : Int, e = .returned (.int .i64 i) ∧ decide (0 ≤ i) = r) ∧ Below w.heap.size w w') := ⟨impl_mapPairs.idx49 P pa pb A c l r w hr hc hl h⟩
 clear hr hc hl h
 go_enter Try.func46, Try.ntmps46
 go_wp2_with (go_at_call 62; refine HI.out.mono ?_; rintro e w' ⟨⟨i, rfl, hi⟩, hb⟩; have HJ := Aside0.mk hi; have HB := Aside0.mk hb; clear hi hb)
 go_ret
 exact ⟨by rw [← HJ.out]; rfl, HB.out⟩
theorem impl_mapPairs.any_mono {P Q : S51 → Option Bool} (h : ∀ x, LeO (P x) (Q x)) : ∀ l, LeO (impl_mapPairs.any P l) (impl_mapPairs.any Q l)
 | [] => LeO.refl _
 | x :: l => by
  unfold impl_mapPairs.any
  exact LeO.bind (h x) (fun b => LeO.ite (LeO.refl _) (impl_mapPairs.any_mono h l))
theorem impl_mapPairs.p2_mono (k : Nat) (h : ByteArray) (at_ : Int) (x : S51) : LeO (impl_mapPairs.p2 k h at_ x) (impl_mapPairs.p2 (k + 1) h at_ x) := by
 unfold impl_mapPairs.p2
 exact LeO.bind (impl_sameAhead.mono _ _ _ _) (fun _ => LeO.refl _)
/-- The pairs of a row of branches, behind those at hand. -/
def impl_mapPairs.go (P : ByteArray → ByteArray → Int → List S29 → Int → Int → Option (List S51 × Bool × Int)) (k : Nat) (at_ : Int) : List S29 → Nat → Int → List S51 → Option (List S51 × Bool × Int)
 | [], _, room, out => (impl_mapPairs.any (impl_mapPairs.p2 k (rd_T51 out 0).f2 at_) out).bind fun b => some (out, !b, room)
 | x :: r, i, room, out => (P x.f0 x.f1 x.f2 x.f3 at_ room).bind fun t => if t.2.1 = true then ((impl_mapPairs.any (impl_mapPairs.p1 at_ (i : Int)) t.1).bind fun b => if b = true then some ([], false, t.2.2) else if (out.length + t.1.length) * 48 ≤ 140737488355328 then impl_mapPairs.go P k at_ r (i + 1) t.2.2 (out ++ t.1) else none) else some ([], false, t.2.2)
theorem impl_mapPairs.go_mono {P Q : ByteArray → ByteArray → Int → List S29 → Int → Int → Option (List S51 × Bool × Int)} (h : ∀ x0 x1 x2 l a r, LeO (P x0 x1 x2 l a r) (Q x0 x1 x2 l a r)) (k : Nat) (at_ : Int) : ∀ l i room out, LeO (impl_mapPairs.go P k at_ l i room out) (impl_mapPairs.go Q (k + 1) at_ l i room out)
 | [], i, room, out => by
  unfold impl_mapPairs.go
  exact LeO.bind (impl_mapPairs.any_mono (impl_mapPairs.p2_mono _ _ _) _) (fun _ => LeO.refl _)
 | x :: l, i, room, out => by
  unfold impl_mapPairs.go
  exact LeO.bind (h _ _ _ _ _ _) (fun t => LeO.ite (LeO.bind (LeO.refl _) (fun b => LeO.ite (LeO.refl _) (LeO.ite (impl_mapPairs.go_mono h k at_ l _ _ _) (LeO.none _)))) (LeO.refl _))
def impl_mapPairs.pairs : Nat → ByteArray → ByteArray → Int → List S29 → Int → Int → Option (List S51 × Bool × Int)
 | 0, _, _, _, _, _, _ => none
 | k + 1, x0, x1, x2, l, above, room => (impl_Branch_isLeaf.f x0 x1 x2 l).bind fun lf => if lf = true then ((impl_hash.f x0).bind fun hh => some ([⟨x0, x1, hh⟩], decide (wrap64 (room - 1) ≥ 0), wrap64 (room - 1))) else ((impl_Branch_isFork.f x0 x1 x2 l).bind fun fk => if fk = true then (if x2 ≤ above then some ([], false, room) else impl_mapPairs.go (impl_mapPairs.pairs k) k x2 l 0 room []) else some ([], false, room))
theorem impl_mapPairs.pairs_mono : ∀ k x0 x1 x2 l a r, LeO (impl_mapPairs.pairs k x0 x1 x2 l a r) (impl_mapPairs.pairs (k + 1) x0 x1 x2 l a r)
 | 0, _, _, _, _, _, _ => LeO.none _
 | k + 1, x0, x1, x2, l, a, r => by
  rw [impl_mapPairs.pairs, impl_mapPairs.pairs]
  exact LeO.bind (LeO.refl _) (fun lf => LeO.ite (LeO.refl _) (LeO.bind (LeO.refl _) (fun fk => LeO.ite (LeO.ite (LeO.refl _) (impl_mapPairs.go_mono (impl_mapPairs.pairs_mono k) k _ _ _ _ _)) (LeO.refl _))))
def impl_mapPairs.f (k : Nat) (a0_0 : ByteArray) (a0_1 : ByteArray) (a0_2 : Int) (l0_3 : List (S29)) : Option ((List (S51)) × Bool) := (impl_Branch_isEmpty.f a0_0 a0_1 a0_2 l0_3).bind fun e => if e = true then some ([], true) else ((impl_mapPairs.pairs k a0_0 a0_1 a0_2 l0_3 (-1) 40).bind fun t => some (t.1, t.2.1))
theorem impl_mapPairs.mono : ∀ a0_0 a0_1 a0_2 l0_3 k, LeO (impl_mapPairs.f k a0_0 a0_1 a0_2 l0_3) (impl_mapPairs.f (k + 1) a0_0 a0_1 a0_2 l0_3) := by
 intro x0 x1 x2 l k
 unfold impl_mapPairs.f
 exact LeO.bind (LeO.refl _) (fun _ => LeO.ite (LeO.refl _) (LeO.bind (impl_mapPairs.pairs_mono _ _ _ _ _ _ _) (fun _ => LeO.refl _)))
/-- A row of one, made. -/
theorem impl_mapPairs.one {W : World} {base : Nat} (hb : base ≤ W.heap.size) (a b c : ByteArray) : Kd.R k51 51 (W.alloc (.cells #[.string a, .string b, .string c] 51 (0, 0))) base (fun _ => True) (.slice (some ⟨W.heap.size, 0, none⟩) 1 1) [(⟨a, b, c⟩ : S51)] := by
 refine ⟨fun _ _ => trivial, [.string a, .string b, .string c], ?_, ?_⟩
 ·have h2 : (W.alloc (.cells #[.string a, .string b, .string c] 51 (0, 0))).ownsRow base 51 3 (.slice (some ⟨W.heap.size, 0, none⟩) 1 1) 1 [.string a, .string b, .string c] := by simpa using World.ownsRow_lit (base := base) (e := 51) (size := 3) W #[.string a, .string b, .string c] 1 hb (by simp [maxLen]) (by simp)
  exact h2
 ·refine ⟨rfl, fun j p hj => ?_⟩
  cases j with
  | zero =>
   obtain rfl := Option.some.inj hj
   exact k51_mkM _ _ _ _
  | succ j => simp at hj
theorem impl_mapPairs.hb {p q r b : Prop} (h : p ∧ q ∧ r ∧ Aside0 b) : b := h.2.2.2.out
theorem impl_mapPairs.hb2 {p b : Prop} (h : p ∧ Aside0 b) : b := h.2.out
theorem impl_mapPairs.keep_lo {w w8 w9 : World} {g : Nat} (h : KeepBut w w8 g none) (hb : Below w.heap.size w8 w9) : KeepBut w w9 g none := ⟨Nat.le_trans h.1 hb.size, fun i hi hg hr => (hb.block i hi).trans (h.2 i hi hg hr)⟩
theorem impl_mapPairs.lit3 (k : Nat) (x : S51) (k0 v0 : ByteArray) (at_ : Int) (s0 : Value) (gb go : Nat) (out : List S51) (A : Option Addr) (c : Nat) (r : Bool) (w : World) (hb : w.heap[gb]? = some (.cells #[.string k0, .string v0, .int .i64 at_, s0] 29 (0, 0))) (hs : w.heap[go]? = some (.cells #[.slice A out.length c] 44 (0, 0))) (hr : Kd.C k51 w A out.length out) (hx : x ∈ out) (h : impl_mapPairs.p2 k (rd_T51 out 0).f2 at_ x = some r) :
  Calls Try.prog 49 #[.agg #[.string x.f0, .string x.f1, .string x.f2], .pointer (some ⟨go, 0, none⟩), .pointer (some ⟨gb, 0, none⟩)] w fun e w' => e = .returned (.bool r) ∧ Below w.heap.size w w' := by
 have hp : 0 < out.length := List.length_pos_of_mem hx
 obtain ⟨ad, rfl, _⟩ := hr.2.2 hp
 exact impl_mapPairs.lit2 k x k0 v0 at_ s0 gb go out ad c r w hb hs hr hp h
/-- What the call of (Branch).pairs brings about. -/
def impl_mapPairs.Con (k : Nat) : Prop := ∀ (x0 x1 : ByteArray) (x2 : Int) (A : Option Addr) (c : Nat) (l : List S29) (above room : Int) (gr : Nat) (r1 : List S51) (r2 : Bool) (r3 : Int) (w0 w : World), Kd.C k29 w0 A l.length l → l.length ≤ c → Below w0.heap.size w0 w → w0.heap.size ≤ gr → w.heap[gr]? = some (.cells #[.int .i64 room] 3 (0, 0)) → impl_mapPairs.pairs k x0 x1 x2 l above room = some (r1, r2, r3) →
 Calls Try.prog 37 #[.agg #[.string x0, .string x1, .int .i64 x2, .slice A l.length c], .int .i64 above, .pointer (some ⟨gr, 0, none⟩)] w fun e w' => (∃ v, e = .returned (.tuple #[v, .bool r2]) ∧ Kd.R k51 51 w' w.heap.size (fun k_ => k_ ≠ gr) v r1) ∧ KeepBut w w' gr none ∧ w'.heap[gr]? = some (.cells #[.int .i64 r3] 3 (0, 0)) ∧ Below w0.heap.size w0 w'
set_option maxHeartbeats 4000000 in
set_option maxRecDepth 100000 in
theorem impl_mapPairs.leaf (x0 x1 : ByteArray) (x2 : Int) (A : Option Addr) (c : Nat) (l : List S29) (above room : Int) (gr : Nat) (hh : ByteArray) (w0 w : World) (hr : Kd.C k29 w0 A l.length l) (hc : l.length ≤ c) (hB : Below w0.heap.size w0 w) (hg : w0.heap.size ≤ gr) (hR : w.heap[gr]? = some (.cells #[.int .i64 room] 3 (0, 0))) (hl : impl_Branch_isLeaf.f x0 x1 x2 l = some true) (ha : impl_hash.f x0 = some hh) :
  Calls Try.prog 37 #[.agg #[.string x0, .string x1, .int .i64 x2, .slice A l.length c], .int .i64 above, .pointer (some ⟨gr, 0, none⟩)] w fun e w' => (∃ v, e = .returned (.tuple #[v, .bool (decide (wrap64 (room - 1) ≥ 0))]) ∧ Kd.R k51 51 w' w.heap.size (fun k_ => k_ ≠ gr) v [(⟨x0, x1, hh⟩ : S51)]) ∧ KeepBut w w' gr none ∧ w'.heap[gr]? = some (.cells #[.int .i64 (wrap64 (room - 1))] 3 (0, 0)) ∧ Below w0.heap.size w0 w' := by
 have hu29 := Try.underlying29
 have hu44 := Try.underlying44
 have hu51 := Try.underlying51
 have HR := Aside0.mk hr
 have HC := Aside0.mk hc
 have HB0 := Aside0.mk hB
 have HG := Aside0.mk hg
 have HRM := Aside0.mk hR
 have HL := Aside0.mk hl
 have HA := Aside0.mk ha
 clear hr hc hB hg hR hl ha
 go_enter Try.func37, Try.ntmps37
 go_upto_if 14 with (first
  | ((with_reducible refine gate_dst (N := 3) rfl ?_); refine box_event ?hg (N := 3) ?hd (cs := #[.string x0, .string x1, .int .i64 x2, .slice A l.length c]) (t := 29) ?hr ?_; (case hd => rfl); (case hg => rfl); (case hr => first | (go_simp; done) | (go_simp; rfl)); intro gb hgb wb hbox hb; have HBX := Aside0.mk hbox; have HB1 := Aside0.mk hb; have HGB := Aside0.mk hgb; have hz0 : wb.cell? ⟨gb, 0, none⟩ = some (.string x0) := (blk_cell HBX.out 0).trans rfl; have hz1 : wb.cell? ⟨gb, 1, none⟩ = some (.string x1) := (blk_cell HBX.out 1).trans rfl; have hz2 : wb.cell? ⟨gb, 2, none⟩ = some (.int .i64 x2) := (blk_cell HBX.out 2).trans rfl; have hz3 : wb.cell? ⟨gb, 3, none⟩ = some (.slice A l.length c) := (blk_cell HBX.out 3).trans rfl; clear hb hbox hgb)
  | (go_at_call 44; refine (impl_Branch_isLeaf.calls x0 x1 x2 A c l true _ ?s1 HC.out HL.out).mono ?_; (case s1 => exact Kd.C_below HR.out (below_step HB0.out HB1.out)); rintro e w2 ⟨rfl, hb2⟩; have HB2 := Aside0.mk hb2; clear hb2 hz0 hz1 hz2 hz3))
 have HBX2 := Aside0.mk (blk_below HBX.out HB2.out)
 have HRM2 := Aside0.mk (blk_below (blk_below HRM.out HB1.out) HB2.out)
 have hne : gb ≠ gr := by have h1 := HGB.out; have h2 := blk_lt HRM.out; omega
 have HNE := Aside0.mk hne
 clear hne
 have hc0 : w2.cell? ⟨gr, 0, none⟩ = some (.int .i64 room) := (blk_cell HRM2.out 0).trans rfl
 have hf0 : w2.frozen? ⟨gr, 0, none⟩ = false := blk_frozen HRM2.out 0
 go_upto_region 3 with (fail)
 obtain ⟨W2, hW2⟩ : ∃ W2, W2 = w2.setCell ⟨gr, 0, none⟩ (.int .i64 (wrap64 (room - 1))) := ⟨_, rfl⟩
 rw [← hW2]
 have HW2 := Aside0.mk hW2
 clear hW2 hc0 hf0
 have HBX3 : Aside0 (W2.heap[gb]? = some (.cells #[.string x0, .string x1, .int .i64 x2, .slice A l.length c] 29 (0, 0))) := ⟨by rw [HW2.out]; exact blk_far HBX2.out HNE.out _⟩
 have HRM3 : Aside0 (W2.heap[gr]? = some (.cells #[.int .i64 (wrap64 (room - 1))] 3 (0, 0))) := ⟨by rw [HW2.out]; exact blk_put HRM2.out 0 _ rfl⟩
 have C0 : Aside0 (W2.cell? ⟨gb, 0, none⟩ = some (.string x0)) := ⟨(blk_cell HBX3.out 0).trans rfl⟩
 have C1 : Aside0 (W2.cell? ⟨gb, 1, none⟩ = some (.string x1)) := ⟨(blk_cell HBX3.out 1).trans rfl⟩
 have C2 : Aside0 (W2.cell? ⟨gr, 0, none⟩ = some (.int .i64 (wrap64 (room - 1)))) := ⟨(blk_cell HRM3.out 0).trans rfl⟩
 have hu3 := Try.underlying3
 have HS : ∀ W, Below W2.heap.size W2 W → (W.cell? ⟨gb, 0, none⟩ = some (.string x0) ∧ W.cell? ⟨gb, 1, none⟩ = some (.string x1) ∧ W.cell? ⟨gr, 0, none⟩ = some (.int .i64 (wrap64 (room - 1))) ∧ Aside0 (Below W2.heap.size W2 W)) := fun W hb => ⟨(hb.cell (World.block_lt_of_cell? _ _ C0.out)).trans C0.out, (hb.cell (World.block_lt_of_cell? _ _ C1.out)).trans C1.out, (hb.cell (World.block_lt_of_cell? _ _ C2.out)).trans C2.out, ⟨hb⟩⟩
 have HS' := Aside0.mk HS
 clear HS
 go_region_held3 (fun W => W.cell? ⟨gb, 0, none⟩ = some (.string x0) ∧ W.cell? ⟨gb, 1, none⟩ = some (.string x1) ∧ W.cell? ⟨gr, 0, none⟩ = some (.int .i64 (wrap64 (room - 1))) ∧ Aside0 (Below W2.heap.size W2 W)) ((refine HS'.out _ ?_; first | exact below_drew1 (Below.refl _ _) | (refine below_step ?_ HBH.out; exact impl_mapPairs.hb (by assumption)) | (refine below_alloc ?_ _; exact impl_mapPairs.hb (by assumption)))) (first | (go_at_call 41; refine (impl_hash.calls _ _ _ HA.out).mono ?_; rintro e w5 ⟨rfl, hbh⟩; have HBH := Aside0.mk hbh; clear hbh))
 go_wp2
 go_ret2
 have B2 : Below w.heap.size w w2 := below_step HB1.out HB2.out
 have K2 : KeepBut w W2 gr none := by rw [HW2.out]; exact (KeepBut.of_below B2 gr none).set_ 0 _
 have B02 : Below w0.heap.size w0 W2 := by rw [HW2.out]; exact (below_step HB0.out B2).setCell HG.out _
 have HLT := blk_lt HRM.out
 refine ⟨⟨_, rfl, Kd.R_mono (Kd.R_bound (impl_mapPairs.one (Nat.le_trans (keep_size K2) (below_size (below_step (below_drew1 (Below.refl _ _)) HBH.out))) x0 x1 hh)) (fun k_ hk e => by have := hk.2.1; omega)⟩, K2.trans (KeepBut.of_below (impl_mapPairs.hb (by assumption)) gr none) (.inl rfl), blk_below HRM3.out (impl_mapPairs.hb (by assumption)), below_step B02 (impl_mapPairs.hb (by assumption))⟩
set_option maxHeartbeats 4000000 in
set_option maxRecDepth 100000 in
theorem impl_mapPairs.nofork (x0 x1 : ByteArray) (x2 : Int) (A : Option Addr) (c : Nat) (l : List S29) (above room : Int) (gr : Nat) (w0 w : World) (hr : Kd.C k29 w0 A l.length l) (hc : l.length ≤ c) (hB : Below w0.heap.size w0 w) (hg : w0.heap.size ≤ gr) (hR : w.heap[gr]? = some (.cells #[.int .i64 room] 3 (0, 0))) (hl : impl_Branch_isLeaf.f x0 x1 x2 l = some false) (hf : impl_Branch_isFork.f x0 x1 x2 l = some false) :
  Calls Try.prog 37 #[.agg #[.string x0, .string x1, .int .i64 x2, .slice A l.length c], .int .i64 above, .pointer (some ⟨gr, 0, none⟩)] w fun e w' => (∃ v, e = .returned (.tuple #[v, .bool false]) ∧ Kd.R k51 51 w' w.heap.size (fun k_ => k_ ≠ gr) v []) ∧ KeepBut w w' gr none ∧ w'.heap[gr]? = some (.cells #[.int .i64 room] 3 (0, 0)) ∧ Below w0.heap.size w0 w' := by
 have hu29 := Try.underlying29
 have hu44 := Try.underlying44
 have hu51 := Try.underlying51
 have hu3 := Try.underlying3
 have HR := Aside0.mk hr
 have HC := Aside0.mk hc
 have HB0 := Aside0.mk hB
 have HG := Aside0.mk hg
 have HRM := Aside0.mk hR
 have HL := Aside0.mk hl
 have HF := Aside0.mk hf
 clear hr hc hB hg hR hl hf
 go_enter Try.func37, Try.ntmps37
 go_upto_if 14 with (first
  | ((with_reducible refine gate_dst (N := 3) rfl ?_); refine box_event ?hg (N := 3) ?hd (cs := #[.string x0, .string x1, .int .i64 x2, .slice A l.length c]) (t := 29) ?hr ?_; (case hd => rfl); (case hg => rfl); (case hr => first | (go_simp; done) | (go_simp; rfl)); intro gb hgb wb hbox hb; have HBX := Aside0.mk hbox; have HB1 := Aside0.mk hb; have HGB := Aside0.mk hgb; have hz0 : wb.cell? ⟨gb, 0, none⟩ = some (.string x0) := (blk_cell HBX.out 0).trans rfl; have hz1 : wb.cell? ⟨gb, 1, none⟩ = some (.string x1) := (blk_cell HBX.out 1).trans rfl; have hz2 : wb.cell? ⟨gb, 2, none⟩ = some (.int .i64 x2) := (blk_cell HBX.out 2).trans rfl; have hz3 : wb.cell? ⟨gb, 3, none⟩ = some (.slice A l.length c) := (blk_cell HBX.out 3).trans rfl; clear hb hbox hgb)
  | (go_at_call 44; refine (impl_Branch_isLeaf.calls x0 x1 x2 A c l false _ ?s1 HC.out HL.out).mono ?_; (case s1 => exact Kd.C_below HR.out (below_step HB0.out HB1.out)); rintro e w2 ⟨rfl, hb2⟩; have HB2 := Aside0.mk hb2; clear hb2 hz0 hz1 hz2 hz3))
 have HBX2 := Aside0.mk (blk_below HBX.out HB2.out)
 have hz0 : w2.cell? ⟨gb, 0, none⟩ = some (.string x0) := (blk_cell HBX2.out 0).trans rfl
 have hz1 : w2.cell? ⟨gb, 1, none⟩ = some (.string x1) := (blk_cell HBX2.out 1).trans rfl
 have hz2 : w2.cell? ⟨gb, 2, none⟩ = some (.int .i64 x2) := (blk_cell HBX2.out 2).trans rfl
 have hz3 : w2.cell? ⟨gb, 3, none⟩ = some (.slice A l.length c) := (blk_cell HBX2.out 3).trans rfl
 go_wp2_with ((go_at_call 45; refine (impl_Branch_isFork.calls x0 x1 x2 A c l false _ ?s1 HC.out HF.out).mono ?_; (case s1 => exact Kd.C_below HR.out (below_step (below_step HB0.out HB1.out) HB2.out)); rintro e w3 ⟨rfl, hb3⟩; have HB3 := Aside0.mk hb3; clear hb3 hz0 hz1 hz2 hz3; have HBX3 := Aside0.mk (blk_below HBX2.out HB3.out); have hz2 : w3.cell? ⟨gb, 2, none⟩ = some (.int .i64 x2) := (blk_cell HBX3.out 2).trans rfl))
 go_ret2
 have B3 : Below w.heap.size w w3 := below_step (below_step HB1.out HB2.out) HB3.out
 exact ⟨⟨_, rfl, Kd.R_nil _ _ _ _ _⟩, KeepBut.of_below B3 gr none, blk_below HRM.out B3, below_step HB0.out B3⟩
set_option maxHeartbeats 4000000 in
set_option maxRecDepth 100000 in
theorem impl_mapPairs.notab (x0 x1 : ByteArray) (x2 : Int) (A : Option Addr) (c : Nat) (l : List S29) (above room : Int) (gr : Nat) (w0 w : World) (hr : Kd.C k29 w0 A l.length l) (hc : l.length ≤ c) (hB : Below w0.heap.size w0 w) (hg : w0.heap.size ≤ gr) (hR : w.heap[gr]? = some (.cells #[.int .i64 room] 3 (0, 0))) (hl : impl_Branch_isLeaf.f x0 x1 x2 l = some false) (hf : impl_Branch_isFork.f x0 x1 x2 l = some true) (hle : x2 ≤ above) :
  Calls Try.prog 37 #[.agg #[.string x0, .string x1, .int .i64 x2, .slice A l.length c], .int .i64 above, .pointer (some ⟨gr, 0, none⟩)] w fun e w' => (∃ v, e = .returned (.tuple #[v, .bool false]) ∧ Kd.R k51 51 w' w.heap.size (fun k_ => k_ ≠ gr) v []) ∧ KeepBut w w' gr none ∧ w'.heap[gr]? = some (.cells #[.int .i64 room] 3 (0, 0)) ∧ Below w0.heap.size w0 w' := by
 have hu29 := Try.underlying29
 have hu44 := Try.underlying44
 have hu51 := Try.underlying51
 have hu3 := Try.underlying3
 have HR := Aside0.mk hr
 have HC := Aside0.mk hc
 have HB0 := Aside0.mk hB
 have HG := Aside0.mk hg
 have HRM := Aside0.mk hR
 have HL := Aside0.mk hl
 have HF := Aside0.mk hf
 have hd : decide (x2 ≤ above) = true := decide_eq_true hle
 clear hr hc hB hg hR hl hf hle
 go_enter Try.func37, Try.ntmps37
 go_upto_if 14 with (first
  | ((with_reducible refine gate_dst (N := 3) rfl ?_); refine box_event ?hg (N := 3) ?hd (cs := #[.string x0, .string x1, .int .i64 x2, .slice A l.length c]) (t := 29) ?hr ?_; (case hd => rfl); (case hg => rfl); (case hr => first | (go_simp; done) | (go_simp; rfl)); intro gb hgb wb hbox hb; have HBX := Aside0.mk hbox; have HB1 := Aside0.mk hb; have HGB := Aside0.mk hgb; have hz0 : wb.cell? ⟨gb, 0, none⟩ = some (.string x0) := (blk_cell HBX.out 0).trans rfl; have hz1 : wb.cell? ⟨gb, 1, none⟩ = some (.string x1) := (blk_cell HBX.out 1).trans rfl; have hz2 : wb.cell? ⟨gb, 2, none⟩ = some (.int .i64 x2) := (blk_cell HBX.out 2).trans rfl; have hz3 : wb.cell? ⟨gb, 3, none⟩ = some (.slice A l.length c) := (blk_cell HBX.out 3).trans rfl; clear hb hbox hgb)
  | (go_at_call 44; refine (impl_Branch_isLeaf.calls x0 x1 x2 A c l false _ ?s1 HC.out HL.out).mono ?_; (case s1 => exact Kd.C_below HR.out (below_step HB0.out HB1.out)); rintro e w2 ⟨rfl, hb2⟩; have HB2 := Aside0.mk hb2; clear hb2 hz0 hz1 hz2 hz3))
 have HBX2 := Aside0.mk (blk_below HBX.out HB2.out)
 have hz0 : w2.cell? ⟨gb, 0, none⟩ = some (.string x0) := (blk_cell HBX2.out 0).trans rfl
 have hz1 : w2.cell? ⟨gb, 1, none⟩ = some (.string x1) := (blk_cell HBX2.out 1).trans rfl
 have hz2 : w2.cell? ⟨gb, 2, none⟩ = some (.int .i64 x2) := (blk_cell HBX2.out 2).trans rfl
 have hz3 : w2.cell? ⟨gb, 3, none⟩ = some (.slice A l.length c) := (blk_cell HBX2.out 3).trans rfl
 go_wp2_with ((go_at_call 45; refine (impl_Branch_isFork.calls x0 x1 x2 A c l true _ ?s1 HC.out HF.out).mono ?_; (case s1 => exact Kd.C_below HR.out (below_step (below_step HB0.out HB1.out) HB2.out)); rintro e w3 ⟨rfl, hb3⟩; have HB3 := Aside0.mk hb3; clear hb3 hz0 hz1 hz2 hz3; have HBX3 := Aside0.mk (blk_below HBX2.out HB3.out); have hz2 : w3.cell? ⟨gb, 2, none⟩ = some (.int .i64 x2) := (blk_cell HBX3.out 2).trans rfl))
 go_ret2
 have B3 : Below w.heap.size w w3 := below_step (below_step HB1.out HB2.out) HB3.out
 exact ⟨⟨_, rfl, Kd.R_nil _ _ _ _ _⟩, KeepBut.of_below B3 gr none, blk_below HRM.out B3, below_step HB0.out B3⟩
set_option maxHeartbeats 4000000 in
set_option maxRecDepth 100000 in
theorem impl_mapPairs.fork (k : Nat) (ih : impl_mapPairs.Con k) (x0 x1 : ByteArray) (x2 : Int) (A : Option Addr) (c : Nat) (l : List S29) (above room : Int) (gr : Nat) (r1 : List S51) (r2 : Bool) (r3 : Int) (w0 w : World) (hr : Kd.C k29 w0 A l.length l) (hc : l.length ≤ c) (hB : Below w0.heap.size w0 w) (hg : w0.heap.size ≤ gr) (hR : w.heap[gr]? = some (.cells #[.int .i64 room] 3 (0, 0))) (hl : impl_Branch_isLeaf.f x0 x1 x2 l = some false) (hf : impl_Branch_isFork.f x0 x1 x2 l = some true) (hle : ¬ x2 ≤ above) (h : impl_mapPairs.go (impl_mapPairs.pairs k) k x2 l 0 room [] = some (r1, r2, r3)) :
  Calls Try.prog 37 #[.agg #[.string x0, .string x1, .int .i64 x2, .slice A l.length c], .int .i64 above, .pointer (some ⟨gr, 0, none⟩)] w fun e w' => (∃ v, e = .returned (.tuple #[v, .bool r2]) ∧ Kd.R k51 51 w' w.heap.size (fun k_ => k_ ≠ gr) v r1) ∧ KeepBut w w' gr none ∧ w'.heap[gr]? = some (.cells #[.int .i64 r3] 3 (0, 0)) ∧ Below w0.heap.size w0 w' := by
 have hu29 := Try.underlying29
 have hu44 := Try.underlying44
 have hu51 := Try.underlying51
 have hu3 := Try.underlying3
 have HR := Aside0.mk hr
 have HC := Aside0.mk hc
 have HB0 := Aside0.mk hB
 have HG := Aside0.mk hg
 have HRM := Aside0.mk hR
 have HL := Aside0.mk hl
 have HF := Aside0.mk hf
 have hd : decide (x2 ≤ above) = false := decide_eq_false hle
 have IH := Aside0.mk ih
 have HGO := Aside0.mk h
 have HM : Aside0 (l.length ≤ 9223372036854775807) := ⟨HR.out.2.1⟩
 clear hr hc hB hg hR hl hf hle ih h
 go_enter Try.func37, Try.ntmps37
 go_upto_if 14 with (first
  | ((with_reducible refine gate_dst (N := 3) rfl ?_); refine box_event ?hg (N := 3) ?hd (cs := #[.string x0, .string x1, .int .i64 x2, .slice A l.length c]) (t := 29) ?hr ?_; (case hd => rfl); (case hg => rfl); (case hr => first | (go_simp; done) | (go_simp; rfl)); intro gb hgb wb hbox hb; have HBX := Aside0.mk hbox; have HB1 := Aside0.mk hb; have HGB := Aside0.mk hgb; have hz0 : wb.cell? ⟨gb, 0, none⟩ = some (.string x0) := (blk_cell HBX.out 0).trans rfl; have hz1 : wb.cell? ⟨gb, 1, none⟩ = some (.string x1) := (blk_cell HBX.out 1).trans rfl; have hz2 : wb.cell? ⟨gb, 2, none⟩ = some (.int .i64 x2) := (blk_cell HBX.out 2).trans rfl; have hz3 : wb.cell? ⟨gb, 3, none⟩ = some (.slice A l.length c) := (blk_cell HBX.out 3).trans rfl; clear hb hbox hgb)
  | (go_at_call 44; refine (impl_Branch_isLeaf.calls x0 x1 x2 A c l false _ ?s1 HC.out HL.out).mono ?_; (case s1 => exact Kd.C_below HR.out (below_step HB0.out HB1.out)); rintro e w2 ⟨rfl, hb2⟩; have HB2 := Aside0.mk hb2; clear hb2 hz0 hz1 hz2 hz3))
 have HBX2 := Aside0.mk (blk_below HBX.out HB2.out)
 have hz0 : w2.cell? ⟨gb, 0, none⟩ = some (.string x0) := (blk_cell HBX2.out 0).trans rfl
 have hz1 : w2.cell? ⟨gb, 1, none⟩ = some (.string x1) := (blk_cell HBX2.out 1).trans rfl
 have hz2 : w2.cell? ⟨gb, 2, none⟩ = some (.int .i64 x2) := (blk_cell HBX2.out 2).trans rfl
 have hz3 : w2.cell? ⟨gb, 3, none⟩ = some (.slice A l.length c) := (blk_cell HBX2.out 3).trans rfl
 go_upto_if 41 with ((go_at_call 45; refine (impl_Branch_isFork.calls x0 x1 x2 A c l true _ ?s1 HC.out HF.out).mono ?_; (case s1 => exact Kd.C_below HR.out (below_step (below_step HB0.out HB1.out) HB2.out)); rintro e w3 ⟨rfl, hb3⟩; have HB3 := Aside0.mk hb3; clear hb3 hz0 hz1 hz2 hz3; have HBX3 := Aside0.mk (blk_below HBX2.out HB3.out); have hz2 : w3.cell? ⟨gb, 2, none⟩ = some (.int .i64 x2) := (blk_cell HBX3.out 2).trans rfl))
 clear hz2 hd
 have HB3' : Aside0 (Below w.heap.size w w3) := ⟨below_step (below_step HB1.out HB2.out) HB3.out⟩
 go_upto_region 7 with (first
  | ((with_reducible refine gate_dst (N := 42) rfl ?_); refine Kd.R_lit k51 (w0 := w) w.heap.size 51 ?hg (N := 42) ?hd (xs := ([] : List S51)) (inner := []) (ok := fun k_ => k_ ≠ gr) (okp := fun _ => False) ?hr ?hp (fun _ hk => hk.elim) (by have h1 := blk_lt HRM.out; have h2 := below_size HB3'.out; omega) HB3'.out (below_size HB3'.out) (by simp) ?_; (case hd => rfl); (case hg => rfl); (case hr => first | (go_simp; done) | (go_simp; rfl)); (case hp => exact (Reps.none _ _)); intro v4 w4 ho hb hg_ hnew_; obtain ⟨A4, c4, rfl⟩ := Kd.R_slice ho; have HO4 := Aside0.mk ho; have HB4 := Aside0.mk hb; have HG4 := Aside0.mk hg_; clear ho hb hg_ hnew_))
 obtain ⟨go, hgo⟩ : ∃ go, go = w4.heap.size := ⟨_, rfl⟩
 obtain ⟨W5, hW5⟩ : ∃ W5, W5 = w4.alloc (.cells #[.slice A4 0 c4] 44 (0, 0)) := ⟨_, rfl⟩
 rw [← hW5, ← hgo]
 have HGO5 : Aside0 (W5.heap[go]? = some (.cells #[.slice A4 0 c4] 44 (0, 0))) := ⟨by rw [hW5, hgo]; exact blk_new _ _⟩
 have HB5 : Aside0 (Below w.heap.size w W5) := ⟨by rw [hW5]; exact below_alloc HB4.out _⟩
 have HBX5 : Aside0 (W5.heap[gb]? = some (.cells #[.string x0, .string x1, .int .i64 x2, .slice A l.length c] 29 (0, 0))) := ⟨by rw [hW5]; exact blk_alloc (blk_grown HBX3.out HG4.out (by simp)) _⟩
 have HO5 : Aside0 (Kd.R k51 51 W5 w.heap.size (fun k_ => k_ ≠ gr) (.slice A4 0 c4) []) := ⟨by rw [hW5]; exact Kd.R_alloc HO4.out _⟩
 have HRM5 := Aside0.mk (blk_below HRM.out HB5.out)
 have HGOB : Aside0 (w.heap.size ≤ go) := ⟨by rw [hgo]; exact below_size HB4.out⟩
 have HGBB : Aside0 (w.heap.size ≤ gb) := ⟨by rw [HGB.out]; exact Nat.le_refl _⟩
 have HGR : Aside0 (gr < w.heap.size) := ⟨blk_lt HRM.out⟩
 have HB05 := Aside0.mk (below_step HB0.out HB5.out)
 clear hW5 hgo HO4 HB4 HG4 HB3' HB3 HBX3 HB2 HBX2 HB1 HBX
 have hz3 : W5.cell? ⟨gb, 3, none⟩ = some (.slice A l.length c) := (blk_cell HBX5.out 3).trans rfl
 go_wp2
 clear hz3
 go_loopw [46] (fun v46 w' => ∃ (i : Nat) (rm : Int) (out : List S51) (Ao : Option Addr) (co : Nat), i ≤ l.length ∧ v46 = .int .i64 i ∧ Aside0 (impl_mapPairs.go (impl_mapPairs.pairs k) k x2 (l.drop i) i rm out = some (r1, r2, r3)) ∧ Aside0 (Below w0.heap.size w0 w') ∧ Aside0 (KeepBut w w' gr none) ∧ Aside0 (w'.heap[gr]? = some (.cells #[.int .i64 rm] 3 (0, 0))) ∧ Aside0 (w'.heap[gb]? = some (.cells #[.string x0, .string x1, .int .i64 x2, .slice A l.length c] 29 (0, 0))) ∧ Aside0 (w'.heap[go]? = some (.cells #[.slice Ao out.length co] 44 (0, 0))) ∧ Aside0 (Kd.R k51 51 w' w.heap.size (fun k_ => k_ ≠ gr) (.slice Ao out.length co) out)) (fun v46 _ => l.length - (intOf v46).toNat)
 case atStart => exact ⟨0, room, [], A4, c4, Nat.zero_le _, rfl, ⟨by rw [List.drop_zero]; exact HGO.out⟩, HB05, ⟨KeepBut.of_below HB5.out gr none⟩, HRM5, HBX5, HGO5, HO5⟩
 case round =>
  clear HGO HB05 HB5 HRM5 HBX5 HGO5 HO5
  obtain ⟨i, rm, out, Ao, co, hi, rfl, HA, HB, HK, HM1, HBX, HOB, HO⟩ := hrel
  by_cases hlt : i < l.length
  ·have p1 : (0 : Int) ≤ (i : Int) := by omega
   have q1 : (i : Int) < (l.length : Int) := by omega
   obtain ⟨ad, Ai, ci, e1, hx0, hx1, hx2, hx3, hli, hci⟩ := at_T29 HR.out (i : Int) p1 q1
   cases e1
   rw [Int.toNat_natCast] at hx0 hx1 hx2 hx3
   replace hx0 := (HB.out.cell (World.block_lt_of_cell? w0 _ hx0)).trans hx0
   replace hx1 := (HB.out.cell (World.block_lt_of_cell? w0 _ hx1)).trans hx1
   replace hx2 := (HB.out.cell (World.block_lt_of_cell? w0 _ hx2)).trans hx2
   replace hx3 := (HB.out.cell (World.block_lt_of_cell? w0 _ hx3)).trans hx3
   have hget : rd_T29 l (i : Int) = l[i] := by
    unfold rd_T29
    rw [Int.toNat_natCast, List.getD_eq_getElem?_getD, List.getElem?_eq_getElem hlt, Option.getD_some]
   have hA := HA.out
   rw [List.drop_eq_getElem_cons hlt, ← hget] at hA
   simp only [impl_mapPairs.go] at hA
   obtain ⟨⟨t1, t2, t3⟩, ht, hA⟩ := Option.bind_eq_some_iff.mp hA
   have HT := Aside0.mk ht
   have HN := Aside0.mk hA
   have HLT := Aside0.mk hlt
   have HRI := Aside0.mk hci
   have HCI := Aside0.mk hli
   clear ht hA hget hlt hci hli HA
   go_upto_region 10 with (fail)
   obtain ⟨W6, hW6⟩ : ∃ W6, W6 = ((wr.alloc (.cells #[.int .i64 (i : Int)] 3 (0, 0))).alloc (.cells #[.string (rd_T29 l (i : Int)).f0, .string (rd_T29 l (i : Int)).f1, .int .i64 (rd_T29 l (i : Int)).f2, .slice Ai (rd_T29 l (i : Int)).f3.length ci] 29 (0, 0))) := ⟨_, rfl⟩
   obtain ⟨gs, hgs⟩ : ∃ gs, gs = wr.heap.size := ⟨_, rfl⟩
   rw [← hW6, ← hgs]
   have HB6 : Aside0 (Below wr.heap.size wr W6) := ⟨by rw [hW6]; exact below_alloc (below_alloc (Below.refl _ _) _) _⟩
   have HS6 : Aside0 (W6.heap[gs]? = some (.cells #[.int .i64 (i : Int)] 3 (0, 0))) := ⟨by rw [hW6, hgs]; exact blk_alloc (blk_new _ _) _⟩
   have HK6 : Aside0 (W6.heap[gs + 1]? = some (.cells #[.string (rd_T29 l (i : Int)).f0, .string (rd_T29 l (i : Int)).f1, .int .i64 (rd_T29 l (i : Int)).f2, .slice Ai (rd_T29 l (i : Int)).f3.length ci] 29 (0, 0))) := ⟨by rw [hW6, hgs, show wr.heap.size + 1 = (wr.alloc (.cells #[.int .i64 (i : Int)] 3 (0, 0))).heap.size from by simp]; exact blk_new _ _⟩
   have HGS : Aside0 (gs ≠ gr) := ⟨by rw [hgs]; have h1 := HGR.out; have h2 := keep_size HK.out; omega⟩
   have HBX6 := Aside0.mk (blk_below HBX.out HB6.out)
   clear hW6 hgs hx0 hx1 hx2 hx3
   have hk0 : W6.cell? ⟨gs + 1, 0, none⟩ = some (.string (rd_T29 l (i : Int)).f0) := (blk_cell HK6.out 0).trans rfl
   have hk1 : W6.cell? ⟨gs + 1, 1, none⟩ = some (.string (rd_T29 l (i : Int)).f1) := (blk_cell HK6.out 1).trans rfl
   have hk2 : W6.cell? ⟨gs + 1, 2, none⟩ = some (.int .i64 (rd_T29 l (i : Int)).f2) := (blk_cell HK6.out 2).trans rfl
   have hk3 : W6.cell? ⟨gs + 1, 3, none⟩ = some (.slice Ai (rd_T29 l (i : Int)).f3.length ci) := (blk_cell HK6.out 3).trans rfl
   have hz2 : W6.cell? ⟨gb, 2, none⟩ = some (.int .i64 x2) := (blk_cell HBX6.out 2).trans rfl
   go_upto_region 11 with ((go_at_call 37; refine (IH.out (rd_T29 l (i : Int)).f0 (rd_T29 l (i : Int)).f1 (rd_T29 l (i : Int)).f2 Ai ci (rd_T29 l (i : Int)).f3 x2 rm gr t1 t2 t3 w0 _ HRI.out HCI.out (below_step HB.out HB6.out) HG.out (blk_below HM1.out HB6.out) HT.out).mono ?_; rintro e w7 ⟨⟨v7, rfl, hr7⟩, hk7, hm7, hb7⟩; obtain ⟨A7, c7, rfl⟩ := Kd.R_slice hr7; have HR7 := Aside0.mk hr7; have HK7a := Aside0.mk hk7; have HM7 := Aside0.mk hm7; have HB7 := Aside0.mk hb7; clear hr7 hk7 hm7 hb7 hk0 hk1 hk2 hk3 hz2))
   have HS7 := Aside0.mk (KeepBut.blk HK7a.out HS6.out HGS.out (by simp))
   have HBX7 := Aside0.mk (KeepBut.blk HK7a.out HBX6.out (by have h1 := HGBB.out; have h2 := HGR.out; omega) (by simp))
   have HOB7 := Aside0.mk (KeepBut.blk HK7a.out (blk_below HOB.out HB6.out) (by have h1 := HGOB.out; have h2 := HGR.out; omega) (by simp))
   have HO7 := Aside0.mk (Kd.R_keep (Kd.R_below HO.out HB6.out) HK7a.out (fun _ h => h))
   have HK7 := Aside0.mk ((HK.out.trans (KeepBut.of_below HB6.out gr none) (.inl rfl)).trans HK7a.out (.inl rfl))
   clear HS6 HK6 HB6 HK7a HBX6 HO HOB HBX HM1 HK HB HT
   have hN := HN.out
   clear HN
   (try dsimp only at hN)
   cases t2 with
   | false =>
    rw [if_neg (by decide)] at hN
    have HN := Aside0.mk hN
    clear hN
    go_wp2
    go_ret2
    have hN := HN.out
    injection hN with hN
    injection hN with e1 e2
    injection e2 with e2 e3
    subst e1 e2 e3
    exact ⟨⟨_, rfl, Kd.R_nil _ _ _ _ _⟩, HK7.out, HM7.out, HB7.out⟩
   | true =>
    rw [if_pos rfl] at hN
    obtain ⟨b, hb, hN⟩ := Option.bind_eq_some_iff.mp hN
    have HAN := Aside0.mk hb
    clear hb
    cases b with
    | true =>
     rw [if_pos rfl] at hN
     have HN := Aside0.mk hN
     clear hN
     go_wp2_with ((go_at_call 46; refine (impl_mapPairs.has47 (impl_mapPairs.p1 x2 (i : Int)) ⟨gb, 0, none⟩ ⟨gs, 0, none⟩ A7 c7 t1 true _ (Kd.R_reads' HR7.out).2.2 (Kd.R_reads' HR7.out).2.1 (fun W x b hb _ hp => impl_mapPairs.lit1 x x0 x1 x2 (i : Int) _ gb gs b W (blk_below HBX7.out hb) (blk_below HS7.out hb) hp) HAN.out).mono ?_; rintro e w8 ⟨rfl, hb8⟩; have HB8 := Aside0.mk hb8; clear hb8; have HOB8 := Aside0.mk (blk_below HOB7.out HB8.out); have hoc : w8.cell? ⟨go, 0, none⟩ = some (.slice Ao out.length co) := (blk_cell HOB8.out 0).trans rfl))
     go_ret2
     have hN := HN.out
     injection hN with hN
     injection hN with e1 e2
     injection e2 with e2 e3
     subst e1 e2 e3
     exact ⟨⟨_, rfl, Kd.R_nil _ _ _ _ _⟩, HK7.out.trans (KeepBut.of_below HB8.out gr none) (.inl rfl), blk_below HM7.out HB8.out, below_step HB7.out HB8.out⟩
    | false =>
     rw [if_neg (by decide)] at hN
     by_cases hsz : (out.length + t1.length) * 48 ≤ 140737488355328
     ·rw [if_pos hsz] at hN
      have HN := Aside0.mk hN
      have HSZ := Aside0.mk hsz
      clear hN hsz
      have hm := HM.out
      have hlt := HLT.out
      go_wp2_with (first
       | (go_at_call 46; refine (impl_mapPairs.has47 (impl_mapPairs.p1 x2 (i : Int)) ⟨gb, 0, none⟩ ⟨gs, 0, none⟩ A7 c7 t1 false _ (Kd.R_reads' HR7.out).2.2 (Kd.R_reads' HR7.out).2.1 (fun W x b hb _ hp => impl_mapPairs.lit1 x x0 x1 x2 (i : Int) _ gb gs b W (blk_below HBX7.out hb) (blk_below HS7.out hb) hp) HAN.out).mono ?_; rintro e w8 ⟨rfl, hb8⟩; have HB8 := Aside0.mk hb8; clear hb8; have HOB8 := Aside0.mk (blk_below HOB7.out HB8.out); have hoc : w8.cell? ⟨go, 0, none⟩ = some (.slice Ao out.length co) := (blk_cell HOB8.out 0).trans rfl)
       | ((with_reducible refine gate_builtin (b := .append) (xs := #[.tmp 66, .tmp 67]) rfl ?_); at_builtin; refine Kd.R_append_rows k51 (w0 := w8) w.heap.size rfl (.tmp 66) (.tmp 67) 44 51 (.agg #[(.string ⟨#[]⟩), (.string ⟨#[]⟩), (.string ⟨#[]⟩)]) 48 rfl Try.underlying44 info51 rfl (by decide) (by omega) (.slice Ao out.length co) out t1 A7 _ c7 (fun k_ => k_ ≠ gr) (fun _ => False) rfl rfl (Kd.R_below HO7.out HB8.out) (Kd.C_below (Kd.R_reads' HR7.out).2.2 HB8.out) (fun _ _ h => h) (fun _ h => h.elim) (fun k_ hk => by have h1 := HGR.out; have h2 := keep_size HK7.out; have h3 := below_size HB8.out; omega) (Below.refl _ _) (Nat.le_trans (keep_size HK7.out) (below_size HB8.out)) HSZ.out ?_; intro v9 w9 ho9 hb9 hg9 hat9; obtain ⟨A9, c9, rfl⟩ := Kd.R_slice ho9; have HO9 := Aside0.mk ho9; have HB9 := Aside0.mk hb9; have HG9 := Aside0.mk hg9; clear ho9 hb9 hg9 hat9 hoc; have HOB9 := Aside0.mk (blk_grown HOB8.out HG9.out (Kd.R_ne (Kd.R_below HO7.out HB8.out) HOB8.out (by decide))); have hoc : w9.cell? ⟨go, 0, none⟩ = some (.slice Ao out.length co) := (blk_cell HOB9.out 0).trans rfl; have hof : w9.frozen? ⟨go, 0, none⟩ = false := blk_frozen HOB9.out 0))
      go_roundw
      case rel =>
       have hBX8 := blk_below HBX7.out HB8.out
       have hBX9 := blk_grown hBX8 HG9.out (Kd.R_ne (Kd.R_below HO7.out HB8.out) hBX8 (by decide))
       have hne : gb ≠ go := blk_ne hBX9 HOB9.out (by decide)
       have hgo := HGOB.out
       have hgr := HGR.out
       have hK8 := HK7.out.trans (KeepBut.of_below HB8.out gr none) (.inl rfl)
       refine ⟨i + 1, t3, out ++ t1, A9, c9, HLT.out, by go_num, HN, ⟨?_⟩, ⟨?_⟩, ⟨?_⟩, ⟨blk_far hBX9 hne _⟩, ⟨blk_put HOB9.out 0 _ (by simp)⟩, ⟨Kd.R_set HO9.out HOB9.out (by decide) 0 _⟩⟩
       ·exact ((below_step HB7.out HB8.out).trans (HB9.out.mono HB0.out.size)).setCell (p := ⟨go, 0, none⟩) (Nat.le_trans HB0.out.size hgo) _
       ·exact keep_far (p := ⟨go, 0, none⟩) (impl_mapPairs.keep_lo hK8 HB9.out) hgo _
       ·exact blk_far ((HB9.out.block gr hgr).trans (blk_below HM7.out HB8.out)) (p := ⟨go, 0, none⟩) (by show gr ≠ go; omega) _
      case measure => have := HLT.out; simp [intOf]; omega
     ·rw [if_neg hsz] at hN
      cases hN
  ·have hA := HA.out
   rw [List.drop_eq_nil_of_le (by omega)] at hA
   simp only [impl_mapPairs.go] at hA
   obtain ⟨b, hb, hA⟩ := Option.bind_eq_some_iff.mp hA
   have HAN := Aside0.mk hb
   have HN := Aside0.mk hA
   clear hb hA HA
   go_upto_region 15 with (fail)
   have hoc : wr.cell? ⟨go, 0, none⟩ = some (.slice Ao out.length co) := (blk_cell HOB.out 0).trans rfl
   have HOC := Aside0.mk hoc
   clear hoc
   have HS : ∀ W, Below wr.heap.size wr W → (W.cell? ⟨go, 0, none⟩ = some (.slice Ao out.length co) ∧ Aside0 (Below wr.heap.size wr W)) := fun W hb => ⟨(hb.cell (World.block_lt_of_cell? _ _ HOC.out)).trans HOC.out, ⟨hb⟩⟩
   have HS' := Aside0.mk HS
   clear HS
   go_region_held3 (fun W => W.cell? ⟨go, 0, none⟩ = some (.slice Ao out.length co) ∧ Aside0 (Below wr.heap.size wr W)) ((refine HS'.out _ ?_; first | exact below_drew1 (Below.refl _ _) | (refine below_step ?_ HBH.out; exact impl_mapPairs.hb2 (by assumption)))) (first | (go_at_call 46; refine (impl_mapPairs.has49 (impl_mapPairs.p2 k (rd_T51 out 0).f2 x2) ⟨go, 0, none⟩ ⟨gb, 0, none⟩ Ao co out b _ (Kd.C_below (Kd.R_reads' HO.out).2.2 (impl_mapPairs.hb2 (by assumption))) (Kd.R_reads' HO.out).2.1 (fun W x b' hb hx hp => impl_mapPairs.lit3 k x x0 x1 x2 _ gb go out Ao co b' W (blk_below (blk_below HBX.out (impl_mapPairs.hb2 (by assumption))) hb) (blk_below (blk_below HOB.out (impl_mapPairs.hb2 (by assumption))) hb) (Kd.C_below (Kd.C_below (Kd.R_reads' HO.out).2.2 (impl_mapPairs.hb2 (by assumption))) hb) hx hp) HAN.out).mono ?_; rintro e w8 ⟨rfl, hbh⟩; have HBH := Aside0.mk hbh; clear hbh))
   go_wp2
   go_ret2
   have hN := HN.out
   injection hN with hN
   injection hN with e1 e2
   injection e2 with e2 e3
   subst e1 e2 e3
   exact ⟨⟨_, rfl, Kd.R_below HO.out (impl_mapPairs.hb2 (by assumption))⟩, HK.out.trans (KeepBut.of_below (impl_mapPairs.hb2 (by assumption)) gr none) (.inl rfl), blk_below HM1.out (impl_mapPairs.hb2 (by assumption)), below_step HB.out (impl_mapPairs.hb2 (by assumption))⟩
theorem impl_mapPairs.con : ∀ k, impl_mapPairs.Con k
 | 0 => by
  intro x0 x1 x2 A c l above room gr r1 r2 r3 w0 w hr hc hB hg hR h
  rw [impl_mapPairs.pairs] at h
  cases h
 | k + 1 => by
  intro x0 x1 x2 A c l above room gr r1 r2 r3 w0 w hr hc hB hg hR h
  rw [impl_mapPairs.pairs] at h
  obtain ⟨lf, hl, h⟩ := Option.bind_eq_some_iff.mp h
  cases lf with
  | true =>
   rw [if_pos rfl] at h
   obtain ⟨hh, ha, h⟩ := Option.bind_eq_some_iff.mp h
   injection h with h
   injection h with e1 e2
   injection e2 with e2 e3
   subst e1 e2 e3
   exact impl_mapPairs.leaf x0 x1 x2 A c l above room gr hh w0 w hr hc hB hg hR hl ha
  | false =>
   rw [if_neg (by decide)] at h
   obtain ⟨fk, hf, h⟩ := Option.bind_eq_some_iff.mp h
   cases fk with
   | false =>
    rw [if_neg (by decide)] at h
    injection h with h
    injection h with e1 e2
    injection e2 with e2 e3
    subst e1 e2 e3
    exact impl_mapPairs.nofork x0 x1 x2 A c l above _ gr w0 w hr hc hB hg hR hl hf
   | true =>
    rw [if_pos rfl] at h
    by_cases hle : x2 ≤ above
    ·rw [if_pos hle] at h
     injection h with h
     injection h with e1 e2
     injection e2 with e2 e3
     subst e1 e2 e3
     exact impl_mapPairs.notab x0 x1 x2 A c l above _ gr w0 w hr hc hB hg hR hl hf hle
    ·rw [if_neg hle] at h
     exact impl_mapPairs.fork k (impl_mapPairs.con k) x0 x1 x2 A c l above room gr r1 r2 r3 w0 w hr hc hB hg hR hl hf hle h
set_option maxHeartbeats 4000000 in
set_option maxRecDepth 100000 in
theorem impl_mapPairs.calls (k : Nat) (a0_0 : ByteArray) (a0_1 : ByteArray) (a0_2 : Int) (A0_3 : Option Addr) (c0_3 : Nat) (l0_3 : List (S29)) (r1 : List (S51)) (r2 : Bool) (w : World) (hr0_3 : Kd.C k29 w A0_3 l0_3.length l0_3) (hc0_3 : l0_3.length ≤ c0_3) (h : impl_mapPairs.f k a0_0 a0_1 a0_2 l0_3 = some (r1, r2)) :
  Calls Try.prog 23 #[.agg #[.string a0_0, .string a0_1, .int .i64 a0_2, .slice A0_3 l0_3.length c0_3]] w fun e w' => ∃ v0_ : Value, e = .returned (.tuple #[v0_, .bool r2]) ∧ Kd.R k51 51 w' w.heap.size (fun _ => True) v0_ r1 ∧ Below w.heap.size w w' := by
 have hu29 := Try.underlying29
 have hu3 := Try.underlying3
 have HR := Aside0.mk hr0_3
 have HC := Aside0.mk hc0_3
 clear hr0_3 hc0_3
 unfold impl_mapPairs.f at h
 obtain ⟨em, he, h⟩ := Option.bind_eq_some_iff.mp h
 have HE := Aside0.mk he
 have H := Aside0.mk h
 clear he h
 go_enter Try.func23, Try.ntmps23
 go_upto_if 6 with (first
  | ((with_reducible refine gate_dst (N := 1) rfl ?_); refine box_event ?hg (N := 1) ?hd (cs := #[.string a0_0, .string a0_1, .int .i64 a0_2, .slice A0_3 l0_3.length c0_3]) (t := 29) ?hr ?_; (case hd => rfl); (case hg => rfl); (case hr => first | (go_simp; done) | (go_simp; rfl)); intro gb hgb wb hbox hb; have HBX := Aside0.mk hbox; have HB1 := Aside0.mk hb; have hz0 : wb.cell? ⟨gb, 0, none⟩ = some (.string a0_0) := (blk_cell HBX.out 0).trans rfl; have hz1 : wb.cell? ⟨gb, 1, none⟩ = some (.string a0_1) := (blk_cell HBX.out 1).trans rfl; have hz2 : wb.cell? ⟨gb, 2, none⟩ = some (.int .i64 a0_2) := (blk_cell HBX.out 2).trans rfl; have hz3 : wb.cell? ⟨gb, 3, none⟩ = some (.slice A0_3 l0_3.length c0_3) := (blk_cell HBX.out 3).trans rfl; clear hb hbox hgb)
  | (go_at_call 36; refine (impl_Branch_isEmpty.calls a0_0 a0_1 a0_2 A0_3 c0_3 l0_3 em _ ?s1 HC.out HE.out).mono ?_; (case s1 => exact Kd.C_below HR.out HB1.out); rintro e w2 ⟨rfl, hb2⟩; have HB2 := Aside0.mk hb2; clear hb2 hz0 hz1 hz2 hz3))
 have HBX2 := Aside0.mk (blk_below HBX.out HB2.out)
 have HB3 := Aside0.mk (below_step HB1.out HB2.out)
 clear HB1 HB2 HBX HE
 cases em with
 | true =>
  have h := H.out
  rw [if_pos rfl] at h
  injection h with h
  injection h with e1 e2
  subst e1 e2
  clear H
  go_wp2
  go_ret2
  exact ⟨_, rfl, Kd.R_nil _ _ _ _ _, HB3.out⟩
 | false =>
  have h := H.out
  rw [if_neg (by decide)] at h
  obtain ⟨⟨t1, t2, t3⟩, ht, h⟩ := Option.bind_eq_some_iff.mp h
  injection h with h
  injection h with e1 e2
  (try dsimp only at e1 e2)
  subst e1 e2
  have HT := Aside0.mk ht
  clear ht H
  go_upto_region 4 with (fail)
  obtain ⟨W4, hW4⟩ : ∃ W4, W4 = w2.alloc (.cells #[.int .i64 40] 3 (0, 0)) := ⟨_, rfl⟩
  obtain ⟨gr, hgr⟩ : ∃ gr, gr = w2.heap.size := ⟨_, rfl⟩
  rw [← hW4, ← hgr]
  have HB4 : Aside0 (Below w.heap.size w W4) := ⟨by rw [hW4]; exact below_alloc HB3.out _⟩
  have HM4 : Aside0 (W4.heap[gr]? = some (.cells #[.int .i64 40] 3 (0, 0))) := ⟨by rw [hW4, hgr]; exact blk_new _ _⟩
  have HBX4 : Aside0 (W4.heap[gb]? = some (.cells #[.string a0_0, .string a0_1, .int .i64 a0_2, .slice A0_3 l0_3.length c0_3] 29 (0, 0))) := ⟨by rw [hW4]; exact blk_alloc HBX2.out _⟩
  have HGR : Aside0 (w.heap.size ≤ gr) := ⟨by rw [hgr]; exact below_size HB3.out⟩
  clear hW4 hgr
  have hz0 : W4.cell? ⟨gb, 0, none⟩ = some (.string a0_0) := (blk_cell HBX4.out 0).trans rfl
  have hz1 : W4.cell? ⟨gb, 1, none⟩ = some (.string a0_1) := (blk_cell HBX4.out 1).trans rfl
  have hz2 : W4.cell? ⟨gb, 2, none⟩ = some (.int .i64 a0_2) := (blk_cell HBX4.out 2).trans rfl
  have hz3 : W4.cell? ⟨gb, 3, none⟩ = some (.slice A0_3 l0_3.length c0_3) := (blk_cell HBX4.out 3).trans rfl
  go_wp2_with ((go_at_call 37; refine (impl_mapPairs.con k a0_0 a0_1 a0_2 A0_3 c0_3 l0_3 (-1) 40 gr t1 t2 t3 w _ HR.out HC.out HB4.out HGR.out HM4.out HT.out).mono ?_; rintro e w7 ⟨⟨v7, rfl, hr7⟩, hk7, hm7, hb7⟩; have HR7 := Aside0.mk hr7; have HB7 := Aside0.mk hb7; clear hr7 hk7 hm7 hb7 hz0 hz1 hz2 hz3))
  go_ret2
  exact ⟨_, rfl, Kd.R_mono (Kd.R_lower HR7.out (below_size HB4.out)) (fun _ _ => trivial), HB7.out⟩

/-! ### impl_MapList: function 14 -/
def impl_MapList.l0 : Nat → List (S53) → List (S51) → Int → Int → Option ((List (S53)) × Int)
 | 0, _, _, _, _ => none
 | k + 1, x6, x17, x18, x19 => if x19 < x18 then (if 0 ≤ x19 then (if x19 < (x17.length : Int) then (if x6.length < 2513169434916 then (impl_MapList.l0 k (x6 ++ [(⟨1, 0, 0, (rd_T51 x17 x19).f0, (rd_T51 x17 x19).f1⟩ : S53)]) x17 x18 (wrap64 (x19 + 1))) else (none)) else (none)) else (none)) else (some (x6, 0))
def impl_MapList.f (k : Nat) (a0_0 : ByteArray) (a0_1 : ByteArray) (a0_2 : Int) (l0_3 : List (S29)) : Option ((List (S53)) × Int) := (impl_mapPairs.f k a0_0 a0_1 a0_2 l0_3).bind fun bt122 => (if bt122.2 = true then (impl_MapList.l0 k (([] : List (S53))) bt122.1 (bt122.1.length : Int) 0) else (some (([] : List (S53)), 1)))
theorem impl_MapList.mono_l : ∀ k, (∀ y0 y1 y2 y3, LeO (impl_MapList.l0 k y0 y1 y2 y3) (impl_MapList.l0 (k + 1) y0 y1 y2 y3))
 | 0 => fun _ _ _ _ r h => by simp [impl_MapList.l0] at h
 | k + 1 => by
  have ih0 := impl_MapList.mono_l k
  ·intro y0 y1 y2 y3
   unfold impl_MapList.l0
   repeat' first
   | (with_reducible exact ih0 _ _ _ _)
   | (with_reducible exact impl_mapPairs.mono _ _ _ _ _)
   | (with_reducible exact LeO.refl _)
   | (with_reducible exact LeO.none _)
   | (with_reducible refine LeO.ite ?_ ?_)
   | (with_reducible refine LeO.bind ?_ (fun _ => ?_))
   | exact ih0 _ _ _ _
   | exact impl_mapPairs.mono _ _ _ _ _
   | exact LeO.none _
   | refine LeO.ite ?_ ?_
   | refine LeO.bind ?_ (fun _ => ?_)
theorem impl_MapList.mono : ∀ a0 a1 a2 a3 k, LeO (impl_MapList.f k a0 a1 a2 a3) (impl_MapList.f (k + 1) a0 a1 a2 a3) := by
 intro a0 a1 a2 a3 k
 have ih0 := impl_MapList.mono_l k
 unfold impl_MapList.f
 repeat' first
   | (with_reducible exact ih0 _ _ _ _)
   | (with_reducible exact impl_mapPairs.mono _ _ _ _ _)
   | (with_reducible exact LeO.refl _)
   | (with_reducible exact LeO.none _)
   | (with_reducible refine LeO.ite ?_ ?_)
   | (with_reducible refine LeO.bind ?_ (fun _ => ?_))
   | exact ih0 _ _ _ _
   | exact impl_mapPairs.mono _ _ _ _ _
   | exact LeO.none _
   | refine LeO.ite ?_ ?_
   | refine LeO.bind ?_ (fun _ => ?_)
set_option maxHeartbeats 8000000 in
set_option maxRecDepth 100000 in
theorem impl_MapList.calls (k : Nat) (a0_0 : ByteArray) (a0_1 : ByteArray) (a0_2 : Int) (A0_3 : Option Addr) (c0_3 : Nat) (l0_3 : List (S29)) (r1 : List (S53)) (r2 : Int) (w : World) (hr0_3 : Kd.C k29 w A0_3 l0_3.length l0_3) (hc0_3 : l0_3.length ≤ c0_3) (h : impl_MapList.f k a0_0 a0_1 a0_2 l0_3 = some (r1, r2)) :
  Calls Try.prog 14 #[.agg #[.string a0_0, .string a0_1, .int .i64 a0_2, .slice A0_3 l0_3.length c0_3]] w fun e w' => ∃ v0_ : Value, e = .returned (.tuple #[v0_, .int .i64 r2]) ∧ Kd.R k53 53 w' w.heap.size (fun _ => True) v0_ r1 ∧ Below w.heap.size w w' := by
 have hu29 := Try.underlying29
 have hu51 := Try.underlying51
 have hu53 := Try.underlying53
 have HR0_3 := Aside0.mk hr0_3
 have HC0_3 := Aside0.mk hc0_3
 clear hr0_3 hc0_3
 have HB := Aside0.mk (Below.refl w.heap.size w)
 have H : ((impl_mapPairs.f k a0_0 a0_1 a0_2 l0_3).bind fun bt122 => (if bt122.2 = true then (impl_MapList.l0 k (([] : List (S53))) bt122.1 (bt122.1.length : Int) 0) else (some (([] : List (S53)), 1)))) = some (r1, r2) := h
 clear h
 replace H := Option.bind_eq_some_iff.mp H
 obtain ⟨⟨t122, t125⟩, A20, H⟩ := H
 replace H : (if t125 = true then (impl_MapList.l0 k (([] : List (S53))) t122 (t122.length : Int) 0) else (some (([] : List (S53)), 1))) = some (r1, r2) := H
 have A2 := Aside0.mk A20
 clear A20
 by_cases c3 : t125 = true
 ·subst c3
  have H1 : (impl_MapList.l0 k (([] : List (S53))) t122 (t122.length : Int) 0) = some (r1, r2) := by rw [if_pos rfl] at H; exact H
  clear H
  have H := H1
  clear H1
  obtain ⟨y126, hy126⟩ : ∃ y_ : List (S53), y_ = (([] : List (S53))) := ⟨_, rfl⟩
  replace H : (impl_MapList.l0 k y126 t122 (t122.length : Int) 0) = some (r1, r2) := by first | (rw [hy126]; with_reducible exact H) | (have H2_ := (Option.bind_some _ _).symm.trans H; rw [hy126]; with_reducible exact H2_) | (have H2_ := (Option.bind_some _ _).symm.trans H; with_reducible exact H2_) | with_reducible exact H | (rw [hy126]; exact H) | exact H
  have Ny126 := Aside0.mk hy126
  clear hy126
  have H' := Aside0.mk H
  clear H
  go_enter Try.func14, Try.ntmps14
  go_wp2_with (first | ((with_reducible refine gate_dst (N := 1) rfl ?_); refine box_event ?hg (N := 1) ?hd (cs := #[.string a0_0, .string a0_1, .int .i64 a0_2, .slice A0_3 l0_3.length c0_3]) (t := 29) ?hr ?_; (case hd => rfl); (case hg => rfl); (case hr => first | (go_simp; done) | (go_simp; rfl)); intro gb121 hg w4 hbox hb; have n0_ := Aside0.mk (below_step (by repeat (first | (with_reducible first | exact HB.out | apply below_alloc | apply pw_below_drewN | apply below_drew1) | exact HB.out)) hb); have n1_ := Aside0.mk (hbox); have n2_ := Aside0.mk ((by rw [hg]; exact (below_size (by repeat (first | (with_reducible first | exact HB.out | apply below_alloc | apply pw_below_drewN | apply below_drew1) | exact HB.out))) : w.heap.size ≤ gb121)); have n3_ := Aside0.mk ((by rw [hg]; exact (below_size (by repeat (first | (with_reducible first | exact HB.out | apply below_alloc | apply pw_below_drewN | apply below_drew1) | exact HB.out))) : w.heap.size ≤ gb121)); clear HB; have HB := n0_; have BK121 := n1_; have GW121 := n2_; have GE121 := n3_; clear n0_ n1_ n2_ n3_; clear hb hbox hg; have hcz5_0 : w4.cell? ⟨gb121, 0, none⟩ = some (.string a0_0) := (blk_cell BK121.out 0).trans rfl; have hcz5_1 : w4.cell? ⟨gb121, 1, none⟩ = some (.string a0_1) := (blk_cell BK121.out 1).trans rfl; have hcz5_2 : w4.cell? ⟨gb121, 2, none⟩ = some (.int .i64 a0_2) := (blk_cell BK121.out 2).trans rfl; have hcz5_3 : w4.cell? ⟨gb121, 3, none⟩ = some (.slice A0_3 l0_3.length c0_3) := (blk_cell BK121.out 3).trans rfl; have hfz5_0 := blk_frozen BK121.out 0; have hfz5_1 := blk_frozen BK121.out 1; have hfz5_2 := blk_frozen BK121.out 2; have hfz5_3 := blk_frozen BK121.out 3) | ((with_reducible refine gate_callee (f := 23) rfl ?_); refine goesL_ (some 11) rfl rfl Try.func23 (by kernel_rfl) rfl #[.agg #[.string a0_0, .string a0_1, .int .i64 a0_2, .slice A0_3 l0_3.length c0_3]] rfl (by (try simp only [List.map_toArray, List.map_cons, List.map_nil]); first | done | rfl | (simp only [List.length_drop, List.length_take]; rfl)) ?_; (with_reducible refine (impl_mapPairs.calls k a0_0 a0_1 a0_2 _ _ l0_3 t122 true _ ?side1 ?side2 A2.out).mono ?_); (case side1 => repeat (first | exact (Kd.C_below HR0_3.out HB.out) | (with_reducible refine Kd.C_alloc ?_ _) | (with_reducible refine Kd.C_drewN ?_ _) | (with_reducible refine Kd.C_drew ?_))); (case side2 => exact HC0_3.out); rintro e w6 ⟨v123, rfl, ho0, hb⟩; refine ⟨_, rfl, ?_⟩; have n0_ := Aside0.mk (Kd.R_lower ho0 (below_size (by repeat (first | (with_reducible first | exact HB.out | apply below_alloc | apply pw_below_drewN | apply below_drew1 | refine below_set ?_ GE121.out) | exact HB.out)))); have n1_ := Aside0.mk (blk_below (g := gb121) (o := .cells #[.string a0_0, .string a0_1, .int .i64 a0_2, .slice A0_3 l0_3.length c0_3] 29 (0, 0)) (by (with_reducible repeat (first | refine blk_drewN ?_ _ | refine blk_drew ?_ | refine blk_alloc ?_ _)); exact BK121.out) hb); have n2_ := Aside0.mk (below_step (by repeat (first | (with_reducible first | exact HB.out | apply below_alloc | apply pw_below_drewN | apply below_drew1 | refine below_set ?_ GE121.out) | exact HB.out)) hb); clear BK121; clear HB; have HO124 := n0_; have BK121 := n1_; have HB := n2_; clear n0_ n1_ n2_; (try clear hb); (try clear hb2); (try clear hk); (try clear hi); (try clear ho0)) | ((with_reducible refine gate_dst (N := 16) rfl ?_); refine Kd.R_lit k53 _ 53 ?hg (N := 16) ?hd (xs := ([] : List (S53))) (inner := []) (ok := fun _ => True) (okp := fun _ => True) ?hr ?hp (fun _ hk => hk) trivial (Below.refl _ _) (Nat.le_refl _) (by simp) ?_; (case hd => rfl); (case hg => rfl); (case hr => first | (go_simp; done) | (go_simp; rfl)); (case hp => exact (Reps.none _ _)); intro v127 w7 ho8 hb hg_ hnew_; clear hg_ hnew_; (first | rw [← Ny126.out] at ho8 | (simp only [Int.reduceToNat] at ho8; rw [← Ny126.out] at ho8)); have n0_ := Aside0.mk (Kd.R_below (by (with_reducible repeat (first | apply Kd.R_alloc | apply Kd.R_drewN | apply Kd.R_drew)); exact HO124.out) hb); have n1_ := Aside0.mk (Kd.R_lower ho8 (below_size (by repeat (first | (with_reducible first | exact HB.out | apply below_alloc | apply pw_below_drewN | apply below_drew1 | refine below_set ?_ GE121.out) | exact HB.out)))); have n2_ := Aside0.mk (blk_below (g := gb121) (o := .cells #[.string a0_0, .string a0_1, .int .i64 a0_2, .slice A0_3 l0_3.length c0_3] 29 (0, 0)) (by (with_reducible repeat (first | refine blk_drewN ?_ _ | refine blk_drew ?_ | refine blk_alloc ?_ _)); exact BK121.out) hb); have n3_ := Aside0.mk (below_step (by repeat (first | (with_reducible first | exact HB.out | apply below_alloc | apply pw_below_drewN | apply below_drew1 | refine below_set ?_ GE121.out) | exact HB.out)) hb); clear HO124; clear BK121; clear HB; have HO124 := n0_; have HO128 := n1_; have BK121 := n2_; have HB := n3_; clear n0_ n1_ n2_ n3_; clear hb ho8; obtain ⟨Ao9, co9, eo9⟩ := Kd.R_slice HO124.out; subst eo9))
  go_loopg [6, 19] k (fun kq v6 v19 w' => ∃ (x6_1 : List (S53)) (x19_1 : Int), v19 = .int .i64 x19_1 ∧ Aside0 (impl_MapList.l0 kq x6_1 t122 (t122.length : Int) x19_1 = some (r1, r2)) ∧ Aside0 (kq ≤ k) ∧ Aside0 (Kd.R k53 53 w' w.heap.size (fun _ => True) v6 x6_1) ∧ Aside0 (Kd.R k51 51 w' w.heap.size (fun _ => True) (.slice Ao9 t122.length co9) t122) ∧ Aside0 (w'.heap[gb121]? = some (.cells #[.string a0_0, .string a0_1, .int .i64 a0_2, (.slice A0_3 l0_3.length c0_3)] 29 (0, 0))) ∧ Aside0 (Below w.heap.size w w'))
  case atStart => exact ⟨(y126), (0), (by first | rfl | (simp; done) | (simp [*]; done)), H', ⟨Nat.le_refl _⟩, ⟨by (with_reducible repeat (first | apply Kd.R_alloc | apply Kd.R_drewN | apply Kd.R_drew)); exact HO128.out⟩, ⟨by (with_reducible repeat (first | apply Kd.R_alloc | apply Kd.R_drewN | apply Kd.R_drew)); exact HO124.out⟩, ⟨by (with_reducible repeat (first | refine blk_drewN ?_ _ | refine blk_drew ?_ | refine blk_alloc ?_ _)); exact BK121.out⟩, ⟨by repeat (first | (with_reducible first | exact HB.out | apply below_alloc | apply pw_below_drewN | apply below_drew1 | refine below_set ?_ GE121.out) | exact HB.out)⟩⟩
  case round =>
   clear H'
   try clear c1
   try clear c2
   try clear p2
   try clear c3
   try clear hcz5_0
   try clear hcz5_1
   try clear hcz5_2
   try clear hcz5_3
   try clear hfz5_0
   try clear hfz5_1
   try clear hfz5_2
   try clear hfz5_3
   obtain ⟨x6_1, x19_1, rfl, HA, HK1, HO_6, HO_17, BK121, HB⟩ := hrel
   cases gk with
   | zero => exact absurd HA.out (by simp [impl_MapList.l0])
   | succ k1 =>
    have H := HA.out
    clear HA
    simp only [impl_MapList.l0] at H
    by_cases c10 : x19_1 < (t122.length : Int)
    ·rw [if_pos c10] at H
     have c10b0 : decide (x19_1 < (t122.length : Int)) = true := decide_eq_true c10
     clear c10
     by_cases c11 : 0 ≤ x19_1
     ·rw [if_pos c11] at H
      have c11b0 : decide (0 ≤ x19_1) = true := decide_eq_true c11
      clear c11
      by_cases c12 : x19_1 < (t122.length : Int)
      ·rw [if_pos c12] at H
       have c12b0 : decide (x19_1 < (t122.length : Int)) = true := decide_eq_true c12
       clear c12
       by_cases c13 : x6_1.length < 2513169434916
       ·rw [if_pos c13] at H
        have LMc13 := Aside0.mk c13
        clear c13
        obtain ⟨y131, hy131⟩ : ∃ y_ : List (S53), y_ = (x6_1 ++ [(⟨1, 0, 0, (rd_T51 t122 x19_1).f0, (rd_T51 t122 x19_1).f1⟩ : S53)]) := ⟨_, rfl⟩
        replace H : (impl_MapList.l0 k1 y131 t122 (t122.length : Int) (wrap64 (x19_1 + 1))) = some (r1, r2) := by first | (rw [hy131]; with_reducible exact H) | (have H2_ := (Option.bind_some _ _).symm.trans H; rw [hy131]; with_reducible exact H2_) | (have H2_ := (Option.bind_some _ _).symm.trans H; with_reducible exact H2_) | with_reducible exact H | (rw [hy131]; exact H) | exact H
        have Ny131 := Aside0.mk hy131
        clear hy131
        have H' := Aside0.mk H
        clear H
        have p129 : 0 ≤ (x19_1 : Int) := of_decide_eq_true (by assumption)
        have q129 : x19_1 < (t122.length : Int) := of_decide_eq_true (by assumption)
        obtain ⟨ad129, e129, hx129_0, hx129_1, hx129_2⟩ := at_T51 (Kd.R_reads' HO_17.out).2.2 x19_1 p129 q129
        cases e129
        replace p129 := eq_true p129
        replace q129 := eq_true q129
        go_wp2_with (first | ((with_reducible refine gate_dst (N := 8) rfl ?_); refine box_event ?hg (N := 8) ?hd (cs := #[.string (⟨#[]⟩ : ByteArray), .string (⟨#[]⟩ : ByteArray), .string (⟨#[]⟩ : ByteArray)]) (t := 51) ?hr ?_; (case hd => rfl); (case hg => rfl); (case hr => first | (go_simp; done) | (go_simp; rfl)); intro gb130 hg w14 hbox hb; have n0_ := Aside0.mk (Kd.R_below (by (with_reducible repeat (first | apply Kd.R_alloc | apply Kd.R_drewN | apply Kd.R_drew)); exact HO_6.out) hb); have n1_ := Aside0.mk (Kd.R_below (Kd.R_elderB (by (with_reducible repeat (first | apply Kd.R_alloc | apply Kd.R_drewN | apply Kd.R_drew)); exact HO_17.out) gb130 (Nat.le_of_eq hg.symm)) hb); have n2_ := Aside0.mk (blk_below (g := gb121) (o := .cells #[.string a0_0, .string a0_1, .int .i64 a0_2, .slice A0_3 l0_3.length c0_3] 29 (0, 0)) (by (with_reducible repeat (first | refine blk_drewN ?_ _ | refine blk_drew ?_ | refine blk_alloc ?_ _)); exact BK121.out) hb); have n3_ := Aside0.mk (below_step (by repeat (first | (with_reducible first | exact HB.out | apply below_alloc | apply pw_below_drewN | apply below_drew1 | refine below_set ?_ GE121.out) | exact HB.out)) hb); have n4_ := Aside0.mk (hbox); have n5_ := Aside0.mk ((by rw [hg]; exact (below_size (by repeat (first | (with_reducible first | exact HB.out | apply below_alloc | apply pw_below_drewN | apply below_drew1 | refine below_set ?_ GE121.out) | exact HB.out))) : w.heap.size ≤ gb130)); have n6_ := Aside0.mk ((by rw [hg]; exact (below_size (by repeat (first | (with_reducible first | exact HB.out | apply below_alloc | apply pw_below_drewN | apply below_drew1 | refine below_set ?_ GE121.out) | exact HB.out))) : w.heap.size ≤ gb130)); have n7_ := Aside0.mk ((by rw [hg]; exact Nat.ne_of_lt (blk_lt (g := gb121) (o := .cells #[.string a0_0, .string a0_1, .int .i64 a0_2, .slice A0_3 l0_3.length c0_3] 29 (0, 0)) (by (with_reducible repeat (first | refine blk_drewN ?_ _ | refine blk_drew ?_ | refine blk_alloc ?_ _)); exact BK121.out)) : gb121 ≠ gb130)); have n8_ := Aside0.mk ((by rw [hg]; exact Nat.ne_of_gt (blk_lt (g := gb121) (o := .cells #[.string a0_0, .string a0_1, .int .i64 a0_2, .slice A0_3 l0_3.length c0_3] 29 (0, 0)) (by (with_reducible repeat (first | refine blk_drewN ?_ _ | refine blk_drew ?_ | refine blk_alloc ?_ _)); exact BK121.out)) : gb130 ≠ gb121)); clear HO_6; clear HO_17; clear BK121; clear HB; have HO_6 := n0_; have HO_17 := n1_; have BK121 := n2_; have HB := n3_; have BK130 := n4_; have GW130 := n5_; have GE130 := n6_; have NB121_130 := n7_; have NB130_121 := n8_; clear n0_ n1_ n2_ n3_ n4_ n5_ n6_ n7_ n8_; clear hb hbox hg; have hnb15 := NB130_121.out; have hnc15 := NB121_130.out; have hcz16_0 : w14.cell? ⟨gb130, 0, none⟩ = some (.string (⟨#[]⟩ : ByteArray)) := (blk_cell BK130.out 0).trans rfl; have hcz16_1 : w14.cell? ⟨gb130, 1, none⟩ = some (.string (⟨#[]⟩ : ByteArray)) := (blk_cell BK130.out 1).trans rfl; have hcz16_2 : w14.cell? ⟨gb130, 2, none⟩ = some (.string (⟨#[]⟩ : ByteArray)) := (blk_cell BK130.out 2).trans rfl; have hfz16_0 := blk_frozen BK130.out 0; have hfz16_1 := blk_frozen BK130.out 1; have hfz16_2 := blk_frozen BK130.out 2) | ((with_reducible refine gate_builtin (b := .append) (xs := #[.tmp 23, .tmp 29]) rfl ?_); at_builtin; refine Kd.R_append k53 (w0 := w) w.heap.size rfl (.tmp 23) (.tmp 29) 35 53 (.agg #[(.int .i64 0), (.int .i64 0), (.int .i64 0), (.string ⟨#[]⟩), (.string ⟨#[]⟩)]) 56 rfl Try.underlying35 info53 rfl (by decide) (by omega) u6 x6_1 (⟨1, 0, 0, (rd_T51 t122 x19_1).f0, (rd_T51 t122 x19_1).f1⟩ : S53) [.int .i64 1, .int .i64 0, .int .i64 0, .string ((rd_T51 t122 x19_1).f0), .string ((rd_T51 t122 x19_1).f1)] (fun _ => True) (fun _ => False) rfl (by first | (go_simp; done) | (go_simp; rfl)) ?aP (fun _ hk => hk.elim) ?aF ?aO ?aB ?aS ?aL ?_; (case aP => exact k53_mkM _ _ _ (⟨1, 0, 0, (rd_T51 t122 x19_1).f0, (rd_T51 t122 x19_1).f1⟩ : S53)); (case aB => exact (by repeat (first | (with_reducible first | exact HB.out | apply below_alloc | apply pw_below_drewN | apply below_drew1 | refine below_set ?_ GE121.out | refine below_set ?_ GE130.out) | exact HB.out))); (case aF => exact (fun _ _ => trivial)); (case aO => exact (by (with_reducible repeat (first | apply Kd.R_alloc | apply Kd.R_drewN | apply Kd.R_drew)); exact Kd.R_mono (Kd.R_far (p := ⟨gb130, 2, none⟩) (Kd.R_far (p := ⟨gb130, 1, none⟩) (Kd.R_far (p := ⟨gb130, 0, none⟩) (Kd.R_types HO_6.out BK130.out (by decide)) (fun _ hk => hk.2) (.string ((rd_T51 t122 x19_1).f0))) (fun _ hk => hk.2) (.string ((rd_T51 t122 x19_1).f1))) (fun _ hk => hk.2) (.string ((rd_T51 t122 x19_1).f2))) (fun _ hk => trivial))); (case aS => exact (below_size (by repeat (first | (with_reducible first | exact HB.out | apply below_alloc | apply pw_below_drewN | apply below_drew1 | refine below_set ?_ GE121.out | refine below_set ?_ GE130.out) | exact HB.out)))); (case aL => have := LMc13.out; omega); intro v132 w17 ho hb hg hat; rw [← Ny131.out] at ho; have n0_ := Aside0.mk (Kd.R_over' (by (with_reducible repeat (first | apply Kd.R_alloc | apply Kd.R_drewN | apply Kd.R_drew)); exact (Kd.R_mono (Kd.R_far (p := ⟨gb130, 2, none⟩) (Kd.R_far (p := ⟨gb130, 1, none⟩) (Kd.R_far (p := ⟨gb130, 0, none⟩) (Kd.R_mono HO_17.out (fun k_ hk => (⟨hk, hk.2⟩ : _ ∧ k_ ≠ gb130))) (fun _ hk => hk.2) (.string ((rd_T51 t122 x19_1).f0))) (fun _ hk => hk.2) (.string ((rd_T51 t122 x19_1).f1))) (fun _ hk => hk.2) (.string ((rd_T51 t122 x19_1).f2))) (fun _ h_ => h_.1))) (Kd.R_typed (by (with_reducible repeat (first | apply Kd.R_alloc | apply Kd.R_drewN | apply Kd.R_drew)); exact (Kd.R_mono (Kd.R_far (p := ⟨gb130, 2, none⟩) (Kd.R_far (p := ⟨gb130, 1, none⟩) (Kd.R_far (p := ⟨gb130, 0, none⟩) (Kd.R_types HO_6.out BK130.out (by decide)) (fun _ hk => hk.2) (.string ((rd_T51 t122 x19_1).f0))) (fun _ hk => hk.2) (.string ((rd_T51 t122 x19_1).f1))) (fun _ hk => hk.2) (.string ((rd_T51 t122 x19_1).f2))) (fun _ h_ => h_.1)))) (by decide) hg); have n1_ := Aside0.mk (blk_grown (g := gb121) (o := .cells #[.string a0_0, .string a0_1, .int .i64 a0_2, .slice A0_3 l0_3.length c0_3] 29 (0, 0)) (by (with_reducible repeat (first | refine blk_drewN ?_ _ | refine blk_drew ?_ | refine blk_alloc ?_ _)); refine blk_far ?_ NB121_130.out _; (with_reducible repeat (first | refine blk_drewN ?_ _ | refine blk_drew ?_ | refine blk_alloc ?_ _)); refine blk_far ?_ NB121_130.out _; (with_reducible repeat (first | refine blk_drewN ?_ _ | refine blk_drew ?_ | refine blk_alloc ?_ _)); refine blk_far ?_ NB121_130.out _; (with_reducible repeat (first | refine blk_drewN ?_ _ | refine blk_drew ?_ | refine blk_alloc ?_ _)); exact BK121.out) hg (Kd.R_ne HO_6.out BK121.out (by decide))); have n2_ := Aside0.mk (blk_grown (g := gb130) (o := .cells #[.string ((rd_T51 t122 x19_1).f0), .string ((rd_T51 t122 x19_1).f1), .string ((rd_T51 t122 x19_1).f2)] 51 (0, 0)) (by (with_reducible repeat (first | refine blk_drewN ?_ _ | refine blk_drew ?_ | refine blk_alloc ?_ _)); refine blk_put (cs := #[.string ((rd_T51 t122 x19_1).f0), .string ((rd_T51 t122 x19_1).f1), .string (⟨#[]⟩ : ByteArray)]) ?_ 2 _ rfl; (with_reducible repeat (first | refine blk_drewN ?_ _ | refine blk_drew ?_ | refine blk_alloc ?_ _)); refine blk_put (cs := #[.string ((rd_T51 t122 x19_1).f0), .string (⟨#[]⟩ : ByteArray), .string (⟨#[]⟩ : ByteArray)]) ?_ 1 _ rfl; (with_reducible repeat (first | refine blk_drewN ?_ _ | refine blk_drew ?_ | refine blk_alloc ?_ _)); refine blk_put (cs := #[.string (⟨#[]⟩ : ByteArray), .string (⟨#[]⟩ : ByteArray), .string (⟨#[]⟩ : ByteArray)]) ?_ 0 _ rfl; (with_reducible repeat (first | refine blk_drewN ?_ _ | refine blk_drew ?_ | refine blk_alloc ?_ _)); exact BK130.out) hg (Kd.R_ne HO_6.out BK130.out (by decide))); have n3_ := Aside0.mk (hb); have n4_ := Aside0.mk (ho); clear HO_17; clear BK121; clear BK130; clear HB; clear HO_6; have HO_17 := n0_; have BK121 := n1_; have BK130 := n2_; have HB := n3_; have HO133 := n4_; clear n0_ n1_ n2_ n3_ n4_; clear ho hb hg hat))
        go_roundg k1
        case measure => have := HK1.out; omega
        case rel => exact ⟨(y131), (wrap64 (x19_1 + 1)), (by first | rfl | (simp; done) | (simp [*]; done)), H', ⟨by have := HK1.out; omega⟩, ⟨by (with_reducible repeat (first | apply Kd.R_alloc | apply Kd.R_drewN | apply Kd.R_drew)); exact HO133.out⟩, ⟨by (with_reducible repeat (first | apply Kd.R_alloc | apply Kd.R_drewN | apply Kd.R_drew)); exact Kd.R_mono HO_17.out (fun _ hk => trivial)⟩, ⟨by (with_reducible repeat (first | refine blk_drewN ?_ _ | refine blk_drew ?_ | refine blk_alloc ?_ _)); exact BK121.out⟩, ⟨by repeat (first | (with_reducible first | exact HB.out | apply below_alloc | apply pw_below_drewN | apply below_drew1 | refine below_set ?_ GE121.out | refine below_set ?_ GE130.out) | exact HB.out)⟩⟩
       ·rw [if_neg c13] at H
        exact absurd H (by simp)
      ·rw [if_neg c12] at H
       exact absurd H (by simp)
     ·rw [if_neg c11] at H
      exact absurd H (by simp)
    ·rw [if_neg c10] at H
     have c10b0 : decide (x19_1 < (t122.length : Int)) = false := decide_eq_false c10
     clear c10
     simp only [Option.some.injEq, Prod.mk.injEq] at H
     obtain ⟨rfl, rfl⟩ := H
     go_wp2
     go_ret2
     exact ⟨_, by first | rfl | (simp [errW_none, errW_some] <;> rfl) | (simp [*, errW_none, errW_some] <;> rfl), by (with_reducible repeat (first | apply Kd.R_alloc | apply Kd.R_drewN | apply Kd.R_drew)); exact HO_6.out, by repeat (first | (with_reducible first | exact HB.out | apply below_alloc | apply pw_below_drewN | apply below_drew1 | refine below_set ?_ GE121.out) | exact HB.out)⟩
 ·replace c3 := Bool.eq_false_iff.mpr c3
  subst c3
  have H1 : (some (([] : List (S53)), 1)) = some (r1, r2) := by rw [if_neg (show ¬ (false = true) by decide)] at H; exact H
  clear H
  have H := H1
  clear H1
  simp only [Option.some.injEq, Prod.mk.injEq] at H
  obtain ⟨rfl, rfl⟩ := H
  go_enter Try.func14, Try.ntmps14
  go_wp2_with (first | ((with_reducible refine gate_dst (N := 1) rfl ?_); refine box_event ?hg (N := 1) ?hd (cs := #[.string a0_0, .string a0_1, .int .i64 a0_2, .slice A0_3 l0_3.length c0_3]) (t := 29) ?hr ?_; (case hd => rfl); (case hg => rfl); (case hr => first | (go_simp; done) | (go_simp; rfl)); intro gb121 hg w18 hbox hb; have n0_ := Aside0.mk (below_step (by repeat (first | (with_reducible first | exact HB.out | apply below_alloc | apply pw_below_drewN | apply below_drew1) | exact HB.out)) hb); have n1_ := Aside0.mk (hbox); have n2_ := Aside0.mk ((by rw [hg]; exact (below_size (by repeat (first | (with_reducible first | exact HB.out | apply below_alloc | apply pw_below_drewN | apply below_drew1) | exact HB.out))) : w.heap.size ≤ gb121)); have n3_ := Aside0.mk ((by rw [hg]; exact (below_size (by repeat (first | (with_reducible first | exact HB.out | apply below_alloc | apply pw_below_drewN | apply below_drew1) | exact HB.out))) : w.heap.size ≤ gb121)); clear HB; have HB := n0_; have BK121 := n1_; have GW121 := n2_; have GE121 := n3_; clear n0_ n1_ n2_ n3_; clear hb hbox hg; have hcz19_0 : w18.cell? ⟨gb121, 0, none⟩ = some (.string a0_0) := (blk_cell BK121.out 0).trans rfl; have hcz19_1 : w18.cell? ⟨gb121, 1, none⟩ = some (.string a0_1) := (blk_cell BK121.out 1).trans rfl; have hcz19_2 : w18.cell? ⟨gb121, 2, none⟩ = some (.int .i64 a0_2) := (blk_cell BK121.out 2).trans rfl; have hcz19_3 : w18.cell? ⟨gb121, 3, none⟩ = some (.slice A0_3 l0_3.length c0_3) := (blk_cell BK121.out 3).trans rfl; have hfz19_0 := blk_frozen BK121.out 0; have hfz19_1 := blk_frozen BK121.out 1; have hfz19_2 := blk_frozen BK121.out 2; have hfz19_3 := blk_frozen BK121.out 3) | ((with_reducible refine gate_callee (f := 23) rfl ?_); refine goesL_ (some 11) rfl rfl Try.func23 (by kernel_rfl) rfl #[.agg #[.string a0_0, .string a0_1, .int .i64 a0_2, .slice A0_3 l0_3.length c0_3]] rfl (by (try simp only [List.map_toArray, List.map_cons, List.map_nil]); first | done | rfl | (simp only [List.length_drop, List.length_take]; rfl)) ?_; (with_reducible refine (impl_mapPairs.calls k a0_0 a0_1 a0_2 _ _ l0_3 t122 false _ ?side1 ?side2 A2.out).mono ?_); (case side1 => repeat (first | exact (Kd.C_below HR0_3.out HB.out) | (with_reducible refine Kd.C_alloc ?_ _) | (with_reducible refine Kd.C_drewN ?_ _) | (with_reducible refine Kd.C_drew ?_))); (case side2 => exact HC0_3.out); rintro e w20 ⟨v123, rfl, ho0, hb⟩; refine ⟨_, rfl, ?_⟩; have n0_ := Aside0.mk (Kd.R_lower ho0 (below_size (by repeat (first | (with_reducible first | exact HB.out | apply below_alloc | apply pw_below_drewN | apply below_drew1 | refine below_set ?_ GE121.out) | exact HB.out)))); have n1_ := Aside0.mk (blk_below (g := gb121) (o := .cells #[.string a0_0, .string a0_1, .int .i64 a0_2, .slice A0_3 l0_3.length c0_3] 29 (0, 0)) (by (with_reducible repeat (first | refine blk_drewN ?_ _ | refine blk_drew ?_ | refine blk_alloc ?_ _)); exact BK121.out) hb); have n2_ := Aside0.mk (below_step (by repeat (first | (with_reducible first | exact HB.out | apply below_alloc | apply pw_below_drewN | apply below_drew1 | refine below_set ?_ GE121.out) | exact HB.out)) hb); clear BK121; clear HB; have HO124 := n0_; have BK121 := n1_; have HB := n2_; clear n0_ n1_ n2_; (try clear hb); (try clear hb2); (try clear hk); (try clear hi); (try clear ho0)))
  go_ret2
  exact ⟨_, by first | rfl | (simp [errW_none, errW_some] <;> rfl) | (simp [*, errW_none, errW_some] <;> rfl), by first | exact Kd.R_nil _ _ _ _ _ | exact Kd.N_nil _ _ _ _ _ | exact Kd.V_nil _ _ _ _ _ | exact Kd.Q_nil _ _ _ _ _ | exact Kd.S_nil _ _ _ _ _, by repeat (first | (with_reducible first | exact HB.out | apply below_alloc | apply pw_below_drewN | apply below_drew1 | refine below_set ?_ GE121.out) | exact HB.out)⟩

/-! ### laws_eqCommand: function 28 -/
def laws_eqCommand.f (a0_0 : Int) (a0_1 : Int) (a0_2 : Int) (a0_3 : ByteArray) (a0_4 : ByteArray) (a1_0 : Int) (a1_1 : Int) (a1_2 : Int) (a1_3 : ByteArray) (a1_4 : ByteArray) : Option (Bool) := if a0_0 = a1_0 then (if a0_1 = a1_1 then (if a0_2 = a1_2 then (if a0_3.toList = a1_3.toList then (if a0_4.toList = a1_4.toList then (some true) else (none)) else (none)) else (none)) else (none)) else (none)
set_option maxHeartbeats 8000000 in
set_option maxRecDepth 100000 in
theorem laws_eqCommand.calls (a0_0 : Int) (a0_1 : Int) (a0_2 : Int) (a0_3 : ByteArray) (a0_4 : ByteArray) (a1_0 : Int) (a1_1 : Int) (a1_2 : Int) (a1_3 : ByteArray) (a1_4 : ByteArray) (r : Bool) (w : World) (h : laws_eqCommand.f a0_0 a0_1 a0_2 a0_3 a0_4 a1_0 a1_1 a1_2 a1_3 a1_4 = some r) :
  Calls Try.prog 28 #[.agg #[.int .i64 a0_0, .int .i64 a0_1, .int .i64 a0_2, .string a0_3, .string a0_4], .agg #[.int .i64 a1_0, .int .i64 a1_1, .int .i64 a1_2, .string a1_3, .string a1_4]] w fun e w' => e = .returned (.bool r) ∧ Below w.heap.size w w' := by
 have hu53 := Try.underlying53
 have HB := Aside0.mk (Below.refl w.heap.size w)
 have H : (if a0_0 = a1_0 then (if a0_1 = a1_1 then (if a0_2 = a1_2 then (if a0_3.toList = a1_3.toList then (if a0_4.toList = a1_4.toList then (some true) else (none)) else (none)) else (none)) else (none)) else (none)) = some r := h
 clear h
 by_cases c3 : a0_0 = a1_0
 ·rw [if_pos c3] at H
  have c3b0 : (a0_0 == a1_0) = true := beq_iff_eq.mpr c3
  have c3b1 : (a0_0 != a1_0) = false := bne_eq_false_iff_eq.mpr c3
  clear c3
  by_cases c4 : a0_1 = a1_1
  ·rw [if_pos c4] at H
   have c4b0 : (a0_1 == a1_1) = true := beq_iff_eq.mpr c4
   have c4b1 : (a0_1 != a1_1) = false := bne_eq_false_iff_eq.mpr c4
   clear c4
   by_cases c5 : a0_2 = a1_2
   ·rw [if_pos c5] at H
    have c5b0 : (a0_2 == a1_2) = true := beq_iff_eq.mpr c5
    have c5b1 : (a0_2 != a1_2) = false := bne_eq_false_iff_eq.mpr c5
    clear c5
    by_cases c6 : a0_3.toList = a1_3.toList
    ·rw [if_pos c6] at H
     have c6b0 : (a0_3.toList == a1_3.toList) = true := beq_iff_eq.mpr c6
     have c6b1 : (a0_3.toList != a1_3.toList) = false := bne_eq_false_iff_eq.mpr c6
     clear c6
     by_cases c7 : a0_4.toList = a1_4.toList
     ·rw [if_pos c7] at H
      have c7b0 : (a0_4.toList == a1_4.toList) = true := beq_iff_eq.mpr c7
      have c7b1 : (a0_4.toList != a1_4.toList) = false := bne_eq_false_iff_eq.mpr c7
      clear c7
      obtain rfl := Option.some.inj H
      go_enter Try.func28, Try.ntmps28
      go_wp2_with (first | ((with_reducible refine gate_dst (N := 2) rfl ?_); refine box_event ?hg (N := 2) ?hd (cs := #[.int .i64 a0_0, .int .i64 a0_1, .int .i64 a0_2, .string a0_3, .string a0_4]) (t := 53) ?hr ?_; (case hd => rfl); (case hg => rfl); (case hr => first | (go_simp; done) | (go_simp; rfl)); intro gb134 hg w8 hbox hb; have n0_ := Aside0.mk (below_step (by repeat (first | (with_reducible first | exact HB.out | apply below_alloc | apply pw_below_drewN | apply below_drew1) | exact HB.out)) hb); have n1_ := Aside0.mk (hbox); have n2_ := Aside0.mk ((by rw [hg]; exact (below_size (by repeat (first | (with_reducible first | exact HB.out | apply below_alloc | apply pw_below_drewN | apply below_drew1) | exact HB.out))) : w.heap.size ≤ gb134)); have n3_ := Aside0.mk ((by rw [hg]; exact (below_size (by repeat (first | (with_reducible first | exact HB.out | apply below_alloc | apply pw_below_drewN | apply below_drew1) | exact HB.out))) : w.heap.size ≤ gb134)); clear HB; have HB := n0_; have BK134 := n1_; have GW134 := n2_; have GE134 := n3_; clear n0_ n1_ n2_ n3_; clear hb hbox hg) | ((with_reducible refine gate_dst (N := 3) rfl ?_); refine box_event ?hg (N := 3) ?hd (cs := #[.int .i64 a1_0, .int .i64 a1_1, .int .i64 a1_2, .string a1_3, .string a1_4]) (t := 53) ?hr ?_; (case hd => rfl); (case hg => rfl); (case hr => first | (go_simp; done) | (go_simp; rfl)); intro gb135 hg w9 hbox hb; have n0_ := Aside0.mk (blk_below (g := gb134) (o := .cells #[.int .i64 a0_0, .int .i64 a0_1, .int .i64 a0_2, .string a0_3, .string a0_4] 53 (0, 0)) (by (with_reducible repeat (first | refine blk_drewN ?_ _ | refine blk_drew ?_ | refine blk_alloc ?_ _)); exact BK134.out) hb); have n1_ := Aside0.mk (below_step (by repeat (first | (with_reducible first | exact HB.out | apply below_alloc | apply pw_below_drewN | apply below_drew1 | refine below_set ?_ GE134.out) | exact HB.out)) hb); have n2_ := Aside0.mk (hbox); have n3_ := Aside0.mk ((by rw [hg]; exact (below_size (by repeat (first | (with_reducible first | exact HB.out | apply below_alloc | apply pw_below_drewN | apply below_drew1 | refine below_set ?_ GE134.out) | exact HB.out))) : w.heap.size ≤ gb135)); have n4_ := Aside0.mk ((by rw [hg]; exact (below_size (by repeat (first | (with_reducible first | exact HB.out | apply below_alloc | apply pw_below_drewN | apply below_drew1 | refine below_set ?_ GE134.out) | exact HB.out))) : w.heap.size ≤ gb135)); have n5_ := Aside0.mk ((by rw [hg]; exact Nat.ne_of_lt (blk_lt (g := gb134) (o := .cells #[.int .i64 a0_0, .int .i64 a0_1, .int .i64 a0_2, .string a0_3, .string a0_4] 53 (0, 0)) (by (with_reducible repeat (first | refine blk_drewN ?_ _ | refine blk_drew ?_ | refine blk_alloc ?_ _)); exact BK134.out)) : gb134 ≠ gb135)); have n6_ := Aside0.mk ((by rw [hg]; exact Nat.ne_of_gt (blk_lt (g := gb134) (o := .cells #[.int .i64 a0_0, .int .i64 a0_1, .int .i64 a0_2, .string a0_3, .string a0_4] 53 (0, 0)) (by (with_reducible repeat (first | refine blk_drewN ?_ _ | refine blk_drew ?_ | refine blk_alloc ?_ _)); exact BK134.out)) : gb135 ≠ gb134)); clear BK134; clear HB; have BK134 := n0_; have HB := n1_; have BK135 := n2_; have GW135 := n3_; have GE135 := n4_; have NB134_135 := n5_; have NB135_134 := n6_; clear n0_ n1_ n2_ n3_ n4_ n5_ n6_; clear hb hbox hg; have hnb10 := NB134_135.out; have hnc10 := NB135_134.out; have hcz11_0 : w9.cell? ⟨gb134, 0, none⟩ = some (.int .i64 a0_0) := (blk_cell BK134.out 0).trans rfl; have hcz11_1 : w9.cell? ⟨gb134, 1, none⟩ = some (.int .i64 a0_1) := (blk_cell BK134.out 1).trans rfl; have hcz11_2 : w9.cell? ⟨gb134, 2, none⟩ = some (.int .i64 a0_2) := (blk_cell BK134.out 2).trans rfl; have hcz11_3 : w9.cell? ⟨gb134, 3, none⟩ = some (.string a0_3) := (blk_cell BK134.out 3).trans rfl; have hcz11_4 : w9.cell? ⟨gb134, 4, none⟩ = some (.string a0_4) := (blk_cell BK134.out 4).trans rfl; have hfz11_0 := blk_frozen BK134.out 0; have hfz11_1 := blk_frozen BK134.out 1; have hfz11_2 := blk_frozen BK134.out 2; have hfz11_3 := blk_frozen BK134.out 3; have hfz11_4 := blk_frozen BK134.out 4; have hcz12_0 : w9.cell? ⟨gb135, 0, none⟩ = some (.int .i64 a1_0) := (blk_cell BK135.out 0).trans rfl; have hcz12_1 : w9.cell? ⟨gb135, 1, none⟩ = some (.int .i64 a1_1) := (blk_cell BK135.out 1).trans rfl; have hcz12_2 : w9.cell? ⟨gb135, 2, none⟩ = some (.int .i64 a1_2) := (blk_cell BK135.out 2).trans rfl; have hcz12_3 : w9.cell? ⟨gb135, 3, none⟩ = some (.string a1_3) := (blk_cell BK135.out 3).trans rfl; have hcz12_4 : w9.cell? ⟨gb135, 4, none⟩ = some (.string a1_4) := (blk_cell BK135.out 4).trans rfl; have hfz12_0 := blk_frozen BK135.out 0; have hfz12_1 := blk_frozen BK135.out 1; have hfz12_2 := blk_frozen BK135.out 2; have hfz12_3 := blk_frozen BK135.out 3; have hfz12_4 := blk_frozen BK135.out 4))
      go_ret
      exact ⟨by first | rfl | (simp [errW_none, errW_some] <;> rfl) | (simp [*, errW_none, errW_some] <;> rfl), by repeat (first | (with_reducible first | exact HB.out | apply below_alloc | apply pw_below_drewN | apply below_drew1 | refine below_set ?_ GE134.out | refine below_set ?_ GE135.out) | exact HB.out)⟩
     ·rw [if_neg c7] at H
      exact absurd H (by simp)
    ·rw [if_neg c6] at H
     exact absurd H (by simp)
   ·rw [if_neg c5] at H
    exact absurd H (by simp)
  ·rw [if_neg c4] at H
   exact absurd H (by simp)
 ·rw [if_neg c3] at H
  exact absurd H (by simp)

end Go.Proofs.Ytjkdmegpjdfcaaa.PFnExactMapList
