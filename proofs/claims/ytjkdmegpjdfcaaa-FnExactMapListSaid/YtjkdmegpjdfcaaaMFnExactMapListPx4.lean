/- Written by a program (a session's own form of the print): plain functions with the answers of the Go functions, and the walks that show it. Lean checks it. -/
import Derived.Test.YtjkdmegpjdfcaaaMFnExactMapListPx0
import Derived.Test.YtjkdmegpjdfcaaaMFnExactMapListPx1
import Derived.Test.YtjkdmegpjdfcaaaMFnExactMapListPx3
namespace Go.Proofs.Ytjkdmegpjdfcaaa.PFnExactMapList
open Go.RowKit Go.Proofs.YtjkdmegpjdfcaaaW.PrintWords Go.Proofs.YtjkdmegpjdfcaaaW.PrintLast Go.Proofs.YtjkdmegpjdfcaaaW.PrintMore
attribute [local go_sem] max2_int min2_int max_two min_two max_three min_three max_four min_four   -- for this text's walks alone
set_option linter.unusedVariables false
set_option linter.unusedSimpArgs false

/-! ### spec_MapOK: function 7 -/
def spec_MapOK.f (k : Nat) (a0_0 : ByteArray) (a0_1 : ByteArray) (a0_2 : Int) (l0_3 : List (S29)) : Option (Bool) := (spec_l07Empty.f a0_0 a0_1 a0_2 l0_3).bind fun t110 => (if t110 = true then (some true) else ((spec_l07Count.f k a0_0 a0_1 a0_2 l0_3 0 (⟨#[]⟩ : ByteArray) 40).bind fun t111 => (some (decide (t111 > 0)))))
theorem spec_MapOK.mono : ∀ a0 a1 a2 a3 k, LeO (spec_MapOK.f k a0 a1 a2 a3) (spec_MapOK.f (k + 1) a0 a1 a2 a3) := by
 intro a0 a1 a2 a3 k
 unfold spec_MapOK.f
 repeat' first
   | (with_reducible exact spec_l07Count.mono _ _ _ _ _ _ _ _)
   | (with_reducible exact LeO.refl _)
   | (with_reducible exact LeO.none _)
   | (with_reducible refine LeO.ite ?_ ?_)
   | (with_reducible refine LeO.bind ?_ (fun _ => ?_))
   | exact spec_l07Count.mono _ _ _ _ _ _ _ _
   | exact LeO.none _
   | refine LeO.ite ?_ ?_
   | refine LeO.bind ?_ (fun _ => ?_)
set_option maxHeartbeats 8000000 in
set_option maxRecDepth 100000 in
theorem spec_MapOK.calls (k : Nat) (a0_0 : ByteArray) (a0_1 : ByteArray) (a0_2 : Int) (A0_3 : Option Addr) (c0_3 : Nat) (l0_3 : List (S29)) (r : Bool) (w : World) (hr0_3 : Kd.C k29 w A0_3 l0_3.length l0_3) (hc0_3 : l0_3.length ≤ c0_3) (h : spec_MapOK.f k a0_0 a0_1 a0_2 l0_3 = some r) :
  Calls Try.prog 7 #[.agg #[.string a0_0, .string a0_1, .int .i64 a0_2, .slice A0_3 l0_3.length c0_3]] w fun e w' => e = .returned (.bool r) ∧ Below w.heap.size w w' := by
 have hu29 := Try.underlying29
 have HR0_3 := Aside0.mk hr0_3
 have HC0_3 := Aside0.mk hc0_3
 clear hr0_3 hc0_3
 have HB := Aside0.mk (Below.refl w.heap.size w)
 have H : ((spec_l07Empty.f a0_0 a0_1 a0_2 l0_3).bind fun t110 => (if t110 = true then (some true) else ((spec_l07Count.f k a0_0 a0_1 a0_2 l0_3 0 (⟨#[]⟩ : ByteArray) 40).bind fun t111 => (some (decide (t111 > 0)))))) = some r := h
 clear h
 replace H := Option.bind_eq_some_iff.mp H
 obtain ⟨t110, A20, H⟩ := H
 replace H : (if t110 = true then (some true) else ((spec_l07Count.f k a0_0 a0_1 a0_2 l0_3 0 (⟨#[]⟩ : ByteArray) 40).bind fun t111 => (some (decide (t111 > 0))))) = some r := H
 have A2 := Aside0.mk A20
 clear A20
 by_cases c3 : t110 = true
 ·subst c3
  have H1 : (some true) = some r := by rw [if_pos rfl] at H; exact H
  clear H
  have H := H1
  clear H1
  obtain rfl := Option.some.inj H
  go_enter Try.func7, Try.ntmps7
  go_wp2_with (first | ((with_reducible refine gate_dst (N := 1) rfl ?_); refine box_event ?hg (N := 1) ?hd (cs := #[.string a0_0, .string a0_1, .int .i64 a0_2, .slice A0_3 l0_3.length c0_3]) (t := 29) ?hr ?_; (case hd => rfl); (case hg => rfl); (case hr => first | (go_simp; done) | (go_simp; rfl)); intro gb109 hg w4 hbox hb; have n0_ := Aside0.mk (below_step (by repeat (first | (with_reducible first | exact HB.out | apply below_alloc | apply pw_below_drewN | apply below_drew1) | exact HB.out)) hb); have n1_ := Aside0.mk (hbox); have n2_ := Aside0.mk ((by rw [hg]; exact (below_size (by repeat (first | (with_reducible first | exact HB.out | apply below_alloc | apply pw_below_drewN | apply below_drew1) | exact HB.out))) : w.heap.size ≤ gb109)); have n3_ := Aside0.mk ((by rw [hg]; exact (below_size (by repeat (first | (with_reducible first | exact HB.out | apply below_alloc | apply pw_below_drewN | apply below_drew1) | exact HB.out))) : w.heap.size ≤ gb109)); clear HB; have HB := n0_; have BK109 := n1_; have GW109 := n2_; have GE109 := n3_; clear n0_ n1_ n2_ n3_; clear hb hbox hg; have hcz5_0 : w4.cell? ⟨gb109, 0, none⟩ = some (.string a0_0) := (blk_cell BK109.out 0).trans rfl; have hcz5_1 : w4.cell? ⟨gb109, 1, none⟩ = some (.string a0_1) := (blk_cell BK109.out 1).trans rfl; have hcz5_2 : w4.cell? ⟨gb109, 2, none⟩ = some (.int .i64 a0_2) := (blk_cell BK109.out 2).trans rfl; have hcz5_3 : w4.cell? ⟨gb109, 3, none⟩ = some (.slice A0_3 l0_3.length c0_3) := (blk_cell BK109.out 3).trans rfl; have hfz5_0 := blk_frozen BK109.out 0; have hfz5_1 := blk_frozen BK109.out 1; have hfz5_2 := blk_frozen BK109.out 2; have hfz5_3 := blk_frozen BK109.out 3) | ((with_reducible refine gate_callee (f := 20) rfl ?_); refine goesL_ (some 4) rfl rfl Try.func20 (by kernel_rfl) rfl #[.agg #[.string a0_0, .string a0_1, .int .i64 a0_2, .slice A0_3 l0_3.length c0_3]] rfl (by (try simp only [List.map_toArray, List.map_cons, List.map_nil]); first | done | rfl | (simp only [List.length_drop, List.length_take]; rfl)) ?_; (with_reducible refine (spec_l07Empty.calls a0_0 a0_1 a0_2 _ _ l0_3 true _ ?side1 ?side2 A2.out).mono ?_); (case side1 => repeat (first | exact (Kd.C_below HR0_3.out HB.out) | (with_reducible refine Kd.C_alloc ?_ _) | (with_reducible refine Kd.C_drewN ?_ _) | (with_reducible refine Kd.C_drew ?_))); (case side2 => exact HC0_3.out); rintro e w6 ⟨rfl, hb⟩; refine ⟨_, rfl, ?_⟩; have n0_ := Aside0.mk (blk_below (g := gb109) (o := .cells #[.string a0_0, .string a0_1, .int .i64 a0_2, .slice A0_3 l0_3.length c0_3] 29 (0, 0)) (by (with_reducible repeat (first | refine blk_drewN ?_ _ | refine blk_drew ?_ | refine blk_alloc ?_ _)); exact BK109.out) hb); have n1_ := Aside0.mk (below_step (by repeat (first | (with_reducible first | exact HB.out | apply below_alloc | apply pw_below_drewN | apply below_drew1 | refine below_set ?_ GE109.out) | exact HB.out)) hb); clear BK109; clear HB; have BK109 := n0_; have HB := n1_; clear n0_ n1_; (try clear hb); (try clear hb2); (try clear hk); (try clear hi)))
  go_ret
  exact ⟨by first | rfl | (simp [errW_none, errW_some] <;> rfl) | (simp [*, errW_none, errW_some] <;> rfl), by repeat (first | (with_reducible first | exact HB.out | apply below_alloc | apply pw_below_drewN | apply below_drew1 | refine below_set ?_ GE109.out) | exact HB.out)⟩
 ·replace c3 := Bool.eq_false_iff.mpr c3
  subst c3
  have H1 : ((spec_l07Count.f k a0_0 a0_1 a0_2 l0_3 0 (⟨#[]⟩ : ByteArray) 40).bind fun t111 => (some (decide (t111 > 0)))) = some r := by rw [if_neg (show ¬ (false = true) by decide)] at H; exact H
  clear H
  have H := H1
  clear H1
  replace H := Option.bind_eq_some_iff.mp H
  obtain ⟨t111, A70, H⟩ := H
  replace H : (some (decide (t111 > 0))) = some r := H
  have A7 := Aside0.mk A70
  clear A70
  obtain rfl := Option.some.inj H
  go_enter Try.func7, Try.ntmps7
  go_wp2_with (first | ((with_reducible refine gate_dst (N := 1) rfl ?_); refine box_event ?hg (N := 1) ?hd (cs := #[.string a0_0, .string a0_1, .int .i64 a0_2, .slice A0_3 l0_3.length c0_3]) (t := 29) ?hr ?_; (case hd => rfl); (case hg => rfl); (case hr => first | (go_simp; done) | (go_simp; rfl)); intro gb109 hg w8 hbox hb; have n0_ := Aside0.mk (below_step (by repeat (first | (with_reducible first | exact HB.out | apply below_alloc | apply pw_below_drewN | apply below_drew1) | exact HB.out)) hb); have n1_ := Aside0.mk (hbox); have n2_ := Aside0.mk ((by rw [hg]; exact (below_size (by repeat (first | (with_reducible first | exact HB.out | apply below_alloc | apply pw_below_drewN | apply below_drew1) | exact HB.out))) : w.heap.size ≤ gb109)); have n3_ := Aside0.mk ((by rw [hg]; exact (below_size (by repeat (first | (with_reducible first | exact HB.out | apply below_alloc | apply pw_below_drewN | apply below_drew1) | exact HB.out))) : w.heap.size ≤ gb109)); clear HB; have HB := n0_; have BK109 := n1_; have GW109 := n2_; have GE109 := n3_; clear n0_ n1_ n2_ n3_; clear hb hbox hg; have hcz9_0 : w8.cell? ⟨gb109, 0, none⟩ = some (.string a0_0) := (blk_cell BK109.out 0).trans rfl; have hcz9_1 : w8.cell? ⟨gb109, 1, none⟩ = some (.string a0_1) := (blk_cell BK109.out 1).trans rfl; have hcz9_2 : w8.cell? ⟨gb109, 2, none⟩ = some (.int .i64 a0_2) := (blk_cell BK109.out 2).trans rfl; have hcz9_3 : w8.cell? ⟨gb109, 3, none⟩ = some (.slice A0_3 l0_3.length c0_3) := (blk_cell BK109.out 3).trans rfl; have hfz9_0 := blk_frozen BK109.out 0; have hfz9_1 := blk_frozen BK109.out 1; have hfz9_2 := blk_frozen BK109.out 2; have hfz9_3 := blk_frozen BK109.out 3) | ((with_reducible refine gate_callee (f := 20) rfl ?_); refine goesL_ (some 4) rfl rfl Try.func20 (by kernel_rfl) rfl #[.agg #[.string a0_0, .string a0_1, .int .i64 a0_2, .slice A0_3 l0_3.length c0_3]] rfl (by (try simp only [List.map_toArray, List.map_cons, List.map_nil]); first | done | rfl | (simp only [List.length_drop, List.length_take]; rfl)) ?_; (with_reducible refine (spec_l07Empty.calls a0_0 a0_1 a0_2 _ _ l0_3 false _ ?side1 ?side2 A2.out).mono ?_); (case side1 => repeat (first | exact (Kd.C_below HR0_3.out HB.out) | (with_reducible refine Kd.C_alloc ?_ _) | (with_reducible refine Kd.C_drewN ?_ _) | (with_reducible refine Kd.C_drew ?_))); (case side2 => exact HC0_3.out); rintro e w10 ⟨rfl, hb⟩; refine ⟨_, rfl, ?_⟩; have n0_ := Aside0.mk (blk_below (g := gb109) (o := .cells #[.string a0_0, .string a0_1, .int .i64 a0_2, .slice A0_3 l0_3.length c0_3] 29 (0, 0)) (by (with_reducible repeat (first | refine blk_drewN ?_ _ | refine blk_drew ?_ | refine blk_alloc ?_ _)); exact BK109.out) hb); have n1_ := Aside0.mk (below_step (by repeat (first | (with_reducible first | exact HB.out | apply below_alloc | apply pw_below_drewN | apply below_drew1 | refine below_set ?_ GE109.out) | exact HB.out)) hb); clear BK109; clear HB; have BK109 := n0_; have HB := n1_; clear n0_ n1_; (try clear hb); (try clear hb2); (try clear hk); (try clear hi); have hcz11_0 : w10.cell? ⟨gb109, 0, none⟩ = some (.string a0_0) := (blk_cell BK109.out 0).trans rfl; have hcz11_1 : w10.cell? ⟨gb109, 1, none⟩ = some (.string a0_1) := (blk_cell BK109.out 1).trans rfl; have hcz11_2 : w10.cell? ⟨gb109, 2, none⟩ = some (.int .i64 a0_2) := (blk_cell BK109.out 2).trans rfl; have hcz11_3 : w10.cell? ⟨gb109, 3, none⟩ = some (.slice A0_3 l0_3.length c0_3) := (blk_cell BK109.out 3).trans rfl; have hfz11_0 := blk_frozen BK109.out 0; have hfz11_1 := blk_frozen BK109.out 1; have hfz11_2 := blk_frozen BK109.out 2; have hfz11_3 := blk_frozen BK109.out 3) | (go_at_call 21; (with_reducible refine (spec_l07Count.calls k a0_0 a0_1 a0_2 _ _ l0_3 0 (⟨#[]⟩ : ByteArray) 40 t111 _ ?side1 ?side2 A7.out).mono ?_); (case side1 => repeat (first | exact (Kd.C_below HR0_3.out HB.out) | (with_reducible refine Kd.C_alloc ?_ _) | (with_reducible refine Kd.C_drewN ?_ _) | (with_reducible refine Kd.C_drew ?_))); (case side2 => exact HC0_3.out); rintro e w12 ⟨rfl, hb⟩; have n0_ := Aside0.mk (blk_below (g := gb109) (o := .cells #[.string a0_0, .string a0_1, .int .i64 a0_2, .slice A0_3 l0_3.length c0_3] 29 (0, 0)) (by (with_reducible repeat (first | refine blk_drewN ?_ _ | refine blk_drew ?_ | refine blk_alloc ?_ _)); exact BK109.out) hb); have n1_ := Aside0.mk (below_step (by repeat (first | (with_reducible first | exact HB.out | apply below_alloc | apply pw_below_drewN | apply below_drew1 | refine below_set ?_ GE109.out) | exact HB.out)) hb); clear BK109; clear HB; have BK109 := n0_; have HB := n1_; clear n0_ n1_; (try clear hb); (try clear hb2); (try clear hk); (try clear hi)))
  go_ret
  exact ⟨by first | rfl | (simp [errW_none, errW_some] <;> rfl) | (simp [*, errW_none, errW_some] <;> rfl), by repeat (first | (with_reducible first | exact HB.out | apply below_alloc | apply pw_below_drewN | apply below_drew1 | refine below_set ?_ GE109.out) | exact HB.out)⟩

/-! ### spec_MapList: function 13: by hand -/
-- RAWIMPORT Derived.Deep.RegionHeld3
def spec_l07List.f : Nat → ByteArray → ByteArray → Int → List (S29) → List (S53) → Option (List (S53))
 | 0, _, _, _, _, _ => none
 | k + 1, x0, x1, x2, l, out => (spec_l07Empty.f x0 x1 x2 l).bind fun e => if e = true then some out else ((spec_l07Leaf.f x0 x1 x2 l).bind fun lf => if lf = true then (if (out.length + 1) * 56 ≤ 140737488355328 then some (out ++ [(⟨1, 0, 0, x0, x1⟩ : S53)]) else none) else (if 1 < l.length then ((spec_l07List.f k (rd_T29 l 0).f0 (rd_T29 l 0).f1 (rd_T29 l 0).f2 (rd_T29 l 0).f3 out).bind fun o => spec_l07List.f k (rd_T29 l 1).f0 (rd_T29 l 1).f1 (rd_T29 l 1).f2 (rd_T29 l 1).f3 o) else none))
theorem spec_l07List.mono : ∀ k x0 x1 x2 l out, LeO (spec_l07List.f k x0 x1 x2 l out) (spec_l07List.f (k + 1) x0 x1 x2 l out)
 | 0, _, _, _, _, _ => LeO.none _
 | k + 1, x0, x1, x2, l, out => by
  rw [spec_l07List.f, spec_l07List.f]
  exact LeO.bind (LeO.refl _) (fun _ => LeO.ite (LeO.refl _) (LeO.bind (LeO.refl _) (fun _ => LeO.ite (LeO.refl _) (LeO.ite (LeO.bind (spec_l07List.mono k _ _ _ _ _) (fun _ => spec_l07List.mono k _ _ _ _ _)) (LeO.refl _)))))
def spec_MapList.f (k : Nat) (a0_0 : ByteArray) (a0_1 : ByteArray) (a0_2 : Int) (l0_3 : List (S29)) : Option ((List (S53)) × Int) := (spec_MapOK.f k a0_0 a0_1 a0_2 l0_3).bind fun b => if b = true then ((spec_l07List.f k a0_0 a0_1 a0_2 l0_3 []).bind fun o => some (o, 0)) else some ([], 1)
theorem spec_MapList.mono : ∀ a0_0 a0_1 a0_2 l0_3 k, LeO (spec_MapList.f k a0_0 a0_1 a0_2 l0_3) (spec_MapList.f (k + 1) a0_0 a0_1 a0_2 l0_3) := by
 intro x0 x1 x2 l k
 unfold spec_MapList.f
 exact LeO.bind (spec_MapOK.mono _ _ _ _ _) (fun _ => LeO.ite (LeO.bind (spec_l07List.mono _ _ _ _ _ _) (fun _ => LeO.refl _)) (LeO.refl _))
theorem spec_l07List.grown {w W : World} {row : Option Nat} (h : Below w.heap.size w W) : w.grownBy W row := ⟨h.os, h.tape, h.output, h.size, fun k hk _ => h.block k hk⟩
theorem spec_l07List.gtrans {w w1 w2 : World} {a b : Option Nat} (h : w.grownBy w1 a) (k : w1.grownBy w2 b) (hb : b = a ∨ ∃ x, b = some x ∧ w.heap.size ≤ x) : w.grownBy w2 a := by
 refine ⟨k.os.trans h.os, k.tape.trans h.tape, k.output.trans h.output, Nat.le_trans h.size k.size, fun i hi hr => ?_⟩
 refine (k.block i (Nat.lt_of_lt_of_le hi h.size) ?_).trans (h.block i hi hr)
 rcases hb with hb | ⟨x, hb, hx⟩
 ·rw [hb]; exact hr
 ·rw [hb]; intro he; injection he with he; omega
theorem spec_l07List.hb {p b : Prop} (h : p ∧ Aside0 b) : b := h.2.out
theorem spec_l07List.sep {w : World} {u v : Value} {g : Nat} (h : u.ownBlock = v.ownBlock ∨ ∃ b, u.ownBlock = some b ∧ w.heap.size ≤ b) (hn : some g ≠ v.ownBlock) (hg : g < w.heap.size) : some g ≠ u.ownBlock := by
 rcases h with h | ⟨b, h, hb⟩
 ·rw [h]; exact hn
 ·rw [h]; intro he; injection he with he; omega
def spec_l07List.Con (k : Nat) : Prop := ∀ (x0 x1 : ByteArray) (x2 : Int) (A : Option Addr) (c : Nat) (l : List S29) (out r : List S53) (v : Value) (w0 w : World), Kd.C k29 w0 A l.length l → l.length ≤ c → Below w0.heap.size w0 w → Kd.R k53 53 w w0.heap.size (fun _ => True) v out → spec_l07List.f k x0 x1 x2 l out = some r →
 Calls Try.prog 27 #[.agg #[.string x0, .string x1, .int .i64 x2, .slice A l.length c], v] w fun e w' => ∃ v', e = .returned v' ∧ Kd.R k53 53 w' w0.heap.size (fun _ => True) v' r ∧ w.grownBy w' v.ownBlock ∧ (v'.ownBlock = v.ownBlock ∨ ∃ b, v'.ownBlock = some b ∧ w.heap.size ≤ b)
theorem spec_l07List.under {w0 w w' : World} {v : Value} {xs : List S53} (h : Below w0.heap.size w0 w) (hR : Kd.R k53 53 w w0.heap.size (fun _ => True) v xs) (hg : w.grownBy w' v.ownBlock) : Below w0.heap.size w0 w' := h.grown hg h.size (Kd.R_base hR)
theorem spec_l07List.step (k : Nat) (ih : spec_l07List.Con k) {w0 w : World} {x : S29} {A : Option Addr} {c : Nat} {v u : Value} {out o1 : List S53} {gb : Nat} (hr : Kd.C k29 w0 A x.f3.length x.f3) (hc : x.f3.length ≤ c) (hB : Below w0.heap.size w0 w) (hO : Kd.R k53 53 w w0.heap.size (fun _ => True) v out) (h : spec_l07List.f k x.f0 x.f1 x.f2 x.f3 out = some o1) (hz : w.cell? ⟨gb, 3, none⟩ = some u) (hgb : gb < w.heap.size) (hne : some gb ≠ v.ownBlock) :
  Calls Try.prog 27 #[.agg #[.string x.f0, .string x.f1, .int .i64 x.f2, .slice A x.f3.length c], v] w fun e w' => ∃ (A' : Option Addr) (c' : Nat), e = .returned (.slice A' o1.length c') ∧ Kd.R k53 53 w' w0.heap.size (fun _ => True) (.slice A' o1.length c') o1 ∧ w.grownBy w' v.ownBlock ∧ ((Value.slice A' o1.length c').ownBlock = v.ownBlock ∨ ∃ b, (Value.slice A' o1.length c').ownBlock = some b ∧ w.heap.size ≤ b) ∧ Below w0.heap.size w0 w' ∧ w'.cell? ⟨gb, 3, none⟩ = some u ∧ gb < w'.heap.size ∧ some gb ≠ (Value.slice A' o1.length c').ownBlock := by
 refine (ih x.f0 x.f1 x.f2 A c x.f3 out o1 v w0 w hr hc hB hO h).mono ?_
 rintro e w' ⟨v', rfl, ho, hg, hat⟩
 obtain ⟨A', c', rfl⟩ := Kd.R_slice ho
 exact ⟨A', c', rfl, ho, hg, hat, spec_l07List.under hB hO hg, (World.cell?_of_block (w := w) (w' := w') (a := ⟨gb, 3, none⟩) (hg.block gb hgb hne)).trans hz, Nat.lt_of_lt_of_le hgb hg.size, spec_l07List.sep hat hne hgb⟩
theorem spec_l07List.reps (W : World) (base : Nat) (ok : Nat → Prop) (a b : ByteArray) : Reps (k53.M W base ok) k53.sz [(⟨1, 0, 0, a, b⟩ : S53)] [.int .i64 1, .int .i64 0, .int .i64 0, .string a, .string b] := by
 refine ⟨rfl, fun j p hj => ?_⟩
 cases j with
 | zero =>
  obtain rfl := Option.some.inj hj
  exact k53_mkM _ _ _ _
 | succ j => simp at hj
set_option maxHeartbeats 1000000 in
set_option maxRecDepth 100000 in
theorem spec_l07List.empty (x0 x1 : ByteArray) (x2 : Int) (A : Option Addr) (c : Nat) (l : List S29) (out : List S53) (Av : Option Addr) (cv : Nat) (w0 w : World) (hr : Kd.C k29 w0 A l.length l) (hc : l.length ≤ c) (hB : Below w0.heap.size w0 w) (hO : Kd.R k53 53 w w0.heap.size (fun _ => True) (.slice Av out.length cv) out) (he : spec_l07Empty.f x0 x1 x2 l = some true) :
  Calls Try.prog 27 #[.agg #[.string x0, .string x1, .int .i64 x2, .slice A l.length c], .slice Av out.length cv] w fun e w' => ∃ v', e = .returned v' ∧ Kd.R k53 53 w' w0.heap.size (fun _ => True) v' (out) ∧ w.grownBy w' (Value.slice Av out.length cv).ownBlock ∧ (v'.ownBlock = (Value.slice Av out.length cv).ownBlock ∨ ∃ b, v'.ownBlock = some b ∧ w.heap.size ≤ b) := by
 have hu29 := Try.underlying29
 have hu35 := Try.underlying35
 have hu53 := Try.underlying53
 have HR := Aside0.mk hr
 have HC := Aside0.mk hc
 have HB0 := Aside0.mk hB
 have HO := Aside0.mk hO
 have HE := Aside0.mk he
 clear hr hc hB hO he
 go_enter Try.func27, Try.ntmps27
 go_upto_if 6 with (first
  | ((with_reducible refine gate_dst (N := 2) rfl ?_); refine box_event ?hg (N := 2) ?hd (cs := #[.string x0, .string x1, .int .i64 x2, .slice A l.length c]) (t := 29) ?hr ?_; (case hd => rfl); (case hg => rfl); (case hr => first | (go_simp; done) | (go_simp; rfl)); intro gb hgb wb hbox hb; have HBX := Aside0.mk hbox; have HB1 := Aside0.mk hb; have hz0 : wb.cell? ⟨gb, 0, none⟩ = some (.string x0) := (blk_cell HBX.out 0).trans rfl; have hz1 : wb.cell? ⟨gb, 1, none⟩ = some (.string x1) := (blk_cell HBX.out 1).trans rfl; have hz2 : wb.cell? ⟨gb, 2, none⟩ = some (.int .i64 x2) := (blk_cell HBX.out 2).trans rfl; have hz3 : wb.cell? ⟨gb, 3, none⟩ = some (.slice A l.length c) := (blk_cell HBX.out 3).trans rfl; clear hb hbox hgb)
  | (go_at_call 20; refine (spec_l07Empty.calls x0 x1 x2 A c l true _ ?s1 HC.out HE.out).mono ?_; (case s1 => exact Kd.C_below HR.out (below_step HB0.out HB1.out)); rintro e w2 ⟨rfl, hb2⟩; have HB2 := Aside0.mk hb2; clear hb2 hz0 hz1 hz2 hz3))
 have HBX2 := Aside0.mk (blk_below HBX.out HB2.out)
 have HB3 := Aside0.mk (below_step HB1.out HB2.out)
 clear HBX HB1 HB2
 go_wp2
 go_ret
 exact ⟨_, rfl, Kd.R_below HO.out HB3.out, spec_l07List.grown HB3.out, .inl rfl⟩
set_option maxHeartbeats 1000000 in
set_option maxRecDepth 100000 in
theorem spec_l07List.leaf (x0 x1 : ByteArray) (x2 : Int) (A : Option Addr) (c : Nat) (l : List S29) (out : List S53) (Av : Option Addr) (cv : Nat) (w0 w : World) (hr : Kd.C k29 w0 A l.length l) (hc : l.length ≤ c) (hB : Below w0.heap.size w0 w) (hO : Kd.R k53 53 w w0.heap.size (fun _ => True) (.slice Av out.length cv) out) (he : spec_l07Empty.f x0 x1 x2 l = some false) (hlf : spec_l07Leaf.f x0 x1 x2 l = some true) (hsz : (out.length + 1) * 56 ≤ 140737488355328) :
  Calls Try.prog 27 #[.agg #[.string x0, .string x1, .int .i64 x2, .slice A l.length c], .slice Av out.length cv] w fun e w' => ∃ v', e = .returned v' ∧ Kd.R k53 53 w' w0.heap.size (fun _ => True) v' (out ++ [(⟨1, 0, 0, x0, x1⟩ : S53)]) ∧ w.grownBy w' (Value.slice Av out.length cv).ownBlock ∧ (v'.ownBlock = (Value.slice Av out.length cv).ownBlock ∨ ∃ b, v'.ownBlock = some b ∧ w.heap.size ≤ b) := by
 have hu29 := Try.underlying29
 have hu35 := Try.underlying35
 have hu53 := Try.underlying53
 have HR := Aside0.mk hr
 have HC := Aside0.mk hc
 have HB0 := Aside0.mk hB
 have HO := Aside0.mk hO
 have HE := Aside0.mk he
 have HLF := Aside0.mk hlf
 have HSZ := Aside0.mk hsz
 clear hlf hsz
 clear hr hc hB hO he
 go_enter Try.func27, Try.ntmps27
 go_upto_if 6 with (first
  | ((with_reducible refine gate_dst (N := 2) rfl ?_); refine box_event ?hg (N := 2) ?hd (cs := #[.string x0, .string x1, .int .i64 x2, .slice A l.length c]) (t := 29) ?hr ?_; (case hd => rfl); (case hg => rfl); (case hr => first | (go_simp; done) | (go_simp; rfl)); intro gb hgb wb hbox hb; have HBX := Aside0.mk hbox; have HB1 := Aside0.mk hb; have hz0 : wb.cell? ⟨gb, 0, none⟩ = some (.string x0) := (blk_cell HBX.out 0).trans rfl; have hz1 : wb.cell? ⟨gb, 1, none⟩ = some (.string x1) := (blk_cell HBX.out 1).trans rfl; have hz2 : wb.cell? ⟨gb, 2, none⟩ = some (.int .i64 x2) := (blk_cell HBX.out 2).trans rfl; have hz3 : wb.cell? ⟨gb, 3, none⟩ = some (.slice A l.length c) := (blk_cell HBX.out 3).trans rfl; clear hb hbox hgb)
  | (go_at_call 20; refine (spec_l07Empty.calls x0 x1 x2 A c l false _ ?s1 HC.out HE.out).mono ?_; (case s1 => exact Kd.C_below HR.out (below_step HB0.out HB1.out)); rintro e w2 ⟨rfl, hb2⟩; have HB2 := Aside0.mk hb2; clear hb2 hz0 hz1 hz2 hz3))
 have HBX2 := Aside0.mk (blk_below HBX.out HB2.out)
 have HB3 := Aside0.mk (below_step HB1.out HB2.out)
 clear HBX HB1 HB2
 have hz0 : w2.cell? ⟨gb, 0, none⟩ = some (.string x0) := (blk_cell HBX2.out 0).trans rfl
 have hz1 : w2.cell? ⟨gb, 1, none⟩ = some (.string x1) := (blk_cell HBX2.out 1).trans rfl
 have hz2 : w2.cell? ⟨gb, 2, none⟩ = some (.int .i64 x2) := (blk_cell HBX2.out 2).trans rfl
 have hz3 : w2.cell? ⟨gb, 3, none⟩ = some (.slice A l.length c) := (blk_cell HBX2.out 3).trans rfl
 go_upto_if 9 with ((go_at_call 31; refine (spec_l07Leaf.calls x0 x1 x2 A c l true _ ?s1 HC.out HLF.out).mono ?_; (case s1 => exact Kd.C_below HR.out (below_step HB0.out HB3.out)); rintro e w4 ⟨rfl, hb4⟩; have HB4 := Aside0.mk hb4; clear hb4 hz0 hz1 hz2 hz3))
 have HBX4 := Aside0.mk (blk_below HBX2.out HB4.out)
 have HB5 := Aside0.mk (below_step HB3.out HB4.out)
 clear HBX2 HB3 HB4
 have hz0 : w4.cell? ⟨gb, 0, none⟩ = some (.string x0) := (blk_cell HBX4.out 0).trans rfl
 have hz1 : w4.cell? ⟨gb, 1, none⟩ = some (.string x1) := (blk_cell HBX4.out 1).trans rfl
 go_wp2_with (first
  | ((with_reducible refine gate_dst (N := 16) rfl ?_); refine Kd.R_lit k53 (w0 := w0) w0.heap.size 53 ?hg (N := 16) ?hd (xs := [(⟨1, 0, 0, x0, x1⟩ : S53)]) (inner := [.int .i64 1, .int .i64 0, .int .i64 0, .string x0, .string x1]) (ok := fun _ => True) (okp := fun _ => False) ?hr ?hp (fun _ hk => hk.elim) trivial (below_step HB0.out HB5.out) (Nat.le_trans HB0.out.size (below_size HB5.out)) (by simp) ?_; (case hd => rfl); (case hg => rfl); (case hr => first | (go_simp; done) | (go_simp; rfl)); (case hp => exact spec_l07List.reps _ _ _ _ _); intro v6 w6 ho6 hb6 hg6 hn6; obtain ⟨A6, c6, rfl⟩ := Kd.R_slice ho6; have HO6 := Aside0.mk ho6; have HB6 := Aside0.mk hb6; have HG6 := Aside0.mk hg6; clear ho6 hb6 hg6 hn6)
  | ((with_reducible refine gate_builtin (b := .append) (xs := #[.tmp 10, .tmp 16]) rfl ?_); at_builtin; refine Kd.R_append_rows k53 (w0 := w0) w0.heap.size rfl (.tmp 10) (.tmp 16) 35 53 (.agg #[(.int .i64 0), (.int .i64 0), (.int .i64 0), (.string ⟨#[]⟩), (.string ⟨#[]⟩)]) 56 rfl Try.underlying35 info53 rfl (by decide) (by omega) (.slice Av out.length cv) out [(⟨1, 0, 0, x0, x1⟩ : S53)] A6 _ c6 (fun _ => True) (fun _ => False) rfl rfl (Kd.R_grown (Kd.R_below HO.out HB5.out) HG6.out (fun _ _ => by simp)) (Kd.R_reads' HO6.out).2.2 (fun _ _ h => h) (fun _ h => h.elim) (fun _ _ => trivial) HB6.out HB6.out.size (by exact HSZ.out) ?_; intro v7 w7 ho7 hb7 hg7 hat7; have HO7 := Aside0.mk ho7; have HG7 := Aside0.mk hg7; have HAT7 := Aside0.mk hat7; clear ho7 hb7 hg7 hat7))
 go_ret
 have hw6 : w.heap.size ≤ w6.heap.size := Nat.le_trans (below_size HB5.out) HG6.out.size
 refine ⟨_, rfl, HO7.out, spec_l07List.gtrans (spec_l07List.gtrans (spec_l07List.grown HB5.out) (b := (Value.slice Av out.length cv).ownBlock) ⟨HG6.out.os, HG6.out.tape, HG6.out.output, HG6.out.size, fun k hk _ => HG6.out.block k hk (by simp)⟩ (.inl rfl)) HG7.out (.inl rfl), ?_⟩
 rcases HAT7.out with h | ⟨b, h, hb⟩
 ·exact .inl h
 ·exact .inr ⟨b, h, Nat.le_trans hw6 hb⟩
set_option maxHeartbeats 1000000 in
set_option maxRecDepth 100000 in
theorem spec_l07List.fork (k : Nat) (ih : spec_l07List.Con k) (x0 x1 : ByteArray) (x2 : Int) (A : Option Addr) (c : Nat) (l : List S29) (out : List S53) (Av : Option Addr) (cv : Nat) (w0 w : World) (hr : Kd.C k29 w0 A l.length l) (hc : l.length ≤ c) (hB : Below w0.heap.size w0 w) (hO : Kd.R k53 53 w w0.heap.size (fun _ => True) (.slice Av out.length cv) out) (o1 r : List S53) (he : spec_l07Empty.f x0 x1 x2 l = some false) (hlf : spec_l07Leaf.f x0 x1 x2 l = some false) (hlen : 1 < l.length) (h0 : spec_l07List.f k (rd_T29 l 0).f0 (rd_T29 l 0).f1 (rd_T29 l 0).f2 (rd_T29 l 0).f3 out = some o1) (h1 : spec_l07List.f k (rd_T29 l 1).f0 (rd_T29 l 1).f1 (rd_T29 l 1).f2 (rd_T29 l 1).f3 o1 = some r) :
  Calls Try.prog 27 #[.agg #[.string x0, .string x1, .int .i64 x2, .slice A l.length c], .slice Av out.length cv] w fun e w' => ∃ v', e = .returned v' ∧ Kd.R k53 53 w' w0.heap.size (fun _ => True) v' (r) ∧ w.grownBy w' (Value.slice Av out.length cv).ownBlock ∧ (v'.ownBlock = (Value.slice Av out.length cv).ownBlock ∨ ∃ b, v'.ownBlock = some b ∧ w.heap.size ≤ b) := by
 have hu29 := Try.underlying29
 have hu35 := Try.underlying35
 have hu53 := Try.underlying53
 have HR := Aside0.mk hr
 have HC := Aside0.mk hc
 have HB0 := Aside0.mk hB
 have HO := Aside0.mk hO
 have HE := Aside0.mk he
 have HLF := Aside0.mk hlf
 have IH := Aside0.mk ih
 have H0 := Aside0.mk h0
 have H1 := Aside0.mk h1
 have HLEN := Aside0.mk hlen
 clear hlf ih h0 h1 hlen
 clear hr hc hB hO he
 go_enter Try.func27, Try.ntmps27
 go_upto_if 6 with (first
  | ((with_reducible refine gate_dst (N := 2) rfl ?_); refine box_event ?hg (N := 2) ?hd (cs := #[.string x0, .string x1, .int .i64 x2, .slice A l.length c]) (t := 29) ?hr ?_; (case hd => rfl); (case hg => rfl); (case hr => first | (go_simp; done) | (go_simp; rfl)); intro gb hgb wb hbox hb; have HBX := Aside0.mk hbox; have HB1 := Aside0.mk hb; have hz0 : wb.cell? ⟨gb, 0, none⟩ = some (.string x0) := (blk_cell HBX.out 0).trans rfl; have hz1 : wb.cell? ⟨gb, 1, none⟩ = some (.string x1) := (blk_cell HBX.out 1).trans rfl; have hz2 : wb.cell? ⟨gb, 2, none⟩ = some (.int .i64 x2) := (blk_cell HBX.out 2).trans rfl; have hz3 : wb.cell? ⟨gb, 3, none⟩ = some (.slice A l.length c) := (blk_cell HBX.out 3).trans rfl; clear hb hbox hgb)
  | (go_at_call 20; refine (spec_l07Empty.calls x0 x1 x2 A c l false _ ?s1 HC.out HE.out).mono ?_; (case s1 => exact Kd.C_below HR.out (below_step HB0.out HB1.out)); rintro e w2 ⟨rfl, hb2⟩; have HB2 := Aside0.mk hb2; clear hb2 hz0 hz1 hz2 hz3))
 have HBX2 := Aside0.mk (blk_below HBX.out HB2.out)
 have HB3 := Aside0.mk (below_step HB1.out HB2.out)
 clear HBX HB1 HB2
 have hz0 : w2.cell? ⟨gb, 0, none⟩ = some (.string x0) := (blk_cell HBX2.out 0).trans rfl
 have hz1 : w2.cell? ⟨gb, 1, none⟩ = some (.string x1) := (blk_cell HBX2.out 1).trans rfl
 have hz2 : w2.cell? ⟨gb, 2, none⟩ = some (.int .i64 x2) := (blk_cell HBX2.out 2).trans rfl
 have hz3 : w2.cell? ⟨gb, 3, none⟩ = some (.slice A l.length c) := (blk_cell HBX2.out 3).trans rfl
 go_upto_if 9 with ((go_at_call 31; refine (spec_l07Leaf.calls x0 x1 x2 A c l false _ ?s1 HC.out HLF.out).mono ?_; (case s1 => exact Kd.C_below HR.out (below_step HB0.out HB3.out)); rintro e w4 ⟨rfl, hb4⟩; have HB4 := Aside0.mk hb4; clear hb4 hz0 hz1 hz2 hz3))
 have HBX4 := Aside0.mk (blk_below HBX2.out HB4.out)
 have HB5 := Aside0.mk (below_step HB3.out HB4.out)
 clear HBX2 HB3 HB4
 have hl0 : (0 : Int) < (l.length : Int) := by have := HLEN.out; omega
 have hl1 : (1 : Int) < (l.length : Int) := by have := HLEN.out; omega
 have hl0n : 0 < l.length := by have := HLEN.out; omega
 have hl0d : decide (0 < l.length) = true := decide_eq_true hl0n
 have hl1n : 1 < l.length := HLEN.out
 have hm : l.length ≤ 9223372036854775807 := HR.out.2.1
 obtain ⟨ad, Ai, ci, e1, hx0, hx1, hx2, hx3, hli, hci⟩ := at_T29 HR.out 0 (by omega) hl0
 cases e1
 obtain ⟨ad', Aj, cj, e2, hy0, hy1, hy2, hy3, hlj, hcj⟩ := at_T29 HR.out 1 (by omega) hl1
 cases e2
 rw [show ((0 : Int)).toNat = 0 from rfl, show 0 * 4 = 0 from rfl, Addr.add_zero'] at hx0 hx1 hx2 hx3
 rw [show ((1 : Int)).toNat = 1 from rfl, show 1 * 4 = 4 from rfl] at hy0 hy1 hy2 hy3
 have HX0 := Aside0.mk hx0
 have HX1 := Aside0.mk hx1
 have HX2 := Aside0.mk hx2
 have HX3 := Aside0.mk hx3
 have HY0 := Aside0.mk hy0
 have HY1 := Aside0.mk hy1
 have HY2 := Aside0.mk hy2
 have HY3 := Aside0.mk hy3
 have HLI := Aside0.mk hli
 have HCI := Aside0.mk hci
 have HLJ := Aside0.mk hlj
 have HCJ := Aside0.mk hcj
 clear hx0 hx1 hx2 hx3 hy0 hy1 hy2 hy3 hli hci hlj hcj
 have HGB : Aside0 (gb < w4.heap.size) := ⟨blk_lt HBX4.out⟩
 have HNE : Aside0 (some gb ≠ (Value.slice Av out.length cv).ownBlock) := ⟨Kd.R_ne (Kd.R_below HO.out HB5.out) HBX4.out (by decide)⟩
 have HO5 := Aside0.mk (Kd.R_below HO.out HB5.out)
 have HB05 := Aside0.mk (below_step HB0.out HB5.out)
 have HC3 : Aside0 (w4.cell? ⟨gb, 3, none⟩ = some (.slice (some ad) l.length c)) := ⟨(blk_cell HBX4.out 3).trans rfl⟩
 have HS : ∀ W, Below w0.heap.size w0 W → W.cell? ⟨gb, 3, none⟩ = some (.slice (some ad) l.length c) → (W.cell? ⟨gb, 3, none⟩ = some (.slice (some ad) l.length c) ∧ W.cell? ad = some (.string (rd_T29 l 0).f0) ∧ W.cell? ⟨ad.block, ad.off + 1, none⟩ = some (.string (rd_T29 l 0).f1) ∧ W.cell? ⟨ad.block, ad.off + 2, none⟩ = some (.int .i64 (rd_T29 l 0).f2) ∧ W.cell? ⟨ad.block, ad.off + 3, none⟩ = some (.slice Ai (rd_T29 l 0).f3.length ci) ∧ W.cell? ⟨ad.block, ad.off + 4, none⟩ = some (.string (rd_T29 l 1).f0) ∧ W.cell? ⟨ad.block, ad.off + 4 + 1, none⟩ = some (.string (rd_T29 l 1).f1) ∧ W.cell? ⟨ad.block, ad.off + 4 + 2, none⟩ = some (.int .i64 (rd_T29 l 1).f2) ∧ W.cell? ⟨ad.block, ad.off + 4 + 3, none⟩ = some (.slice Aj (rd_T29 l 1).f3.length cj)) := fun W hb h => ⟨h, (hb.cell (World.block_lt_of_cell? _ _ HX0.out)).trans HX0.out, (hb.cell (World.block_lt_of_cell? _ _ HX1.out)).trans HX1.out, (hb.cell (World.block_lt_of_cell? _ _ HX2.out)).trans HX2.out, (hb.cell (World.block_lt_of_cell? _ _ HX3.out)).trans HX3.out, (hb.cell (World.block_lt_of_cell? _ _ HY0.out)).trans HY0.out, (hb.cell (World.block_lt_of_cell? _ _ HY1.out)).trans HY1.out, (hb.cell (World.block_lt_of_cell? _ _ HY2.out)).trans HY2.out, (hb.cell (World.block_lt_of_cell? _ _ HY3.out)).trans HY3.out⟩
 have HS' := Aside0.mk HS
 clear HS
 have HBd : Aside0 (Below w0.heap.size w0 w4.drew) := ⟨below_drew1 HB05.out⟩
 have HOd : Aside0 (Kd.R k53 53 w4.drew w0.heap.size (fun _ => True) (.slice Av out.length cv) out) := ⟨Kd.R_drew HO5.out⟩
 have HC3d : Aside0 (w4.drew.cell? ⟨gb, 3, none⟩ = some (.slice (some ad) l.length c)) := ⟨HC3.out⟩
 have HGBd : Aside0 (gb < w4.drew.heap.size) := ⟨HGB.out⟩
 go_upto_region 5 with (fail)
 go_region_held3 (fun W => W.cell? ⟨gb, 3, none⟩ = some (.slice (some ad) l.length c) ∧ W.cell? ad = some (.string (rd_T29 l 0).f0) ∧ W.cell? ⟨ad.block, ad.off + 1, none⟩ = some (.string (rd_T29 l 0).f1) ∧ W.cell? ⟨ad.block, ad.off + 2, none⟩ = some (.int .i64 (rd_T29 l 0).f2) ∧ W.cell? ⟨ad.block, ad.off + 3, none⟩ = some (.slice Ai (rd_T29 l 0).f3.length ci) ∧ W.cell? ⟨ad.block, ad.off + 4, none⟩ = some (.string (rd_T29 l 1).f0) ∧ W.cell? ⟨ad.block, ad.off + 4 + 1, none⟩ = some (.string (rd_T29 l 1).f1) ∧ W.cell? ⟨ad.block, ad.off + 4 + 2, none⟩ = some (.int .i64 (rd_T29 l 1).f2) ∧ W.cell? ⟨ad.block, ad.off + 4 + 3, none⟩ = some (.slice Aj (rd_T29 l 1).f3.length cj)) ((first | exact HS'.out _ HBd.out HC3d.out | exact HS'.out _ HBb.out HCb.out | exact HS'.out _ HBa.out HCa.out)) (first
  | (go_at_call 27; refine (spec_l07List.step k IH.out HCJ.out HLJ.out HBa.out HOa.out H1.out HCa.out HDa.out HEa.out).mono ?_; rintro e w6 ⟨A6, c6, rfl, ho6, hg6, hat6, hb6, hc6, hd6, he6⟩; have HOb := Aside0.mk ho6; have HGb := Aside0.mk hg6; have HATb := Aside0.mk hat6; have HBb := Aside0.mk hb6; have HCb := Aside0.mk hc6; clear ho6 hg6 hat6 hb6 hc6 hd6 he6)
  | (go_at_call 27; refine (spec_l07List.step k IH.out HCI.out HLI.out HBd.out HOd.out H0.out HC3d.out HGBd.out HNE.out).mono ?_; rintro e w5 ⟨A5, c5, rfl, ho5, hg5, hat5, hb5, hc5, hd5, he5⟩; have HOa := Aside0.mk ho5; have HGa := Aside0.mk hg5; have HATa := Aside0.mk hat5; have HBa := Aside0.mk hb5; have HCa := Aside0.mk hc5; have HDa := Aside0.mk hd5; have HEa := Aside0.mk he5; clear ho5 hg5 hat5 hb5 hc5 hd5 he5))
 go_wp2
 go_ret
 have hG4 : w.grownBy w5 (Value.slice Av out.length cv).ownBlock := spec_l07List.gtrans (w1 := w4.drew) (spec_l07List.grown (below_drew1 HB5.out)) HGa.out (.inl rfl)
 have hat1 : (Value.slice A5 o1.length c5).ownBlock = (Value.slice Av out.length cv).ownBlock ∨ ∃ x, (Value.slice A5 o1.length c5).ownBlock = some x ∧ w.heap.size ≤ x := by
  rcases HATa.out with h | ⟨b, h, hb⟩
  ·exact .inl h
  ·exact .inr ⟨b, h, Nat.le_trans (below_size HB5.out) hb⟩
 refine ⟨_, rfl, HOb.out, spec_l07List.gtrans hG4 HGb.out hat1, ?_⟩
 rcases HATb.out with h | ⟨b, h, hb⟩
 ·rcases hat1 with h2 | ⟨b, h2, hb⟩
  ·exact .inl (h.trans h2)
  ·exact .inr ⟨b, h.trans h2, hb⟩
 ·exact .inr ⟨b, h, Nat.le_trans hG4.size hb⟩
theorem spec_l07List.con : ∀ k, spec_l07List.Con k
 | 0 => by
  intro x0 x1 x2 A c l out r v w0 w hr hc hB hO h
  rw [spec_l07List.f] at h
  cases h
 | k + 1 => by
  intro x0 x1 x2 A c l out r v w0 w hr hc hB hO h
  obtain ⟨Av, cv, rfl⟩ := Kd.R_slice hO
  rw [spec_l07List.f] at h
  obtain ⟨e, he, h⟩ := Option.bind_eq_some_iff.mp h
  cases e with
  | true =>
   rw [if_pos rfl] at h
   injection h with h
   subst h
   exact spec_l07List.empty x0 x1 x2 A c l out Av cv w0 w hr hc hB hO he
  | false =>
   rw [if_neg (by decide)] at h
   obtain ⟨lf, hl, h⟩ := Option.bind_eq_some_iff.mp h
   cases lf with
   | true =>
    rw [if_pos rfl] at h
    split at h
    ·rename_i hsz
     injection h with h
     subst h
     exact spec_l07List.leaf x0 x1 x2 A c l out Av cv w0 w hr hc hB hO he hl hsz
    ·cases h
   | false =>
    rw [if_neg (by decide)] at h
    split at h
    ·rename_i hlen
     obtain ⟨o1, h0, h1⟩ := Option.bind_eq_some_iff.mp h
     exact spec_l07List.fork k (spec_l07List.con k) x0 x1 x2 A c l out Av cv w0 w hr hc hB hO o1 r he hl hlen h0 h1
    ·cases h
set_option maxHeartbeats 1000000 in
set_option maxRecDepth 100000 in
theorem spec_MapList.calls (k : Nat) (a0_0 : ByteArray) (a0_1 : ByteArray) (a0_2 : Int) (A0_3 : Option Addr) (c0_3 : Nat) (l0_3 : List (S29)) (r1 : List (S53)) (r2 : Int) (w : World) (hr0_3 : Kd.C k29 w A0_3 l0_3.length l0_3) (hc0_3 : l0_3.length ≤ c0_3) (h : spec_MapList.f k a0_0 a0_1 a0_2 l0_3 = some (r1, r2)) :
  Calls Try.prog 13 #[.agg #[.string a0_0, .string a0_1, .int .i64 a0_2, .slice A0_3 l0_3.length c0_3]] w fun e w' => ∃ v0_ : Value, e = .returned (.tuple #[v0_, .int .i64 r2]) ∧ Kd.R k53 53 w' w.heap.size (fun _ => True) v0_ r1 ∧ Below w.heap.size w w' := by
 have hu29 := Try.underlying29
 have hu35 := Try.underlying35
 have HR := Aside0.mk hr0_3
 have HC := Aside0.mk hc0_3
 clear hr0_3 hc0_3
 unfold spec_MapList.f at h
 obtain ⟨b, hb, h⟩ := Option.bind_eq_some_iff.mp h
 have HK := Aside0.mk hb
 clear hb
 go_enter Try.func13, Try.ntmps13
 go_upto_if 6 with (first
  | ((with_reducible refine gate_dst (N := 1) rfl ?_); refine box_event ?hg (N := 1) ?hd (cs := #[.string a0_0, .string a0_1, .int .i64 a0_2, .slice A0_3 l0_3.length c0_3]) (t := 29) ?hr ?_; (case hd => rfl); (case hg => rfl); (case hr => first | (go_simp; done) | (go_simp; rfl)); intro gb hgb wb hbox hb; have HBX := Aside0.mk hbox; have HB1 := Aside0.mk hb; have hz0 : wb.cell? ⟨gb, 0, none⟩ = some (.string a0_0) := (blk_cell HBX.out 0).trans rfl; have hz1 : wb.cell? ⟨gb, 1, none⟩ = some (.string a0_1) := (blk_cell HBX.out 1).trans rfl; have hz2 : wb.cell? ⟨gb, 2, none⟩ = some (.int .i64 a0_2) := (blk_cell HBX.out 2).trans rfl; have hz3 : wb.cell? ⟨gb, 3, none⟩ = some (.slice A0_3 l0_3.length c0_3) := (blk_cell HBX.out 3).trans rfl; clear hb hbox hgb)
  | (go_at_call 7; refine (spec_MapOK.calls k a0_0 a0_1 a0_2 A0_3 c0_3 l0_3 b _ ?s1 HC.out HK.out).mono ?_; (case s1 => exact Kd.C_below HR.out HB1.out); rintro e w2 ⟨rfl, hb2⟩; have HB2 := Aside0.mk hb2; clear hb2 hz0 hz1 hz2 hz3))
 have HBX2 := Aside0.mk (blk_below HBX.out HB2.out)
 have HB3 := Aside0.mk (below_step HB1.out HB2.out)
 clear HBX HB1 HB2
 cases b with
 | false =>
  rw [if_neg (by decide)] at h
  injection h with h
  injection h with e1 e2
  subst e1 e2
  go_wp2_with ((with_reducible refine gate_dst (N := 7) rfl ?_); refine Kd.R_lit k53 (w0 := w) w.heap.size 53 ?hg (N := 7) ?hd (xs := ([] : List S53)) (inner := []) (ok := fun _ => True) (okp := fun _ => False) ?hr ?hp (fun _ hk => hk.elim) trivial HB3.out (below_size HB3.out) (by simp) ?_; (case hd => rfl); (case hg => rfl); (case hr => first | (go_simp; done) | (go_simp; rfl)); (case hp => exact (Reps.none _ _)); intro v4 w4 ho hb hg_ hnew_; have HO4 := Aside0.mk ho; have HB4 := Aside0.mk hb; clear ho hb hg_ hnew_)
  go_ret2
  exact ⟨_, rfl, HO4.out, HB4.out⟩
 | true =>
  rw [if_pos rfl] at h
  obtain ⟨o, ho, h⟩ := Option.bind_eq_some_iff.mp h
  injection h with h
  injection h with e1 e2
  subst e1 e2
  have HL := Aside0.mk ho
  clear ho
  have hz0 : w2.cell? ⟨gb, 0, none⟩ = some (.string a0_0) := (blk_cell HBX2.out 0).trans rfl
  have hz1 : w2.cell? ⟨gb, 1, none⟩ = some (.string a0_1) := (blk_cell HBX2.out 1).trans rfl
  have hz2 : w2.cell? ⟨gb, 2, none⟩ = some (.int .i64 a0_2) := (blk_cell HBX2.out 2).trans rfl
  have hz3 : w2.cell? ⟨gb, 3, none⟩ = some (.slice A0_3 l0_3.length c0_3) := (blk_cell HBX2.out 3).trans rfl
  go_wp2_with (first
   | ((with_reducible refine gate_dst (N := 9) rfl ?_); refine Kd.R_lit k53 (w0 := w) w.heap.size 53 ?hg (N := 9) ?hd (xs := ([] : List S53)) (inner := []) (ok := fun _ => True) (okp := fun _ => False) ?hr ?hp (fun _ hk => hk.elim) trivial HB3.out (below_size HB3.out) (by simp) ?_; (case hd => rfl); (case hg => rfl); (case hr => first | (go_simp; done) | (go_simp; rfl)); (case hp => exact (Reps.none _ _)); intro v4 w4 ho hb hg_ hnew_; have HO4 := Aside0.mk ho; have HB4 := Aside0.mk hb; clear ho hb hg_ hnew_ hz0 hz1 hz2 hz3)
   | (go_at_call 27; refine (spec_l07List.con k a0_0 a0_1 a0_2 A0_3 c0_3 l0_3 [] o v4 w _ HR.out HC.out HB4.out HO4.out HL.out).mono ?_; rintro e w7 ⟨v7, rfl, ho7, hg7, hat7⟩; have HO7 := Aside0.mk ho7; have HB7 := Aside0.mk (spec_l07List.under HB4.out HO4.out hg7); clear ho7 hg7 hat7))
  go_ret2
  exact ⟨_, rfl, HO7.out, HB7.out⟩

/-! ### impl_Branch_isEmpty: function 36 -/
def impl_Branch_isEmpty.f (a0_0 : ByteArray) (a0_1 : ByteArray) (a0_2 : Int) (l0_3 : List (S29)) : Option (Bool) := if a0_0.toList = ([] : List UInt8) then (if a0_1.toList = ([] : List UInt8) then (if a0_2 = 0 then (some ((l0_3.length : Int) == 0)) else (some false)) else (some false)) else (some false)
set_option maxHeartbeats 8000000 in
set_option maxRecDepth 100000 in
theorem impl_Branch_isEmpty.calls (a0_0 : ByteArray) (a0_1 : ByteArray) (a0_2 : Int) (A0_3 : Option Addr) (c0_3 : Nat) (l0_3 : List (S29)) (r : Bool) (w : World) (hr0_3 : Kd.C k29 w A0_3 l0_3.length l0_3) (hc0_3 : l0_3.length ≤ c0_3) (h : impl_Branch_isEmpty.f a0_0 a0_1 a0_2 l0_3 = some r) :
  Calls Try.prog 36 #[.agg #[.string a0_0, .string a0_1, .int .i64 a0_2, .slice A0_3 l0_3.length c0_3]] w fun e w' => e = .returned (.bool r) ∧ Below w.heap.size w w' := by
 have hu29 := Try.underlying29
 have HR0_3 := Aside0.mk hr0_3
 have HC0_3 := Aside0.mk hc0_3
 clear hr0_3 hc0_3
 have HB := Aside0.mk (Below.refl w.heap.size w)
 have H : (if a0_0.toList = ([] : List UInt8) then (if a0_1.toList = ([] : List UInt8) then (if a0_2 = 0 then (some ((l0_3.length : Int) == 0)) else (some false)) else (some false)) else (some false)) = some r := h
 clear h
 by_cases c2 : a0_0.toList = ([] : List UInt8)
 ·rw [if_pos c2] at H
  have c2b0 : (a0_0.toList == ([] : List UInt8)) = true := beq_iff_eq.mpr c2
  have c2b1 : (a0_0.toList != ([] : List UInt8)) = false := bne_eq_false_iff_eq.mpr c2
  clear c2
  by_cases c3 : a0_1.toList = ([] : List UInt8)
  ·rw [if_pos c3] at H
   have c3b0 : (a0_1.toList == ([] : List UInt8)) = true := beq_iff_eq.mpr c3
   have c3b1 : (a0_1.toList != ([] : List UInt8)) = false := bne_eq_false_iff_eq.mpr c3
   clear c3
   by_cases c4 : a0_2 = 0
   ·rw [if_pos c4] at H
    have c4b0 : (a0_2 == 0) = true := beq_iff_eq.mpr c4
    have c4b1 : (a0_2 != 0) = false := bne_eq_false_iff_eq.mpr c4
    clear c4
    obtain rfl := Option.some.inj H
    go_enter Try.func36, Try.ntmps36
    go_wp2_with (first | ((with_reducible refine gate_dst (N := 1) rfl ?_); (try (refine gate_guard (by rfl) ?_; dsimp only)); refine box_event ?hg (N := 1) ?hd (cs := #[.string a0_0, .string a0_1, .int .i64 a0_2, .slice A0_3 l0_3.length c0_3]) (t := 29) ?hr ?_; (case hd => rfl); (case hg => rfl); (case hr => first | (go_simp; done) | (go_simp; rfl)); intro gb112 hg w5 hbox hb; have n0_ := Aside0.mk (below_step (by repeat (first | (with_reducible first | exact HB.out | apply below_alloc | apply pw_below_drewN | apply below_drew1) | exact HB.out)) hb); have n1_ := Aside0.mk (hbox); have n2_ := Aside0.mk ((by rw [hg]; exact (below_size (by repeat (first | (with_reducible first | exact HB.out | apply below_alloc | apply pw_below_drewN | apply below_drew1) | exact HB.out))) : w.heap.size ≤ gb112)); have n3_ := Aside0.mk ((by rw [hg]; exact (below_size (by repeat (first | (with_reducible first | exact HB.out | apply below_alloc | apply pw_below_drewN | apply below_drew1) | exact HB.out))) : w.heap.size ≤ gb112)); clear HB; have HB := n0_; have BK112 := n1_; have GW112 := n2_; have GE112 := n3_; clear n0_ n1_ n2_ n3_; clear hb hbox hg; have hcz6_0 : w5.cell? ⟨gb112, 0, none⟩ = some (.string a0_0) := (blk_cell BK112.out 0).trans rfl; have hcz6_1 : w5.cell? ⟨gb112, 1, none⟩ = some (.string a0_1) := (blk_cell BK112.out 1).trans rfl; have hcz6_2 : w5.cell? ⟨gb112, 2, none⟩ = some (.int .i64 a0_2) := (blk_cell BK112.out 2).trans rfl; have hcz6_3 : w5.cell? ⟨gb112, 3, none⟩ = some (.slice A0_3 l0_3.length c0_3) := (blk_cell BK112.out 3).trans rfl; have hfz6_0 := blk_frozen BK112.out 0; have hfz6_1 := blk_frozen BK112.out 1; have hfz6_2 := blk_frozen BK112.out 2; have hfz6_3 := blk_frozen BK112.out 3))
    go_ret
    exact ⟨by first | rfl | (simp [errW_none, errW_some] <;> rfl) | (simp [*, errW_none, errW_some] <;> rfl), by repeat (first | (with_reducible first | exact HB.out | apply below_alloc | apply pw_below_drewN | apply below_drew1 | refine below_set ?_ GE112.out) | exact HB.out)⟩
   ·rw [if_neg c4] at H
    have c4b0 : (a0_2 == 0) = false := beq_eq_false_iff_ne.mpr c4
    have c4b1 : (a0_2 != 0) = true := bne_iff_ne.mpr c4
    obtain rfl := Option.some.inj H
    go_enter Try.func36, Try.ntmps36
    go_wp2_with (first | ((with_reducible refine gate_dst (N := 1) rfl ?_); (try (refine gate_guard (by rfl) ?_; dsimp only)); refine box_event ?hg (N := 1) ?hd (cs := #[.string a0_0, .string a0_1, .int .i64 a0_2, .slice A0_3 l0_3.length c0_3]) (t := 29) ?hr ?_; (case hd => rfl); (case hg => rfl); (case hr => first | (go_simp; done) | (go_simp; rfl)); intro gb112 hg w7 hbox hb; have n0_ := Aside0.mk (below_step (by repeat (first | (with_reducible first | exact HB.out | apply below_alloc | apply pw_below_drewN | apply below_drew1) | exact HB.out)) hb); have n1_ := Aside0.mk (hbox); have n2_ := Aside0.mk ((by rw [hg]; exact (below_size (by repeat (first | (with_reducible first | exact HB.out | apply below_alloc | apply pw_below_drewN | apply below_drew1) | exact HB.out))) : w.heap.size ≤ gb112)); have n3_ := Aside0.mk ((by rw [hg]; exact (below_size (by repeat (first | (with_reducible first | exact HB.out | apply below_alloc | apply pw_below_drewN | apply below_drew1) | exact HB.out))) : w.heap.size ≤ gb112)); clear HB; have HB := n0_; have BK112 := n1_; have GW112 := n2_; have GE112 := n3_; clear n0_ n1_ n2_ n3_; clear hb hbox hg; have hcz8_0 : w7.cell? ⟨gb112, 0, none⟩ = some (.string a0_0) := (blk_cell BK112.out 0).trans rfl; have hcz8_1 : w7.cell? ⟨gb112, 1, none⟩ = some (.string a0_1) := (blk_cell BK112.out 1).trans rfl; have hcz8_2 : w7.cell? ⟨gb112, 2, none⟩ = some (.int .i64 a0_2) := (blk_cell BK112.out 2).trans rfl; have hcz8_3 : w7.cell? ⟨gb112, 3, none⟩ = some (.slice A0_3 l0_3.length c0_3) := (blk_cell BK112.out 3).trans rfl; have hfz8_0 := blk_frozen BK112.out 0; have hfz8_1 := blk_frozen BK112.out 1; have hfz8_2 := blk_frozen BK112.out 2; have hfz8_3 := blk_frozen BK112.out 3))
    go_ret
    exact ⟨by first | rfl | (simp [errW_none, errW_some] <;> rfl) | (simp [*, errW_none, errW_some] <;> rfl), by repeat (first | (with_reducible first | exact HB.out | apply below_alloc | apply pw_below_drewN | apply below_drew1 | refine below_set ?_ GE112.out) | exact HB.out)⟩
  ·rw [if_neg c3] at H
   have c3b0 : (a0_1.toList == ([] : List UInt8)) = false := beq_eq_false_iff_ne.mpr c3
   have c3b1 : (a0_1.toList != ([] : List UInt8)) = true := bne_iff_ne.mpr c3
   obtain rfl := Option.some.inj H
   go_enter Try.func36, Try.ntmps36
   go_wp2_with (first | ((with_reducible refine gate_dst (N := 1) rfl ?_); (try (refine gate_guard (by rfl) ?_; dsimp only)); refine box_event ?hg (N := 1) ?hd (cs := #[.string a0_0, .string a0_1, .int .i64 a0_2, .slice A0_3 l0_3.length c0_3]) (t := 29) ?hr ?_; (case hd => rfl); (case hg => rfl); (case hr => first | (go_simp; done) | (go_simp; rfl)); intro gb112 hg w9 hbox hb; have n0_ := Aside0.mk (below_step (by repeat (first | (with_reducible first | exact HB.out | apply below_alloc | apply pw_below_drewN | apply below_drew1) | exact HB.out)) hb); have n1_ := Aside0.mk (hbox); have n2_ := Aside0.mk ((by rw [hg]; exact (below_size (by repeat (first | (with_reducible first | exact HB.out | apply below_alloc | apply pw_below_drewN | apply below_drew1) | exact HB.out))) : w.heap.size ≤ gb112)); have n3_ := Aside0.mk ((by rw [hg]; exact (below_size (by repeat (first | (with_reducible first | exact HB.out | apply below_alloc | apply pw_below_drewN | apply below_drew1) | exact HB.out))) : w.heap.size ≤ gb112)); clear HB; have HB := n0_; have BK112 := n1_; have GW112 := n2_; have GE112 := n3_; clear n0_ n1_ n2_ n3_; clear hb hbox hg; have hcz10_0 : w9.cell? ⟨gb112, 0, none⟩ = some (.string a0_0) := (blk_cell BK112.out 0).trans rfl; have hcz10_1 : w9.cell? ⟨gb112, 1, none⟩ = some (.string a0_1) := (blk_cell BK112.out 1).trans rfl; have hcz10_2 : w9.cell? ⟨gb112, 2, none⟩ = some (.int .i64 a0_2) := (blk_cell BK112.out 2).trans rfl; have hcz10_3 : w9.cell? ⟨gb112, 3, none⟩ = some (.slice A0_3 l0_3.length c0_3) := (blk_cell BK112.out 3).trans rfl; have hfz10_0 := blk_frozen BK112.out 0; have hfz10_1 := blk_frozen BK112.out 1; have hfz10_2 := blk_frozen BK112.out 2; have hfz10_3 := blk_frozen BK112.out 3))
   go_ret
   exact ⟨by first | rfl | (simp [errW_none, errW_some] <;> rfl) | (simp [*, errW_none, errW_some] <;> rfl), by repeat (first | (with_reducible first | exact HB.out | apply below_alloc | apply pw_below_drewN | apply below_drew1 | refine below_set ?_ GE112.out) | exact HB.out)⟩
 ·rw [if_neg c2] at H
  have c2b0 : (a0_0.toList == ([] : List UInt8)) = false := beq_eq_false_iff_ne.mpr c2
  have c2b1 : (a0_0.toList != ([] : List UInt8)) = true := bne_iff_ne.mpr c2
  obtain rfl := Option.some.inj H
  go_enter Try.func36, Try.ntmps36
  go_wp2_with (first | ((with_reducible refine gate_dst (N := 1) rfl ?_); (try (refine gate_guard (by rfl) ?_; dsimp only)); refine box_event ?hg (N := 1) ?hd (cs := #[.string a0_0, .string a0_1, .int .i64 a0_2, .slice A0_3 l0_3.length c0_3]) (t := 29) ?hr ?_; (case hd => rfl); (case hg => rfl); (case hr => first | (go_simp; done) | (go_simp; rfl)); intro gb112 hg w11 hbox hb; have n0_ := Aside0.mk (below_step (by repeat (first | (with_reducible first | exact HB.out | apply below_alloc | apply pw_below_drewN | apply below_drew1) | exact HB.out)) hb); have n1_ := Aside0.mk (hbox); have n2_ := Aside0.mk ((by rw [hg]; exact (below_size (by repeat (first | (with_reducible first | exact HB.out | apply below_alloc | apply pw_below_drewN | apply below_drew1) | exact HB.out))) : w.heap.size ≤ gb112)); have n3_ := Aside0.mk ((by rw [hg]; exact (below_size (by repeat (first | (with_reducible first | exact HB.out | apply below_alloc | apply pw_below_drewN | apply below_drew1) | exact HB.out))) : w.heap.size ≤ gb112)); clear HB; have HB := n0_; have BK112 := n1_; have GW112 := n2_; have GE112 := n3_; clear n0_ n1_ n2_ n3_; clear hb hbox hg; have hcz12_0 : w11.cell? ⟨gb112, 0, none⟩ = some (.string a0_0) := (blk_cell BK112.out 0).trans rfl; have hcz12_1 : w11.cell? ⟨gb112, 1, none⟩ = some (.string a0_1) := (blk_cell BK112.out 1).trans rfl; have hcz12_2 : w11.cell? ⟨gb112, 2, none⟩ = some (.int .i64 a0_2) := (blk_cell BK112.out 2).trans rfl; have hcz12_3 : w11.cell? ⟨gb112, 3, none⟩ = some (.slice A0_3 l0_3.length c0_3) := (blk_cell BK112.out 3).trans rfl; have hfz12_0 := blk_frozen BK112.out 0; have hfz12_1 := blk_frozen BK112.out 1; have hfz12_2 := blk_frozen BK112.out 2; have hfz12_3 := blk_frozen BK112.out 3))
  go_ret
  exact ⟨by first | rfl | (simp [errW_none, errW_some] <;> rfl) | (simp [*, errW_none, errW_some] <;> rfl), by repeat (first | (with_reducible first | exact HB.out | apply below_alloc | apply pw_below_drewN | apply below_drew1 | refine below_set ?_ GE112.out) | exact HB.out)⟩

/-! ### impl_hash: function 41: by hand -/
-- IMPORT SHash2
def impl_hash.f (a0 : ByteArray) : Option (ByteArray) := if a0.size ≤ 1099511627776 then some (Go.Proofs.Ytjkdmegpjdfcaaa.Hash.sha a0) else none
theorem impl_hash.calls (a0 : ByteArray) (r : ByteArray) (w : World) (h : impl_hash.f a0 = some r) :
  Calls Try.prog 41 #[.string a0] w fun e w' => e = .returned (.string r) ∧ Below w.heap.size w w' := by
 unfold impl_hash.f at h
 split at h
 ·rename_i hs
  obtain rfl := Option.some.inj h
  exact Go.Proofs.Ytjkdmegpjdfcaaa.Hash.hash_walk a0 w hs
 ·cases h

/-! ### impl_within: function 61 -/
def impl_within.f (a0 : Int) (a1 : Int) (a2 : Int) : Option (Bool) := if a0 ≥ a1 then (some (decide (a0 ≤ a2))) else (some false)
set_option maxHeartbeats 8000000 in
set_option maxRecDepth 100000 in
theorem impl_within.calls (a0 : Int) (a1 : Int) (a2 : Int) (r : Bool) (w : World) (h : impl_within.f a0 a1 a2 = some r) :
  Calls Try.prog 61 #[.int .i64 a0, .int .i64 a1, .int .i64 a2] w fun e w' => e = .returned (.bool r) ∧ Drawn0 w w' := by
 have H : (if a0 ≥ a1 then (some (decide (a0 ≤ a2))) else (some false)) = some r := h
 clear h
 by_cases c4 : a0 ≥ a1
 ·rw [if_pos c4] at H
  have c4b0 : decide (a1 ≤ a0) = true := decide_eq_true c4
  clear c4
  obtain rfl := Option.some.inj H
  go_enter Try.func61, Try.ntmps61
  go_wp2
  go_ret
  exact ⟨by first | rfl | (simp; done) | (simp [*]; done), by repeat (first | exact Drawn0.refl _ | apply Drawn0.step)⟩
 ·rw [if_neg c4] at H
  have c4b0 : decide (a1 ≤ a0) = false := decide_eq_false c4
  clear c4
  obtain rfl := Option.some.inj H
  go_enter Try.func61, Try.ntmps61
  go_wp2
  go_ret
  exact ⟨by first | rfl | (simp; done) | (simp [*]; done), by repeat (first | exact Drawn0.refl _ | apply Drawn0.step)⟩

/-! ### impl_isKey: function 59 -/
def impl_isKey.f (a0 : ByteArray) : Option (Bool) := (impl_within.f (a0.size : Int) 1 24).bind fun t113 => (some t113)
set_option maxHeartbeats 8000000 in
set_option maxRecDepth 100000 in
theorem impl_isKey.calls (a0 : ByteArray) (r : Bool) (w : World) (h : impl_isKey.f a0 = some r) :
  Calls Try.prog 59 #[.string a0] w fun e w' => e = .returned (.bool r) ∧ Drawn0 w w' := by
 have H : ((impl_within.f (a0.size : Int) 1 24).bind fun t113 => (some t113)) = some r := h
 clear h
 replace H := Option.bind_eq_some_iff.mp H
 obtain ⟨t113, A20, H⟩ := H
 replace H : (some t113) = some r := H
 have A2 := Aside0.mk A20
 clear A20
 obtain rfl := Option.some.inj H
 go_enter Try.func59, Try.ntmps59
 go_wp2_with (first | ((with_reducible refine gate_callee (f := 61) rfl ?_); refine goesL_ (some 5) rfl rfl Try.func61 (by kernel_rfl) rfl #[.int .i64 (a0.size : Int), .int .i64 1, .int .i64 24] rfl (by (try simp only [List.map_toArray, List.map_cons, List.map_nil]); first | done | rfl | (simp only [List.length_drop, List.length_take]; rfl)) ?_; (with_reducible refine (impl_within.calls (a0.size : Int) 1 24 t113 _ A2.out).mono ?_); rintro e w' ⟨rfl, ⟨nd, rfl⟩⟩; refine ⟨_, rfl, ?_⟩))
 go_ret
 exact ⟨by first | rfl | (simp; done) | (simp [*]; done), by repeat (first | exact Drawn0.refl _ | apply Drawn0.step)⟩

/-! ### impl_isValue: function 60 -/
def impl_isValue.f (a0 : ByteArray) : Option (Bool) := some (decide ((a0.size : Int) ≤ 60))
set_option maxHeartbeats 8000000 in
set_option maxRecDepth 100000 in
theorem impl_isValue.calls (a0 : ByteArray) (r : Bool) (w : World) (h : impl_isValue.f a0 = some r) :
  Calls Try.prog 60 #[.string a0] w fun e w' => e = .returned (.bool r) ∧ Drawn0 w w' := by
 have H : (some (decide ((a0.size : Int) ≤ 60))) = some r := h
 clear h
 obtain rfl := Option.some.inj H
 go_enter Try.func60, Try.ntmps60
 go_wp2
 go_ret
 exact ⟨by first | rfl | (simp; done) | (simp [*]; done), by repeat (first | exact Drawn0.refl _ | apply Drawn0.step)⟩

/-! ### impl_Branch_isLeaf: function 44 -/
def impl_Branch_isLeaf.f (a0_0 : ByteArray) (a0_1 : ByteArray) (a0_2 : Int) (l0_3 : List (S29)) : Option (Bool) := if a0_2 = 256 then ((impl_isKey.f a0_0).bind fun t115 => (if t115 = true then ((impl_isValue.f a0_1).bind fun t116 => (if t116 = true then (some ((l0_3.length : Int) == 0)) else (some false))) else (some false))) else (some false)
set_option maxHeartbeats 8000000 in
set_option maxRecDepth 100000 in
theorem impl_Branch_isLeaf.calls (a0_0 : ByteArray) (a0_1 : ByteArray) (a0_2 : Int) (A0_3 : Option Addr) (c0_3 : Nat) (l0_3 : List (S29)) (r : Bool) (w : World) (hr0_3 : Kd.C k29 w A0_3 l0_3.length l0_3) (hc0_3 : l0_3.length ≤ c0_3) (h : impl_Branch_isLeaf.f a0_0 a0_1 a0_2 l0_3 = some r) :
  Calls Try.prog 44 #[.agg #[.string a0_0, .string a0_1, .int .i64 a0_2, .slice A0_3 l0_3.length c0_3]] w fun e w' => e = .returned (.bool r) ∧ Below w.heap.size w w' := by
 have hu29 := Try.underlying29
 have HR0_3 := Aside0.mk hr0_3
 have HC0_3 := Aside0.mk hc0_3
 clear hr0_3 hc0_3
 have HB := Aside0.mk (Below.refl w.heap.size w)
 have H : (if a0_2 = 256 then ((impl_isKey.f a0_0).bind fun t115 => (if t115 = true then ((impl_isValue.f a0_1).bind fun t116 => (if t116 = true then (some ((l0_3.length : Int) == 0)) else (some false))) else (some false))) else (some false)) = some r := h
 clear h
 by_cases c2 : a0_2 = 256
 ·rw [if_pos c2] at H
  have c2b0 : (a0_2 == 256) = true := beq_iff_eq.mpr c2
  have c2b1 : (a0_2 != 256) = false := bne_eq_false_iff_eq.mpr c2
  clear c2
  replace H := Option.bind_eq_some_iff.mp H
  obtain ⟨t115, A30, H⟩ := H
  replace H : (if t115 = true then ((impl_isValue.f a0_1).bind fun t116 => (if t116 = true then (some ((l0_3.length : Int) == 0)) else (some false))) else (some false)) = some r := H
  have A3 := Aside0.mk A30
  clear A30
  by_cases c4 : t115 = true
  ·subst c4
   have H1 : ((impl_isValue.f a0_1).bind fun t116 => (if t116 = true then (some ((l0_3.length : Int) == 0)) else (some false))) = some r := by rw [if_pos rfl] at H; exact H
   clear H
   have H := H1
   clear H1
   replace H := Option.bind_eq_some_iff.mp H
   obtain ⟨t116, A50, H⟩ := H
   replace H : (if t116 = true then (some ((l0_3.length : Int) == 0)) else (some false)) = some r := H
   have A5 := Aside0.mk A50
   clear A50
   by_cases c6 : t116 = true
   ·subst c6
    have H1 : (some ((l0_3.length : Int) == 0)) = some r := by rw [if_pos rfl] at H; exact H
    clear H
    have H := H1
    clear H1
    obtain rfl := Option.some.inj H
    go_enter Try.func44, Try.ntmps44
    go_wp2_with (first | ((with_reducible refine gate_dst (N := 1) rfl ?_); (try (refine gate_guard (by rfl) ?_; dsimp only)); refine box_event ?hg (N := 1) ?hd (cs := #[.string a0_0, .string a0_1, .int .i64 a0_2, .slice A0_3 l0_3.length c0_3]) (t := 29) ?hr ?_; (case hd => rfl); (case hg => rfl); (case hr => first | (go_simp; done) | (go_simp; rfl)); intro gb114 hg w7 hbox hb; have n0_ := Aside0.mk (below_step (by repeat (first | (with_reducible first | exact HB.out | apply below_alloc | apply pw_below_drewN | apply below_drew1) | exact HB.out)) hb); have n1_ := Aside0.mk (hbox); have n2_ := Aside0.mk ((by rw [hg]; exact (below_size (by repeat (first | (with_reducible first | exact HB.out | apply below_alloc | apply pw_below_drewN | apply below_drew1) | exact HB.out))) : w.heap.size ≤ gb114)); have n3_ := Aside0.mk ((by rw [hg]; exact (below_size (by repeat (first | (with_reducible first | exact HB.out | apply below_alloc | apply pw_below_drewN | apply below_drew1) | exact HB.out))) : w.heap.size ≤ gb114)); clear HB; have HB := n0_; have BK114 := n1_; have GW114 := n2_; have GE114 := n3_; clear n0_ n1_ n2_ n3_; clear hb hbox hg; have hcz8_0 : w7.cell? ⟨gb114, 0, none⟩ = some (.string a0_0) := (blk_cell BK114.out 0).trans rfl; have hcz8_1 : w7.cell? ⟨gb114, 1, none⟩ = some (.string a0_1) := (blk_cell BK114.out 1).trans rfl; have hcz8_2 : w7.cell? ⟨gb114, 2, none⟩ = some (.int .i64 a0_2) := (blk_cell BK114.out 2).trans rfl; have hcz8_3 : w7.cell? ⟨gb114, 3, none⟩ = some (.slice A0_3 l0_3.length c0_3) := (blk_cell BK114.out 3).trans rfl; have hfz8_0 := blk_frozen BK114.out 0; have hfz8_1 := blk_frozen BK114.out 1; have hfz8_2 := blk_frozen BK114.out 2; have hfz8_3 := blk_frozen BK114.out 3) | (go_at_call 59; (with_reducible refine (impl_isKey.calls a0_0 true _ A3.out).mono ?_); rintro e w' ⟨rfl, ⟨nd, rfl⟩⟩) | (go_at_call 60; (with_reducible refine (impl_isValue.calls a0_1 true _ A5.out).mono ?_); rintro e w' ⟨rfl, ⟨nd, rfl⟩⟩))
    go_ret
    exact ⟨by first | rfl | (simp [errW_none, errW_some] <;> rfl) | (simp [*, errW_none, errW_some] <;> rfl), by repeat (first | (with_reducible first | exact HB.out | apply below_alloc | apply pw_below_drewN | apply below_drew1 | refine below_set ?_ GE114.out) | exact HB.out)⟩
   ·replace c6 := Bool.eq_false_iff.mpr c6
    subst c6
    have H1 : (some false) = some r := by rw [if_neg (show ¬ (false = true) by decide)] at H; exact H
    clear H
    have H := H1
    clear H1
    obtain rfl := Option.some.inj H
    go_enter Try.func44, Try.ntmps44
    go_wp2_with (first | ((with_reducible refine gate_dst (N := 1) rfl ?_); (try (refine gate_guard (by rfl) ?_; dsimp only)); refine box_event ?hg (N := 1) ?hd (cs := #[.string a0_0, .string a0_1, .int .i64 a0_2, .slice A0_3 l0_3.length c0_3]) (t := 29) ?hr ?_; (case hd => rfl); (case hg => rfl); (case hr => first | (go_simp; done) | (go_simp; rfl)); intro gb114 hg w9 hbox hb; have n0_ := Aside0.mk (below_step (by repeat (first | (with_reducible first | exact HB.out | apply below_alloc | apply pw_below_drewN | apply below_drew1) | exact HB.out)) hb); have n1_ := Aside0.mk (hbox); have n2_ := Aside0.mk ((by rw [hg]; exact (below_size (by repeat (first | (with_reducible first | exact HB.out | apply below_alloc | apply pw_below_drewN | apply below_drew1) | exact HB.out))) : w.heap.size ≤ gb114)); have n3_ := Aside0.mk ((by rw [hg]; exact (below_size (by repeat (first | (with_reducible first | exact HB.out | apply below_alloc | apply pw_below_drewN | apply below_drew1) | exact HB.out))) : w.heap.size ≤ gb114)); clear HB; have HB := n0_; have BK114 := n1_; have GW114 := n2_; have GE114 := n3_; clear n0_ n1_ n2_ n3_; clear hb hbox hg; have hcz10_0 : w9.cell? ⟨gb114, 0, none⟩ = some (.string a0_0) := (blk_cell BK114.out 0).trans rfl; have hcz10_1 : w9.cell? ⟨gb114, 1, none⟩ = some (.string a0_1) := (blk_cell BK114.out 1).trans rfl; have hcz10_2 : w9.cell? ⟨gb114, 2, none⟩ = some (.int .i64 a0_2) := (blk_cell BK114.out 2).trans rfl; have hcz10_3 : w9.cell? ⟨gb114, 3, none⟩ = some (.slice A0_3 l0_3.length c0_3) := (blk_cell BK114.out 3).trans rfl; have hfz10_0 := blk_frozen BK114.out 0; have hfz10_1 := blk_frozen BK114.out 1; have hfz10_2 := blk_frozen BK114.out 2; have hfz10_3 := blk_frozen BK114.out 3) | (go_at_call 59; (with_reducible refine (impl_isKey.calls a0_0 true _ A3.out).mono ?_); rintro e w' ⟨rfl, ⟨nd, rfl⟩⟩) | (go_at_call 60; (with_reducible refine (impl_isValue.calls a0_1 false _ A5.out).mono ?_); rintro e w' ⟨rfl, ⟨nd, rfl⟩⟩))
    go_ret
    exact ⟨by first | rfl | (simp [errW_none, errW_some] <;> rfl) | (simp [*, errW_none, errW_some] <;> rfl), by repeat (first | (with_reducible first | exact HB.out | apply below_alloc | apply pw_below_drewN | apply below_drew1 | refine below_set ?_ GE114.out) | exact HB.out)⟩
  ·replace c4 := Bool.eq_false_iff.mpr c4
   subst c4
   have H1 : (some false) = some r := by rw [if_neg (show ¬ (false = true) by decide)] at H; exact H
   clear H
   have H := H1
   clear H1
   obtain rfl := Option.some.inj H
   go_enter Try.func44, Try.ntmps44
   go_wp2_with (first | ((with_reducible refine gate_dst (N := 1) rfl ?_); (try (refine gate_guard (by rfl) ?_; dsimp only)); refine box_event ?hg (N := 1) ?hd (cs := #[.string a0_0, .string a0_1, .int .i64 a0_2, .slice A0_3 l0_3.length c0_3]) (t := 29) ?hr ?_; (case hd => rfl); (case hg => rfl); (case hr => first | (go_simp; done) | (go_simp; rfl)); intro gb114 hg w11 hbox hb; have n0_ := Aside0.mk (below_step (by repeat (first | (with_reducible first | exact HB.out | apply below_alloc | apply pw_below_drewN | apply below_drew1) | exact HB.out)) hb); have n1_ := Aside0.mk (hbox); have n2_ := Aside0.mk ((by rw [hg]; exact (below_size (by repeat (first | (with_reducible first | exact HB.out | apply below_alloc | apply pw_below_drewN | apply below_drew1) | exact HB.out))) : w.heap.size ≤ gb114)); have n3_ := Aside0.mk ((by rw [hg]; exact (below_size (by repeat (first | (with_reducible first | exact HB.out | apply below_alloc | apply pw_below_drewN | apply below_drew1) | exact HB.out))) : w.heap.size ≤ gb114)); clear HB; have HB := n0_; have BK114 := n1_; have GW114 := n2_; have GE114 := n3_; clear n0_ n1_ n2_ n3_; clear hb hbox hg; have hcz12_0 : w11.cell? ⟨gb114, 0, none⟩ = some (.string a0_0) := (blk_cell BK114.out 0).trans rfl; have hcz12_1 : w11.cell? ⟨gb114, 1, none⟩ = some (.string a0_1) := (blk_cell BK114.out 1).trans rfl; have hcz12_2 : w11.cell? ⟨gb114, 2, none⟩ = some (.int .i64 a0_2) := (blk_cell BK114.out 2).trans rfl; have hcz12_3 : w11.cell? ⟨gb114, 3, none⟩ = some (.slice A0_3 l0_3.length c0_3) := (blk_cell BK114.out 3).trans rfl; have hfz12_0 := blk_frozen BK114.out 0; have hfz12_1 := blk_frozen BK114.out 1; have hfz12_2 := blk_frozen BK114.out 2; have hfz12_3 := blk_frozen BK114.out 3) | (go_at_call 59; (with_reducible refine (impl_isKey.calls a0_0 false _ A3.out).mono ?_); rintro e w' ⟨rfl, ⟨nd, rfl⟩⟩))
   go_ret
   exact ⟨by first | rfl | (simp [errW_none, errW_some] <;> rfl) | (simp [*, errW_none, errW_some] <;> rfl), by repeat (first | (with_reducible first | exact HB.out | apply below_alloc | apply pw_below_drewN | apply below_drew1 | refine below_set ?_ GE114.out) | exact HB.out)⟩
 ·rw [if_neg c2] at H
  have c2b0 : (a0_2 == 256) = false := beq_eq_false_iff_ne.mpr c2
  have c2b1 : (a0_2 != 256) = true := bne_iff_ne.mpr c2
  obtain rfl := Option.some.inj H
  go_enter Try.func44, Try.ntmps44
  go_wp2_with (first | ((with_reducible refine gate_dst (N := 1) rfl ?_); (try (refine gate_guard (by rfl) ?_; dsimp only)); refine box_event ?hg (N := 1) ?hd (cs := #[.string a0_0, .string a0_1, .int .i64 a0_2, .slice A0_3 l0_3.length c0_3]) (t := 29) ?hr ?_; (case hd => rfl); (case hg => rfl); (case hr => first | (go_simp; done) | (go_simp; rfl)); intro gb114 hg w13 hbox hb; have n0_ := Aside0.mk (below_step (by repeat (first | (with_reducible first | exact HB.out | apply below_alloc | apply pw_below_drewN | apply below_drew1) | exact HB.out)) hb); have n1_ := Aside0.mk (hbox); have n2_ := Aside0.mk ((by rw [hg]; exact (below_size (by repeat (first | (with_reducible first | exact HB.out | apply below_alloc | apply pw_below_drewN | apply below_drew1) | exact HB.out))) : w.heap.size ≤ gb114)); have n3_ := Aside0.mk ((by rw [hg]; exact (below_size (by repeat (first | (with_reducible first | exact HB.out | apply below_alloc | apply pw_below_drewN | apply below_drew1) | exact HB.out))) : w.heap.size ≤ gb114)); clear HB; have HB := n0_; have BK114 := n1_; have GW114 := n2_; have GE114 := n3_; clear n0_ n1_ n2_ n3_; clear hb hbox hg; have hcz14_0 : w13.cell? ⟨gb114, 0, none⟩ = some (.string a0_0) := (blk_cell BK114.out 0).trans rfl; have hcz14_1 : w13.cell? ⟨gb114, 1, none⟩ = some (.string a0_1) := (blk_cell BK114.out 1).trans rfl; have hcz14_2 : w13.cell? ⟨gb114, 2, none⟩ = some (.int .i64 a0_2) := (blk_cell BK114.out 2).trans rfl; have hcz14_3 : w13.cell? ⟨gb114, 3, none⟩ = some (.slice A0_3 l0_3.length c0_3) := (blk_cell BK114.out 3).trans rfl; have hfz14_0 := blk_frozen BK114.out 0; have hfz14_1 := blk_frozen BK114.out 1; have hfz14_2 := blk_frozen BK114.out 2; have hfz14_3 := blk_frozen BK114.out 3))
  go_ret
  exact ⟨by first | rfl | (simp [errW_none, errW_some] <;> rfl) | (simp [*, errW_none, errW_some] <;> rfl), by repeat (first | (with_reducible first | exact HB.out | apply below_alloc | apply pw_below_drewN | apply below_drew1 | refine below_set ?_ GE114.out) | exact HB.out)⟩

/-! ### impl_Branch_isFork: function 45 -/
def impl_Branch_isFork.f (a0_0 : ByteArray) (a0_1 : ByteArray) (a0_2 : Int) (l0_3 : List (S29)) : Option (Bool) := if a0_0.toList = ([] : List UInt8) then (if a0_1.toList = ([] : List UInt8) then ((impl_within.f a0_2 0 255).bind fun t118 => (if t118 = true then (some ((l0_3.length : Int) == 2)) else (some false))) else (some false)) else (some false)
set_option maxHeartbeats 8000000 in
set_option maxRecDepth 100000 in
theorem impl_Branch_isFork.calls (a0_0 : ByteArray) (a0_1 : ByteArray) (a0_2 : Int) (A0_3 : Option Addr) (c0_3 : Nat) (l0_3 : List (S29)) (r : Bool) (w : World) (hr0_3 : Kd.C k29 w A0_3 l0_3.length l0_3) (hc0_3 : l0_3.length ≤ c0_3) (h : impl_Branch_isFork.f a0_0 a0_1 a0_2 l0_3 = some r) :
  Calls Try.prog 45 #[.agg #[.string a0_0, .string a0_1, .int .i64 a0_2, .slice A0_3 l0_3.length c0_3]] w fun e w' => e = .returned (.bool r) ∧ Below w.heap.size w w' := by
 have hu29 := Try.underlying29
 have HR0_3 := Aside0.mk hr0_3
 have HC0_3 := Aside0.mk hc0_3
 clear hr0_3 hc0_3
 have HB := Aside0.mk (Below.refl w.heap.size w)
 have H : (if a0_0.toList = ([] : List UInt8) then (if a0_1.toList = ([] : List UInt8) then ((impl_within.f a0_2 0 255).bind fun t118 => (if t118 = true then (some ((l0_3.length : Int) == 2)) else (some false))) else (some false)) else (some false)) = some r := h
 clear h
 by_cases c2 : a0_0.toList = ([] : List UInt8)
 ·rw [if_pos c2] at H
  have c2b0 : (a0_0.toList == ([] : List UInt8)) = true := beq_iff_eq.mpr c2
  have c2b1 : (a0_0.toList != ([] : List UInt8)) = false := bne_eq_false_iff_eq.mpr c2
  clear c2
  by_cases c3 : a0_1.toList = ([] : List UInt8)
  ·rw [if_pos c3] at H
   have c3b0 : (a0_1.toList == ([] : List UInt8)) = true := beq_iff_eq.mpr c3
   have c3b1 : (a0_1.toList != ([] : List UInt8)) = false := bne_eq_false_iff_eq.mpr c3
   clear c3
   replace H := Option.bind_eq_some_iff.mp H
   obtain ⟨t118, A40, H⟩ := H
   replace H : (if t118 = true then (some ((l0_3.length : Int) == 2)) else (some false)) = some r := H
   have A4 := Aside0.mk A40
   clear A40
   by_cases c5 : t118 = true
   ·subst c5
    have H1 : (some ((l0_3.length : Int) == 2)) = some r := by rw [if_pos rfl] at H; exact H
    clear H
    have H := H1
    clear H1
    obtain rfl := Option.some.inj H
    go_enter Try.func45, Try.ntmps45
    go_wp2_with (first | ((with_reducible refine gate_dst (N := 1) rfl ?_); (try (refine gate_guard (by rfl) ?_; dsimp only)); refine box_event ?hg (N := 1) ?hd (cs := #[.string a0_0, .string a0_1, .int .i64 a0_2, .slice A0_3 l0_3.length c0_3]) (t := 29) ?hr ?_; (case hd => rfl); (case hg => rfl); (case hr => first | (go_simp; done) | (go_simp; rfl)); intro gb117 hg w6 hbox hb; have n0_ := Aside0.mk (below_step (by repeat (first | (with_reducible first | exact HB.out | apply below_alloc | apply pw_below_drewN | apply below_drew1) | exact HB.out)) hb); have n1_ := Aside0.mk (hbox); have n2_ := Aside0.mk ((by rw [hg]; exact (below_size (by repeat (first | (with_reducible first | exact HB.out | apply below_alloc | apply pw_below_drewN | apply below_drew1) | exact HB.out))) : w.heap.size ≤ gb117)); have n3_ := Aside0.mk ((by rw [hg]; exact (below_size (by repeat (first | (with_reducible first | exact HB.out | apply below_alloc | apply pw_below_drewN | apply below_drew1) | exact HB.out))) : w.heap.size ≤ gb117)); clear HB; have HB := n0_; have BK117 := n1_; have GW117 := n2_; have GE117 := n3_; clear n0_ n1_ n2_ n3_; clear hb hbox hg; have hcz7_0 : w6.cell? ⟨gb117, 0, none⟩ = some (.string a0_0) := (blk_cell BK117.out 0).trans rfl; have hcz7_1 : w6.cell? ⟨gb117, 1, none⟩ = some (.string a0_1) := (blk_cell BK117.out 1).trans rfl; have hcz7_2 : w6.cell? ⟨gb117, 2, none⟩ = some (.int .i64 a0_2) := (blk_cell BK117.out 2).trans rfl; have hcz7_3 : w6.cell? ⟨gb117, 3, none⟩ = some (.slice A0_3 l0_3.length c0_3) := (blk_cell BK117.out 3).trans rfl; have hfz7_0 := blk_frozen BK117.out 0; have hfz7_1 := blk_frozen BK117.out 1; have hfz7_2 := blk_frozen BK117.out 2; have hfz7_3 := blk_frozen BK117.out 3) | (go_at_call 61; (with_reducible refine (impl_within.calls a0_2 0 255 true _ A4.out).mono ?_); rintro e w' ⟨rfl, ⟨nd, rfl⟩⟩))
    go_ret
    exact ⟨by first | rfl | (simp [errW_none, errW_some] <;> rfl) | (simp [*, errW_none, errW_some] <;> rfl), by repeat (first | (with_reducible first | exact HB.out | apply below_alloc | apply pw_below_drewN | apply below_drew1 | refine below_set ?_ GE117.out) | exact HB.out)⟩
   ·replace c5 := Bool.eq_false_iff.mpr c5
    subst c5
    have H1 : (some false) = some r := by rw [if_neg (show ¬ (false = true) by decide)] at H; exact H
    clear H
    have H := H1
    clear H1
    obtain rfl := Option.some.inj H
    go_enter Try.func45, Try.ntmps45
    go_wp2_with (first | ((with_reducible refine gate_dst (N := 1) rfl ?_); (try (refine gate_guard (by rfl) ?_; dsimp only)); refine box_event ?hg (N := 1) ?hd (cs := #[.string a0_0, .string a0_1, .int .i64 a0_2, .slice A0_3 l0_3.length c0_3]) (t := 29) ?hr ?_; (case hd => rfl); (case hg => rfl); (case hr => first | (go_simp; done) | (go_simp; rfl)); intro gb117 hg w8 hbox hb; have n0_ := Aside0.mk (below_step (by repeat (first | (with_reducible first | exact HB.out | apply below_alloc | apply pw_below_drewN | apply below_drew1) | exact HB.out)) hb); have n1_ := Aside0.mk (hbox); have n2_ := Aside0.mk ((by rw [hg]; exact (below_size (by repeat (first | (with_reducible first | exact HB.out | apply below_alloc | apply pw_below_drewN | apply below_drew1) | exact HB.out))) : w.heap.size ≤ gb117)); have n3_ := Aside0.mk ((by rw [hg]; exact (below_size (by repeat (first | (with_reducible first | exact HB.out | apply below_alloc | apply pw_below_drewN | apply below_drew1) | exact HB.out))) : w.heap.size ≤ gb117)); clear HB; have HB := n0_; have BK117 := n1_; have GW117 := n2_; have GE117 := n3_; clear n0_ n1_ n2_ n3_; clear hb hbox hg; have hcz9_0 : w8.cell? ⟨gb117, 0, none⟩ = some (.string a0_0) := (blk_cell BK117.out 0).trans rfl; have hcz9_1 : w8.cell? ⟨gb117, 1, none⟩ = some (.string a0_1) := (blk_cell BK117.out 1).trans rfl; have hcz9_2 : w8.cell? ⟨gb117, 2, none⟩ = some (.int .i64 a0_2) := (blk_cell BK117.out 2).trans rfl; have hcz9_3 : w8.cell? ⟨gb117, 3, none⟩ = some (.slice A0_3 l0_3.length c0_3) := (blk_cell BK117.out 3).trans rfl; have hfz9_0 := blk_frozen BK117.out 0; have hfz9_1 := blk_frozen BK117.out 1; have hfz9_2 := blk_frozen BK117.out 2; have hfz9_3 := blk_frozen BK117.out 3) | (go_at_call 61; (with_reducible refine (impl_within.calls a0_2 0 255 false _ A4.out).mono ?_); rintro e w' ⟨rfl, ⟨nd, rfl⟩⟩))
    go_ret
    exact ⟨by first | rfl | (simp [errW_none, errW_some] <;> rfl) | (simp [*, errW_none, errW_some] <;> rfl), by repeat (first | (with_reducible first | exact HB.out | apply below_alloc | apply pw_below_drewN | apply below_drew1 | refine below_set ?_ GE117.out) | exact HB.out)⟩
  ·rw [if_neg c3] at H
   have c3b0 : (a0_1.toList == ([] : List UInt8)) = false := beq_eq_false_iff_ne.mpr c3
   have c3b1 : (a0_1.toList != ([] : List UInt8)) = true := bne_iff_ne.mpr c3
   obtain rfl := Option.some.inj H
   go_enter Try.func45, Try.ntmps45
   go_wp2_with (first | ((with_reducible refine gate_dst (N := 1) rfl ?_); (try (refine gate_guard (by rfl) ?_; dsimp only)); refine box_event ?hg (N := 1) ?hd (cs := #[.string a0_0, .string a0_1, .int .i64 a0_2, .slice A0_3 l0_3.length c0_3]) (t := 29) ?hr ?_; (case hd => rfl); (case hg => rfl); (case hr => first | (go_simp; done) | (go_simp; rfl)); intro gb117 hg w10 hbox hb; have n0_ := Aside0.mk (below_step (by repeat (first | (with_reducible first | exact HB.out | apply below_alloc | apply pw_below_drewN | apply below_drew1) | exact HB.out)) hb); have n1_ := Aside0.mk (hbox); have n2_ := Aside0.mk ((by rw [hg]; exact (below_size (by repeat (first | (with_reducible first | exact HB.out | apply below_alloc | apply pw_below_drewN | apply below_drew1) | exact HB.out))) : w.heap.size ≤ gb117)); have n3_ := Aside0.mk ((by rw [hg]; exact (below_size (by repeat (first | (with_reducible first | exact HB.out | apply below_alloc | apply pw_below_drewN | apply below_drew1) | exact HB.out))) : w.heap.size ≤ gb117)); clear HB; have HB := n0_; have BK117 := n1_; have GW117 := n2_; have GE117 := n3_; clear n0_ n1_ n2_ n3_; clear hb hbox hg; have hcz11_0 : w10.cell? ⟨gb117, 0, none⟩ = some (.string a0_0) := (blk_cell BK117.out 0).trans rfl; have hcz11_1 : w10.cell? ⟨gb117, 1, none⟩ = some (.string a0_1) := (blk_cell BK117.out 1).trans rfl; have hcz11_2 : w10.cell? ⟨gb117, 2, none⟩ = some (.int .i64 a0_2) := (blk_cell BK117.out 2).trans rfl; have hcz11_3 : w10.cell? ⟨gb117, 3, none⟩ = some (.slice A0_3 l0_3.length c0_3) := (blk_cell BK117.out 3).trans rfl; have hfz11_0 := blk_frozen BK117.out 0; have hfz11_1 := blk_frozen BK117.out 1; have hfz11_2 := blk_frozen BK117.out 2; have hfz11_3 := blk_frozen BK117.out 3))
   go_ret
   exact ⟨by first | rfl | (simp [errW_none, errW_some] <;> rfl) | (simp [*, errW_none, errW_some] <;> rfl), by repeat (first | (with_reducible first | exact HB.out | apply below_alloc | apply pw_below_drewN | apply below_drew1 | refine below_set ?_ GE117.out) | exact HB.out)⟩
 ·rw [if_neg c2] at H
  have c2b0 : (a0_0.toList == ([] : List UInt8)) = false := beq_eq_false_iff_ne.mpr c2
  have c2b1 : (a0_0.toList != ([] : List UInt8)) = true := bne_iff_ne.mpr c2
  obtain rfl := Option.some.inj H
  go_enter Try.func45, Try.ntmps45
  go_wp2_with (first | ((with_reducible refine gate_dst (N := 1) rfl ?_); (try (refine gate_guard (by rfl) ?_; dsimp only)); refine box_event ?hg (N := 1) ?hd (cs := #[.string a0_0, .string a0_1, .int .i64 a0_2, .slice A0_3 l0_3.length c0_3]) (t := 29) ?hr ?_; (case hd => rfl); (case hg => rfl); (case hr => first | (go_simp; done) | (go_simp; rfl)); intro gb117 hg w12 hbox hb; have n0_ := Aside0.mk (below_step (by repeat (first | (with_reducible first | exact HB.out | apply below_alloc | apply pw_below_drewN | apply below_drew1) | exact HB.out)) hb); have n1_ := Aside0.mk (hbox); have n2_ := Aside0.mk ((by rw [hg]; exact (below_size (by repeat (first | (with_reducible first | exact HB.out | apply below_alloc | apply pw_below_drewN | apply below_drew1) | exact HB.out))) : w.heap.size ≤ gb117)); have n3_ := Aside0.mk ((by rw [hg]; exact (below_size (by repeat (first | (with_reducible first | exact HB.out | apply below_alloc | apply pw_below_drewN | apply below_drew1) | exact HB.out))) : w.heap.size ≤ gb117)); clear HB; have HB := n0_; have BK117 := n1_; have GW117 := n2_; have GE117 := n3_; clear n0_ n1_ n2_ n3_; clear hb hbox hg; have hcz13_0 : w12.cell? ⟨gb117, 0, none⟩ = some (.string a0_0) := (blk_cell BK117.out 0).trans rfl; have hcz13_1 : w12.cell? ⟨gb117, 1, none⟩ = some (.string a0_1) := (blk_cell BK117.out 1).trans rfl; have hcz13_2 : w12.cell? ⟨gb117, 2, none⟩ = some (.int .i64 a0_2) := (blk_cell BK117.out 2).trans rfl; have hcz13_3 : w12.cell? ⟨gb117, 3, none⟩ = some (.slice A0_3 l0_3.length c0_3) := (blk_cell BK117.out 3).trans rfl; have hfz13_0 := blk_frozen BK117.out 0; have hfz13_1 := blk_frozen BK117.out 1; have hfz13_2 := blk_frozen BK117.out 2; have hfz13_3 := blk_frozen BK117.out 3))
  go_ret
  exact ⟨by first | rfl | (simp [errW_none, errW_some] <;> rfl) | (simp [*, errW_none, errW_some] <;> rfl), by repeat (first | (with_reducible first | exact HB.out | apply below_alloc | apply pw_below_drewN | apply below_drew1 | refine below_set ?_ GE117.out) | exact HB.out)⟩

/-! ### impl_bit: function 48 -/
def impl_bit.f (a0 : ByteArray) (a1 : Int) : Option (Int) := if 0 ≤ (wrap64 (Int.tdiv a1 8)) then (if (wrap64 (Int.tdiv a1 8)) < (a0.size : Int) then (if 0 ≤ (wrap64 (7 - (Int.tmod a1 8))) then (some (Go.bits .and .i64 (wrap64 (shr .u8 (bt a0 (wrap64 (Int.tdiv a1 8))) (wrap64 (7 - (Int.tmod a1 8))))) 1)) else (none)) else (none)) else (none)
set_option maxHeartbeats 8000000 in
set_option maxRecDepth 100000 in
theorem impl_bit.calls (a0 : ByteArray) (a1 : Int) (r : Int) (w : World) (h : impl_bit.f a0 a1 = some r) :
  Calls Try.prog 48 #[.string a0, .int .i64 a1] w fun e w' => e = .returned (.int .i64 r) ∧ Drawn0 w w' := by
 have H : (if 0 ≤ (wrap64 (Int.tdiv a1 8)) then (if (wrap64 (Int.tdiv a1 8)) < (a0.size : Int) then (if 0 ≤ (wrap64 (7 - (Int.tmod a1 8))) then (some (Go.bits .and .i64 (wrap64 (shr .u8 (bt a0 (wrap64 (Int.tdiv a1 8))) (wrap64 (7 - (Int.tmod a1 8))))) 1)) else (none)) else (none)) else (none)) = some r := h
 clear h
 obtain ⟨ji3, hji3⟩ : ∃ j_ : Int, (wrap64 (Int.tdiv a1 8)) = j_ := ⟨_, rfl⟩
 replace H : (if 0 ≤ (ji3) then (if (ji3) < (a0.size : Int) then (if 0 ≤ (wrap64 (7 - (Int.tmod a1 8))) then (some (Go.bits .and .i64 (wrap64 (shr .u8 (bt a0 (ji3)) (wrap64 (7 - (Int.tmod a1 8))))) 1)) else (none)) else (none)) else (none)) = some r := by first | (rw [hji3] at H; exact H) | (simp only [hji3] at H ⊢; exact H)
 have hji3w : (IntKind.i64.wrap (Int.tdiv a1 8)) = ji3 := (i64_w _).trans hji3
 by_cases c4 : 0 ≤ (ji3)
 ·rw [if_pos c4] at H
  have c4b0 : decide (0 ≤ (ji3)) = true := decide_eq_true c4
  clear c4
  by_cases c5 : (ji3) < (a0.size : Int)
  ·rw [if_pos c5] at H
   have c5b0 : decide ((ji3) < (a0.size : Int)) = true := decide_eq_true c5
   clear c5
   obtain ⟨ji7, hji7⟩ : ∃ j_ : Int, (wrap64 (7 - (Int.tmod a1 8))) = j_ := ⟨_, rfl⟩
   replace H : (if 0 ≤ (ji7) then (some (Go.bits .and .i64 (wrap64 (shr .u8 (bt a0 (ji3)) (ji7))) 1)) else (none)) = some r := by first | (rw [hji7] at H; exact H) | (simp only [hji7] at H ⊢; exact H)
   have hji7w : (IntKind.i64.wrap (7 - (Int.tmod a1 8))) = ji7 := (i64_w _).trans hji7
   by_cases c8 : 0 ≤ (ji7)
   ·rw [if_pos c8] at H
    have c8b0 := eq_true c8
    have c8b1 : decide (0 ≤ (ji7)) = true := decide_eq_true c8
    clear c8
    obtain ⟨ji9, hji9⟩ : ∃ j_ : Int, (shr .u8 (bt a0 (ji3)) (ji7)) = j_ := ⟨_, rfl⟩
    replace H : (some (Go.bits .and .i64 (wrap64 (ji9)) 1)) = some r := by first | (rw [hji9] at H; exact H) | (simp only [hji9] at H ⊢; exact H)
    have hji9_ : ((bt a0 (ji3)) / 2 ^ min (ji7).toNat 8) = ji9 := hji9
    have hji9z : (ji7) ≤ 8 → ((bt a0 (ji3)) / 2 ^ (ji7).toNat) = ji9 := shr_small hji9
    obtain rfl := Option.some.inj H
    have p6 : 0 ≤ ((ji3) : Int) := of_decide_eq_true (by assumption)
    have q6 : (ji3) < (a0.size : Int) := of_decide_eq_true (by assumption)
    have hx6 := bt_at a0 (ji3)
    replace p6 := eq_true p6
    replace q6 := eq_true q6
    go_enter Try.func48, Try.ntmps48
    go_wp2
    go_ret
    exact ⟨by first | rfl | (simp; done) | (simp only [← hji3, ← hji7, ← hji9] <;> (first | rfl | simp)) | (simp [*]; done), by repeat (first | exact Drawn0.refl _ | apply Drawn0.step)⟩
   ·rw [if_neg c8] at H
    exact absurd H (by simp)
  ·rw [if_neg c5] at H
   exact absurd H (by simp)
 ·rw [if_neg c4] at H
  exact absurd H (by simp)

/-! ### impl_sameAhead: function 50 -/
def impl_sameAhead.l0 : Nat → ByteArray → ByteArray → Int → Int → Option (Bool)
 | 0, _, _, _, _ => none
 | k + 1, x0, x1, x8, x9 => if x9 < x8 then ((impl_bit.f x0 x9).bind fun t119 => ((impl_bit.f x1 x9).bind fun t120 => (if t119 = t120 then (impl_sameAhead.l0 k x0 x1 x8 (wrap64 (x9 + 1))) else (some false)))) else (some true)
def impl_sameAhead.f (k : Nat) (a0 : ByteArray) (a1 : ByteArray) (a2 : Int) : Option (Bool) := impl_sameAhead.l0 k a0 a1 a2 0
theorem impl_sameAhead.mono_l : ∀ k, (∀ y0 y1 y2 y3, LeO (impl_sameAhead.l0 k y0 y1 y2 y3) (impl_sameAhead.l0 (k + 1) y0 y1 y2 y3))
 | 0 => fun _ _ _ _ r h => by simp [impl_sameAhead.l0] at h
 | k + 1 => by
  have ih0 := impl_sameAhead.mono_l k
  ·intro y0 y1 y2 y3
   unfold impl_sameAhead.l0
   repeat' first
   | (with_reducible exact ih0 _ _ _ _)
   | (with_reducible exact LeO.refl _)
   | (with_reducible exact LeO.none _)
   | (with_reducible refine LeO.ite ?_ ?_)
   | (with_reducible refine LeO.bind ?_ (fun _ => ?_))
   | exact ih0 _ _ _ _
   | exact LeO.none _
   | refine LeO.ite ?_ ?_
   | refine LeO.bind ?_ (fun _ => ?_)
theorem impl_sameAhead.mono : ∀ a0 a1 a2 k, LeO (impl_sameAhead.f k a0 a1 a2) (impl_sameAhead.f (k + 1) a0 a1 a2) := by
 intro a0 a1 a2 k
 have ih0 := impl_sameAhead.mono_l k
 unfold impl_sameAhead.f
 repeat' first
   | (with_reducible exact ih0 _ _ _ _)
   | (with_reducible exact LeO.refl _)
   | (with_reducible exact LeO.none _)
   | (with_reducible refine LeO.ite ?_ ?_)
   | (with_reducible refine LeO.bind ?_ (fun _ => ?_))
   | exact ih0 _ _ _ _
   | exact LeO.none _
   | refine LeO.ite ?_ ?_
   | refine LeO.bind ?_ (fun _ => ?_)
set_option maxHeartbeats 8000000 in
set_option maxRecDepth 100000 in
theorem impl_sameAhead.calls (k : Nat) (a0 : ByteArray) (a1 : ByteArray) (a2 : Int) (r : Bool) (w : World) (h : impl_sameAhead.f k a0 a1 a2 = some r) :
  Calls Try.prog 50 #[.string a0, .string a1, .int .i64 a2] w fun e w' => e = .returned (.bool r) ∧ Drawn0 w w' := by
 have H : (impl_sameAhead.l0 k a0 a1 a2 0) = some r := h
 clear h
 have H' := Aside0.mk H
 clear H
 go_enter Try.func50, Try.ntmps50
 go_wp2
 go_loopg [9] k (fun kq v9 w' => ∃ (x9_1 : Int), v9 = .int .i64 x9_1 ∧ Aside0 (impl_sameAhead.l0 kq a0 a1 a2 x9_1 = some r) ∧ Aside0 (kq ≤ k) ∧ Drawn0 w w')
 case atStart => exact ⟨(0), (by first | rfl | (simp; done) | (simp [*]; done)), H', ⟨Nat.le_refl _⟩, by repeat (first | exact Drawn0.refl _ | apply Drawn0.step)⟩
 case round =>
  clear H'
  try clear p2
  obtain ⟨x9_1, rfl, HA, HK1, ⟨m1, rfl⟩⟩ := hrel
  cases gk with
  | zero => exact absurd HA.out (by simp [impl_sameAhead.l0])
  | succ k1 =>
   have H := HA.out
   clear HA
   simp only [impl_sameAhead.l0] at H
   by_cases c4 : x9_1 < a2
   ·rw [if_pos c4] at H
    have c4b0 : decide (x9_1 < a2) = true := decide_eq_true c4
    clear c4
    replace H := Option.bind_eq_some_iff.mp H
    obtain ⟨t119, A50, H⟩ := H
    replace H : ((impl_bit.f a1 x9_1).bind fun t120 => (if t119 = t120 then (impl_sameAhead.l0 k1 a0 a1 a2 (wrap64 (x9_1 + 1))) else (some false))) = some r := H
    have A5 := Aside0.mk A50
    clear A50
    replace H := Option.bind_eq_some_iff.mp H
    obtain ⟨t120, A60, H⟩ := H
    replace H : (if t119 = t120 then (impl_sameAhead.l0 k1 a0 a1 a2 (wrap64 (x9_1 + 1))) else (some false)) = some r := H
    have A6 := Aside0.mk A60
    clear A60
    by_cases c7 : t119 = t120
    ·rw [if_pos c7] at H
     have c7b0 : (t119 == t120) = true := beq_iff_eq.mpr c7
     have c7b1 : (t119 != t120) = false := bne_eq_false_iff_eq.mpr c7
     clear c7
     have H' := Aside0.mk H
     clear H
     go_wp2_with (first | ((with_reducible refine gate_callee (f := 48) rfl ?_); refine goesL_ (some 14) rfl rfl Try.func48 (by kernel_rfl) rfl #[.string a0, .int .i64 x9_1] rfl (by (try simp only [List.map_toArray, List.map_cons, List.map_nil]); first | done | rfl | (simp only [List.length_drop, List.length_take]; rfl)) ?_; (with_reducible refine (impl_bit.calls a0 x9_1 t119 _ A5.out).mono ?_); rintro e w' ⟨rfl, ⟨nd, rfl⟩⟩; refine ⟨_, rfl, ?_⟩) | ((with_reducible refine gate_callee (f := 48) rfl ?_); refine goesL_ (some 17) rfl rfl Try.func48 (by kernel_rfl) rfl #[.string a1, .int .i64 x9_1] rfl (by (try simp only [List.map_toArray, List.map_cons, List.map_nil]); first | done | rfl | (simp only [List.length_drop, List.length_take]; rfl)) ?_; (with_reducible refine (impl_bit.calls a1 x9_1 t120 _ A6.out).mono ?_); rintro e w' ⟨rfl, ⟨nd, rfl⟩⟩; refine ⟨_, rfl, ?_⟩))
     go_roundg k1
     case measure => have := HK1.out; omega
     case rel => exact ⟨(wrap64 (x9_1 + 1)), (by first | rfl | (simp; done) | (simp [*]; done)), H', ⟨by have := HK1.out; omega⟩, by repeat (first | exact Drawn0.refl _ | apply Drawn0.step)⟩
    ·rw [if_neg c7] at H
     have c7b0 : (t119 == t120) = false := beq_eq_false_iff_ne.mpr c7
     have c7b1 : (t119 != t120) = true := bne_iff_ne.mpr c7
     obtain rfl := Option.some.inj H
     go_wp2_with (first | ((with_reducible refine gate_callee (f := 48) rfl ?_); refine goesL_ (some 14) rfl rfl Try.func48 (by kernel_rfl) rfl #[.string a0, .int .i64 x9_1] rfl (by (try simp only [List.map_toArray, List.map_cons, List.map_nil]); first | done | rfl | (simp only [List.length_drop, List.length_take]; rfl)) ?_; (with_reducible refine (impl_bit.calls a0 x9_1 t119 _ A5.out).mono ?_); rintro e w' ⟨rfl, ⟨nd, rfl⟩⟩; refine ⟨_, rfl, ?_⟩) | ((with_reducible refine gate_callee (f := 48) rfl ?_); refine goesL_ (some 17) rfl rfl Try.func48 (by kernel_rfl) rfl #[.string a1, .int .i64 x9_1] rfl (by (try simp only [List.map_toArray, List.map_cons, List.map_nil]); first | done | rfl | (simp only [List.length_drop, List.length_take]; rfl)) ?_; (with_reducible refine (impl_bit.calls a1 x9_1 t120 _ A6.out).mono ?_); rintro e w' ⟨rfl, ⟨nd, rfl⟩⟩; refine ⟨_, rfl, ?_⟩))
     go_ret
     exact ⟨by first | rfl | (simp; done) | (simp [*]; done), by repeat (first | exact Drawn0.refl _ | apply Drawn0.step)⟩
   ·rw [if_neg c4] at H
    have c4b0 : decide (x9_1 < a2) = false := decide_eq_false c4
    clear c4
    obtain rfl := Option.some.inj H
    go_wp2
    go_ret
    exact ⟨by first | rfl | (simp; done) | (simp [*]; done), by repeat (first | exact Drawn0.refl _ | apply Drawn0.step)⟩

end Go.Proofs.Ytjkdmegpjdfcaaa.PFnExactMapList
