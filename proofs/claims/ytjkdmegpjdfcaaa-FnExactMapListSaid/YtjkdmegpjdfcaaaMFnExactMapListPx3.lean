/- Written by a program (a session's own form of the print): plain functions with the answers of the Go functions, and the walks that show it. Lean checks it. -/
import Derived.Test.YtjkdmegpjdfcaaaMFnExactMapListPx0
import Derived.Test.YtjkdmegpjdfcaaaMFnExactMapListPx1
import Derived.Test.YtjkdmegpjdfcaaaMFnExactMapListPx2
namespace Go.Proofs.Ytjkdmegpjdfcaaa.PFnExactMapList
open Go.RowKit Go.Proofs.YtjkdmegpjdfcaaaW.PrintWords Go.Proofs.YtjkdmegpjdfcaaaW.PrintLast Go.Proofs.YtjkdmegpjdfcaaaW.PrintMore
attribute [local go_sem] max2_int min2_int max_two min_two max_three min_three max_four min_four   -- for this text's walks alone
set_option linter.unusedVariables false
set_option linter.unusedSimpArgs false

/-! ### spec_l07Count: function 21: by hand -/
-- IMPORT U
theorem spec_l07Count.u8b (x : Int) : IntKind.u8.wrap (48 + IntKind.u8.wrap x) = (48 + x) % 256 := by
 rw [IntKind.wrap_u8, IntKind.wrap_u8]
 omega
/-- The leftmost leaf, so many steps down at most. -/
def spec_l07Count.go : Nat → S29 → S29
 | 0, x => x
 | n + 1, x => if x.f3.length = 0 then x else spec_l07Count.go n (rd_T29 x.f3 0)
theorem spec_l07Count.eta (x : S29) : (⟨x.f0, x.f1, x.f2, x.f3⟩ : S29) = x := by cases x; rfl
def spec_l07Count.lm (a b : ByteArray) (c : Int) (l : List S29) : Option (ByteArray × ByteArray × Int × List S29) := some ((spec_l07Count.go 256 ⟨a, b, c, l⟩).f0, (spec_l07Count.go 256 ⟨a, b, c, l⟩).f1, (spec_l07Count.go 256 ⟨a, b, c, l⟩).f2, (spec_l07Count.go 256 ⟨a, b, c, l⟩).f3)
theorem spec_l07Count.put4 {w : World} {g t : Nat} {a b c d a' b' c' d' : Value} (h : w.heap[g]? = some (.cells #[a, b, c, d] t (0, 0))) : ((((w.setCell ⟨g, 0, none⟩ a').setCell ⟨g, 1, none⟩ b').setCell ⟨g, 2, none⟩ c').setCell ⟨g, 3, none⟩ d').heap[g]? = some (.cells #[a', b', c', d'] t (0, 0)) := by
 refine blk_put (cs := #[a', b', c', d]) ?_ 3 _ rfl
 refine blk_put (cs := #[a', b', c, d]) ?_ 2 _ rfl
 refine blk_put (cs := #[a', b, c, d]) ?_ 1 _ rfl
 refine blk_put (cs := #[a, b, c, d]) ?_ 0 _ rfl
 exact h
theorem spec_l07Count.far4 {w : World} {g g' ty : Nat} {cs : Array Value} {a' b' c' d' : Value} (h : w.heap[g]? = some (.cells cs ty (0, 0))) (hn : g ≠ g') : ((((w.setCell ⟨g', 0, none⟩ a').setCell ⟨g', 1, none⟩ b').setCell ⟨g', 2, none⟩ c').setCell ⟨g', 3, none⟩ d').heap[g]? = some (.cells cs ty (0, 0)) :=
 blk_far (blk_far (blk_far (blk_far h hn _) hn _) hn _) hn _
theorem spec_l07Count.below4 {w W : World} {B g : Nat} {a' b' c' d' : Value} (h : Below B w W) (hg : B ≤ g) : Below B w ((((W.setCell ⟨g, 0, none⟩ a').setCell ⟨g, 1, none⟩ b').setCell ⟨g, 2, none⟩ c').setCell ⟨g, 3, none⟩ d') :=
 (((h.setCell (p := ⟨g, 0, none⟩) hg _).setCell (p := ⟨g, 1, none⟩) hg _).setCell (p := ⟨g, 2, none⟩) hg _).setCell (p := ⟨g, 3, none⟩) hg _
theorem spec_l07Count.heap : Kd.Heap k29 := Kd.heap_fix (fun _ hd => Kd.heap_iso _ (Kd.heap_pair Kd.heap_string (Kd.heap_pair Kd.heap_string (Kd.heap_pair (Kd.heap_int .i64) (Kd.heap_slice 29 hd)))))
/-- Four cells written anew with what they hold, behind any others. -/
theorem spec_l07Count.reset {w : World} {g t : Nat} {a b c d : Value} (h : w.heap[g]? = some (.cells #[a, b, c, d] t (0, 0))) (z0 z1 z2 z3 : Value) :
  ∃ w0, w = ((((w0.setCell ⟨g, 0, none⟩ a).setCell ⟨g, 1, none⟩ b).setCell ⟨g, 2, none⟩ c).setCell ⟨g, 3, none⟩ d) ∧ w0 = ((((w.setCell ⟨g, 0, none⟩ z0).setCell ⟨g, 1, none⟩ z1).setCell ⟨g, 2, none⟩ z2).setCell ⟨g, 3, none⟩ z3) := by
 refine ⟨_, ?_, rfl⟩
 have sb : ∀ (W : World) (p : Addr) (v : Value), W = { w with heap := W.heap } → W.setCell p v = { w with heap := (W.setCell p v).heap } := fun W p v h => congrArg (a₂ := ({ w with heap := W.heap } : World)) (fun A : World => ({ A with heap := (W.setCell p v).heap } : World)) h
 have key : ∀ (X : World), X = { w with heap := X.heap } → X.heap = w.heap → w = X := by
  intro X h1 h2
  rw [h1, h2]
 refine key _ (sb _ _ _ (sb _ _ _ (sb _ _ _ (sb _ _ _ (sb _ _ _ (sb _ _ _ (sb _ _ _ (sb _ _ _ rfl)))))))) ?_
 apply Array.ext_getElem?
 intro i
 by_cases hi : i = g
 ·subst hi
  rw [h]
  exact spec_l07Count.put4 (spec_l07Count.put4 h)
 ·have e : ∀ (W : World) (p : Addr) (v : Value), p.block = g → (W.setCell p v).heap[i]? = W.heap[i]? := fun W p v hp => Below.heap_setCell W p v i (by rw [hp]; exact hi)
  rw [e _ _ _ rfl, e _ _ _ rfl, e _ _ _ rfl, e _ _ _ rfl, e _ _ _ rfl, e _ _ _ rfl, e _ _ _ rfl, e _ _ _ rfl]
mutual
def spec_l07Count.j0 : Nat → ByteArray → Int → Bool → ByteArray → ByteArray → Int → List (S29) → Option (Int)
 | 0, _, _, _, _, _, _, _ => none
 | k + 1, x2, x3, x65, x110000, x110001, x110002, x110003 => if x65 = true then (some (-1)) else (if 0 < (x110003.length : Int) then ((spec_l07Count.lm ((rd_T29 x110003 0).f0) ((rd_T29 x110003 0).f1) ((rd_T29 x110003 0).f2) ((rd_T29 x110003 0).f3)).bind fun bt116 => ((spec_l07Leaf.f bt116.1 bt116.2.1 bt116.2.2.1 bt116.2.2.2).bind fun t123 => (if t123 = true then ((spec_l02Key.f bt116.1).bind fun t124 => (spec_l07Count.j1 k x2 x3 (!t124) x110000 x110001 x110002 x110003 bt116.1 bt116.2.1 bt116.2.2.1 bt116.2.2.2)) else (spec_l07Count.j1 k x2 x3 true x110000 x110001 x110002 x110003 bt116.1 bt116.2.1 bt116.2.2.1 bt116.2.2.2)))) else (none))
def spec_l07Count.j1 : Nat → ByteArray → Int → Bool → ByteArray → ByteArray → Int → List (S29) → ByteArray → ByteArray → Int → List (S29) → Option (Int)
 | 0, _, _, _, _, _, _, _, _, _, _, _ => none
 | k + 1, x2, x3, x91, x110000, x110001, x110002, x110003, x123000, x123001, x123002, x123003 => if x91 = true then (some (-1)) else ((spec_l07Hash.f x123000).bind fun t125 => ((spec_l01Bits.f k t125).bind fun t126 => (if 0 ≤ x110002 then (if x110002 ≤ (t126.size : Int) then (if (x2.size : Int) > ((t126.extract 0 (x110002 : Int).toNat).size : Int) then (spec_l07Count.j2 k x3 (t126.extract 0 (x110002 : Int).toNat) true x110000 x110001 x110002 x110003) else (if 0 ≤ (x2.size : Int) then (if (x2.size : Int) ≤ ((t126.extract 0 (x110002 : Int).toNat).size : Int) then (spec_l07Count.j2 k x3 (t126.extract 0 (x110002 : Int).toNat) (((t126.extract 0 (x110002 : Int).toNat).extract 0 ((x2.size : Int) : Int).toNat).toList != x2.toList) x110000 x110001 x110002 x110003) else (none)) else (none))) else (none)) else (none))))
def spec_l07Count.j2 : Nat → Int → ByteArray → Bool → ByteArray → ByteArray → Int → List (S29) → Option (Int)
 | 0, _, _, _, _, _, _, _ => none
 | k + 1, x3, x11, x111, x110000, x110001, x110002, x110003 => if x111 = true then (some (-1)) else (spec_l07Count.l0 k x3 x11 0 0 x110000 x110001 x110002 x110003)
def spec_l07Count.l0 : Nat → Int → ByteArray → Int → Int → ByteArray → ByteArray → Int → List (S29) → Option (Int)
 | 0, _, _, _, _, _, _, _, _ => none
 | k + 1, x3, x11, x12, x13, x110000, x110001, x110002, x110003 => if x13 < 2 then (if 0 ≤ x13 then (if x13 < (x110003.length : Int) then ((some (([(48 + ((x13) % 256)) % 256] : List Int) : List Int)).bind fun y128 => (if x11.size + (strOfNums y128).size ≤ 9223372036854775807 then ((spec_l07Count.f k ((rd_T29 x110003 x13).f0) ((rd_T29 x110003 x13).f1) ((rd_T29 x110003 x13).f2) ((rd_T29 x110003 x13).f3) (wrap64 (x110002 + 1)) (x11 ++ (strOfNums y128)) (wrap64 (x3 - x12))).bind fun t131 => (if t131 < 0 then (some (-1)) else (spec_l07Count.l0 k x3 x11 (wrap64 (x12 + t131)) (wrap64 (x13 + 1)) x110000 x110001 x110002 x110003))) else (none))) else (none)) else (none)) else (some x12)
def spec_l07Count.f : Nat → ByteArray → ByteArray → Int → List (S29) → Int → ByteArray → Int → Option (Int)
 | 0, _, _, _, _, _, _, _ => none
 | k + 1, a0_0, a0_1, a0_2, l0_3, a1, a2, a3 => if a3 < 1 then (some (-1)) else ((spec_l07Leaf.f a0_0 a0_1 a0_2 l0_3).bind fun t110 => (if t110 = true then ((spec_l02Key.f a0_0).bind fun t111 => (if t111 = true then (if (a0_1.size : Int) > 60 then (some (-1)) else (if a0_2 = 256 then ((spec_l07Hash.f a0_0).bind fun t112 => ((spec_l01Bits.f k t112).bind fun t113 => (if 0 ≤ (a2.size : Int) then (if (a2.size : Int) ≤ (t113.size : Int) then (if (t113.extract 0 ((a2.size : Int) : Int).toNat).toList = a2.toList then (some 1) else (some (-1))) else (none)) else (none)))) else (some (-1)))) else (some (-1)))) else (if (l0_3.length : Int) = 2 then (if a0_0.toList = ([] : List UInt8) then (if a0_1.toList = ([] : List UInt8) then ((spec_l01In.f a0_2 a1 255).bind fun t114 => (spec_l07Count.j0 k a2 a3 (!t114) a0_0 a0_1 a0_2 l0_3)) else (spec_l07Count.j0 k a2 a3 true a0_0 a0_1 a0_2 l0_3)) else (spec_l07Count.j0 k a2 a3 true a0_0 a0_1 a0_2 l0_3)) else (spec_l07Count.j0 k a2 a3 true a0_0 a0_1 a0_2 l0_3))))
end
theorem spec_l07Count.mono_l : ∀ k, (∀ y0 y1 y2 y3 y4 y5 y6, LeO (spec_l07Count.f k y0 y1 y2 y3 y4 y5 y6) (spec_l07Count.f (k + 1) y0 y1 y2 y3 y4 y5 y6)) ∧ (∀ y0 y1 y2 y3 y4 y5 y6, LeO (spec_l07Count.j0 k y0 y1 y2 y3 y4 y5 y6) (spec_l07Count.j0 (k + 1) y0 y1 y2 y3 y4 y5 y6)) ∧ (∀ y0 y1 y2 y3 y4 y5 y6 y7 y8 y9 y10, LeO (spec_l07Count.j1 k y0 y1 y2 y3 y4 y5 y6 y7 y8 y9 y10) (spec_l07Count.j1 (k + 1) y0 y1 y2 y3 y4 y5 y6 y7 y8 y9 y10)) ∧ (∀ y0 y1 y2 y3 y4 y5 y6, LeO (spec_l07Count.j2 k y0 y1 y2 y3 y4 y5 y6) (spec_l07Count.j2 (k + 1) y0 y1 y2 y3 y4 y5 y6)) ∧ (∀ y0 y1 y2 y3 y4 y5 y6 y7, LeO (spec_l07Count.l0 k y0 y1 y2 y3 y4 y5 y6 y7) (spec_l07Count.l0 (k + 1) y0 y1 y2 y3 y4 y5 y6 y7))
 | 0 => ⟨fun _ _ _ _ _ _ _ r h => by simp [spec_l07Count.f] at h, fun _ _ _ _ _ _ _ r h => by simp [spec_l07Count.j0] at h, fun _ _ _ _ _ _ _ _ _ _ _ r h => by simp [spec_l07Count.j1] at h, fun _ _ _ _ _ _ _ r h => by simp [spec_l07Count.j2] at h, fun _ _ _ _ _ _ _ _ r h => by simp [spec_l07Count.l0] at h⟩
 | k + 1 => by
  obtain ⟨ih0, ih1, ih2, ih3, ih4⟩ := spec_l07Count.mono_l k
  refine ⟨?_, ?_, ?_, ?_, ?_⟩
  ·intro y0 y1 y2 y3 y4 y5 y6
   unfold spec_l07Count.f
   repeat' first
   | (with_reducible exact ih0 _ _ _ _ _ _ _)
   | (with_reducible exact ih1 _ _ _ _ _ _ _)
   | (with_reducible exact ih2 _ _ _ _ _ _ _ _ _ _ _)
   | (with_reducible exact ih3 _ _ _ _ _ _ _)
   | (with_reducible exact ih4 _ _ _ _ _ _ _ _)
   | (with_reducible exact spec_l01Bits.mono _ _)
   | (with_reducible exact LeO.refl _)
   | (with_reducible exact LeO.none _)
   | (with_reducible refine LeO.ite ?_ ?_)
   | (with_reducible refine LeO.bind ?_ (fun _ => ?_))
   | exact ih0 _ _ _ _ _ _ _
   | exact ih1 _ _ _ _ _ _ _
   | exact ih2 _ _ _ _ _ _ _ _ _ _ _
   | exact ih3 _ _ _ _ _ _ _
   | exact ih4 _ _ _ _ _ _ _ _
   | exact spec_l01Bits.mono _ _
   | exact LeO.none _
   | refine LeO.ite ?_ ?_
   | refine LeO.bind ?_ (fun _ => ?_)
  ·intro y0 y1 y2 y3 y4 y5 y6
   unfold spec_l07Count.j0
   repeat' first
   | (with_reducible exact ih0 _ _ _ _ _ _ _)
   | (with_reducible exact ih1 _ _ _ _ _ _ _)
   | (with_reducible exact ih2 _ _ _ _ _ _ _ _ _ _ _)
   | (with_reducible exact ih3 _ _ _ _ _ _ _)
   | (with_reducible exact ih4 _ _ _ _ _ _ _ _)
   | (with_reducible exact spec_l01Bits.mono _ _)
   | (with_reducible exact LeO.refl _)
   | (with_reducible exact LeO.none _)
   | (with_reducible refine LeO.ite ?_ ?_)
   | (with_reducible refine LeO.bind ?_ (fun _ => ?_))
   | exact ih0 _ _ _ _ _ _ _
   | exact ih1 _ _ _ _ _ _ _
   | exact ih2 _ _ _ _ _ _ _ _ _ _ _
   | exact ih3 _ _ _ _ _ _ _
   | exact ih4 _ _ _ _ _ _ _ _
   | exact spec_l01Bits.mono _ _
   | exact LeO.none _
   | refine LeO.ite ?_ ?_
   | refine LeO.bind ?_ (fun _ => ?_)
  ·intro y0 y1 y2 y3 y4 y5 y6 y7 y8 y9 y10
   unfold spec_l07Count.j1
   repeat' first
   | (with_reducible exact ih0 _ _ _ _ _ _ _)
   | (with_reducible exact ih1 _ _ _ _ _ _ _)
   | (with_reducible exact ih2 _ _ _ _ _ _ _ _ _ _ _)
   | (with_reducible exact ih3 _ _ _ _ _ _ _)
   | (with_reducible exact ih4 _ _ _ _ _ _ _ _)
   | (with_reducible exact spec_l01Bits.mono _ _)
   | (with_reducible exact LeO.refl _)
   | (with_reducible exact LeO.none _)
   | (with_reducible refine LeO.ite ?_ ?_)
   | (with_reducible refine LeO.bind ?_ (fun _ => ?_))
   | exact ih0 _ _ _ _ _ _ _
   | exact ih1 _ _ _ _ _ _ _
   | exact ih2 _ _ _ _ _ _ _ _ _ _ _
   | exact ih3 _ _ _ _ _ _ _
   | exact ih4 _ _ _ _ _ _ _ _
   | exact spec_l01Bits.mono _ _
   | exact LeO.none _
   | refine LeO.ite ?_ ?_
   | refine LeO.bind ?_ (fun _ => ?_)
  ·intro y0 y1 y2 y3 y4 y5 y6
   unfold spec_l07Count.j2
   repeat' first
   | (with_reducible exact ih0 _ _ _ _ _ _ _)
   | (with_reducible exact ih1 _ _ _ _ _ _ _)
   | (with_reducible exact ih2 _ _ _ _ _ _ _ _ _ _ _)
   | (with_reducible exact ih3 _ _ _ _ _ _ _)
   | (with_reducible exact ih4 _ _ _ _ _ _ _ _)
   | (with_reducible exact spec_l01Bits.mono _ _)
   | (with_reducible exact LeO.refl _)
   | (with_reducible exact LeO.none _)
   | (with_reducible refine LeO.ite ?_ ?_)
   | (with_reducible refine LeO.bind ?_ (fun _ => ?_))
   | exact ih0 _ _ _ _ _ _ _
   | exact ih1 _ _ _ _ _ _ _
   | exact ih2 _ _ _ _ _ _ _ _ _ _ _
   | exact ih3 _ _ _ _ _ _ _
   | exact ih4 _ _ _ _ _ _ _ _
   | exact spec_l01Bits.mono _ _
   | exact LeO.none _
   | refine LeO.ite ?_ ?_
   | refine LeO.bind ?_ (fun _ => ?_)
  ·intro y0 y1 y2 y3 y4 y5 y6 y7
   unfold spec_l07Count.l0
   repeat' first
   | (with_reducible exact ih0 _ _ _ _ _ _ _)
   | (with_reducible exact ih1 _ _ _ _ _ _ _)
   | (with_reducible exact ih2 _ _ _ _ _ _ _ _ _ _ _)
   | (with_reducible exact ih3 _ _ _ _ _ _ _)
   | (with_reducible exact ih4 _ _ _ _ _ _ _ _)
   | (with_reducible exact spec_l01Bits.mono _ _)
   | (with_reducible exact LeO.refl _)
   | (with_reducible exact LeO.none _)
   | (with_reducible refine LeO.ite ?_ ?_)
   | (with_reducible refine LeO.bind ?_ (fun _ => ?_))
   | exact ih0 _ _ _ _ _ _ _
   | exact ih1 _ _ _ _ _ _ _
   | exact ih2 _ _ _ _ _ _ _ _ _ _ _
   | exact ih3 _ _ _ _ _ _ _
   | exact ih4 _ _ _ _ _ _ _ _
   | exact spec_l01Bits.mono _ _
   | exact LeO.none _
   | refine LeO.ite ?_ ?_
   | refine LeO.bind ?_ (fun _ => ?_)
theorem spec_l07Count.mono : ∀ a0 a1 a2 a3 a4 a5 a6 k, LeO (spec_l07Count.f k a0 a1 a2 a3 a4 a5 a6) (spec_l07Count.f (k + 1) a0 a1 a2 a3 a4 a5 a6) := by
 intro a0 a1 a2 a3 a4 a5 a6 k
 obtain ⟨ih0, ih1, ih2, ih3, ih4⟩ := spec_l07Count.mono_l k
 exact ih0 a0 a1 a2 a3 a4 a5 a6
def spec_l07Count.T16 : Bool × List (List Nat × List Nat) := (true, [([], []), ([0], [0]), ([1], [1]), ([2, 2], [2]), ([], []), ([4], [4]), ([3, 5], [3, 5]), ([6, 3, 0, 1, 2, 3, 4, 5, 6], [6])])
def spec_l07Count.B16 : List Nat := [0, 1, 3, 7, 0, 16, 63, 127]
theorem spec_l07Count.tab16 : rtab .any (opsOf Try.f21 16) = spec_l07Count.T16 := by kernel_rfl
theorem spec_l07Count.bits16 : waitsOk spec_l07Count.T16.2 spec_l07Count.B16 = true := by kernel_rfl
def spec_l07Count.T23 : Bool × List (List Nat × List Nat) := (true, [([], []), ([0], [0]), ([], []), ([1, 2], [1, 2]), ([3], [3]), ([], []), ([5], [5]), ([6], [6]), ([], []), ([], []), ([9], [9]), ([10], [10]), ([11], [11]), ([12], [12]), ([8, 13], [8, 13]), ([], []), ([], []), ([15, 16], [15, 16]), ([4, 7, 14, 17], [4, 7, 14, 17]), ([18, 18, 0, 1, 2, 3, 4, 5, 6, 7, 8, 9, 10, 11, 12, 13, 14, 15, 16, 17, 18], [18])])
def spec_l07Count.B23 : List Nat := [0, 1, 0, 7, 15, 0, 32, 96, 0, 0, 512, 1536, 3584, 7680, 16128, 0, 0, 98304, 262143, 524287]
theorem spec_l07Count.tab23 : rtab .any (opsOf Try.f21 23) = spec_l07Count.T23 := by kernel_rfl
theorem spec_l07Count.bits23 : waitsOk spec_l07Count.T23.2 spec_l07Count.B23 = true := by kernel_rfl
set_option maxHeartbeats 8000000 in
set_option maxRecDepth 100000 in
theorem spec_l07Count.calls (k : Nat) : ∀ (a0_0 : ByteArray) (a0_1 : ByteArray) (a0_2 : Int) (A0_3 : Option Addr) (c0_3 : Nat) (l0_3 : List (S29)) (a1 : Int) (a2 : ByteArray) (a3 : Int) (r : Int) (w : World) (hr0_3 : Kd.C k29 w A0_3 l0_3.length l0_3) (hc0_3 : l0_3.length ≤ c0_3) (h : spec_l07Count.f k a0_0 a0_1 a0_2 l0_3 a1 a2 a3 = some r),
  Calls Try.prog 21 #[.agg #[.string a0_0, .string a0_1, .int .i64 a0_2, .slice A0_3 l0_3.length c0_3], .int .i64 a1, .string a2, .int .i64 a3] w fun e w' => e = .returned (.int .i64 r) ∧ Below w.heap.size w w' := by
 induction k using Nat.strongRecOn with
 | _ k ih =>
 intro a0_0 a0_1 a0_2 A0_3 c0_3 l0_3 a1 a2 a3 r w hr0_3 hc0_3 h
 cases k with
 | zero => exact absurd h (by simp [spec_l07Count.f])
 | succ k =>
 simp only [spec_l07Count.f] at h
 have hu29 := Try.underlying29
 have HR0_3 := Aside0.mk hr0_3
 have HC0_3 := Aside0.mk hc0_3
 clear hr0_3 hc0_3
 have HB := Aside0.mk (Below.refl w.heap.size w)
 have H : (if a3 < 1 then (some (-1)) else ((spec_l07Leaf.f a0_0 a0_1 a0_2 l0_3).bind fun t110 => (if t110 = true then ((spec_l02Key.f a0_0).bind fun t111 => (if t111 = true then (if (a0_1.size : Int) > 60 then (some (-1)) else (if a0_2 = 256 then ((spec_l07Hash.f a0_0).bind fun t112 => ((spec_l01Bits.f k t112).bind fun t113 => (if 0 ≤ (a2.size : Int) then (if (a2.size : Int) ≤ (t113.size : Int) then (if (t113.extract 0 ((a2.size : Int) : Int).toNat).toList = a2.toList then (some 1) else (some (-1))) else (none)) else (none)))) else (some (-1)))) else (some (-1)))) else (if (l0_3.length : Int) = 2 then (if a0_0.toList = ([] : List UInt8) then (if a0_1.toList = ([] : List UInt8) then ((spec_l01In.f a0_2 a1 255).bind fun t114 => (spec_l07Count.j0 k a2 a3 (!t114) a0_0 a0_1 a0_2 l0_3)) else (spec_l07Count.j0 k a2 a3 true a0_0 a0_1 a0_2 l0_3)) else (spec_l07Count.j0 k a2 a3 true a0_0 a0_1 a0_2 l0_3)) else (spec_l07Count.j0 k a2 a3 true a0_0 a0_1 a0_2 l0_3))))) = some r := h
 clear h
 by_cases c5 : a3 < 1
 ·rw [if_pos c5] at H
  have c5b0 : decide (a3 < 1) = true := decide_eq_true c5
  clear c5
  obtain rfl := Option.some.inj H
  go_enter Try.func21, Try.ntmps21
  go_wp2_with (first | ((with_reducible refine gate_dst (N := 4) rfl ?_); (try (refine gate_guard (by rfl) ?_; dsimp only)); refine box_event ?hg (N := 4) ?hd (cs := #[.string a0_0, .string a0_1, .int .i64 a0_2, .slice A0_3 l0_3.length c0_3]) (t := 29) ?hr ?_; (case hd => rfl); (case hg => rfl); (case hr => first | (go_simp; done) | (go_simp; rfl)); intro gb109 hg w6 hbox hb; have n0_ := Aside0.mk (below_step (by repeat (first | (with_reducible first | exact HB.out | apply below_alloc | apply pw_below_drewN | apply below_drew1) | exact HB.out)) hb); have n1_ := Aside0.mk (hbox); have n2_ := Aside0.mk ((by rw [hg]; exact (below_size (by repeat (first | (with_reducible first | exact HB.out | apply below_alloc | apply pw_below_drewN | apply below_drew1) | exact HB.out))) : w.heap.size ≤ gb109)); have n3_ := Aside0.mk ((by rw [hg]; exact (below_size (by repeat (first | (with_reducible first | exact HB.out | apply below_alloc | apply pw_below_drewN | apply below_drew1) | exact HB.out))) : w.heap.size ≤ gb109)); clear HB; have HB := n0_; have BK109 := n1_; have GW109 := n2_; have GE109 := n3_; clear n0_ n1_ n2_ n3_; clear hb hbox hg))
  go_ret
  exact ⟨by first | rfl | (simp [errW_none, errW_some] <;> rfl) | (simp [*, errW_none, errW_some] <;> rfl), by repeat (first | (with_reducible first | exact HB.out | apply below_alloc | apply pw_below_drewN | apply below_drew1 | refine below_set ?_ GE109.out) | exact HB.out)⟩
 ·rw [if_neg c5] at H
  have c5b0 : decide (a3 < 1) = false := decide_eq_false c5
  clear c5
  replace H := Option.bind_eq_some_iff.mp H
  obtain ⟨t110, A70, H⟩ := H
  replace H : (if t110 = true then ((spec_l02Key.f a0_0).bind fun t111 => (if t111 = true then (if (a0_1.size : Int) > 60 then (some (-1)) else (if a0_2 = 256 then ((spec_l07Hash.f a0_0).bind fun t112 => ((spec_l01Bits.f k t112).bind fun t113 => (if 0 ≤ (a2.size : Int) then (if (a2.size : Int) ≤ (t113.size : Int) then (if (t113.extract 0 ((a2.size : Int) : Int).toNat).toList = a2.toList then (some 1) else (some (-1))) else (none)) else (none)))) else (some (-1)))) else (some (-1)))) else (if (l0_3.length : Int) = 2 then (if a0_0.toList = ([] : List UInt8) then (if a0_1.toList = ([] : List UInt8) then ((spec_l01In.f a0_2 a1 255).bind fun t114 => (spec_l07Count.j0 k a2 a3 (!t114) a0_0 a0_1 a0_2 l0_3)) else (spec_l07Count.j0 k a2 a3 true a0_0 a0_1 a0_2 l0_3)) else (spec_l07Count.j0 k a2 a3 true a0_0 a0_1 a0_2 l0_3)) else (spec_l07Count.j0 k a2 a3 true a0_0 a0_1 a0_2 l0_3))) = some r := H
  have A7 := Aside0.mk A70
  clear A70
  by_cases c8 : t110 = true
  ·subst c8
   have H1 : ((spec_l02Key.f a0_0).bind fun t111 => (if t111 = true then (if (a0_1.size : Int) > 60 then (some (-1)) else (if a0_2 = 256 then ((spec_l07Hash.f a0_0).bind fun t112 => ((spec_l01Bits.f k t112).bind fun t113 => (if 0 ≤ (a2.size : Int) then (if (a2.size : Int) ≤ (t113.size : Int) then (if (t113.extract 0 ((a2.size : Int) : Int).toNat).toList = a2.toList then (some 1) else (some (-1))) else (none)) else (none)))) else (some (-1)))) else (some (-1)))) = some r := by rw [if_pos rfl] at H; exact H
   clear H
   have H := H1
   clear H1
   replace H := Option.bind_eq_some_iff.mp H
   obtain ⟨t111, A90, H⟩ := H
   replace H : (if t111 = true then (if (a0_1.size : Int) > 60 then (some (-1)) else (if a0_2 = 256 then ((spec_l07Hash.f a0_0).bind fun t112 => ((spec_l01Bits.f k t112).bind fun t113 => (if 0 ≤ (a2.size : Int) then (if (a2.size : Int) ≤ (t113.size : Int) then (if (t113.extract 0 ((a2.size : Int) : Int).toNat).toList = a2.toList then (some 1) else (some (-1))) else (none)) else (none)))) else (some (-1)))) else (some (-1))) = some r := H
   have A9 := Aside0.mk A90
   clear A90
   by_cases c10 : t111 = true
   ·subst c10
    have H1 : (if (a0_1.size : Int) > 60 then (some (-1)) else (if a0_2 = 256 then ((spec_l07Hash.f a0_0).bind fun t112 => ((spec_l01Bits.f k t112).bind fun t113 => (if 0 ≤ (a2.size : Int) then (if (a2.size : Int) ≤ (t113.size : Int) then (if (t113.extract 0 ((a2.size : Int) : Int).toNat).toList = a2.toList then (some 1) else (some (-1))) else (none)) else (none)))) else (some (-1)))) = some r := by rw [if_pos rfl] at H; exact H
    clear H
    have H := H1
    clear H1
    by_cases c11 : (a0_1.size : Int) > 60
    ·rw [if_pos c11] at H
     have c11b0 : decide (60 < (a0_1.size : Int)) = true := decide_eq_true c11
     have c11b1 : decide (60 < a0_1.size) = true := decide_eq_true (by omega)
     clear c11
     obtain rfl := Option.some.inj H
     go_enter Try.func21, Try.ntmps21
     go_wp2_with (first | ((with_reducible refine gate_dst (N := 4) rfl ?_); (try (refine gate_guard (by rfl) ?_; dsimp only)); refine box_event ?hg (N := 4) ?hd (cs := #[.string a0_0, .string a0_1, .int .i64 a0_2, .slice A0_3 l0_3.length c0_3]) (t := 29) ?hr ?_; (case hd => rfl); (case hg => rfl); (case hr => first | (go_simp; done) | (go_simp; rfl)); intro gb109 hg w12 hbox hb; have n0_ := Aside0.mk (below_step (by repeat (first | (with_reducible first | exact HB.out | apply below_alloc | apply pw_below_drewN | apply below_drew1) | exact HB.out)) hb); have n1_ := Aside0.mk (hbox); have n2_ := Aside0.mk ((by rw [hg]; exact (below_size (by repeat (first | (with_reducible first | exact HB.out | apply below_alloc | apply pw_below_drewN | apply below_drew1) | exact HB.out))) : w.heap.size ≤ gb109)); have n3_ := Aside0.mk ((by rw [hg]; exact (below_size (by repeat (first | (with_reducible first | exact HB.out | apply below_alloc | apply pw_below_drewN | apply below_drew1) | exact HB.out))) : w.heap.size ≤ gb109)); clear HB; have HB := n0_; have BK109 := n1_; have GW109 := n2_; have GE109 := n3_; clear n0_ n1_ n2_ n3_; clear hb hbox hg; have hcz13_0 : w12.cell? ⟨gb109, 0, none⟩ = some (.string a0_0) := (blk_cell BK109.out 0).trans rfl; have hcz13_1 : w12.cell? ⟨gb109, 1, none⟩ = some (.string a0_1) := (blk_cell BK109.out 1).trans rfl; have hcz13_2 : w12.cell? ⟨gb109, 2, none⟩ = some (.int .i64 a0_2) := (blk_cell BK109.out 2).trans rfl; have hcz13_3 : w12.cell? ⟨gb109, 3, none⟩ = some (.slice A0_3 l0_3.length c0_3) := (blk_cell BK109.out 3).trans rfl; have hfz13_0 := blk_frozen BK109.out 0; have hfz13_1 := blk_frozen BK109.out 1; have hfz13_2 := blk_frozen BK109.out 2; have hfz13_3 := blk_frozen BK109.out 3) | ((with_reducible refine gate_callee (f := 31) rfl ?_); refine goesL_ (some 18) rfl rfl Try.func31 (by kernel_rfl) rfl #[.agg #[.string a0_0, .string a0_1, .int .i64 a0_2, .slice A0_3 l0_3.length c0_3]] rfl (by (try simp only [List.map_toArray, List.map_cons, List.map_nil]); first | done | rfl | (simp only [List.length_drop, List.length_take]; rfl)) ?_; (with_reducible refine (spec_l07Leaf.calls a0_0 a0_1 a0_2 _ _ l0_3 true _ ?side1 ?side2 A7.out).mono ?_); (case side1 => repeat (first | exact (Kd.C_below HR0_3.out HB.out) | (with_reducible refine Kd.C_alloc ?_ _) | (with_reducible refine Kd.C_drewN ?_ _) | (with_reducible refine Kd.C_drew ?_))); (case side2 => exact HC0_3.out); rintro e w14 ⟨rfl, hb⟩; refine ⟨_, rfl, ?_⟩; have n0_ := Aside0.mk (blk_below (g := gb109) (o := .cells #[.string a0_0, .string a0_1, .int .i64 a0_2, .slice A0_3 l0_3.length c0_3] 29 (0, 0)) (by (with_reducible repeat (first | refine blk_drewN ?_ _ | refine blk_drew ?_ | refine blk_alloc ?_ _)); exact BK109.out) hb); have n1_ := Aside0.mk (below_step (by repeat (first | (with_reducible first | exact HB.out | apply below_alloc | apply pw_below_drewN | apply below_drew1 | refine below_set ?_ GE109.out) | exact HB.out)) hb); clear BK109; clear HB; have BK109 := n0_; have HB := n1_; clear n0_ n1_; (try clear hb); (try clear hb2); (try clear hk); (try clear hi); have hcz15_0 : w14.cell? ⟨gb109, 0, none⟩ = some (.string a0_0) := (blk_cell BK109.out 0).trans rfl; have hcz15_1 : w14.cell? ⟨gb109, 1, none⟩ = some (.string a0_1) := (blk_cell BK109.out 1).trans rfl; have hcz15_2 : w14.cell? ⟨gb109, 2, none⟩ = some (.int .i64 a0_2) := (blk_cell BK109.out 2).trans rfl; have hcz15_3 : w14.cell? ⟨gb109, 3, none⟩ = some (.slice A0_3 l0_3.length c0_3) := (blk_cell BK109.out 3).trans rfl; have hfz15_0 := blk_frozen BK109.out 0; have hfz15_1 := blk_frozen BK109.out 1; have hfz15_2 := blk_frozen BK109.out 2; have hfz15_3 := blk_frozen BK109.out 3) | ((with_reducible refine gate_callee (f := 32) rfl ?_); refine goesL_ (some 21) rfl rfl Try.func32 (by kernel_rfl) rfl #[.string a0_0] rfl (by (try simp only [List.map_toArray, List.map_cons, List.map_nil]); first | done | rfl | (simp only [List.length_drop, List.length_take]; rfl)) ?_; (with_reducible refine (spec_l02Key.calls a0_0 true _ A9.out).mono ?_); rintro e w' ⟨rfl, ⟨nd, rfl⟩⟩; refine ⟨_, rfl, ?_⟩))
     go_ret
     exact ⟨by first | rfl | (simp [errW_none, errW_some] <;> rfl) | (simp [*, errW_none, errW_some] <;> rfl), by repeat (first | (with_reducible first | exact HB.out | apply below_alloc | apply pw_below_drewN | apply below_drew1 | refine below_set ?_ GE109.out) | exact HB.out)⟩
    ·rw [if_neg c11] at H
     have c11b0 : decide (60 < (a0_1.size : Int)) = false := decide_eq_false c11
     have c11b1 : decide (60 < a0_1.size) = false := decide_eq_false (by omega)
     clear c11
     by_cases c16 : a0_2 = 256
     ·rw [if_pos c16] at H
      have c16b0 : (a0_2 == 256) = true := beq_iff_eq.mpr c16
      have c16b1 : (a0_2 != 256) = false := bne_eq_false_iff_eq.mpr c16
      clear c16
      replace H := Option.bind_eq_some_iff.mp H
      obtain ⟨t112, A170, H⟩ := H
      replace H : ((spec_l01Bits.f k t112).bind fun t113 => (if 0 ≤ (a2.size : Int) then (if (a2.size : Int) ≤ (t113.size : Int) then (if (t113.extract 0 ((a2.size : Int) : Int).toNat).toList = a2.toList then (some 1) else (some (-1))) else (none)) else (none))) = some r := H
      have A17 := Aside0.mk A170
      clear A170
      replace H := Option.bind_eq_some_iff.mp H
      obtain ⟨t113, A180, H⟩ := H
      replace H : (if 0 ≤ (a2.size : Int) then (if (a2.size : Int) ≤ (t113.size : Int) then (if (t113.extract 0 ((a2.size : Int) : Int).toNat).toList = a2.toList then (some 1) else (some (-1))) else (none)) else (none)) = some r := H
      have A18 := Aside0.mk A180
      clear A180
      by_cases c19 : 0 ≤ (a2.size : Int)
      ·rw [if_pos c19] at H
       have c19b0 := eq_true c19
       have c19b1 : decide (0 ≤ (a2.size : Int)) = true := decide_eq_true c19
       clear c19
       by_cases c20 : (a2.size : Int) ≤ (t113.size : Int)
       ·rw [if_pos c20] at H
        have c20b0 := eq_true c20
        have c20b1 : decide ((a2.size : Int) ≤ (t113.size : Int)) = true := decide_eq_true c20
        clear c20
        by_cases c21 : (t113.extract 0 ((a2.size : Int) : Int).toNat).toList = a2.toList
        ·rw [if_pos c21] at H
         have c21b0 : ((t113.extract 0 a2.size).toList == a2.toList) = true := beq_iff_eq.mpr c21
         have c21b1 : ((t113.extract 0 a2.size).toList != a2.toList) = false := bne_eq_false_iff_eq.mpr c21
         clear c21
         obtain rfl := Option.some.inj H
         go_enter Try.func21, Try.ntmps21
         go_wp2_with (first | ((with_reducible refine gate_dst (N := 4) rfl ?_); (try (refine gate_guard (by rfl) ?_; dsimp only)); refine box_event ?hg (N := 4) ?hd (cs := #[.string a0_0, .string a0_1, .int .i64 a0_2, .slice A0_3 l0_3.length c0_3]) (t := 29) ?hr ?_; (case hd => rfl); (case hg => rfl); (case hr => first | (go_simp; done) | (go_simp; rfl)); intro gb109 hg w22 hbox hb; have n0_ := Aside0.mk (below_step (by repeat (first | (with_reducible first | exact HB.out | apply below_alloc | apply pw_below_drewN | apply below_drew1) | exact HB.out)) hb); have n1_ := Aside0.mk (hbox); have n2_ := Aside0.mk ((by rw [hg]; exact (below_size (by repeat (first | (with_reducible first | exact HB.out | apply below_alloc | apply pw_below_drewN | apply below_drew1) | exact HB.out))) : w.heap.size ≤ gb109)); have n3_ := Aside0.mk ((by rw [hg]; exact (below_size (by repeat (first | (with_reducible first | exact HB.out | apply below_alloc | apply pw_below_drewN | apply below_drew1) | exact HB.out))) : w.heap.size ≤ gb109)); clear HB; have HB := n0_; have BK109 := n1_; have GW109 := n2_; have GE109 := n3_; clear n0_ n1_ n2_ n3_; clear hb hbox hg; have hcz23_0 : w22.cell? ⟨gb109, 0, none⟩ = some (.string a0_0) := (blk_cell BK109.out 0).trans rfl; have hcz23_1 : w22.cell? ⟨gb109, 1, none⟩ = some (.string a0_1) := (blk_cell BK109.out 1).trans rfl; have hcz23_2 : w22.cell? ⟨gb109, 2, none⟩ = some (.int .i64 a0_2) := (blk_cell BK109.out 2).trans rfl; have hcz23_3 : w22.cell? ⟨gb109, 3, none⟩ = some (.slice A0_3 l0_3.length c0_3) := (blk_cell BK109.out 3).trans rfl; have hfz23_0 := blk_frozen BK109.out 0; have hfz23_1 := blk_frozen BK109.out 1; have hfz23_2 := blk_frozen BK109.out 2; have hfz23_3 := blk_frozen BK109.out 3) | ((with_reducible refine gate_callee (f := 31) rfl ?_); refine goesL_ (some 18) rfl rfl Try.func31 (by kernel_rfl) rfl #[.agg #[.string a0_0, .string a0_1, .int .i64 a0_2, .slice A0_3 l0_3.length c0_3]] rfl (by (try simp only [List.map_toArray, List.map_cons, List.map_nil]); first | done | rfl | (simp only [List.length_drop, List.length_take]; rfl)) ?_; (with_reducible refine (spec_l07Leaf.calls a0_0 a0_1 a0_2 _ _ l0_3 true _ ?side1 ?side2 A7.out).mono ?_); (case side1 => repeat (first | exact (Kd.C_below HR0_3.out HB.out) | (with_reducible refine Kd.C_alloc ?_ _) | (with_reducible refine Kd.C_drewN ?_ _) | (with_reducible refine Kd.C_drew ?_))); (case side2 => exact HC0_3.out); rintro e w24 ⟨rfl, hb⟩; refine ⟨_, rfl, ?_⟩; have n0_ := Aside0.mk (blk_below (g := gb109) (o := .cells #[.string a0_0, .string a0_1, .int .i64 a0_2, .slice A0_3 l0_3.length c0_3] 29 (0, 0)) (by (with_reducible repeat (first | refine blk_drewN ?_ _ | refine blk_drew ?_ | refine blk_alloc ?_ _)); exact BK109.out) hb); have n1_ := Aside0.mk (below_step (by repeat (first | (with_reducible first | exact HB.out | apply below_alloc | apply pw_below_drewN | apply below_drew1 | refine below_set ?_ GE109.out) | exact HB.out)) hb); clear BK109; clear HB; have BK109 := n0_; have HB := n1_; clear n0_ n1_; (try clear hb); (try clear hb2); (try clear hk); (try clear hi); have hcz25_0 : w24.cell? ⟨gb109, 0, none⟩ = some (.string a0_0) := (blk_cell BK109.out 0).trans rfl; have hcz25_1 : w24.cell? ⟨gb109, 1, none⟩ = some (.string a0_1) := (blk_cell BK109.out 1).trans rfl; have hcz25_2 : w24.cell? ⟨gb109, 2, none⟩ = some (.int .i64 a0_2) := (blk_cell BK109.out 2).trans rfl; have hcz25_3 : w24.cell? ⟨gb109, 3, none⟩ = some (.slice A0_3 l0_3.length c0_3) := (blk_cell BK109.out 3).trans rfl; have hfz25_0 := blk_frozen BK109.out 0; have hfz25_1 := blk_frozen BK109.out 1; have hfz25_2 := blk_frozen BK109.out 2; have hfz25_3 := blk_frozen BK109.out 3) | ((with_reducible refine gate_callee (f := 32) rfl ?_); refine goesL_ (some 21) rfl rfl Try.func32 (by kernel_rfl) rfl #[.string a0_0] rfl (by (try simp only [List.map_toArray, List.map_cons, List.map_nil]); first | done | rfl | (simp only [List.length_drop, List.length_take]; rfl)) ?_; (with_reducible refine (spec_l02Key.calls a0_0 true _ A9.out).mono ?_); rintro e w' ⟨rfl, ⟨nd, rfl⟩⟩; refine ⟨_, rfl, ?_⟩) | (go_at_call 34; (with_reducible refine (spec_l07Hash.calls a0_0 t112 _ A17.out).mono ?_); rintro e w26 ⟨rfl, hb⟩; have n0_ := Aside0.mk (blk_below (g := gb109) (o := .cells #[.string a0_0, .string a0_1, .int .i64 a0_2, .slice A0_3 l0_3.length c0_3] 29 (0, 0)) (by (with_reducible repeat (first | refine blk_drewN ?_ _ | refine blk_drew ?_ | refine blk_alloc ?_ _)); exact BK109.out) hb); have n1_ := Aside0.mk (below_step (by repeat (first | (with_reducible first | exact HB.out | apply below_alloc | apply pw_below_drewN | apply below_drew1 | refine below_set ?_ GE109.out) | exact HB.out)) hb); clear BK109; clear HB; have BK109 := n0_; have HB := n1_; clear n0_ n1_; (try clear hb); (try clear hb2); (try clear hk); (try clear hi)) | (go_at_call 33; (with_reducible refine (spec_l01Bits.calls k t112 t113 _ A18.out).mono ?_); rintro e w27 ⟨rfl, hb⟩; have n0_ := Aside0.mk (blk_below (g := gb109) (o := .cells #[.string a0_0, .string a0_1, .int .i64 a0_2, .slice A0_3 l0_3.length c0_3] 29 (0, 0)) (by (with_reducible repeat (first | refine blk_drewN ?_ _ | refine blk_drew ?_ | refine blk_alloc ?_ _)); exact BK109.out) hb); have n1_ := Aside0.mk (below_step (by repeat (first | (with_reducible first | exact HB.out | apply below_alloc | apply pw_below_drewN | apply below_drew1 | refine below_set ?_ GE109.out) | exact HB.out)) hb); clear BK109; clear HB; have BK109 := n0_; have HB := n1_; clear n0_ n1_; (try clear hb); (try clear hb2); (try clear hk); (try clear hi)))
         go_ret
         exact ⟨by first | rfl | (simp [errW_none, errW_some] <;> rfl) | (simp [*, errW_none, errW_some] <;> rfl), by repeat (first | (with_reducible first | exact HB.out | apply below_alloc | apply pw_below_drewN | apply below_drew1 | refine below_set ?_ GE109.out) | exact HB.out)⟩
        ·rw [if_neg c21] at H
         have c21b0 : ((t113.extract 0 a2.size).toList == a2.toList) = false := beq_eq_false_iff_ne.mpr c21
         have c21b1 : ((t113.extract 0 a2.size).toList != a2.toList) = true := bne_iff_ne.mpr c21
         obtain rfl := Option.some.inj H
         go_enter Try.func21, Try.ntmps21
         go_wp2_with (first | ((with_reducible refine gate_dst (N := 4) rfl ?_); (try (refine gate_guard (by rfl) ?_; dsimp only)); refine box_event ?hg (N := 4) ?hd (cs := #[.string a0_0, .string a0_1, .int .i64 a0_2, .slice A0_3 l0_3.length c0_3]) (t := 29) ?hr ?_; (case hd => rfl); (case hg => rfl); (case hr => first | (go_simp; done) | (go_simp; rfl)); intro gb109 hg w28 hbox hb; have n0_ := Aside0.mk (below_step (by repeat (first | (with_reducible first | exact HB.out | apply below_alloc | apply pw_below_drewN | apply below_drew1) | exact HB.out)) hb); have n1_ := Aside0.mk (hbox); have n2_ := Aside0.mk ((by rw [hg]; exact (below_size (by repeat (first | (with_reducible first | exact HB.out | apply below_alloc | apply pw_below_drewN | apply below_drew1) | exact HB.out))) : w.heap.size ≤ gb109)); have n3_ := Aside0.mk ((by rw [hg]; exact (below_size (by repeat (first | (with_reducible first | exact HB.out | apply below_alloc | apply pw_below_drewN | apply below_drew1) | exact HB.out))) : w.heap.size ≤ gb109)); clear HB; have HB := n0_; have BK109 := n1_; have GW109 := n2_; have GE109 := n3_; clear n0_ n1_ n2_ n3_; clear hb hbox hg; have hcz29_0 : w28.cell? ⟨gb109, 0, none⟩ = some (.string a0_0) := (blk_cell BK109.out 0).trans rfl; have hcz29_1 : w28.cell? ⟨gb109, 1, none⟩ = some (.string a0_1) := (blk_cell BK109.out 1).trans rfl; have hcz29_2 : w28.cell? ⟨gb109, 2, none⟩ = some (.int .i64 a0_2) := (blk_cell BK109.out 2).trans rfl; have hcz29_3 : w28.cell? ⟨gb109, 3, none⟩ = some (.slice A0_3 l0_3.length c0_3) := (blk_cell BK109.out 3).trans rfl; have hfz29_0 := blk_frozen BK109.out 0; have hfz29_1 := blk_frozen BK109.out 1; have hfz29_2 := blk_frozen BK109.out 2; have hfz29_3 := blk_frozen BK109.out 3) | ((with_reducible refine gate_callee (f := 31) rfl ?_); refine goesL_ (some 18) rfl rfl Try.func31 (by kernel_rfl) rfl #[.agg #[.string a0_0, .string a0_1, .int .i64 a0_2, .slice A0_3 l0_3.length c0_3]] rfl (by (try simp only [List.map_toArray, List.map_cons, List.map_nil]); first | done | rfl | (simp only [List.length_drop, List.length_take]; rfl)) ?_; (with_reducible refine (spec_l07Leaf.calls a0_0 a0_1 a0_2 _ _ l0_3 true _ ?side1 ?side2 A7.out).mono ?_); (case side1 => repeat (first | exact (Kd.C_below HR0_3.out HB.out) | (with_reducible refine Kd.C_alloc ?_ _) | (with_reducible refine Kd.C_drewN ?_ _) | (with_reducible refine Kd.C_drew ?_))); (case side2 => exact HC0_3.out); rintro e w30 ⟨rfl, hb⟩; refine ⟨_, rfl, ?_⟩; have n0_ := Aside0.mk (blk_below (g := gb109) (o := .cells #[.string a0_0, .string a0_1, .int .i64 a0_2, .slice A0_3 l0_3.length c0_3] 29 (0, 0)) (by (with_reducible repeat (first | refine blk_drewN ?_ _ | refine blk_drew ?_ | refine blk_alloc ?_ _)); exact BK109.out) hb); have n1_ := Aside0.mk (below_step (by repeat (first | (with_reducible first | exact HB.out | apply below_alloc | apply pw_below_drewN | apply below_drew1 | refine below_set ?_ GE109.out) | exact HB.out)) hb); clear BK109; clear HB; have BK109 := n0_; have HB := n1_; clear n0_ n1_; (try clear hb); (try clear hb2); (try clear hk); (try clear hi); have hcz31_0 : w30.cell? ⟨gb109, 0, none⟩ = some (.string a0_0) := (blk_cell BK109.out 0).trans rfl; have hcz31_1 : w30.cell? ⟨gb109, 1, none⟩ = some (.string a0_1) := (blk_cell BK109.out 1).trans rfl; have hcz31_2 : w30.cell? ⟨gb109, 2, none⟩ = some (.int .i64 a0_2) := (blk_cell BK109.out 2).trans rfl; have hcz31_3 : w30.cell? ⟨gb109, 3, none⟩ = some (.slice A0_3 l0_3.length c0_3) := (blk_cell BK109.out 3).trans rfl; have hfz31_0 := blk_frozen BK109.out 0; have hfz31_1 := blk_frozen BK109.out 1; have hfz31_2 := blk_frozen BK109.out 2; have hfz31_3 := blk_frozen BK109.out 3) | ((with_reducible refine gate_callee (f := 32) rfl ?_); refine goesL_ (some 21) rfl rfl Try.func32 (by kernel_rfl) rfl #[.string a0_0] rfl (by (try simp only [List.map_toArray, List.map_cons, List.map_nil]); first | done | rfl | (simp only [List.length_drop, List.length_take]; rfl)) ?_; (with_reducible refine (spec_l02Key.calls a0_0 true _ A9.out).mono ?_); rintro e w' ⟨rfl, ⟨nd, rfl⟩⟩; refine ⟨_, rfl, ?_⟩) | (go_at_call 34; (with_reducible refine (spec_l07Hash.calls a0_0 t112 _ A17.out).mono ?_); rintro e w32 ⟨rfl, hb⟩; have n0_ := Aside0.mk (blk_below (g := gb109) (o := .cells #[.string a0_0, .string a0_1, .int .i64 a0_2, .slice A0_3 l0_3.length c0_3] 29 (0, 0)) (by (with_reducible repeat (first | refine blk_drewN ?_ _ | refine blk_drew ?_ | refine blk_alloc ?_ _)); exact BK109.out) hb); have n1_ := Aside0.mk (below_step (by repeat (first | (with_reducible first | exact HB.out | apply below_alloc | apply pw_below_drewN | apply below_drew1 | refine below_set ?_ GE109.out) | exact HB.out)) hb); clear BK109; clear HB; have BK109 := n0_; have HB := n1_; clear n0_ n1_; (try clear hb); (try clear hb2); (try clear hk); (try clear hi)) | (go_at_call 33; (with_reducible refine (spec_l01Bits.calls k t112 t113 _ A18.out).mono ?_); rintro e w33 ⟨rfl, hb⟩; have n0_ := Aside0.mk (blk_below (g := gb109) (o := .cells #[.string a0_0, .string a0_1, .int .i64 a0_2, .slice A0_3 l0_3.length c0_3] 29 (0, 0)) (by (with_reducible repeat (first | refine blk_drewN ?_ _ | refine blk_drew ?_ | refine blk_alloc ?_ _)); exact BK109.out) hb); have n1_ := Aside0.mk (below_step (by repeat (first | (with_reducible first | exact HB.out | apply below_alloc | apply pw_below_drewN | apply below_drew1 | refine below_set ?_ GE109.out) | exact HB.out)) hb); clear BK109; clear HB; have BK109 := n0_; have HB := n1_; clear n0_ n1_; (try clear hb); (try clear hb2); (try clear hk); (try clear hi)))
         go_ret
         exact ⟨by first | rfl | (simp [errW_none, errW_some] <;> rfl) | (simp [*, errW_none, errW_some] <;> rfl), by repeat (first | (with_reducible first | exact HB.out | apply below_alloc | apply pw_below_drewN | apply below_drew1 | refine below_set ?_ GE109.out) | exact HB.out)⟩
       ·rw [if_neg c20] at H
        exact absurd H (by simp)
      ·rw [if_neg c19] at H
       exact absurd H (by simp)
     ·rw [if_neg c16] at H
      have c16b0 : (a0_2 == 256) = false := beq_eq_false_iff_ne.mpr c16
      have c16b1 : (a0_2 != 256) = true := bne_iff_ne.mpr c16
      obtain rfl := Option.some.inj H
      go_enter Try.func21, Try.ntmps21
      go_wp2_with (first | ((with_reducible refine gate_dst (N := 4) rfl ?_); (try (refine gate_guard (by rfl) ?_; dsimp only)); refine box_event ?hg (N := 4) ?hd (cs := #[.string a0_0, .string a0_1, .int .i64 a0_2, .slice A0_3 l0_3.length c0_3]) (t := 29) ?hr ?_; (case hd => rfl); (case hg => rfl); (case hr => first | (go_simp; done) | (go_simp; rfl)); intro gb109 hg w34 hbox hb; have n0_ := Aside0.mk (below_step (by repeat (first | (with_reducible first | exact HB.out | apply below_alloc | apply pw_below_drewN | apply below_drew1) | exact HB.out)) hb); have n1_ := Aside0.mk (hbox); have n2_ := Aside0.mk ((by rw [hg]; exact (below_size (by repeat (first | (with_reducible first | exact HB.out | apply below_alloc | apply pw_below_drewN | apply below_drew1) | exact HB.out))) : w.heap.size ≤ gb109)); have n3_ := Aside0.mk ((by rw [hg]; exact (below_size (by repeat (first | (with_reducible first | exact HB.out | apply below_alloc | apply pw_below_drewN | apply below_drew1) | exact HB.out))) : w.heap.size ≤ gb109)); clear HB; have HB := n0_; have BK109 := n1_; have GW109 := n2_; have GE109 := n3_; clear n0_ n1_ n2_ n3_; clear hb hbox hg; have hcz35_0 : w34.cell? ⟨gb109, 0, none⟩ = some (.string a0_0) := (blk_cell BK109.out 0).trans rfl; have hcz35_1 : w34.cell? ⟨gb109, 1, none⟩ = some (.string a0_1) := (blk_cell BK109.out 1).trans rfl; have hcz35_2 : w34.cell? ⟨gb109, 2, none⟩ = some (.int .i64 a0_2) := (blk_cell BK109.out 2).trans rfl; have hcz35_3 : w34.cell? ⟨gb109, 3, none⟩ = some (.slice A0_3 l0_3.length c0_3) := (blk_cell BK109.out 3).trans rfl; have hfz35_0 := blk_frozen BK109.out 0; have hfz35_1 := blk_frozen BK109.out 1; have hfz35_2 := blk_frozen BK109.out 2; have hfz35_3 := blk_frozen BK109.out 3) | ((with_reducible refine gate_callee (f := 31) rfl ?_); refine goesL_ (some 18) rfl rfl Try.func31 (by kernel_rfl) rfl #[.agg #[.string a0_0, .string a0_1, .int .i64 a0_2, .slice A0_3 l0_3.length c0_3]] rfl (by (try simp only [List.map_toArray, List.map_cons, List.map_nil]); first | done | rfl | (simp only [List.length_drop, List.length_take]; rfl)) ?_; (with_reducible refine (spec_l07Leaf.calls a0_0 a0_1 a0_2 _ _ l0_3 true _ ?side1 ?side2 A7.out).mono ?_); (case side1 => repeat (first | exact (Kd.C_below HR0_3.out HB.out) | (with_reducible refine Kd.C_alloc ?_ _) | (with_reducible refine Kd.C_drewN ?_ _) | (with_reducible refine Kd.C_drew ?_))); (case side2 => exact HC0_3.out); rintro e w36 ⟨rfl, hb⟩; refine ⟨_, rfl, ?_⟩; have n0_ := Aside0.mk (blk_below (g := gb109) (o := .cells #[.string a0_0, .string a0_1, .int .i64 a0_2, .slice A0_3 l0_3.length c0_3] 29 (0, 0)) (by (with_reducible repeat (first | refine blk_drewN ?_ _ | refine blk_drew ?_ | refine blk_alloc ?_ _)); exact BK109.out) hb); have n1_ := Aside0.mk (below_step (by repeat (first | (with_reducible first | exact HB.out | apply below_alloc | apply pw_below_drewN | apply below_drew1 | refine below_set ?_ GE109.out) | exact HB.out)) hb); clear BK109; clear HB; have BK109 := n0_; have HB := n1_; clear n0_ n1_; (try clear hb); (try clear hb2); (try clear hk); (try clear hi); have hcz37_0 : w36.cell? ⟨gb109, 0, none⟩ = some (.string a0_0) := (blk_cell BK109.out 0).trans rfl; have hcz37_1 : w36.cell? ⟨gb109, 1, none⟩ = some (.string a0_1) := (blk_cell BK109.out 1).trans rfl; have hcz37_2 : w36.cell? ⟨gb109, 2, none⟩ = some (.int .i64 a0_2) := (blk_cell BK109.out 2).trans rfl; have hcz37_3 : w36.cell? ⟨gb109, 3, none⟩ = some (.slice A0_3 l0_3.length c0_3) := (blk_cell BK109.out 3).trans rfl; have hfz37_0 := blk_frozen BK109.out 0; have hfz37_1 := blk_frozen BK109.out 1; have hfz37_2 := blk_frozen BK109.out 2; have hfz37_3 := blk_frozen BK109.out 3) | ((with_reducible refine gate_callee (f := 32) rfl ?_); refine goesL_ (some 21) rfl rfl Try.func32 (by kernel_rfl) rfl #[.string a0_0] rfl (by (try simp only [List.map_toArray, List.map_cons, List.map_nil]); first | done | rfl | (simp only [List.length_drop, List.length_take]; rfl)) ?_; (with_reducible refine (spec_l02Key.calls a0_0 true _ A9.out).mono ?_); rintro e w' ⟨rfl, ⟨nd, rfl⟩⟩; refine ⟨_, rfl, ?_⟩))
      go_ret
      exact ⟨by first | rfl | (simp [errW_none, errW_some] <;> rfl) | (simp [*, errW_none, errW_some] <;> rfl), by repeat (first | (with_reducible first | exact HB.out | apply below_alloc | apply pw_below_drewN | apply below_drew1 | refine below_set ?_ GE109.out) | exact HB.out)⟩
   ·replace c10 := Bool.eq_false_iff.mpr c10
    subst c10
    have H1 : (some (-1)) = some r := by rw [if_neg (show ¬ (false = true) by decide)] at H; exact H
    clear H
    have H := H1
    clear H1
    obtain rfl := Option.some.inj H
    go_enter Try.func21, Try.ntmps21
    go_wp2_with (first | ((with_reducible refine gate_dst (N := 4) rfl ?_); (try (refine gate_guard (by rfl) ?_; dsimp only)); refine box_event ?hg (N := 4) ?hd (cs := #[.string a0_0, .string a0_1, .int .i64 a0_2, .slice A0_3 l0_3.length c0_3]) (t := 29) ?hr ?_; (case hd => rfl); (case hg => rfl); (case hr => first | (go_simp; done) | (go_simp; rfl)); intro gb109 hg w38 hbox hb; have n0_ := Aside0.mk (below_step (by repeat (first | (with_reducible first | exact HB.out | apply below_alloc | apply pw_below_drewN | apply below_drew1) | exact HB.out)) hb); have n1_ := Aside0.mk (hbox); have n2_ := Aside0.mk ((by rw [hg]; exact (below_size (by repeat (first | (with_reducible first | exact HB.out | apply below_alloc | apply pw_below_drewN | apply below_drew1) | exact HB.out))) : w.heap.size ≤ gb109)); have n3_ := Aside0.mk ((by rw [hg]; exact (below_size (by repeat (first | (with_reducible first | exact HB.out | apply below_alloc | apply pw_below_drewN | apply below_drew1) | exact HB.out))) : w.heap.size ≤ gb109)); clear HB; have HB := n0_; have BK109 := n1_; have GW109 := n2_; have GE109 := n3_; clear n0_ n1_ n2_ n3_; clear hb hbox hg; have hcz39_0 : w38.cell? ⟨gb109, 0, none⟩ = some (.string a0_0) := (blk_cell BK109.out 0).trans rfl; have hcz39_1 : w38.cell? ⟨gb109, 1, none⟩ = some (.string a0_1) := (blk_cell BK109.out 1).trans rfl; have hcz39_2 : w38.cell? ⟨gb109, 2, none⟩ = some (.int .i64 a0_2) := (blk_cell BK109.out 2).trans rfl; have hcz39_3 : w38.cell? ⟨gb109, 3, none⟩ = some (.slice A0_3 l0_3.length c0_3) := (blk_cell BK109.out 3).trans rfl; have hfz39_0 := blk_frozen BK109.out 0; have hfz39_1 := blk_frozen BK109.out 1; have hfz39_2 := blk_frozen BK109.out 2; have hfz39_3 := blk_frozen BK109.out 3) | ((with_reducible refine gate_callee (f := 31) rfl ?_); refine goesL_ (some 18) rfl rfl Try.func31 (by kernel_rfl) rfl #[.agg #[.string a0_0, .string a0_1, .int .i64 a0_2, .slice A0_3 l0_3.length c0_3]] rfl (by (try simp only [List.map_toArray, List.map_cons, List.map_nil]); first | done | rfl | (simp only [List.length_drop, List.length_take]; rfl)) ?_; (with_reducible refine (spec_l07Leaf.calls a0_0 a0_1 a0_2 _ _ l0_3 true _ ?side1 ?side2 A7.out).mono ?_); (case side1 => repeat (first | exact (Kd.C_below HR0_3.out HB.out) | (with_reducible refine Kd.C_alloc ?_ _) | (with_reducible refine Kd.C_drewN ?_ _) | (with_reducible refine Kd.C_drew ?_))); (case side2 => exact HC0_3.out); rintro e w40 ⟨rfl, hb⟩; refine ⟨_, rfl, ?_⟩; have n0_ := Aside0.mk (blk_below (g := gb109) (o := .cells #[.string a0_0, .string a0_1, .int .i64 a0_2, .slice A0_3 l0_3.length c0_3] 29 (0, 0)) (by (with_reducible repeat (first | refine blk_drewN ?_ _ | refine blk_drew ?_ | refine blk_alloc ?_ _)); exact BK109.out) hb); have n1_ := Aside0.mk (below_step (by repeat (first | (with_reducible first | exact HB.out | apply below_alloc | apply pw_below_drewN | apply below_drew1 | refine below_set ?_ GE109.out) | exact HB.out)) hb); clear BK109; clear HB; have BK109 := n0_; have HB := n1_; clear n0_ n1_; (try clear hb); (try clear hb2); (try clear hk); (try clear hi); have hcz41_0 : w40.cell? ⟨gb109, 0, none⟩ = some (.string a0_0) := (blk_cell BK109.out 0).trans rfl; have hcz41_1 : w40.cell? ⟨gb109, 1, none⟩ = some (.string a0_1) := (blk_cell BK109.out 1).trans rfl; have hcz41_2 : w40.cell? ⟨gb109, 2, none⟩ = some (.int .i64 a0_2) := (blk_cell BK109.out 2).trans rfl; have hcz41_3 : w40.cell? ⟨gb109, 3, none⟩ = some (.slice A0_3 l0_3.length c0_3) := (blk_cell BK109.out 3).trans rfl; have hfz41_0 := blk_frozen BK109.out 0; have hfz41_1 := blk_frozen BK109.out 1; have hfz41_2 := blk_frozen BK109.out 2; have hfz41_3 := blk_frozen BK109.out 3) | ((with_reducible refine gate_callee (f := 32) rfl ?_); refine goesL_ (some 21) rfl rfl Try.func32 (by kernel_rfl) rfl #[.string a0_0] rfl (by (try simp only [List.map_toArray, List.map_cons, List.map_nil]); first | done | rfl | (simp only [List.length_drop, List.length_take]; rfl)) ?_; (with_reducible refine (spec_l02Key.calls a0_0 false _ A9.out).mono ?_); rintro e w' ⟨rfl, ⟨nd, rfl⟩⟩; refine ⟨_, rfl, ?_⟩))
    go_ret
    exact ⟨by first | rfl | (simp [errW_none, errW_some] <;> rfl) | (simp [*, errW_none, errW_some] <;> rfl), by repeat (first | (with_reducible first | exact HB.out | apply below_alloc | apply pw_below_drewN | apply below_drew1 | refine below_set ?_ GE109.out) | exact HB.out)⟩
  ·replace c8 := Bool.eq_false_iff.mpr c8
   subst c8
   have H1 : (if (l0_3.length : Int) = 2 then (if a0_0.toList = ([] : List UInt8) then (if a0_1.toList = ([] : List UInt8) then ((spec_l01In.f a0_2 a1 255).bind fun t114 => (spec_l07Count.j0 k a2 a3 (!t114) a0_0 a0_1 a0_2 l0_3)) else (spec_l07Count.j0 k a2 a3 true a0_0 a0_1 a0_2 l0_3)) else (spec_l07Count.j0 k a2 a3 true a0_0 a0_1 a0_2 l0_3)) else (spec_l07Count.j0 k a2 a3 true a0_0 a0_1 a0_2 l0_3)) = some r := by rw [if_neg (show ¬ (false = true) by decide)] at H; exact H
   clear H
   have H := H1
   clear H1
   have HC42 := Aside0.mk H
   clear H
   go_enter Try.func21, Try.ntmps21
   go_upto_region 7 with (first | ((with_reducible refine gate_dst (N := 4) rfl ?_); (try (refine gate_guard (by rfl) ?_; dsimp only)); refine box_event ?hg (N := 4) ?hd (cs := #[.string a0_0, .string a0_1, .int .i64 a0_2, .slice A0_3 l0_3.length c0_3]) (t := 29) ?hr ?_; (case hd => rfl); (case hg => rfl); (case hr => first | (go_simp; done) | (go_simp; rfl)); intro gb109 hg w43 hbox hb; have n0_ := Aside0.mk (below_step (by repeat (first | (with_reducible first | exact HB.out | apply below_alloc | apply pw_below_drewN | apply below_drew1) | exact HB.out)) hb); have n1_ := Aside0.mk (hbox); have n2_ := Aside0.mk ((by rw [hg]; exact (below_size (by repeat (first | (with_reducible first | exact HB.out | apply below_alloc | apply pw_below_drewN | apply below_drew1) | exact HB.out))) : w.heap.size ≤ gb109)); have n3_ := Aside0.mk ((by rw [hg]; exact (below_size (by repeat (first | (with_reducible first | exact HB.out | apply below_alloc | apply pw_below_drewN | apply below_drew1) | exact HB.out))) : w.heap.size ≤ gb109)); clear HB; have HB := n0_; have BK109 := n1_; have GW109 := n2_; have GE109 := n3_; clear n0_ n1_ n2_ n3_; clear hb hbox hg; have hcz44_0 : w43.cell? ⟨gb109, 0, none⟩ = some (.string a0_0) := (blk_cell BK109.out 0).trans rfl; have hcz44_1 : w43.cell? ⟨gb109, 1, none⟩ = some (.string a0_1) := (blk_cell BK109.out 1).trans rfl; have hcz44_2 : w43.cell? ⟨gb109, 2, none⟩ = some (.int .i64 a0_2) := (blk_cell BK109.out 2).trans rfl; have hcz44_3 : w43.cell? ⟨gb109, 3, none⟩ = some (.slice A0_3 l0_3.length c0_3) := (blk_cell BK109.out 3).trans rfl; have hfz44_0 := blk_frozen BK109.out 0; have hfz44_1 := blk_frozen BK109.out 1; have hfz44_2 := blk_frozen BK109.out 2; have hfz44_3 := blk_frozen BK109.out 3) | ((with_reducible refine gate_callee (f := 31) rfl ?_); refine goesL_ (some 18) rfl rfl Try.func31 (by kernel_rfl) rfl #[.agg #[.string a0_0, .string a0_1, .int .i64 a0_2, .slice A0_3 l0_3.length c0_3]] rfl (by (try simp only [List.map_toArray, List.map_cons, List.map_nil]); first | done | rfl | (simp only [List.length_drop, List.length_take]; rfl)) ?_; (with_reducible refine (spec_l07Leaf.calls a0_0 a0_1 a0_2 _ _ l0_3 false _ ?side1 ?side2 A7.out).mono ?_); (case side1 => repeat (first | exact (Kd.C_below HR0_3.out HB.out) | (with_reducible refine Kd.C_alloc ?_ _) | (with_reducible refine Kd.C_drewN ?_ _) | (with_reducible refine Kd.C_drew ?_))); (case side2 => exact HC0_3.out); rintro e w45 ⟨rfl, hb⟩; refine ⟨_, rfl, ?_⟩; have n0_ := Aside0.mk (blk_below (g := gb109) (o := .cells #[.string a0_0, .string a0_1, .int .i64 a0_2, .slice A0_3 l0_3.length c0_3] 29 (0, 0)) (by (with_reducible repeat (first | refine blk_drewN ?_ _ | refine blk_drew ?_ | refine blk_alloc ?_ _)); exact BK109.out) hb); have n1_ := Aside0.mk (below_step (by repeat (first | (with_reducible first | exact HB.out | apply below_alloc | apply pw_below_drewN | apply below_drew1 | refine below_set ?_ GE109.out) | exact HB.out)) hb); clear BK109; clear HB; have BK109 := n0_; have HB := n1_; clear n0_ n1_; (try clear hb); (try clear hb2); (try clear hk); (try clear hi)))
   (try simp only [Act.put, List.setIfInBounds_toArray, List.set_cons_zero, List.set_cons_succ])
   go_cut [65] (fun v65 wc => ∃ (kq : Nat) (x65_41 : Bool), v65 = .bool x65_41 ∧ Aside0 (spec_l07Count.j0 kq a2 a3 x65_41 a0_0 a0_1 a0_2 l0_3 = some r) ∧ Aside0 (kq ≤ k) ∧ Aside0 (wc.heap[gb109]? = some (.cells #[.string a0_0, .string a0_1, .int .i64 a0_2, (.slice A0_3 l0_3.length c0_3)] 29 (0, 0))) ∧ Aside0 (Below w.heap.size w wc))
   case first =>
    have H := HC42.out
    clear HC42
    by_cases c46 : (l0_3.length : Int) = 2
    ·rw [if_pos c46] at H
     have c46b0 : ((l0_3.length : Int) == 2) = true := beq_iff_eq.mpr c46
     have c46b1 : ((l0_3.length : Int) != 2) = false := bne_eq_false_iff_eq.mpr c46
     clear c46
     (first | rw [c46b0] | (simp only [i64_w, i32_w]; rw [c46b0]) | skip)
     by_cases c47 : a0_0.toList = ([] : List UInt8)
     ·rw [if_pos c47] at H
      have c47b0 : (a0_0.toList == ([] : List UInt8)) = true := beq_iff_eq.mpr c47
      have c47b1 : (a0_0.toList != ([] : List UInt8)) = false := bne_eq_false_iff_eq.mpr c47
      clear c47
      by_cases c48 : a0_1.toList = ([] : List UInt8)
      ·rw [if_pos c48] at H
       have c48b0 : (a0_1.toList == ([] : List UInt8)) = true := beq_iff_eq.mpr c48
       have c48b1 : (a0_1.toList != ([] : List UInt8)) = false := bne_eq_false_iff_eq.mpr c48
       clear c48
       replace H := Option.bind_eq_some_iff.mp H
       obtain ⟨t114, A490, H⟩ := H
       replace H : (spec_l07Count.j0 k a2 a3 (!t114) a0_0 a0_1 a0_2 l0_3) = some r := H
       have A49 := Aside0.mk A490
       clear A490
       have H' := Aside0.mk H
       clear H
       have hcz50_0 : w45.cell? ⟨gb109, 0, none⟩ = some (.string a0_0) := (blk_cell BK109.out 0).trans rfl
       have hcz50_1 : w45.cell? ⟨gb109, 1, none⟩ = some (.string a0_1) := (blk_cell BK109.out 1).trans rfl
       have hcz50_2 : w45.cell? ⟨gb109, 2, none⟩ = some (.int .i64 a0_2) := (blk_cell BK109.out 2).trans rfl
       have hcz50_3 : w45.cell? ⟨gb109, 3, none⟩ = some (.slice A0_3 l0_3.length c0_3) := (blk_cell BK109.out 3).trans rfl
       have hfz50_0 := blk_frozen BK109.out 0
       have hfz50_1 := blk_frozen BK109.out 1
       have hfz50_2 := blk_frozen BK109.out 2
       have hfz50_3 := blk_frozen BK109.out 3
       go_wp2_with (first | (go_at_call 35; (with_reducible refine (spec_l01In.calls a0_2 a1 255 t114 _ A49.out).mono ?_); rintro e w' ⟨rfl, ⟨nd, rfl⟩⟩))
       go_meet
       case rel => exact ⟨_, (!t114), (by first | rfl | (simp; done) | (simp [*]; done)), H', ⟨by first | omega | exact Nat.le_refl _⟩, ⟨by (with_reducible repeat (first | refine blk_drewN ?_ _ | refine blk_drew ?_ | refine blk_alloc ?_ _)); exact BK109.out⟩, ⟨by repeat (first | (with_reducible first | exact HB.out | apply below_alloc | apply pw_below_drewN | apply below_drew1 | refine below_set ?_ GE109.out) | exact HB.out)⟩⟩
      ·rw [if_neg c48] at H
       have c48b0 : (a0_1.toList == ([] : List UInt8)) = false := beq_eq_false_iff_ne.mpr c48
       have c48b1 : (a0_1.toList != ([] : List UInt8)) = true := bne_iff_ne.mpr c48
       have H' := Aside0.mk H
       clear H
       have hcz51_0 : w45.cell? ⟨gb109, 0, none⟩ = some (.string a0_0) := (blk_cell BK109.out 0).trans rfl
       have hcz51_1 : w45.cell? ⟨gb109, 1, none⟩ = some (.string a0_1) := (blk_cell BK109.out 1).trans rfl
       have hcz51_2 : w45.cell? ⟨gb109, 2, none⟩ = some (.int .i64 a0_2) := (blk_cell BK109.out 2).trans rfl
       have hcz51_3 : w45.cell? ⟨gb109, 3, none⟩ = some (.slice A0_3 l0_3.length c0_3) := (blk_cell BK109.out 3).trans rfl
       have hfz51_0 := blk_frozen BK109.out 0
       have hfz51_1 := blk_frozen BK109.out 1
       have hfz51_2 := blk_frozen BK109.out 2
       have hfz51_3 := blk_frozen BK109.out 3
       go_wp2
       go_meet
       case rel => exact ⟨_, (true), (by first | rfl | (simp; done) | (simp [*]; done)), H', ⟨by first | omega | exact Nat.le_refl _⟩, ⟨by (with_reducible repeat (first | refine blk_drewN ?_ _ | refine blk_drew ?_ | refine blk_alloc ?_ _)); exact BK109.out⟩, ⟨by repeat (first | (with_reducible first | exact HB.out | apply below_alloc | apply pw_below_drewN | apply below_drew1 | refine below_set ?_ GE109.out) | exact HB.out)⟩⟩
     ·rw [if_neg c47] at H
      have c47b0 : (a0_0.toList == ([] : List UInt8)) = false := beq_eq_false_iff_ne.mpr c47
      have c47b1 : (a0_0.toList != ([] : List UInt8)) = true := bne_iff_ne.mpr c47
      have H' := Aside0.mk H
      clear H
      have hcz52_0 : w45.cell? ⟨gb109, 0, none⟩ = some (.string a0_0) := (blk_cell BK109.out 0).trans rfl
      have hcz52_1 : w45.cell? ⟨gb109, 1, none⟩ = some (.string a0_1) := (blk_cell BK109.out 1).trans rfl
      have hcz52_2 : w45.cell? ⟨gb109, 2, none⟩ = some (.int .i64 a0_2) := (blk_cell BK109.out 2).trans rfl
      have hcz52_3 : w45.cell? ⟨gb109, 3, none⟩ = some (.slice A0_3 l0_3.length c0_3) := (blk_cell BK109.out 3).trans rfl
      have hfz52_0 := blk_frozen BK109.out 0
      have hfz52_1 := blk_frozen BK109.out 1
      have hfz52_2 := blk_frozen BK109.out 2
      have hfz52_3 := blk_frozen BK109.out 3
      go_wp2
      go_meet
      case rel => exact ⟨_, (true), (by first | rfl | (simp; done) | (simp [*]; done)), H', ⟨by first | omega | exact Nat.le_refl _⟩, ⟨by (with_reducible repeat (first | refine blk_drewN ?_ _ | refine blk_drew ?_ | refine blk_alloc ?_ _)); exact BK109.out⟩, ⟨by repeat (first | (with_reducible first | exact HB.out | apply below_alloc | apply pw_below_drewN | apply below_drew1 | refine below_set ?_ GE109.out) | exact HB.out)⟩⟩
    ·rw [if_neg c46] at H
     have c46b0 : ((l0_3.length : Int) == 2) = false := beq_eq_false_iff_ne.mpr c46
     have c46b1 : ((l0_3.length : Int) != 2) = true := bne_iff_ne.mpr c46
     (first | rw [c46b0] | (simp only [i64_w, i32_w]; rw [c46b0]) | skip)
     have H' := Aside0.mk H
     clear H
     have hcz53_0 : w45.cell? ⟨gb109, 0, none⟩ = some (.string a0_0) := (blk_cell BK109.out 0).trans rfl
     have hcz53_1 : w45.cell? ⟨gb109, 1, none⟩ = some (.string a0_1) := (blk_cell BK109.out 1).trans rfl
     have hcz53_2 : w45.cell? ⟨gb109, 2, none⟩ = some (.int .i64 a0_2) := (blk_cell BK109.out 2).trans rfl
     have hcz53_3 : w45.cell? ⟨gb109, 3, none⟩ = some (.slice A0_3 l0_3.length c0_3) := (blk_cell BK109.out 3).trans rfl
     have hfz53_0 := blk_frozen BK109.out 0
     have hfz53_1 := blk_frozen BK109.out 1
     have hfz53_2 := blk_frozen BK109.out 2
     have hfz53_3 := blk_frozen BK109.out 3
     go_wp2
     go_meet
     case rel => exact ⟨_, (true), (by first | rfl | (simp; done) | (simp [*]; done)), H', ⟨by first | omega | exact Nat.le_refl _⟩, ⟨by (with_reducible repeat (first | refine blk_drewN ?_ _ | refine blk_drew ?_ | refine blk_alloc ?_ _)); exact BK109.out⟩, ⟨by repeat (first | (with_reducible first | exact HB.out | apply below_alloc | apply pw_below_drewN | apply below_drew1 | refine below_set ?_ GE109.out) | exact HB.out)⟩⟩
   case rest =>
    clear HC42
    try clear c1
    try clear c2
    try clear p2
    try clear c3
    try clear c4
    try clear c5
    try clear c5b0
    try clear c8
    try clear c10
    try clear c11
    try clear c11b0
    try clear c11b1
    try clear c16
    try clear c16b0
    try clear c16b1
    try clear c19
    try clear c19b0
    try clear c19b1
    try clear c20
    try clear c20b0
    try clear c20b1
    try clear c21
    try clear c21b0
    try clear c21b1
    try clear c31
    try clear c32
    try clear c46
    try clear c46b0
    try clear c46b1
    try clear c47
    try clear c47b0
    try clear c47b1
    try clear c48
    try clear c48b0
    try clear c48b1
    try clear hcz13_0
    try clear hcz13_1
    try clear hcz13_2
    try clear hcz13_3
    try clear hcz15_0
    try clear hcz15_1
    try clear hcz15_2
    try clear hcz15_3
    try clear hcz23_0
    try clear hcz23_1
    try clear hcz23_2
    try clear hcz23_3
    try clear hcz25_0
    try clear hcz25_1
    try clear hcz25_2
    try clear hcz25_3
    try clear hcz29_0
    try clear hcz29_1
    try clear hcz29_2
    try clear hcz29_3
    try clear hcz31_0
    try clear hcz31_1
    try clear hcz31_2
    try clear hcz31_3
    try clear hcz35_0
    try clear hcz35_1
    try clear hcz35_2
    try clear hcz35_3
    try clear hcz37_0
    try clear hcz37_1
    try clear hcz37_2
    try clear hcz37_3
    try clear hcz39_0
    try clear hcz39_1
    try clear hcz39_2
    try clear hcz39_3
    try clear hcz41_0
    try clear hcz41_1
    try clear hcz41_2
    try clear hcz41_3
    try clear hcz44_0
    try clear hcz44_1
    try clear hcz44_2
    try clear hcz44_3
    try clear hcz50_0
    try clear hcz50_1
    try clear hcz50_2
    try clear hcz50_3
    try clear hcz51_0
    try clear hcz51_1
    try clear hcz51_2
    try clear hcz51_3
    try clear hcz52_0
    try clear hcz52_1
    try clear hcz52_2
    try clear hcz52_3
    try clear hcz53_0
    try clear hcz53_1
    try clear hcz53_2
    try clear hcz53_3
    try clear hfz13_0
    try clear hfz13_1
    try clear hfz13_2
    try clear hfz13_3
    try clear hfz15_0
    try clear hfz15_1
    try clear hfz15_2
    try clear hfz15_3
    try clear hfz23_0
    try clear hfz23_1
    try clear hfz23_2
    try clear hfz23_3
    try clear hfz25_0
    try clear hfz25_1
    try clear hfz25_2
    try clear hfz25_3
    try clear hfz29_0
    try clear hfz29_1
    try clear hfz29_2
    try clear hfz29_3
    try clear hfz31_0
    try clear hfz31_1
    try clear hfz31_2
    try clear hfz31_3
    try clear hfz35_0
    try clear hfz35_1
    try clear hfz35_2
    try clear hfz35_3
    try clear hfz37_0
    try clear hfz37_1
    try clear hfz37_2
    try clear hfz37_3
    try clear hfz39_0
    try clear hfz39_1
    try clear hfz39_2
    try clear hfz39_3
    try clear hfz41_0
    try clear hfz41_1
    try clear hfz41_2
    try clear hfz41_3
    try clear hfz44_0
    try clear hfz44_1
    try clear hfz44_2
    try clear hfz44_3
    try clear hfz50_0
    try clear hfz50_1
    try clear hfz50_2
    try clear hfz50_3
    try clear hfz51_0
    try clear hfz51_1
    try clear hfz51_2
    try clear hfz51_3
    try clear hfz52_0
    try clear hfz52_1
    try clear hfz52_2
    try clear hfz52_3
    try clear hfz53_0
    try clear hfz53_1
    try clear hfz53_2
    try clear hfz53_3
    obtain ⟨kq, x65_41, rfl, HA, HJ41, BK109, HB⟩ := hcut
    cases kq with
    | zero => exact absurd HA.out (by simp [spec_l07Count.j0])
    | succ kj41 =>
     have H := HA.out
     clear HA
     simp only [spec_l07Count.j0] at H
     by_cases c54 : x65_41 = true
     ·subst c54
      have H1 : (some (-1)) = some r := by rw [if_pos rfl] at H; exact H
      clear H
      have H := H1
      clear H1
      obtain rfl := Option.some.inj H
      go_wp2
      go_ret
      exact ⟨by first | rfl | (simp [errW_none, errW_some] <;> rfl) | (simp [*, errW_none, errW_some] <;> rfl), by repeat (first | (with_reducible first | exact HB.out | apply below_alloc | apply pw_below_drewN | apply below_drew1 | refine below_set ?_ GE109.out) | exact HB.out)⟩
     ·replace c54 := Bool.eq_false_iff.mpr c54
      subst c54
      have H1 : (if 0 < (l0_3.length : Int) then ((spec_l07Count.lm ((rd_T29 l0_3 0).f0) ((rd_T29 l0_3 0).f1) ((rd_T29 l0_3 0).f2) ((rd_T29 l0_3 0).f3)).bind fun bt116 => ((spec_l07Leaf.f bt116.1 bt116.2.1 bt116.2.2.1 bt116.2.2.2).bind fun t123 => (if t123 = true then ((spec_l02Key.f bt116.1).bind fun t124 => (spec_l07Count.j1 kj41 a2 a3 (!t124) a0_0 a0_1 a0_2 l0_3 bt116.1 bt116.2.1 bt116.2.2.1 bt116.2.2.2)) else (spec_l07Count.j1 kj41 a2 a3 true a0_0 a0_1 a0_2 l0_3 bt116.1 bt116.2.1 bt116.2.2.1 bt116.2.2.2)))) else (none)) = some r := by rw [if_neg (show ¬ (false = true) by decide)] at H; exact H
      clear H
      have H := H1
      clear H1
      by_cases c55 : 0 < (l0_3.length : Int)
      ·rw [if_pos c55] at H
       have c55b0 : decide (0 < (l0_3.length : Int)) = true := decide_eq_true c55
       have c55b1 : decide (0 < l0_3.length) = true := decide_eq_true (by omega)
       clear c55
       replace H := Option.bind_eq_some_iff.mp H
       obtain ⟨⟨t116, t117, t118, t119⟩, A560, H⟩ := H
       replace H : ((spec_l07Leaf.f t116 t117 t118 t119).bind fun t123 => (if t123 = true then ((spec_l02Key.f t116).bind fun t124 => (spec_l07Count.j1 kj41 a2 a3 (!t124) a0_0 a0_1 a0_2 l0_3 t116 t117 t118 t119)) else (spec_l07Count.j1 kj41 a2 a3 true a0_0 a0_1 a0_2 l0_3 t116 t117 t118 t119))) = some r := H
       have A56 := Aside0.mk A560
       clear A560
       have HC57 := Aside0.mk H
       clear H
       have hcz58_0 : wc.cell? ⟨gb109, 0, none⟩ = some (.string a0_0) := (blk_cell BK109.out 0).trans rfl
       have hcz58_1 : wc.cell? ⟨gb109, 1, none⟩ = some (.string a0_1) := (blk_cell BK109.out 1).trans rfl
       have hcz58_2 : wc.cell? ⟨gb109, 2, none⟩ = some (.int .i64 a0_2) := (blk_cell BK109.out 2).trans rfl
       have hcz58_3 : wc.cell? ⟨gb109, 3, none⟩ = some (.slice A0_3 l0_3.length c0_3) := (blk_cell BK109.out 3).trans rfl
       have hfz58_0 := blk_frozen BK109.out 0
       have hfz58_1 := blk_frozen BK109.out 1
       have hfz58_2 := blk_frozen BK109.out 2
       have hfz58_3 := blk_frozen BK109.out 3
       have p115 : 0 ≤ (0 : Int) := (by omega)
       have q115 : 0 < (l0_3.length : Int) := of_decide_eq_true (by assumption)
       obtain ⟨ad115, A115_3, c115_3, e115, hx115_0, hx115_1, hx115_2, hx115_3, hl115_3, hi115_3⟩ := at_T29 HR0_3.out 0 p115 q115
       cases e115
       have qi115 : (0 < l0_3.length) = True := eq_true (by omega)
       (try rw [show ((0 : Int)).toNat = 0 from rfl] at hx115_0)
       (try rw [show 0 * 4 = 0 from rfl] at hx115_0)
       (try rw [Addr.add_zero'] at hx115_0)
       (try rw [show ((0 : Int)).toNat = 0 from rfl] at hx115_1)
       (try rw [show 0 * 4 = 0 from rfl] at hx115_1)
       (try rw [Addr.add_zero'] at hx115_1)
       (try rw [show ((0 : Int)).toNat = 0 from rfl] at hx115_2)
       (try rw [show 0 * 4 = 0 from rfl] at hx115_2)
       (try rw [Addr.add_zero'] at hx115_2)
       (try rw [show ((0 : Int)).toNat = 0 from rfl] at hx115_3)
       (try rw [show 0 * 4 = 0 from rfl] at hx115_3)
       (try rw [Addr.add_zero'] at hx115_3)
       replace hx115_0 := (HB.out.cell (World.block_lt_of_cell? w _ hx115_0)).trans hx115_0
       replace hx115_1 := (HB.out.cell (World.block_lt_of_cell? w _ hx115_1)).trans hx115_1
       replace hx115_2 := (HB.out.cell (World.block_lt_of_cell? w _ hx115_2)).trans hx115_2
       replace hx115_3 := (HB.out.cell (World.block_lt_of_cell? w _ hx115_3)).trans hx115_3
       have HR115_3 := Aside0.mk hi115_3
       have HC115_3 := Aside0.mk hl115_3
       clear hi115_3 hl115_3
       replace p115 := eq_true p115
       replace q115 := eq_true q115
       have HG : Aside0 (spec_l07Count.go 256 (rd_T29 l0_3 0) = (⟨t116, t117, t118, t119⟩ : S29)) := ⟨by
        have h := A56.out
        unfold spec_l07Count.lm at h
        rw [spec_l07Count.eta] at h
        generalize spec_l07Count.go 256 (rd_T29 l0_3 0) = y at h ⊢
        obtain ⟨y0, y1, y2, y3⟩ := y
        simp only [Option.some.injEq, Prod.mk.injEq] at h
        obtain ⟨rfl, rfl, rfl, rfl⟩ := h
        rfl⟩
       clear A56
       go_upto_block 0 with (first | ((with_reducible refine gate_dst (N := 9) rfl ?_); (try (refine gate_guard (by rfl) ?_; dsimp only)); refine box_event ?hg (N := 9) ?hd (cs := #[.string (⟨#[]⟩ : ByteArray), .string (⟨#[]⟩ : ByteArray), .int .i64 0, .slice none 0 0]) (t := 29) ?hr ?_; (case hd => rfl); (case hg => rfl); (case hr => first | (go_simp; done) | (go_simp; rfl)); intro gb122 hg wa hbox hb; have n1_ := Aside0.mk (blk_below (g := gb109) (o := .cells #[.string a0_0, .string a0_1, .int .i64 a0_2, .slice (some ad115) l0_3.length c0_3] 29 (0, 0)) BK109.out hb); have n2_ := Aside0.mk (below_step HB.out hb); have BKZ := Aside0.mk hbox; have GE122 : Aside0 (w.heap.size ≤ gb122) := ⟨by rw [hg]; exact below_size HB.out⟩; have GW122 := GE122; have NB109_122 : Aside0 (gb109 ≠ gb122) := ⟨by rw [hg]; exact Nat.ne_of_lt (blk_lt BK109.out)⟩; have NB122_109 : Aside0 (gb122 ≠ gb109) := ⟨by rw [hg]; exact Nat.ne_of_gt (blk_lt BK109.out)⟩; clear BK109 HB; have BK109 := n1_; have HB := n2_; clear n1_ n2_ hb hbox hg; have hnb61 := NB122_109.out; have hnc61 := NB109_122.out; have hcz62_0 : wa.cell? ⟨gb122, 0, none⟩ = some (.string (⟨#[]⟩ : ByteArray)) := (blk_cell BKZ.out 0).trans rfl; have hcz62_1 : wa.cell? ⟨gb122, 1, none⟩ = some (.string (⟨#[]⟩ : ByteArray)) := (blk_cell BKZ.out 1).trans rfl; have hcz62_2 : wa.cell? ⟨gb122, 2, none⟩ = some (.int .i64 0) := (blk_cell BKZ.out 2).trans rfl; have hcz62_3 : wa.cell? ⟨gb122, 3, none⟩ = some (.slice none 0 0) := (blk_cell BKZ.out 3).trans rfl; have hfz62_0 := blk_frozen BKZ.out 0; have hfz62_1 := blk_frozen BKZ.out 1; have hfz62_2 := blk_frozen BKZ.out 2; have hfz62_3 := blk_frozen BKZ.out 3))
       go_cut [10] (fun _ wl => ∃ (A : Option Addr) (c : Nat), Aside0 (wl.heap[gb122]? = some (.cells #[.string t116, .string t117, .int .i64 t118, .slice A t119.length c] 29 (0, 0))) ∧ Aside0 (t119.length ≤ c) ∧ Aside0 (Kd.C k29 w A t119.length t119) ∧ Aside0 (wl.heap[gb109]? = some (.cells #[.string a0_0, .string a0_1, .int .i64 a0_2, .slice (some ad115) l0_3.length c0_3] 29 (0, 0))) ∧ Aside0 (Below w.heap.size w wl))
       case first =>
        clear HC57
        go_wp2
        go_loopw [10] (fun v10 wl => ∃ (m : Nat) (x : S29) (A : Option Addr) (c : Nat), m ≤ 256 ∧ v10 = .int .i64 (m : Int) ∧ Aside0 (spec_l07Count.go (256 - m) x = (⟨t116, t117, t118, t119⟩ : S29)) ∧ Aside0 (wl.heap[gb122]? = some (.cells #[.string x.f0, .string x.f1, .int .i64 x.f2, .slice A x.f3.length c] 29 (0, 0))) ∧ Aside0 (x.f3.length ≤ c) ∧ Aside0 (Kd.C k29 w A x.f3.length x.f3) ∧ Aside0 (wl.heap[gb109]? = some (.cells #[.string a0_0, .string a0_1, .int .i64 a0_2, .slice (some ad115) l0_3.length c0_3] 29 (0, 0))) ∧ Aside0 (Below w.heap.size w wl)) (fun v10 _ => (256 - intOf v10).toNat)
        case atStart => exact ⟨0, rd_T29 l0_3 0, A115_3, c115_3, by omega, rfl, HG, ⟨spec_l07Count.put4 BKZ.out⟩, HC115_3, HR115_3, ⟨spec_l07Count.far4 BK109.out NB109_122.out⟩, ⟨spec_l07Count.below4 HB.out GE122.out⟩⟩
        case round =>
         clear hcz62_0 hcz62_1 hcz62_2 hcz62_3 hfz62_0 hfz62_1 hfz62_2 hfz62_3 hx115_0 hx115_1 hx115_2 hx115_3 HG BKZ BK109 HB HR115_3 HC115_3
         obtain ⟨m, x, A, c, hm, rfl, HT, HX, HL, HR, BK109, HB⟩ := hrel
         have hcz0 := (blk_cell HX.out 0).trans (show _ = some (Value.string x.f0) from rfl)
         have hcz1 := (blk_cell HX.out 1).trans (show _ = some (Value.string x.f1) from rfl)
         have hcz2 := (blk_cell HX.out 2).trans (show _ = some (Value.int .i64 x.f2) from rfl)
         have hcz3 := (blk_cell HX.out 3).trans (show _ = some (Value.slice A x.f3.length c) from rfl)
         by_cases hlt : m < 256
         ·have hlt1 : decide ((m : Int) < 256) = true := decide_eq_true (by omega)
          have HLT := Aside0.mk hlt
          by_cases hz : x.f3.length = 0
          ·have hlf : spec_l07Leaf.f x.f0 x.f1 x.f2 x.f3 = some true := by unfold spec_l07Leaf.f; rw [hz]; rfl
           have HLF := Aside0.mk hlf
           have HE : Aside0 (x = (⟨t116, t117, t118, t119⟩ : S29)) := ⟨by
            have h := HT.out
            obtain ⟨d, hd⟩ : ∃ d, 256 - m = d + 1 := ⟨255 - m, by omega⟩
            rw [hd] at h
            simp only [spec_l07Count.go] at h
            rw [if_pos hz] at h
            exact h⟩
           clear hlf hz hlt
           go_wp2_with (first | (go_at_call 31; (with_reducible refine (spec_l07Leaf.calls x.f0 x.f1 x.f2 _ _ x.f3 true _ (Kd.C_below HR.out HB.out) HL.out HLF.out).mono ?_); rintro e wb ⟨rfl, hb⟩; have HX2 := Aside0.mk (blk_below HX.out hb); have BK2 := Aside0.mk (blk_below BK109.out hb); have HB2 := Aside0.mk (below_step HB.out hb); clear hb))
           go_meet
           case rel =>
            have he := HE.out
            subst he
            exact ⟨A, c, HX2, HL, HR, BK2, HB2⟩
          ·have hlf : spec_l07Leaf.f x.f0 x.f1 x.f2 x.f3 = some false := by
            unfold spec_l07Leaf.f
            rw [show ((x.f3.length : Int) == 0) = false from beq_eq_false_iff_ne.mpr (by omega)]
           have HLF := Aside0.mk hlf
           have HE : Aside0 (spec_l07Count.go (256 - (m + 1)) (rd_T29 x.f3 0) = (⟨t116, t117, t118, t119⟩ : S29)) := ⟨by
            have h := HT.out
            obtain ⟨d, hd⟩ : ∃ d, 256 - m = d + 1 := ⟨255 - m, by omega⟩
            rw [hd] at h
            simp only [spec_l07Count.go] at h
            rw [if_neg hz] at h
            rw [show 256 - (m + 1) = d by omega]
            exact h⟩
           have hp : 0 < x.f3.length := by omega
           have hp1 : (0 : Int) < (x.f3.length : Int) := by omega
           obtain ⟨ad, A3, c3, e3, hx0, hx1, hx2, hx3, hl3, hi3⟩ := at_T29 HR.out 0 (by omega) hp1
           cases e3
           rw [show ((0 : Int)).toNat = 0 from rfl, show 0 * 4 = 0 from rfl, Addr.add_zero'] at hx0 hx1 hx2 hx3
           replace hx0 := (HB.out.cell (World.block_lt_of_cell? w _ hx0)).trans hx0
           replace hx1 := (HB.out.cell (World.block_lt_of_cell? w _ hx1)).trans hx1
           replace hx2 := (HB.out.cell (World.block_lt_of_cell? w _ hx2)).trans hx2
           replace hx3 := (HB.out.cell (World.block_lt_of_cell? w _ hx3)).trans hx3
           have HX0 := Aside0.mk hx0
           have HX1 := Aside0.mk hx1
           have HX2_ := Aside0.mk hx2
           have HX3 := Aside0.mk hx3
           have HL3 := Aside0.mk hl3
           have HI3 := Aside0.mk hi3
           clear hlf hz hlt hx0 hx1 hx2 hx3 hl3 hi3
           go_wp2_with (first | (go_at_call 31; (with_reducible refine (spec_l07Leaf.calls x.f0 x.f1 x.f2 _ _ x.f3 false _ (Kd.C_below HR.out HB.out) HL.out HLF.out).mono ?_); rintro e wb ⟨rfl, hb⟩; have HX2 := Aside0.mk (blk_below HX.out hb); have BK2 := Aside0.mk (blk_below BK109.out hb); have HB2 := Aside0.mk (below_step HB.out hb); have hx0 := (hb.cell (World.block_lt_of_cell? _ _ HX0.out)).trans HX0.out; have hx1 := (hb.cell (World.block_lt_of_cell? _ _ HX1.out)).trans HX1.out; have hx2 := (hb.cell (World.block_lt_of_cell? _ _ HX2_.out)).trans HX2_.out; have hx3 := (hb.cell (World.block_lt_of_cell? _ _ HX3.out)).trans HX3.out; clear hb hcz0 hcz1 hcz2 hcz3; have hcz0 := (blk_cell HX2.out 0).trans (show _ = some (Value.string x.f0) from rfl); have hcz1 := (blk_cell HX2.out 1).trans (show _ = some (Value.string x.f1) from rfl); have hcz2 := (blk_cell HX2.out 2).trans (show _ = some (Value.int .i64 x.f2) from rfl); have hcz3 := (blk_cell HX2.out 3).trans (show _ = some (Value.slice (some ad) x.f3.length c) from rfl); have hf0 := blk_frozen HX2.out 0; have hf1 := blk_frozen HX2.out 1; have hf2 := blk_frozen HX2.out 2; have hf3 := blk_frozen HX2.out 3))
           go_roundw
           case rel => exact ⟨m + 1, rd_T29 x.f3 0, A3, c3, by have := HLT.out; omega, by first | go_num | (rw [Go.Proofs.Ytjkdmegpjdfcaaa.U.wrap_in (by have := HLT.out; omega) (by have := HLT.out; omega)]; congr 1), HE, ⟨spec_l07Count.put4 HX2.out⟩, HL3, HI3, ⟨spec_l07Count.far4 BK2.out NB109_122.out⟩, ⟨spec_l07Count.below4 HB2.out GE122.out⟩⟩
           case measure => have := HLT.out; simp [intOf]; omega
         ·have hlt1 : decide ((m : Int) < 256) = false := decide_eq_false (by omega)
          have HE : Aside0 (x = (⟨t116, t117, t118, t119⟩ : S29)) := ⟨by
           have h := HT.out
           rw [show 256 - m = 0 by omega] at h
           exact h⟩
          clear hlt
          go_wp2
          go_meet
          case rel =>
           have he := HE.out
           subst he
           exact ⟨A, c, HX, HL, HR, BK109, HB⟩
       case rest =>
       clear hcz62_0 hcz62_1 hcz62_2 hcz62_3 hfz62_0 hfz62_1 hfz62_2 hfz62_3 hx115_0 hx115_1 hx115_2 hx115_3 HG BKZ BK109 HB HR115_3 HC115_3
       obtain ⟨Ao63, co63, HX, HL, HR, BK, HBB⟩ := hcut
       obtain ⟨w60, hw60, hz60⟩ := spec_l07Count.reset HX.out (.string (⟨#[]⟩ : ByteArray)) (.string (⟨#[]⟩ : ByteArray)) (.int .i64 0) (.slice none 0 0)
       have BK122 : Aside0 (w60.heap[gb122]? = some (.cells #[.string (⟨#[]⟩ : ByteArray), .string (⟨#[]⟩ : ByteArray), .int .i64 0, .slice none 0 0] 29 (0, 0))) := ⟨by rw [hz60]; exact spec_l07Count.put4 HX.out⟩
       have BK109 : Aside0 (w60.heap[gb109]? = some (.cells #[.string a0_0, .string a0_1, .int .i64 a0_2, .slice (some ad115) l0_3.length c0_3] 29 (0, 0))) := ⟨by rw [hz60]; exact spec_l07Count.far4 BK.out NB109_122.out⟩
       have HB : Aside0 (Below w.heap.size w w60) := ⟨by rw [hz60]; exact spec_l07Count.below4 HBB.out GE122.out⟩
       have HO121 : Aside0 (Kd.V k29 29 w60 w.heap.size (fun k_ => k_ ≠ gb109 ∧ k_ ≠ gb122) (.slice Ao63 t119.length co63) t119) := ⟨Kd.V_mk HL.out (Kd.F_mono (Kd.F_below (Kd.C_F spec_l07Count.heap HR.out) HB.out) (fun k_ hk_ => ⟨fun e_ => by have := GE109.out; omega, fun e_ => by have := GE122.out; omega⟩))⟩
       clear HX HL HR BK HBB hz60
       subst hw60
       go_upto_region 14 with (fail)
       (try simp only [Act.put, List.setIfInBounds_toArray, List.set_cons_zero, List.set_cons_succ])
       go_cut [91] (fun v91 wc => ∃ (kq : Nat) (x91_56 : Bool), v91 = .bool x91_56 ∧ Aside0 (spec_l07Count.j1 kq a2 a3 x91_56 a0_0 a0_1 a0_2 l0_3 t116 t117 t118 t119 = some r) ∧ Aside0 (kq ≤ kj41) ∧ Aside0 (Kd.V k29 29 wc w.heap.size (fun k_ => k_ ≠ gb109 ∧ k_ ≠ gb122) (.slice Ao63 t119.length co63) t119) ∧ Aside0 (wc.heap[gb109]? = some (.cells #[.string a0_0, .string a0_1, .int .i64 a0_2, (.slice (some ad115) l0_3.length c0_3)] 29 (0, 0))) ∧ Aside0 (wc.heap[gb122]? = some (.cells #[.string t116, .string t117, .int .i64 t118, (.slice Ao63 t119.length co63)] 29 (0, 0))) ∧ Aside0 (Below w.heap.size w wc))
       case first =>
        have H := HC57.out
        clear HC57
        replace H := Option.bind_eq_some_iff.mp H
        obtain ⟨t123, A640, H⟩ := H
        replace H : (if t123 = true then ((spec_l02Key.f t116).bind fun t124 => (spec_l07Count.j1 kj41 a2 a3 (!t124) a0_0 a0_1 a0_2 l0_3 t116 t117 t118 t119)) else (spec_l07Count.j1 kj41 a2 a3 true a0_0 a0_1 a0_2 l0_3 t116 t117 t118 t119)) = some r := H
        have A64 := Aside0.mk A640
        clear A640
        by_cases c65 : t123 = true
        ·subst c65
         have H1 : ((spec_l02Key.f t116).bind fun t124 => (spec_l07Count.j1 kj41 a2 a3 (!t124) a0_0 a0_1 a0_2 l0_3 t116 t117 t118 t119)) = some r := by rw [if_pos rfl] at H; exact H
         clear H
         have H := H1
         clear H1
         replace H := Option.bind_eq_some_iff.mp H
         obtain ⟨t124, A660, H⟩ := H
         replace H : (spec_l07Count.j1 kj41 a2 a3 (!t124) a0_0 a0_1 a0_2 l0_3 t116 t117 t118 t119) = some r := H
         have A66 := Aside0.mk A660
         clear A660
         have H' := Aside0.mk H
         clear H
         have hnb67 := NB122_109.out
         have hnc67 := NB109_122.out
         have hcz68_0 : w60.cell? ⟨gb122, 0, none⟩ = some (.string (⟨#[]⟩ : ByteArray)) := (blk_cell BK122.out 0).trans rfl
         have hcz68_1 : w60.cell? ⟨gb122, 1, none⟩ = some (.string (⟨#[]⟩ : ByteArray)) := (blk_cell BK122.out 1).trans rfl
         have hcz68_2 : w60.cell? ⟨gb122, 2, none⟩ = some (.int .i64 0) := (blk_cell BK122.out 2).trans rfl
         have hcz68_3 : w60.cell? ⟨gb122, 3, none⟩ = some (.slice none 0 0) := (blk_cell BK122.out 3).trans rfl
         have hfz68_0 := blk_frozen BK122.out 0
         have hfz68_1 := blk_frozen BK122.out 1
         have hfz68_2 := blk_frozen BK122.out 2
         have hfz68_3 := blk_frozen BK122.out 3
         go_wp2_with (first | ((with_reducible refine gate_callee (f := 31) rfl ?_); refine goesL_ (some 84) rfl rfl Try.func31 (by kernel_rfl) rfl #[.agg #[.string t116, .string t117, .int .i64 t118, .slice Ao63 t119.length co63]] rfl (by (try simp only [List.map_toArray, List.map_cons, List.map_nil]); first | done | rfl | (simp only [List.length_drop, List.length_take]; rfl)) ?_; (with_reducible refine (spec_l07Leaf.calls t116 t117 t118 _ _ t119 true _ ?side1 ?side2 A64.out).mono ?_); (case side1 => refine (Kd.V_reads' (e := 29) (base := w.heap.size) (ok := fun k_ => (k_ ≠ gb109 ∧ k_ ≠ gb122)) (n := t119.length) (c := co63) ?_).2.2; exact (by (with_reducible repeat (first | apply Kd.V_alloc | apply Kd.V_drewN | apply Kd.V_drew)); exact (Kd.V_mono (Kd.V_far (p := ⟨gb122, 3, none⟩) (Kd.V_far (p := ⟨gb122, 2, none⟩) (Kd.V_far (p := ⟨gb122, 1, none⟩) (Kd.V_far (p := ⟨gb122, 0, none⟩) (Kd.V_mono HO121.out (fun k_ hk => (⟨hk, hk.2⟩ : _ ∧ k_ ≠ gb122))) (fun _ hk => hk.2) (.string t116)) (fun _ hk => hk.2) (.string t117)) (fun _ hk => hk.2) (.int .i64 t118)) (fun _ hk => hk.2) (.slice Ao63 t119.length co63)) (fun _ h_ => h_.1)))); (case side2 => exact (Kd.V_reads' HO121.out).2.1); rintro e w69 ⟨rfl, hb⟩; refine ⟨_, rfl, ?_⟩; have n0_ := Aside0.mk (Kd.V_below (by (with_reducible repeat (first | apply Kd.V_alloc | apply Kd.V_drewN | apply Kd.V_drew)); exact (Kd.V_mono (Kd.V_far (p := ⟨gb122, 3, none⟩) (Kd.V_far (p := ⟨gb122, 2, none⟩) (Kd.V_far (p := ⟨gb122, 1, none⟩) (Kd.V_far (p := ⟨gb122, 0, none⟩) (Kd.V_mono HO121.out (fun k_ hk => (⟨hk, hk.2⟩ : _ ∧ k_ ≠ gb122))) (fun _ hk => hk.2) (.string t116)) (fun _ hk => hk.2) (.string t117)) (fun _ hk => hk.2) (.int .i64 t118)) (fun _ hk => hk.2) (.slice Ao63 t119.length co63)) (fun _ h_ => h_.1))) hb); have n1_ := Aside0.mk (blk_below (g := gb109) (o := .cells #[.string a0_0, .string a0_1, .int .i64 a0_2, .slice (some ad115) l0_3.length c0_3] 29 (0, 0)) (by (with_reducible repeat (first | refine blk_drewN ?_ _ | refine blk_drew ?_ | refine blk_alloc ?_ _)); refine blk_far ?_ NB109_122.out _; (with_reducible repeat (first | refine blk_drewN ?_ _ | refine blk_drew ?_ | refine blk_alloc ?_ _)); refine blk_far ?_ NB109_122.out _; (with_reducible repeat (first | refine blk_drewN ?_ _ | refine blk_drew ?_ | refine blk_alloc ?_ _)); refine blk_far ?_ NB109_122.out _; (with_reducible repeat (first | refine blk_drewN ?_ _ | refine blk_drew ?_ | refine blk_alloc ?_ _)); refine blk_far ?_ NB109_122.out _; (with_reducible repeat (first | refine blk_drewN ?_ _ | refine blk_drew ?_ | refine blk_alloc ?_ _)); exact BK109.out) hb); have n2_ := Aside0.mk (blk_below (g := gb122) (o := .cells #[.string t116, .string t117, .int .i64 t118, .slice Ao63 t119.length co63] 29 (0, 0)) (by (with_reducible repeat (first | refine blk_drewN ?_ _ | refine blk_drew ?_ | refine blk_alloc ?_ _)); refine blk_put (cs := #[.string t116, .string t117, .int .i64 t118, .slice none 0 0]) ?_ 3 _ rfl; (with_reducible repeat (first | refine blk_drewN ?_ _ | refine blk_drew ?_ | refine blk_alloc ?_ _)); refine blk_put (cs := #[.string t116, .string t117, .int .i64 0, .slice none 0 0]) ?_ 2 _ rfl; (with_reducible repeat (first | refine blk_drewN ?_ _ | refine blk_drew ?_ | refine blk_alloc ?_ _)); refine blk_put (cs := #[.string t116, .string (⟨#[]⟩ : ByteArray), .int .i64 0, .slice none 0 0]) ?_ 1 _ rfl; (with_reducible repeat (first | refine blk_drewN ?_ _ | refine blk_drew ?_ | refine blk_alloc ?_ _)); refine blk_put (cs := #[.string (⟨#[]⟩ : ByteArray), .string (⟨#[]⟩ : ByteArray), .int .i64 0, .slice none 0 0]) ?_ 0 _ rfl; (with_reducible repeat (first | refine blk_drewN ?_ _ | refine blk_drew ?_ | refine blk_alloc ?_ _)); exact BK122.out) hb); have n3_ := Aside0.mk (below_step (by repeat (first | (with_reducible first | exact HB.out | apply below_alloc | apply pw_below_drewN | apply below_drew1 | refine below_set ?_ GE109.out | refine below_set ?_ GE122.out) | exact HB.out)) hb); clear HO121; clear BK109; clear BK122; clear HB; have HO121 := n0_; have BK109 := n1_; have BK122 := n2_; have HB := n3_; clear n0_ n1_ n2_ n3_; (try clear hb); (try clear hb2); (try clear hk); (try clear hi); have hcz70_0 : w69.cell? ⟨gb122, 0, none⟩ = some (.string t116) := (blk_cell BK122.out 0).trans rfl; have hcz70_1 : w69.cell? ⟨gb122, 1, none⟩ = some (.string t117) := (blk_cell BK122.out 1).trans rfl; have hcz70_2 : w69.cell? ⟨gb122, 2, none⟩ = some (.int .i64 t118) := (blk_cell BK122.out 2).trans rfl; have hcz70_3 : w69.cell? ⟨gb122, 3, none⟩ = some (.slice Ao63 t119.length co63) := (blk_cell BK122.out 3).trans rfl; have hfz70_0 := blk_frozen BK122.out 0; have hfz70_1 := blk_frozen BK122.out 1; have hfz70_2 := blk_frozen BK122.out 2; have hfz70_3 := blk_frozen BK122.out 3) | (go_at_call 32; (with_reducible refine (spec_l02Key.calls t116 t124 _ A66.out).mono ?_); rintro e w' ⟨rfl, ⟨nd, rfl⟩⟩))
         go_meet
         case rel => exact ⟨_, (!t124), (by first | rfl | (simp; done) | (simp [*]; done)), H', ⟨by have := HJ41.out; first | omega | exact Nat.le_refl _⟩, ⟨by (with_reducible repeat (first | apply Kd.V_alloc | apply Kd.V_drewN | apply Kd.V_drew)); exact HO121.out⟩, ⟨by (with_reducible repeat (first | refine blk_drewN ?_ _ | refine blk_drew ?_ | refine blk_alloc ?_ _)); exact BK109.out⟩, ⟨by (with_reducible repeat (first | refine blk_drewN ?_ _ | refine blk_drew ?_ | refine blk_alloc ?_ _)); exact BK122.out⟩, ⟨by repeat (first | (with_reducible first | exact HB.out | apply below_alloc | apply pw_below_drewN | apply below_drew1 | refine below_set ?_ GE109.out | refine below_set ?_ GE122.out) | exact HB.out)⟩⟩
        ·replace c65 := Bool.eq_false_iff.mpr c65
         subst c65
         have H1 : (spec_l07Count.j1 kj41 a2 a3 true a0_0 a0_1 a0_2 l0_3 t116 t117 t118 t119) = some r := by rw [if_neg (show ¬ (false = true) by decide)] at H; exact H
         clear H
         have H := H1
         clear H1
         have H' := Aside0.mk H
         clear H
         have hnb71 := NB122_109.out
         have hnc71 := NB109_122.out
         have hcz72_0 : w60.cell? ⟨gb122, 0, none⟩ = some (.string (⟨#[]⟩ : ByteArray)) := (blk_cell BK122.out 0).trans rfl
         have hcz72_1 : w60.cell? ⟨gb122, 1, none⟩ = some (.string (⟨#[]⟩ : ByteArray)) := (blk_cell BK122.out 1).trans rfl
         have hcz72_2 : w60.cell? ⟨gb122, 2, none⟩ = some (.int .i64 0) := (blk_cell BK122.out 2).trans rfl
         have hcz72_3 : w60.cell? ⟨gb122, 3, none⟩ = some (.slice none 0 0) := (blk_cell BK122.out 3).trans rfl
         have hfz72_0 := blk_frozen BK122.out 0
         have hfz72_1 := blk_frozen BK122.out 1
         have hfz72_2 := blk_frozen BK122.out 2
         have hfz72_3 := blk_frozen BK122.out 3
         go_wp2_with (first | ((with_reducible refine gate_callee (f := 31) rfl ?_); refine goesL_ (some 84) rfl rfl Try.func31 (by kernel_rfl) rfl #[.agg #[.string t116, .string t117, .int .i64 t118, .slice Ao63 t119.length co63]] rfl (by (try simp only [List.map_toArray, List.map_cons, List.map_nil]); first | done | rfl | (simp only [List.length_drop, List.length_take]; rfl)) ?_; (with_reducible refine (spec_l07Leaf.calls t116 t117 t118 _ _ t119 false _ ?side1 ?side2 A64.out).mono ?_); (case side1 => refine (Kd.V_reads' (e := 29) (base := w.heap.size) (ok := fun k_ => (k_ ≠ gb109 ∧ k_ ≠ gb122)) (n := t119.length) (c := co63) ?_).2.2; exact (by (with_reducible repeat (first | apply Kd.V_alloc | apply Kd.V_drewN | apply Kd.V_drew)); exact (Kd.V_mono (Kd.V_far (p := ⟨gb122, 3, none⟩) (Kd.V_far (p := ⟨gb122, 2, none⟩) (Kd.V_far (p := ⟨gb122, 1, none⟩) (Kd.V_far (p := ⟨gb122, 0, none⟩) (Kd.V_mono HO121.out (fun k_ hk => (⟨hk, hk.2⟩ : _ ∧ k_ ≠ gb122))) (fun _ hk => hk.2) (.string t116)) (fun _ hk => hk.2) (.string t117)) (fun _ hk => hk.2) (.int .i64 t118)) (fun _ hk => hk.2) (.slice Ao63 t119.length co63)) (fun _ h_ => h_.1)))); (case side2 => exact (Kd.V_reads' HO121.out).2.1); rintro e w73 ⟨rfl, hb⟩; refine ⟨_, rfl, ?_⟩; have n0_ := Aside0.mk (Kd.V_below (by (with_reducible repeat (first | apply Kd.V_alloc | apply Kd.V_drewN | apply Kd.V_drew)); exact (Kd.V_mono (Kd.V_far (p := ⟨gb122, 3, none⟩) (Kd.V_far (p := ⟨gb122, 2, none⟩) (Kd.V_far (p := ⟨gb122, 1, none⟩) (Kd.V_far (p := ⟨gb122, 0, none⟩) (Kd.V_mono HO121.out (fun k_ hk => (⟨hk, hk.2⟩ : _ ∧ k_ ≠ gb122))) (fun _ hk => hk.2) (.string t116)) (fun _ hk => hk.2) (.string t117)) (fun _ hk => hk.2) (.int .i64 t118)) (fun _ hk => hk.2) (.slice Ao63 t119.length co63)) (fun _ h_ => h_.1))) hb); have n1_ := Aside0.mk (blk_below (g := gb109) (o := .cells #[.string a0_0, .string a0_1, .int .i64 a0_2, .slice (some ad115) l0_3.length c0_3] 29 (0, 0)) (by (with_reducible repeat (first | refine blk_drewN ?_ _ | refine blk_drew ?_ | refine blk_alloc ?_ _)); refine blk_far ?_ NB109_122.out _; (with_reducible repeat (first | refine blk_drewN ?_ _ | refine blk_drew ?_ | refine blk_alloc ?_ _)); refine blk_far ?_ NB109_122.out _; (with_reducible repeat (first | refine blk_drewN ?_ _ | refine blk_drew ?_ | refine blk_alloc ?_ _)); refine blk_far ?_ NB109_122.out _; (with_reducible repeat (first | refine blk_drewN ?_ _ | refine blk_drew ?_ | refine blk_alloc ?_ _)); refine blk_far ?_ NB109_122.out _; (with_reducible repeat (first | refine blk_drewN ?_ _ | refine blk_drew ?_ | refine blk_alloc ?_ _)); exact BK109.out) hb); have n2_ := Aside0.mk (blk_below (g := gb122) (o := .cells #[.string t116, .string t117, .int .i64 t118, .slice Ao63 t119.length co63] 29 (0, 0)) (by (with_reducible repeat (first | refine blk_drewN ?_ _ | refine blk_drew ?_ | refine blk_alloc ?_ _)); refine blk_put (cs := #[.string t116, .string t117, .int .i64 t118, .slice none 0 0]) ?_ 3 _ rfl; (with_reducible repeat (first | refine blk_drewN ?_ _ | refine blk_drew ?_ | refine blk_alloc ?_ _)); refine blk_put (cs := #[.string t116, .string t117, .int .i64 0, .slice none 0 0]) ?_ 2 _ rfl; (with_reducible repeat (first | refine blk_drewN ?_ _ | refine blk_drew ?_ | refine blk_alloc ?_ _)); refine blk_put (cs := #[.string t116, .string (⟨#[]⟩ : ByteArray), .int .i64 0, .slice none 0 0]) ?_ 1 _ rfl; (with_reducible repeat (first | refine blk_drewN ?_ _ | refine blk_drew ?_ | refine blk_alloc ?_ _)); refine blk_put (cs := #[.string (⟨#[]⟩ : ByteArray), .string (⟨#[]⟩ : ByteArray), .int .i64 0, .slice none 0 0]) ?_ 0 _ rfl; (with_reducible repeat (first | refine blk_drewN ?_ _ | refine blk_drew ?_ | refine blk_alloc ?_ _)); exact BK122.out) hb); have n3_ := Aside0.mk (below_step (by repeat (first | (with_reducible first | exact HB.out | apply below_alloc | apply pw_below_drewN | apply below_drew1 | refine below_set ?_ GE109.out | refine below_set ?_ GE122.out) | exact HB.out)) hb); clear HO121; clear BK109; clear BK122; clear HB; have HO121 := n0_; have BK109 := n1_; have BK122 := n2_; have HB := n3_; clear n0_ n1_ n2_ n3_; (try clear hb); (try clear hb2); (try clear hk); (try clear hi)))
         go_meet
         case rel => exact ⟨_, (true), (by first | rfl | (simp; done) | (simp [*]; done)), H', ⟨by have := HJ41.out; first | omega | exact Nat.le_refl _⟩, ⟨by (with_reducible repeat (first | apply Kd.V_alloc | apply Kd.V_drewN | apply Kd.V_drew)); exact HO121.out⟩, ⟨by (with_reducible repeat (first | refine blk_drewN ?_ _ | refine blk_drew ?_ | refine blk_alloc ?_ _)); exact BK109.out⟩, ⟨by (with_reducible repeat (first | refine blk_drewN ?_ _ | refine blk_drew ?_ | refine blk_alloc ?_ _)); exact BK122.out⟩, ⟨by repeat (first | (with_reducible first | exact HB.out | apply below_alloc | apply pw_below_drewN | apply below_drew1 | refine below_set ?_ GE109.out | refine below_set ?_ GE122.out) | exact HB.out)⟩⟩
       case rest =>
        clear HC57
        try clear c1
        try clear p1
        try clear q1
        try clear hx1
        try clear qi1
        try clear c2
        try clear p2
        try clear c3
        try clear c4
        try clear c5
        try clear c5b0
        try clear c6
        try clear c7
        try clear c8
        try clear c10
        try clear c11
        try clear c11b0
        try clear c11b1
        try clear p11
        try clear q11
        try clear hx11
        try clear qi11
        try clear c16
        try clear c16b0
        try clear c16b1
        try clear c19
        try clear c19b0
        try clear c19b1
        try clear c20
        try clear c20b0
        try clear c20b1
        try clear c21
        try clear c21b0
        try clear c21b1
        try clear c31
        try clear c32
        try clear c46
        try clear c46b0
        try clear c46b1
        try clear c47
        try clear c47b0
        try clear c47b1
        try clear c48
        try clear c48b0
        try clear c48b1
        try clear c54
        try clear c55
        try clear c55b0
        try clear c55b1
        try clear c61
        try clear c65
        try clear c67
        try clear c71
        try clear hcz13_0
        try clear hcz13_1
        try clear hcz13_2
        try clear hcz13_3
        try clear hcz15_0
        try clear hcz15_1
        try clear hcz15_2
        try clear hcz15_3
        try clear hcz23_0
        try clear hcz23_1
        try clear hcz23_2
        try clear hcz23_3
        try clear hcz25_0
        try clear hcz25_1
        try clear hcz25_2
        try clear hcz25_3
        try clear hcz29_0
        try clear hcz29_1
        try clear hcz29_2
        try clear hcz29_3
        try clear hcz31_0
        try clear hcz31_1
        try clear hcz31_2
        try clear hcz31_3
        try clear hcz35_0
        try clear hcz35_1
        try clear hcz35_2
        try clear hcz35_3
        try clear hcz37_0
        try clear hcz37_1
        try clear hcz37_2
        try clear hcz37_3
        try clear hcz39_0
        try clear hcz39_1
        try clear hcz39_2
        try clear hcz39_3
        try clear hcz41_0
        try clear hcz41_1
        try clear hcz41_2
        try clear hcz41_3
        try clear hcz44_0
        try clear hcz44_1
        try clear hcz44_2
        try clear hcz44_3
        try clear hcz50_0
        try clear hcz50_1
        try clear hcz50_2
        try clear hcz50_3
        try clear hcz51_0
        try clear hcz51_1
        try clear hcz51_2
        try clear hcz51_3
        try clear hcz52_0
        try clear hcz52_1
        try clear hcz52_2
        try clear hcz52_3
        try clear hcz53_0
        try clear hcz53_1
        try clear hcz53_2
        try clear hcz53_3
        try clear hcz58_0
        try clear hcz58_1
        try clear hcz58_2
        try clear hcz58_3
        try clear hcz62_0
        try clear hcz62_1
        try clear hcz62_2
        try clear hcz62_3
        try clear hcz68_0
        try clear hcz68_1
        try clear hcz68_2
        try clear hcz68_3
        try clear hcz70_0
        try clear hcz70_1
        try clear hcz70_2
        try clear hcz70_3
        try clear hcz72_0
        try clear hcz72_1
        try clear hcz72_2
        try clear hcz72_3
        try clear hfz13_0
        try clear hfz13_1
        try clear hfz13_2
        try clear hfz13_3
        try clear hfz15_0
        try clear hfz15_1
        try clear hfz15_2
        try clear hfz15_3
        try clear hfz23_0
        try clear hfz23_1
        try clear hfz23_2
        try clear hfz23_3
        try clear hfz25_0
        try clear hfz25_1
        try clear hfz25_2
        try clear hfz25_3
        try clear hfz29_0
        try clear hfz29_1
        try clear hfz29_2
        try clear hfz29_3
        try clear hfz31_0
        try clear hfz31_1
        try clear hfz31_2
        try clear hfz31_3
        try clear hfz35_0
        try clear hfz35_1
        try clear hfz35_2
        try clear hfz35_3
        try clear hfz37_0
        try clear hfz37_1
        try clear hfz37_2
        try clear hfz37_3
        try clear hfz39_0
        try clear hfz39_1
        try clear hfz39_2
        try clear hfz39_3
        try clear hfz41_0
        try clear hfz41_1
        try clear hfz41_2
        try clear hfz41_3
        try clear hfz44_0
        try clear hfz44_1
        try clear hfz44_2
        try clear hfz44_3
        try clear hfz50_0
        try clear hfz50_1
        try clear hfz50_2
        try clear hfz50_3
        try clear hfz51_0
        try clear hfz51_1
        try clear hfz51_2
        try clear hfz51_3
        try clear hfz52_0
        try clear hfz52_1
        try clear hfz52_2
        try clear hfz52_3
        try clear hfz53_0
        try clear hfz53_1
        try clear hfz53_2
        try clear hfz53_3
        try clear hfz58_0
        try clear hfz58_1
        try clear hfz58_2
        try clear hfz58_3
        try clear hfz62_0
        try clear hfz62_1
        try clear hfz62_2
        try clear hfz62_3
        try clear hfz68_0
        try clear hfz68_1
        try clear hfz68_2
        try clear hfz68_3
        try clear hfz70_0
        try clear hfz70_1
        try clear hfz70_2
        try clear hfz70_3
        try clear hfz72_0
        try clear hfz72_1
        try clear hfz72_2
        try clear hfz72_3
        try clear hx115_0
        try clear hx115_1
        try clear hx115_2
        try clear hx115_3
        try clear p115
        try clear p2
        try clear q115
        obtain ⟨kq, x91_56, rfl, HA, HJ56, HO_123003, BK109, BK122, HB⟩ := hcut
        cases kq with
        | zero => exact absurd HA.out (by simp [spec_l07Count.j1])
        | succ kj56 =>
         have H := HA.out
         clear HA
         simp only [spec_l07Count.j1] at H
         by_cases c74 : x91_56 = true
         ·subst c74
          have H1 : (some (-1)) = some r := by rw [if_pos rfl] at H; exact H
          clear H
          have H := H1
          clear H1
          obtain rfl := Option.some.inj H
          go_wp2
          go_ret
          exact ⟨by first | rfl | (simp [errW_none, errW_some] <;> rfl) | (simp [*, errW_none, errW_some] <;> rfl), by repeat (first | (with_reducible first | exact HB.out | apply below_alloc | apply pw_below_drewN | apply below_drew1 | refine below_set ?_ GE109.out | refine below_set ?_ GE122.out) | exact HB.out)⟩
         ·replace c74 := Bool.eq_false_iff.mpr c74
          subst c74
          have H1 : ((spec_l07Hash.f t116).bind fun t125 => ((spec_l01Bits.f kj56 t125).bind fun t126 => (if 0 ≤ a0_2 then (if a0_2 ≤ (t126.size : Int) then (if (a2.size : Int) > ((t126.extract 0 (a0_2 : Int).toNat).size : Int) then (spec_l07Count.j2 kj56 a3 (t126.extract 0 (a0_2 : Int).toNat) true a0_0 a0_1 a0_2 l0_3) else (if 0 ≤ (a2.size : Int) then (if (a2.size : Int) ≤ ((t126.extract 0 (a0_2 : Int).toNat).size : Int) then (spec_l07Count.j2 kj56 a3 (t126.extract 0 (a0_2 : Int).toNat) (((t126.extract 0 (a0_2 : Int).toNat).extract 0 ((a2.size : Int) : Int).toNat).toList != a2.toList) a0_0 a0_1 a0_2 l0_3) else (none)) else (none))) else (none)) else (none)))) = some r := by rw [if_neg (show ¬ (false = true) by decide)] at H; exact H
          clear H
          have H := H1
          clear H1
          replace H := Option.bind_eq_some_iff.mp H
          obtain ⟨t125, A750, H⟩ := H
          replace H : ((spec_l01Bits.f kj56 t125).bind fun t126 => (if 0 ≤ a0_2 then (if a0_2 ≤ (t126.size : Int) then (if (a2.size : Int) > ((t126.extract 0 (a0_2 : Int).toNat).size : Int) then (spec_l07Count.j2 kj56 a3 (t126.extract 0 (a0_2 : Int).toNat) true a0_0 a0_1 a0_2 l0_3) else (if 0 ≤ (a2.size : Int) then (if (a2.size : Int) ≤ ((t126.extract 0 (a0_2 : Int).toNat).size : Int) then (spec_l07Count.j2 kj56 a3 (t126.extract 0 (a0_2 : Int).toNat) (((t126.extract 0 (a0_2 : Int).toNat).extract 0 ((a2.size : Int) : Int).toNat).toList != a2.toList) a0_0 a0_1 a0_2 l0_3) else (none)) else (none))) else (none)) else (none))) = some r := H
          have A75 := Aside0.mk A750
          clear A750
          replace H := Option.bind_eq_some_iff.mp H
          obtain ⟨t126, A760, H⟩ := H
          replace H : (if 0 ≤ a0_2 then (if a0_2 ≤ (t126.size : Int) then (if (a2.size : Int) > ((t126.extract 0 (a0_2 : Int).toNat).size : Int) then (spec_l07Count.j2 kj56 a3 (t126.extract 0 (a0_2 : Int).toNat) true a0_0 a0_1 a0_2 l0_3) else (if 0 ≤ (a2.size : Int) then (if (a2.size : Int) ≤ ((t126.extract 0 (a0_2 : Int).toNat).size : Int) then (spec_l07Count.j2 kj56 a3 (t126.extract 0 (a0_2 : Int).toNat) (((t126.extract 0 (a0_2 : Int).toNat).extract 0 ((a2.size : Int) : Int).toNat).toList != a2.toList) a0_0 a0_1 a0_2 l0_3) else (none)) else (none))) else (none)) else (none)) = some r := H
          have A76 := Aside0.mk A760
          clear A760
          by_cases c77 : 0 ≤ a0_2
          ·rw [if_pos c77] at H
           have c77b0 := eq_true c77
           have c77b1 : decide (0 ≤ a0_2) = true := decide_eq_true c77
           clear c77
           by_cases c78 : a0_2 ≤ (t126.size : Int)
           ·rw [if_pos c78] at H
            have c78b0 := eq_true c78
            have c78b1 : decide (a0_2 ≤ (t126.size : Int)) = true := decide_eq_true c78
            clear c78
            have HC79 := Aside0.mk H
            clear H
            try go_wp2
            have n0_ := Aside0.mk (Kd.V_drew HO_123003.out)
            have n1_ := Aside0.mk (blk_drew BK109.out)
            have n2_ := Aside0.mk (blk_drew BK122.out)
            have n3_ := Aside0.mk (below_drew1 HB.out)
            clear HO_123003
            clear BK109
            clear BK122
            clear HB
            have HO_123003 := n0_
            have BK109 := n1_
            have BK122 := n2_
            have HB := n3_
            clear n0_ n1_ n2_ n3_
            refine start_ (n := 8) (S := fun w' => w'.cell? ⟨gb122, 0, none⟩ = some (.string t116) ∧ w'.cell? ⟨gb122, 1, none⟩ = some (.string t117) ∧ w'.cell? ⟨gb122, 2, none⟩ = some (.int .i64 t118) ∧ w'.cell? ⟨gb122, 3, none⟩ = some (.slice Ao63 t119.length co63) ∧ w'.cell? ⟨gb109, 0, none⟩ = some (.string a0_0) ∧ w'.cell? ⟨gb109, 1, none⟩ = some (.string a0_1) ∧ w'.cell? ⟨gb109, 2, none⟩ = some (.int .i64 a0_2) ∧ w'.cell? ⟨gb109, 3, none⟩ = some (.slice (some ad115) l0_3.length c0_3)) (ds := []) #[false, false, false, false, false, false, false, false] (by kernel_rfl) rfl rfl ⟨(blk_cell BK122.out 0).trans rfl, (blk_cell BK122.out 1).trans rfl, (blk_cell BK122.out 2).trans rfl, (blk_cell BK122.out 3).trans rfl, (blk_cell BK109.out 0).trans rfl, (blk_cell BK109.out 1).trans rfl, (blk_cell BK109.out 2).trans rfl, (blk_cell BK109.out 3).trans rfl⟩ (fun hHeld => ?_); refine with_tabW spec_l07Count.tab16 spec_l07Count.bits16 (fun HT_ HW_ => ?_)
            generalize wc.drew = w80 at HO_123003 BK109 BK122 HB hHeld ⊢
            refine pure_ (i := 0) (N := some 92) (v := ?_) (a' := ?_) #[true, false, false, false, false, false, false, false] rfl rfl (any_of HT_.out (by kernel_rfl)) (fun _ _ _ h => h) (Or.inl ⟨by rfl, ?_⟩) ?_ ?_
            rotate_left
            ·intro w'
             go_simp
             with_reducible rfl
            rotate_left
            ·simp only [Act.put, List.setIfInBounds_toArray, List.set_cons_zero, List.set_cons_succ, i64_w, i32_w]
             rfl
            refine pure_ (i := 4) (N := some 96) (v := ?_) (a' := ?_) #[true, false, false, false, true, false, false, false] rfl rfl (any_of HT_.out (by kernel_rfl)) (fun _ _ _ h => h) (Or.inl ⟨by rfl, ?_⟩) ?_ ?_
            rotate_left
            ·intro w'
             go_simp
             with_reducible rfl
            rotate_left
            ·simp only [Act.put, List.setIfInBounds_toArray, List.set_cons_zero, List.set_cons_succ, i64_w, i32_w]
             rfl
            refine take_ (i := 1) (N := some 93) (v := ?_) (a' := ?_) #[true, true, false, false, true, false, false, false] rfl rfl (take_ofW HT_.out HW_.out (by kernel_rfl)) (fun _ _ _ h => h) (Or.inl ⟨by rfl, ?_⟩) hHeld ?_ ?_
            rotate_left
            ·rintro w' ⟨s0, s1, s2, s3, s4, s5, s6, s7⟩
             go_simp
             with_reducible rfl
            rotate_left
            ·simp only [Act.put, List.setIfInBounds_toArray, List.set_cons_zero, List.set_cons_succ, i64_w, i32_w]
             rfl
            refine take_ (i := 5) (N := some 97) (v := ?_) (a' := ?_) #[true, true, false, false, true, true, false, false] rfl rfl (take_ofW HT_.out HW_.out (by kernel_rfl)) (fun _ _ _ h => h) (Or.inl ⟨by rfl, ?_⟩) hHeld ?_ ?_
            rotate_left
            ·rintro w' ⟨s0, s1, s2, s3, s4, s5, s6, s7⟩
             go_simp
             with_reducible rfl
            rotate_left
            ·simp only [Act.put, List.setIfInBounds_toArray, List.set_cons_zero, List.set_cons_succ, i64_w, i32_w]
             rfl
            refine one_ (i := 2) (N := some 94) #[true, true, true, false, true, true, false, false] rfl rfl (one_of HT_.out (by kernel_rfl)) (by decide) (fun K hK => ?_)
            refine goes_ Try.func34 (by kernel_rfl) rfl #[.string t116] (by rfl) rfl rfl (by (try simp only [List.map_toArray, List.map_cons, List.map_nil]); first | done | rfl | (simp only [List.length_drop, List.length_take]; rfl)) ?_
            with_reducible refine (spec_l07Hash.calls t116 t125 _ A75.out).mono ?_
            rintro e w81 ⟨rfl, hb⟩
            refine ⟨_, rfl, ?_⟩
            have n0_ := Aside0.mk (Kd.V_below (by (with_reducible repeat (first | apply Kd.V_alloc | apply Kd.V_drewN | apply Kd.V_drew)); exact HO_123003.out) hb)
            have n1_ := Aside0.mk (blk_below (g := gb109) (o := .cells #[.string a0_0, .string a0_1, .int .i64 a0_2, .slice (some ad115) l0_3.length c0_3] 29 (0, 0)) (by (with_reducible repeat (first | refine blk_drewN ?_ _ | refine blk_drew ?_ | refine blk_alloc ?_ _)); exact BK109.out) hb)
            have n2_ := Aside0.mk (blk_below (g := gb122) (o := .cells #[.string t116, .string t117, .int .i64 t118, .slice Ao63 t119.length co63] 29 (0, 0)) (by (with_reducible repeat (first | refine blk_drewN ?_ _ | refine blk_drew ?_ | refine blk_alloc ?_ _)); exact BK122.out) hb)
            have n3_ := Aside0.mk (below_step (by repeat (first | (with_reducible first | exact HB.out | apply below_alloc | apply pw_below_drewN | apply below_drew1 | refine below_set ?_ GE109.out | refine below_set ?_ GE122.out) | exact HB.out)) hb)
            clear HO_123003
            clear BK109
            clear BK122
            clear HB
            have HO_123003 := n0_
            have BK109 := n1_
            have BK122 := n2_
            have HB := n3_
            clear n0_ n1_ n2_ n3_
            (try clear hb)
            (try clear hb2)
            (try clear hk)
            (try clear hi)
            refine hK.out _ _ ⟨(blk_cell BK122.out 0).trans rfl, (blk_cell BK122.out 1).trans rfl, (blk_cell BK122.out 2).trans rfl, (blk_cell BK122.out 3).trans rfl, (blk_cell BK109.out 0).trans rfl, (blk_cell BK109.out 1).trans rfl, (blk_cell BK109.out 2).trans rfl, (blk_cell BK109.out 3).trans rfl⟩ (fun hHeld => ?_)
            clear hK K
            refine norm_ (a' := ?_) ?_ ?_
            rotate_left
            ·show Act.put _ (some 94) _ = _
             simp only [Act.put, List.setIfInBounds_toArray, List.set_cons_zero, List.set_cons_succ, i64_w, i32_w]
             rfl
            refine one_ (i := 3) (N := some 95) #[true, true, true, true, true, true, false, false] rfl rfl (one_of HT_.out (by kernel_rfl)) (by decide) (fun K hK => ?_)
            refine goes_ Try.func33 (by kernel_rfl) rfl #[.string t125] (by rfl) rfl rfl (by (try simp only [List.map_toArray, List.map_cons, List.map_nil]); first | done | rfl | (simp only [List.length_drop, List.length_take]; rfl)) ?_
            with_reducible refine (spec_l01Bits.calls kj56 t125 t126 _ A76.out).mono ?_
            rintro e w82 ⟨rfl, hb⟩
            refine ⟨_, rfl, ?_⟩
            have n0_ := Aside0.mk (Kd.V_below (by (with_reducible repeat (first | apply Kd.V_alloc | apply Kd.V_drewN | apply Kd.V_drew)); exact HO_123003.out) hb)
            have n1_ := Aside0.mk (blk_below (g := gb109) (o := .cells #[.string a0_0, .string a0_1, .int .i64 a0_2, .slice (some ad115) l0_3.length c0_3] 29 (0, 0)) (by (with_reducible repeat (first | refine blk_drewN ?_ _ | refine blk_drew ?_ | refine blk_alloc ?_ _)); exact BK109.out) hb)
            have n2_ := Aside0.mk (blk_below (g := gb122) (o := .cells #[.string t116, .string t117, .int .i64 t118, .slice Ao63 t119.length co63] 29 (0, 0)) (by (with_reducible repeat (first | refine blk_drewN ?_ _ | refine blk_drew ?_ | refine blk_alloc ?_ _)); exact BK122.out) hb)
            have n3_ := Aside0.mk (below_step (by repeat (first | (with_reducible first | exact HB.out | apply below_alloc | apply pw_below_drewN | apply below_drew1 | refine below_set ?_ GE109.out | refine below_set ?_ GE122.out) | exact HB.out)) hb)
            clear HO_123003
            clear BK109
            clear BK122
            clear HB
            have HO_123003 := n0_
            have BK109 := n1_
            have BK122 := n2_
            have HB := n3_
            clear n0_ n1_ n2_ n3_
            (try clear hb)
            (try clear hb2)
            (try clear hk)
            (try clear hi)
            refine hK.out _ _ ⟨(blk_cell BK122.out 0).trans rfl, (blk_cell BK122.out 1).trans rfl, (blk_cell BK122.out 2).trans rfl, (blk_cell BK122.out 3).trans rfl, (blk_cell BK109.out 0).trans rfl, (blk_cell BK109.out 1).trans rfl, (blk_cell BK109.out 2).trans rfl, (blk_cell BK109.out 3).trans rfl⟩ (fun hHeld => ?_)
            clear hK K
            refine norm_ (a' := ?_) ?_ ?_
            rotate_left
            ·show Act.put _ (some 95) _ = _
             simp only [Act.put, List.setIfInBounds_toArray, List.set_cons_zero, List.set_cons_succ, i64_w, i32_w]
             rfl
            refine pure_ (i := 6) (N := some 98) (v := ?_) (a' := ?_) #[true, true, true, true, true, true, true, false] rfl rfl (any_of HT_.out (by kernel_rfl)) (fun _ _ _ h => h) (Or.inl ⟨by rfl, ?_⟩) ?_ ?_
            rotate_left
            ·intro w'
             go_simp
             with_reducible rfl
            rotate_left
            ·simp only [Act.put, List.setIfInBounds_toArray, List.set_cons_zero, List.set_cons_succ, i64_w, i32_w]
             rfl
            refine pure_ (i := 7) (N := some 11) (v := ?_) (a' := ?_) #[true, true, true, true, true, true, true, true] rfl rfl (any_of HT_.out (by kernel_rfl)) (fun _ _ _ h => h) (Or.inl ⟨by rfl, ?_⟩) ?_ ?_
            rotate_left
            ·intro w'
             go_simp
             with_reducible rfl
            rotate_left
            ·simp only [Act.put, List.setIfInBounds_toArray, List.set_cons_zero, List.set_cons_succ, i64_w, i32_w]
             rfl
            refine done_ (done_of HT_.out (by kernel_rfl)) ?_
            go_upto_region 17 with (fail)
            obtain ⟨xb, hxb⟩ : ∃ b, t126.extract 0 (a0_2 : Int).toNat = b := ⟨_, rfl⟩
            rw [hxb] at HC79 ⊢
            clear hxb
            go_cut [111] (fun v111 wc => ∃ (kq : Nat) (x111_78 : Bool), v111 = .bool x111_78 ∧ Aside0 (spec_l07Count.j2 kq a3 xb x111_78 a0_0 a0_1 a0_2 l0_3 = some r) ∧ Aside0 (kq ≤ kj56) ∧ Aside0 (Kd.V k29 29 wc w.heap.size (fun k_ => k_ ≠ gb109 ∧ k_ ≠ gb122) (.slice Ao63 t119.length co63) t119) ∧ Aside0 (wc.heap[gb109]? = some (.cells #[.string a0_0, .string a0_1, .int .i64 a0_2, (.slice (some ad115) l0_3.length c0_3)] 29 (0, 0))) ∧ Aside0 (wc.heap[gb122]? = some (.cells #[.string t116, .string t117, .int .i64 t118, (.slice Ao63 t119.length co63)] 29 (0, 0))) ∧ Aside0 (Below w.heap.size w wc))
            case first =>
             have H := HC79.out
             clear HC79
             by_cases c83 : (a2.size : Int) > (xb.size : Int)
             ·rw [if_pos c83] at H
              have c83b0 : decide ((xb.size : Int) < (a2.size : Int)) = true := decide_eq_true c83
              have c83b1 : decide (xb.size < a2.size) = true := decide_eq_true (Int.ofNat_lt.mp c83)
              clear c83
              (first | rw [c83b0] | (simp only [i64_w, i32_w]; rw [c83b0]) | skip)
              have H' := Aside0.mk H
              clear H
              go_wp2
              go_meet
              case rel => exact ⟨_, (true), (by first | rfl | (simp; done) | (simp [*]; done)), H', ⟨by have := HJ41.out; have := HJ56.out; first | omega | exact Nat.le_refl _⟩, ⟨by (with_reducible repeat (first | apply Kd.V_alloc | apply Kd.V_drewN | apply Kd.V_drew)); exact HO_123003.out⟩, ⟨by (with_reducible repeat (first | refine blk_drewN ?_ _ | refine blk_drew ?_ | refine blk_alloc ?_ _)); exact BK109.out⟩, ⟨by (with_reducible repeat (first | refine blk_drewN ?_ _ | refine blk_drew ?_ | refine blk_alloc ?_ _)); exact BK122.out⟩, ⟨by repeat (first | (with_reducible first | exact HB.out | apply below_alloc | apply pw_below_drewN | apply below_drew1 | refine below_set ?_ GE109.out | refine below_set ?_ GE122.out) | exact HB.out)⟩⟩
             ·rw [if_neg c83] at H
              have c83b0 : decide ((xb.size : Int) < (a2.size : Int)) = false := decide_eq_false c83
              have c83b1 : decide (xb.size < a2.size) = false := decide_eq_false (fun h => c83 (Int.ofNat_lt.mpr h))
              clear c83
              (first | rw [c83b0] | (simp only [i64_w, i32_w]; rw [c83b0]) | skip)
              by_cases c84 : 0 ≤ (a2.size : Int)
              ·rw [if_pos c84] at H
               have c84b0 := eq_true c84
               have c84b1 : decide (0 ≤ (a2.size : Int)) = true := decide_eq_true c84
               clear c84
               by_cases c85 : (a2.size : Int) ≤ (xb.size : Int)
               ·rw [if_pos c85] at H
                have c85b0 := eq_true c85
                have c85b1 : decide ((a2.size : Int) ≤ (xb.size : Int)) = true := decide_eq_true c85
                clear c85
                have H' := Aside0.mk H
                clear H
                go_wp2
                go_meet
                case rel => exact ⟨_, (((xb.extract 0 ((a2.size : Int) : Int).toNat).toList != a2.toList)), (by first | rfl | (simp; done) | (simp [*]; done)), H', ⟨by have := HJ41.out; have := HJ56.out; first | omega | exact Nat.le_refl _⟩, ⟨by (with_reducible repeat (first | apply Kd.V_alloc | apply Kd.V_drewN | apply Kd.V_drew)); exact HO_123003.out⟩, ⟨by (with_reducible repeat (first | refine blk_drewN ?_ _ | refine blk_drew ?_ | refine blk_alloc ?_ _)); exact BK109.out⟩, ⟨by (with_reducible repeat (first | refine blk_drewN ?_ _ | refine blk_drew ?_ | refine blk_alloc ?_ _)); exact BK122.out⟩, ⟨by repeat (first | (with_reducible first | exact HB.out | apply below_alloc | apply pw_below_drewN | apply below_drew1 | refine below_set ?_ GE109.out | refine below_set ?_ GE122.out) | exact HB.out)⟩⟩
               ·rw [if_neg c85] at H
                exact absurd H (by simp)
              ·rw [if_neg c84] at H
               exact absurd H (by simp)
            case rest =>
             clear HC79
             try clear c1
             try clear p1
             try clear q1
             try clear hx1
             try clear qi1
             try clear c2
             try clear p2
             try clear c3
             try clear c4
             try clear c5
             try clear c5b0
             try clear c6
             try clear c7
             try clear c8
             try clear c10
             try clear c11
             try clear c11b0
             try clear c11b1
             try clear p11
             try clear q11
             try clear hx11
             try clear qi11
             try clear c16
             try clear c16b0
             try clear c16b1
             try clear c19
             try clear c19b0
             try clear c19b1
             try clear c20
             try clear c20b0
             try clear c20b1
             try clear c21
             try clear c21b0
             try clear c21b1
             try clear c31
             try clear c32
             try clear c33
             try clear c34
             try clear c46
             try clear c46b0
             try clear c46b1
             try clear c47
             try clear c47b0
             try clear c47b1
             try clear c48
             try clear c48b0
             try clear c48b1
             try clear c54
             try clear c55
             try clear c55b0
             try clear c55b1
             try clear c61
             try clear c65
             try clear c67
             try clear c71
             try clear c74
             try clear c77
             try clear c77b0
             try clear c77b1
             try clear c78
             try clear c78b0
             try clear c78b1
             try clear c83
             try clear c83b0
             try clear c83b1
             try clear c84
             try clear c84b0
             try clear c84b1
             try clear c85
             try clear c85b0
             try clear c85b1
             try clear hcz13_0
             try clear hcz13_1
             try clear hcz13_2
             try clear hcz13_3
             try clear hcz15_0
             try clear hcz15_1
             try clear hcz15_2
             try clear hcz15_3
             try clear hcz23_0
             try clear hcz23_1
             try clear hcz23_2
             try clear hcz23_3
             try clear hcz25_0
             try clear hcz25_1
             try clear hcz25_2
             try clear hcz25_3
             try clear hcz29_0
             try clear hcz29_1
             try clear hcz29_2
             try clear hcz29_3
             try clear hcz31_0
             try clear hcz31_1
             try clear hcz31_2
             try clear hcz31_3
             try clear hcz35_0
             try clear hcz35_1
             try clear hcz35_2
             try clear hcz35_3
             try clear hcz37_0
             try clear hcz37_1
             try clear hcz37_2
             try clear hcz37_3
             try clear hcz39_0
             try clear hcz39_1
             try clear hcz39_2
             try clear hcz39_3
             try clear hcz41_0
             try clear hcz41_1
             try clear hcz41_2
             try clear hcz41_3
             try clear hcz44_0
             try clear hcz44_1
             try clear hcz44_2
             try clear hcz44_3
             try clear hcz50_0
             try clear hcz50_1
             try clear hcz50_2
             try clear hcz50_3
             try clear hcz51_0
             try clear hcz51_1
             try clear hcz51_2
             try clear hcz51_3
             try clear hcz52_0
             try clear hcz52_1
             try clear hcz52_2
             try clear hcz52_3
             try clear hcz53_0
             try clear hcz53_1
             try clear hcz53_2
             try clear hcz53_3
             try clear hcz58_0
             try clear hcz58_1
             try clear hcz58_2
             try clear hcz58_3
             try clear hcz62_0
             try clear hcz62_1
             try clear hcz62_2
             try clear hcz62_3
             try clear hcz68_0
             try clear hcz68_1
             try clear hcz68_2
             try clear hcz68_3
             try clear hcz70_0
             try clear hcz70_1
             try clear hcz70_2
             try clear hcz70_3
             try clear hcz72_0
             try clear hcz72_1
             try clear hcz72_2
             try clear hcz72_3
             try clear hfz13_0
             try clear hfz13_1
             try clear hfz13_2
             try clear hfz13_3
             try clear hfz15_0
             try clear hfz15_1
             try clear hfz15_2
             try clear hfz15_3
             try clear hfz23_0
             try clear hfz23_1
             try clear hfz23_2
             try clear hfz23_3
             try clear hfz25_0
             try clear hfz25_1
             try clear hfz25_2
             try clear hfz25_3
             try clear hfz29_0
             try clear hfz29_1
             try clear hfz29_2
             try clear hfz29_3
             try clear hfz31_0
             try clear hfz31_1
             try clear hfz31_2
             try clear hfz31_3
             try clear hfz35_0
             try clear hfz35_1
             try clear hfz35_2
             try clear hfz35_3
             try clear hfz37_0
             try clear hfz37_1
             try clear hfz37_2
             try clear hfz37_3
             try clear hfz39_0
             try clear hfz39_1
             try clear hfz39_2
             try clear hfz39_3
             try clear hfz41_0
             try clear hfz41_1
             try clear hfz41_2
             try clear hfz41_3
             try clear hfz44_0
             try clear hfz44_1
             try clear hfz44_2
             try clear hfz44_3
             try clear hfz50_0
             try clear hfz50_1
             try clear hfz50_2
             try clear hfz50_3
             try clear hfz51_0
             try clear hfz51_1
             try clear hfz51_2
             try clear hfz51_3
             try clear hfz52_0
             try clear hfz52_1
             try clear hfz52_2
             try clear hfz52_3
             try clear hfz53_0
             try clear hfz53_1
             try clear hfz53_2
             try clear hfz53_3
             try clear hfz58_0
             try clear hfz58_1
             try clear hfz58_2
             try clear hfz58_3
             try clear hfz62_0
             try clear hfz62_1
             try clear hfz62_2
             try clear hfz62_3
             try clear hfz68_0
             try clear hfz68_1
             try clear hfz68_2
             try clear hfz68_3
             try clear hfz70_0
             try clear hfz70_1
             try clear hfz70_2
             try clear hfz70_3
             try clear hfz72_0
             try clear hfz72_1
             try clear hfz72_2
             try clear hfz72_3
             try clear hx115_0
             try clear hx115_1
             try clear hx115_2
             try clear hx115_3
             try clear p1
             try clear p11
             try clear p115
             try clear p2
             try clear q1
             try clear q11
             try clear q115
             obtain ⟨kq, x111_78, rfl, HA, HJ78, HO_123003, BK109, BK122, HB⟩ := hcut
             cases kq with
             | zero => exact absurd HA.out (by simp [spec_l07Count.j2])
             | succ kj78 =>
              have H := HA.out
              clear HA
              simp only [spec_l07Count.j2] at H
              by_cases c86 : x111_78 = true
              ·subst c86
               have H1 : (some (-1)) = some r := by rw [if_pos rfl] at H; exact H
               clear H
               have H := H1
               clear H1
               obtain rfl := Option.some.inj H
               go_wp2
               go_ret
               exact ⟨by first | rfl | (simp [errW_none, errW_some] <;> rfl) | (simp [*, errW_none, errW_some] <;> rfl), by repeat (first | (with_reducible first | exact HB.out | apply below_alloc | apply pw_below_drewN | apply below_drew1 | refine below_set ?_ GE109.out | refine below_set ?_ GE122.out) | exact HB.out)⟩
              ·replace c86 := Bool.eq_false_iff.mpr c86
               subst c86
               have H1 : (spec_l07Count.l0 kj78 a3 xb 0 0 a0_0 a0_1 a0_2 l0_3) = some r := by rw [if_neg (show ¬ (false = true) by decide)] at H; exact H
               clear H
               have H := H1
               clear H1
               have H' := Aside0.mk H
               clear H
               go_wp2
               go_loopg [12, 13] kj78 (fun kq v12 v13 w' => ∃ (x12_4 : Int) (x13_4 : Int), v12 = .int .i64 x12_4 ∧ v13 = .int .i64 x13_4 ∧ Aside0 (spec_l07Count.l0 kq a3 xb x12_4 x13_4 a0_0 a0_1 a0_2 l0_3 = some r) ∧ Aside0 (kq ≤ kj78) ∧ Aside0 (Kd.V k29 29 w' w.heap.size (fun k_ => k_ ≠ gb109 ∧ k_ ≠ gb122) (.slice Ao63 t119.length co63) t119) ∧ Aside0 (w'.heap[gb109]? = some (.cells #[.string a0_0, .string a0_1, .int .i64 a0_2, (.slice (some ad115) l0_3.length c0_3)] 29 (0, 0))) ∧ Aside0 (w'.heap[gb122]? = some (.cells #[.string t116, .string t117, .int .i64 t118, (.slice Ao63 t119.length co63)] 29 (0, 0))) ∧ Aside0 (Below w.heap.size w w'))
               case atStart => exact ⟨(0), (0), (by first | rfl | (simp; done) | (simp [*]; done)), (by first | rfl | (simp; done) | (simp [*]; done)), H', ⟨Nat.le_refl _⟩, ⟨by (with_reducible repeat (first | apply Kd.V_alloc | apply Kd.V_drewN | apply Kd.V_drew)); exact HO_123003.out⟩, ⟨by (with_reducible repeat (first | refine blk_drewN ?_ _ | refine blk_drew ?_ | refine blk_alloc ?_ _)); exact BK109.out⟩, ⟨by (with_reducible repeat (first | refine blk_drewN ?_ _ | refine blk_drew ?_ | refine blk_alloc ?_ _)); exact BK122.out⟩, ⟨by repeat (first | (with_reducible first | exact HB.out | apply below_alloc | apply pw_below_drewN | apply below_drew1 | refine below_set ?_ GE109.out | refine below_set ?_ GE122.out) | exact HB.out)⟩⟩
               case round =>
                clear H'
                try clear c1
                try clear p1
                try clear q1
                try clear hx1
                try clear qi1
                try clear c2
                try clear p2
                try clear c3
                try clear c4
                try clear c5
                try clear c5b0
                try clear c6
                try clear c7
                try clear c8
                try clear c10
                try clear c11
                try clear c11b0
                try clear c11b1
                try clear p11
                try clear q11
                try clear hx11
                try clear qi11
                try clear c16
                try clear c16b0
                try clear c16b1
                try clear c19
                try clear c19b0
                try clear c19b1
                try clear c20
                try clear c20b0
                try clear c20b1
                try clear c21
                try clear c21b0
                try clear c21b1
                try clear c31
                try clear c32
                try clear c33
                try clear c34
                try clear c46
                try clear c46b0
                try clear c46b1
                try clear c47
                try clear c47b0
                try clear c47b1
                try clear c48
                try clear c48b0
                try clear c48b1
                try clear c54
                try clear c55
                try clear c55b0
                try clear c55b1
                try clear c61
                try clear c65
                try clear c67
                try clear c71
                try clear c74
                try clear c77
                try clear c77b0
                try clear c77b1
                try clear c78
                try clear c78b0
                try clear c78b1
                try clear c83
                try clear c83b0
                try clear c83b1
                try clear c84
                try clear c84b0
                try clear c84b1
                try clear c85
                try clear c85b0
                try clear c85b1
                try clear c86
                try clear hcz13_0
                try clear hcz13_1
                try clear hcz13_2
                try clear hcz13_3
                try clear hcz15_0
                try clear hcz15_1
                try clear hcz15_2
                try clear hcz15_3
                try clear hcz23_0
                try clear hcz23_1
                try clear hcz23_2
                try clear hcz23_3
                try clear hcz25_0
                try clear hcz25_1
                try clear hcz25_2
                try clear hcz25_3
                try clear hcz29_0
                try clear hcz29_1
                try clear hcz29_2
                try clear hcz29_3
                try clear hcz31_0
                try clear hcz31_1
                try clear hcz31_2
                try clear hcz31_3
                try clear hcz35_0
                try clear hcz35_1
                try clear hcz35_2
                try clear hcz35_3
                try clear hcz37_0
                try clear hcz37_1
                try clear hcz37_2
                try clear hcz37_3
                try clear hcz39_0
                try clear hcz39_1
                try clear hcz39_2
                try clear hcz39_3
                try clear hcz41_0
                try clear hcz41_1
                try clear hcz41_2
                try clear hcz41_3
                try clear hcz44_0
                try clear hcz44_1
                try clear hcz44_2
                try clear hcz44_3
                try clear hcz50_0
                try clear hcz50_1
                try clear hcz50_2
                try clear hcz50_3
                try clear hcz51_0
                try clear hcz51_1
                try clear hcz51_2
                try clear hcz51_3
                try clear hcz52_0
                try clear hcz52_1
                try clear hcz52_2
                try clear hcz52_3
                try clear hcz53_0
                try clear hcz53_1
                try clear hcz53_2
                try clear hcz53_3
                try clear hcz58_0
                try clear hcz58_1
                try clear hcz58_2
                try clear hcz58_3
                try clear hcz62_0
                try clear hcz62_1
                try clear hcz62_2
                try clear hcz62_3
                try clear hcz68_0
                try clear hcz68_1
                try clear hcz68_2
                try clear hcz68_3
                try clear hcz70_0
                try clear hcz70_1
                try clear hcz70_2
                try clear hcz70_3
                try clear hcz72_0
                try clear hcz72_1
                try clear hcz72_2
                try clear hcz72_3
                try clear hfz13_0
                try clear hfz13_1
                try clear hfz13_2
                try clear hfz13_3
                try clear hfz15_0
                try clear hfz15_1
                try clear hfz15_2
                try clear hfz15_3
                try clear hfz23_0
                try clear hfz23_1
                try clear hfz23_2
                try clear hfz23_3
                try clear hfz25_0
                try clear hfz25_1
                try clear hfz25_2
                try clear hfz25_3
                try clear hfz29_0
                try clear hfz29_1
                try clear hfz29_2
                try clear hfz29_3
                try clear hfz31_0
                try clear hfz31_1
                try clear hfz31_2
                try clear hfz31_3
                try clear hfz35_0
                try clear hfz35_1
                try clear hfz35_2
                try clear hfz35_3
                try clear hfz37_0
                try clear hfz37_1
                try clear hfz37_2
                try clear hfz37_3
                try clear hfz39_0
                try clear hfz39_1
                try clear hfz39_2
                try clear hfz39_3
                try clear hfz41_0
                try clear hfz41_1
                try clear hfz41_2
                try clear hfz41_3
                try clear hfz44_0
                try clear hfz44_1
                try clear hfz44_2
                try clear hfz44_3
                try clear hfz50_0
                try clear hfz50_1
                try clear hfz50_2
                try clear hfz50_3
                try clear hfz51_0
                try clear hfz51_1
                try clear hfz51_2
                try clear hfz51_3
                try clear hfz52_0
                try clear hfz52_1
                try clear hfz52_2
                try clear hfz52_3
                try clear hfz53_0
                try clear hfz53_1
                try clear hfz53_2
                try clear hfz53_3
                try clear hfz58_0
                try clear hfz58_1
                try clear hfz58_2
                try clear hfz58_3
                try clear hfz62_0
                try clear hfz62_1
                try clear hfz62_2
                try clear hfz62_3
                try clear hfz68_0
                try clear hfz68_1
                try clear hfz68_2
                try clear hfz68_3
                try clear hfz70_0
                try clear hfz70_1
                try clear hfz70_2
                try clear hfz70_3
                try clear hfz72_0
                try clear hfz72_1
                try clear hfz72_2
                try clear hfz72_3
                try clear hx115_0
                try clear hx115_1
                try clear hx115_2
                try clear hx115_3
                try clear p1
                try clear p11
                try clear p115
                try clear p2
                try clear q1
                try clear q11
                try clear q115
                obtain ⟨x12_4, x13_4, rfl, rfl, HA, HK4, HO_123003, BK109, BK122, HB⟩ := hrel
                cases gk with
                | zero => exact absurd HA.out (by simp [spec_l07Count.l0])
                | succ k4 =>
                 have H := HA.out
                 clear HA
                 simp only [spec_l07Count.l0] at H
                 by_cases c87 : x13_4 < 2
                 ·rw [if_pos c87] at H
                  have c87b0 : decide (x13_4 < 2) = true := decide_eq_true c87
                  clear c87
                  by_cases c88 : 0 ≤ x13_4
                  ·rw [if_pos c88] at H
                   have c88b0 : decide (0 ≤ x13_4) = true := decide_eq_true c88
                   clear c88
                   by_cases c89 : x13_4 < (l0_3.length : Int)
                   ·rw [if_pos c89] at H
                    have c89b0 : decide (x13_4 < (l0_3.length : Int)) = true := decide_eq_true c89
                    clear c89
                    obtain ⟨y128, hy128⟩ : ∃ y_ : List Int, y_ = (([(48 + ((x13_4) % 256)) % 256] : List Int)) := ⟨_, rfl⟩
                    replace H : (if xb.size + (strOfNums y128).size ≤ 9223372036854775807 then ((spec_l07Count.f k4 ((rd_T29 l0_3 x13_4).f0) ((rd_T29 l0_3 x13_4).f1) ((rd_T29 l0_3 x13_4).f2) ((rd_T29 l0_3 x13_4).f3) (wrap64 (a0_2 + 1)) (xb ++ (strOfNums y128)) (wrap64 (a3 - x12_4))).bind fun t131 => (if t131 < 0 then (some (-1)) else (spec_l07Count.l0 k4 a3 xb (wrap64 (x12_4 + t131)) (wrap64 (x13_4 + 1)) a0_0 a0_1 a0_2 l0_3))) else (none)) = some r := by first | (rw [hy128]; with_reducible exact H) | (have H2_ := (Option.bind_some _ _).symm.trans H; rw [hy128]; with_reducible exact H2_) | (have H2_ := (Option.bind_some _ _).symm.trans H; with_reducible exact H2_) | with_reducible exact H | (rw [hy128]; exact H) | exact H
                    have Ny128 := Aside0.mk hy128
                    clear hy128
                    by_cases c90 : xb.size + (strOfNums y128).size ≤ 9223372036854775807
                    ·rw [if_pos c90] at H
                     have c90b0 := eq_true c90
                     have c90b1 : decide (xb.size + (strOfNums y128).size ≤ 9223372036854775807) = true := decide_eq_true c90
                     try have c90b2 : (9223372036854775807 < xb.size + (strOfNums y128).size) = False := eq_false (Nat.not_lt.2 c90)
                     replace H := Option.bind_eq_some_iff.mp H
                     obtain ⟨t131, A910, H⟩ := H
                     replace H : (if t131 < 0 then (some (-1)) else (spec_l07Count.l0 k4 a3 xb (wrap64 (x12_4 + t131)) (wrap64 (x13_4 + 1)) a0_0 a0_1 a0_2 l0_3)) = some r := H
                     have A91 := Aside0.mk A910
                     clear A910
                     by_cases c92 : t131 < 0
                     ·rw [if_pos c92] at H
                      have c92b0 : decide (t131 < 0) = true := decide_eq_true c92
                      clear c92
                      obtain rfl := Option.some.inj H
                      try go_wp2
                      have n0_ := Aside0.mk (Kd.V_drew HO_123003.out)
                      have n1_ := Aside0.mk (blk_drew BK109.out)
                      have n2_ := Aside0.mk (blk_drew BK122.out)
                      have n3_ := Aside0.mk (below_drew1 HB.out)
                      clear HO_123003
                      clear BK109
                      clear BK122
                      clear HB
                      have HO_123003 := n0_
                      have BK109 := n1_
                      have BK122 := n2_
                      have HB := n3_
                      clear n0_ n1_ n2_ n3_
                      have p127 : 0 ≤ (x13_4 : Int) := of_decide_eq_true (by assumption)
                      have q127 : x13_4 < (l0_3.length : Int) := of_decide_eq_true (by assumption)
                      obtain ⟨ad127, A127_3, c127_3, e127, hx127_0, hx127_1, hx127_2, hx127_3, hl127_3, hi127_3⟩ := at_T29 HR0_3.out x13_4 p127 q127
                      have hw127_3 := hx127_3
                      have hw127_2 := hx127_2
                      have hw127_1 := hx127_1
                      have hw127_0 := hx127_0
                      obtain rfl : ad115 = ad127 := (by injection e127)
                      replace hx127_0 := (HB.out.cell (World.block_lt_of_cell? w _ hx127_0)).trans hx127_0
                      replace hx127_1 := (HB.out.cell (World.block_lt_of_cell? w _ hx127_1)).trans hx127_1
                      replace hx127_2 := (HB.out.cell (World.block_lt_of_cell? w _ hx127_2)).trans hx127_2
                      replace hx127_3 := (HB.out.cell (World.block_lt_of_cell? w _ hx127_3)).trans hx127_3
                      have HR127_3 := Aside0.mk hi127_3
                      have HC127_3 := Aside0.mk hl127_3
                      clear hi127_3 hl127_3
                      replace p127 := eq_true p127
                      replace q127 := eq_true q127
                      refine start_ (n := 20) (S := fun w' => w'.cell? ⟨gb109, 0, none⟩ = some (.string a0_0) ∧ w'.cell? ⟨gb109, 1, none⟩ = some (.string a0_1) ∧ w'.cell? ⟨gb109, 2, none⟩ = some (.int .i64 a0_2) ∧ w'.cell? ⟨gb109, 3, none⟩ = some (.slice (some ad115) l0_3.length c0_3) ∧ w'.cell? (ad115.add ((x13_4).toNat * 4)) = some (.string ((rd_T29 l0_3 x13_4).f0)) ∧ w'.cell? ⟨(ad115.add ((x13_4).toNat * 4)).block, (ad115.add ((x13_4).toNat * 4)).off + 1, none⟩ = some (.string ((rd_T29 l0_3 x13_4).f1)) ∧ w'.cell? ⟨(ad115.add ((x13_4).toNat * 4)).block, (ad115.add ((x13_4).toNat * 4)).off + 2, none⟩ = some (.int .i64 ((rd_T29 l0_3 x13_4).f2)) ∧ w'.cell? ⟨(ad115.add ((x13_4).toNat * 4)).block, (ad115.add ((x13_4).toNat * 4)).off + 3, none⟩ = some (.slice A127_3 ((rd_T29 l0_3 x13_4).f3).length c127_3)) (ds := []) #[false, false, false, false, false, false, false, false, false, false, false, false, false, false, false, false, false, false, false, false] (by kernel_rfl) rfl rfl ⟨(blk_cell BK109.out 0).trans rfl, (blk_cell BK109.out 1).trans rfl, (blk_cell BK109.out 2).trans rfl, (blk_cell BK109.out 3).trans rfl, ((HB.out.cell (World.block_lt_of_cell? w _ hw127_0)).trans hw127_0), ((HB.out.cell (World.block_lt_of_cell? w _ hw127_1)).trans hw127_1), ((HB.out.cell (World.block_lt_of_cell? w _ hw127_2)).trans hw127_2), ((HB.out.cell (World.block_lt_of_cell? w _ hw127_3)).trans hw127_3)⟩ (fun hHeld => ?_); refine with_tabW spec_l07Count.tab23 spec_l07Count.bits23 (fun HT_ HW_ => ?_)
                      generalize wr.drew = w93 at HO_123003 BK109 BK122 HB HR127_3 hx127_0 hx127_1 hx127_2 hx127_3 hHeld ⊢
                      refine pure_ (i := 0) (N := some 116) (v := ?_) (a' := ?_) #[true, false, false, false, false, false, false, false, false, false, false, false, false, false, false, false, false, false, false, false] rfl rfl (any_of HT_.out (by kernel_rfl)) (fun _ _ _ h => h) (Or.inl ⟨by rfl, ?_⟩) ?_ ?_
                      rotate_left
                      ·intro w'
                       go_simp
                       with_reducible rfl
                      rotate_left
                      ·simp only [Act.put, List.setIfInBounds_toArray, List.set_cons_zero, List.set_cons_succ, i64_w, i32_w]
                       rfl
                      refine pure_ (i := 2) (N := some 118) (v := ?_) (a' := ?_) #[true, false, true, false, false, false, false, false, false, false, false, false, false, false, false, false, false, false, false, false] rfl rfl (any_of HT_.out (by kernel_rfl)) (fun _ _ _ h => h) (Or.inl ⟨by rfl, ?_⟩) ?_ ?_
                      rotate_left
                      ·intro w'
                       go_simp
                       with_reducible rfl
                      rotate_left
                      ·simp only [Act.put, List.setIfInBounds_toArray, List.set_cons_zero, List.set_cons_succ, i64_w, i32_w]
                       rfl
                      refine pure_ (i := 5) (N := some 121) (v := ?_) (a' := ?_) #[true, false, true, false, false, true, false, false, false, false, false, false, false, false, false, false, false, false, false, false] rfl rfl (any_of HT_.out (by kernel_rfl)) (fun _ _ _ h => h) (Or.inl ⟨by rfl, ?_⟩) ?_ ?_
                      rotate_left
                      ·intro w'
                       go_simp
                       with_reducible rfl
                      rotate_left
                      ·simp only [Act.put, List.setIfInBounds_toArray, List.set_cons_zero, List.set_cons_succ, i64_w, i32_w]
                       rfl
                      refine pure_ (i := 8) (N := some 124) (v := ?_) (a' := ?_) #[true, false, true, false, false, true, false, false, true, false, false, false, false, false, false, false, false, false, false, false] rfl rfl (any_of HT_.out (by kernel_rfl)) (fun _ _ _ h => h) (Or.inl ⟨by rfl, ?_⟩) ?_ ?_
                      rotate_left
                      ·intro w'
                       go_simp
                       with_reducible rfl
                      rotate_left
                      ·simp only [Act.put, List.setIfInBounds_toArray, List.set_cons_zero, List.set_cons_succ, i64_w, i32_w]
                       rfl
                      refine pure_ (i := 9) (N := some 125) (v := ?_) (a' := ?_) #[true, false, true, false, false, true, false, false, true, true, false, false, false, false, false, false, false, false, false, false] rfl rfl (any_of HT_.out (by kernel_rfl)) (fun _ _ _ h => h) (Or.inl ⟨by rfl, ?_⟩) ?_ ?_
                      rotate_left
                      ·intro w'
                       go_simp
                       with_reducible rfl
                      rotate_left
                      ·simp only [Act.put, List.setIfInBounds_toArray, List.set_cons_zero, List.set_cons_succ, i64_w, i32_w]
                       rfl
                      refine pure_ (i := 10) (N := some 126) (v := ?_) (a' := ?_) #[true, false, true, false, false, true, false, false, true, true, true, false, false, false, false, false, false, false, false, false] rfl rfl (any_of HT_.out (by kernel_rfl)) (fun _ _ _ h => h) (Or.inl ⟨by rfl, ?_⟩) ?_ ?_
                      rotate_left
                      ·intro w'
                       go_simp
                       with_reducible rfl
                      rotate_left
                      ·simp only [Act.put, List.setIfInBounds_toArray, List.set_cons_zero, List.set_cons_succ, i64_w, i32_w]
                       rfl
                      refine pure_ (i := 11) (N := some 127) (v := ?_) (a' := ?_) #[true, false, true, false, false, true, false, false, true, true, true, true, false, false, false, false, false, false, false, false] rfl rfl (any_of HT_.out (by kernel_rfl)) (fun _ _ _ h => h) (Or.inl ⟨by rfl, ?_⟩) ?_ ?_
                      rotate_left
                      ·intro w'
                       go_simp
                       with_reducible rfl
                      rotate_left
                      ·simp only [Act.put, List.setIfInBounds_toArray, List.set_cons_zero, List.set_cons_succ, i64_w, i32_w]
                       rfl
                      refine pure_ (i := 15) (N := some 131) (v := ?_) (a' := ?_) #[true, false, true, false, false, true, false, false, true, true, true, true, false, false, false, true, false, false, false, false] rfl rfl (any_of HT_.out (by kernel_rfl)) (fun _ _ _ h => h) (Or.inl ⟨by rfl, ?_⟩) ?_ ?_
                      rotate_left
                      ·intro w'
                       go_simp
                       with_reducible rfl
                      rotate_left
                      ·simp only [Act.put, List.setIfInBounds_toArray, List.set_cons_zero, List.set_cons_succ, i64_w, i32_w]
                       rfl
                      refine pure_ (i := 16) (N := some 132) (v := ?_) (a' := ?_) #[true, false, true, false, false, true, false, false, true, true, true, true, false, false, false, true, true, false, false, false] rfl rfl (any_of HT_.out (by kernel_rfl)) (fun _ _ _ h => h) (Or.inl ⟨by rfl, ?_⟩) ?_ ?_
                      rotate_left
                      ·intro w'
                       go_simp
                       with_reducible rfl
                      rotate_left
                      ·simp only [Act.put, List.setIfInBounds_toArray, List.set_cons_zero, List.set_cons_succ, i64_w, i32_w]
                       rfl
                      refine pure_ (i := 17) (N := some 133) (v := ?_) (a' := ?_) #[true, false, true, false, false, true, false, false, true, true, true, true, false, false, false, true, true, true, false, false] rfl rfl (any_of HT_.out (by kernel_rfl)) (fun _ _ _ h => h) (Or.inl ⟨by rfl, ?_⟩) ?_ ?_
                      rotate_left
                      ·intro w'
                       go_simp
                       with_reducible rfl
                      rotate_left
                      ·simp only [Act.put, List.setIfInBounds_toArray, List.set_cons_zero, List.set_cons_succ, i64_w, i32_w]
                       rfl
                      refine take_ (i := 1) (N := some 117) (v := ?_) (a' := ?_) #[true, true, true, false, false, true, false, false, true, true, true, true, false, false, false, true, true, true, false, false] rfl rfl (take_ofW HT_.out HW_.out (by kernel_rfl)) (fun _ _ _ h => h) (Or.inl ⟨by rfl, ?_⟩) hHeld ?_ ?_
                      rotate_left
                      ·rintro w' ⟨s0, s1, s2, s3, s4, s5, s6, s7⟩
                       go_simp
                       with_reducible rfl
                      rotate_left
                      ·simp only [Act.put, List.setIfInBounds_toArray, List.set_cons_zero, List.set_cons_succ, i64_w, i32_w]
                       rfl
                      refine pure_ (i := 3) (N := some 119) (v := ?_) (a' := ?_) #[true, true, true, true, false, true, false, false, true, true, true, true, false, false, false, true, true, true, false, false] rfl rfl (any_of HT_.out (by kernel_rfl)) (fun _ _ _ h => h) (Or.inl ⟨by rfl, ?_⟩) ?_ ?_
                      rotate_left
                      ·intro w'
                       go_simp
                       with_reducible rfl
                      rotate_left
                      ·simp only [Act.put, List.setIfInBounds_toArray, List.set_cons_zero, List.set_cons_succ, i64_w, i32_w]
                       rfl
                      refine take_ (i := 4) (N := some 120) (v := ?_) (a' := ?_) #[true, true, true, true, true, true, false, false, true, true, true, true, false, false, false, true, true, true, false, false] rfl rfl (take_ofW HT_.out HW_.out (by kernel_rfl)) (fun _ _ _ h => h) (Or.inl ⟨by rfl, ?_⟩) hHeld ?_ ?_
                      rotate_left
                      ·rintro w' ⟨s0, s1, s2, s3, s4, s5, s6, s7⟩
                       go_simp
                       with_reducible rfl
                      rotate_left
                      ·simp only [Act.put, List.setIfInBounds_toArray, List.set_cons_zero, List.set_cons_succ, i64_w, i32_w]
                       rfl
                      refine take_ (i := 6) (N := some 122) (v := ?_) (a' := ?_) #[true, true, true, true, true, true, true, false, true, true, true, true, false, false, false, true, true, true, false, false] rfl rfl (take_ofW HT_.out HW_.out (by kernel_rfl)) (fun _ _ _ h => h) (Or.inl ⟨by rfl, ?_⟩) hHeld ?_ ?_
                      rotate_left
                      ·rintro w' ⟨s0, s1, s2, s3, s4, s5, s6, s7⟩
                       go_simp
                       with_reducible rfl
                      rotate_left
                      ·simp only [Act.put, List.setIfInBounds_toArray, List.set_cons_zero, List.set_cons_succ, i64_w, i32_w]
                       rfl
                      refine pure_ (i := 7) (N := some 123) (v := ?_) (a' := ?_) #[true, true, true, true, true, true, true, true, true, true, true, true, false, false, false, true, true, true, false, false] rfl rfl (any_of HT_.out (by kernel_rfl)) (fun _ _ _ h => h) (Or.inl ⟨by rfl, ?_⟩) ?_ ?_
                      rotate_left
                      ·intro w'
                       go_simp
                       with_reducible rfl
                      rotate_left
                      ·simp only [Act.put, List.setIfInBounds_toArray, List.set_cons_zero, List.set_cons_succ, i64_w, i32_w]
                       rfl
                      refine one_ (i := 12) (N := some 128) #[true, true, true, true, true, true, true, true, true, true, true, true, true, false, false, true, true, true, false, false] rfl rfl (one_of HT_.out (by kernel_rfl)) (by decide) (fun K hK => ?_)
                      refine Kd.R_lit_step (Kd.int .u8) _ 5 ?hg (N := 128) ?hd (xs := ([(48 + ((x13_4) % 256)) % 256] : List Int)) (inner := [.int .u8 ((48 + ((x13_4) % 256)) % 256)]) (ok := fun _ => True) (okp := fun _ => True) ?hr ?hp (fun _ hk => hk) trivial (Below.refl _ _) (Nat.le_refl _) (by simp) ?_; (case hd => rfl); (case hg => rfl); (case hr => first | (go_simp; done) | (go_simp; rw [spec_l07Count.u8b]; done) | (go_simp; rfl)); (case hp => exact (Reps.one (show Kd.M (Kd.int .u8) _ _ _ ((48 + ((x13_4) % 256)) % 256) [.int .u8 ((48 + ((x13_4) % 256)) % 256)] from rfl) (Reps.none _ _)))
                      intro v129 w94 ho95 hb hg_ hnew_
                      clear hg_ hnew_
                      (first | rw [← Ny128.out] at ho95 | (simp only [Int.reduceToNat] at ho95; rw [← Ny128.out] at ho95))
                      have n0_ := Aside0.mk (Kd.V_elder' (by (with_reducible repeat (first | apply Kd.V_alloc | apply Kd.V_drewN | apply Kd.V_drew)); exact HO_123003.out) (Kd.R_base ho95) hb)
                      have n1_ := Aside0.mk (Kd.R_lower ho95 (below_size (by repeat (first | (with_reducible first | exact HB.out | apply below_alloc | apply pw_below_drewN | apply below_drew1 | refine below_set ?_ GE109.out | refine below_set ?_ GE122.out) | exact HB.out))))
                      have n2_ := Aside0.mk (blk_below (g := gb109) (o := .cells #[.string a0_0, .string a0_1, .int .i64 a0_2, .slice (some ad115) l0_3.length c0_3] 29 (0, 0)) (by (with_reducible repeat (first | refine blk_drewN ?_ _ | refine blk_drew ?_ | refine blk_alloc ?_ _)); exact BK109.out) hb)
                      have n3_ := Aside0.mk (blk_below (g := gb122) (o := .cells #[.string t116, .string t117, .int .i64 t118, .slice Ao63 t119.length co63] 29 (0, 0)) (by (with_reducible repeat (first | refine blk_drewN ?_ _ | refine blk_drew ?_ | refine blk_alloc ?_ _)); exact BK122.out) hb)
                      have n4_ := Aside0.mk (below_step (by repeat (first | (with_reducible first | exact HB.out | apply below_alloc | apply pw_below_drewN | apply below_drew1 | refine below_set ?_ GE109.out | refine below_set ?_ GE122.out) | exact HB.out)) hb)
                      clear HO_123003
                      clear BK109
                      clear BK122
                      clear HB
                      have HO_123003 := n0_
                      have HO130 := n1_
                      have BK109 := n2_
                      have BK122 := n3_
                      have HB := n4_
                      clear n0_ n1_ n2_ n3_ n4_
                      clear hb ho95
                      refine hK.out _ _ ⟨(blk_cell BK109.out 0).trans rfl, (blk_cell BK109.out 1).trans rfl, (blk_cell BK109.out 2).trans rfl, (blk_cell BK109.out 3).trans rfl, ((HB.out.cell (World.block_lt_of_cell? w _ hw127_0)).trans hw127_0), ((HB.out.cell (World.block_lt_of_cell? w _ hw127_1)).trans hw127_1), ((HB.out.cell (World.block_lt_of_cell? w _ hw127_2)).trans hw127_2), ((HB.out.cell (World.block_lt_of_cell? w _ hw127_3)).trans hw127_3)⟩ (fun hHeld => ?_)
                      clear hK K
                      refine norm_ (a' := ?_) ?_ ?_
                      rotate_left
                      ·show Act.put _ (some 128) _ = _
                       simp only [Act.put, List.setIfInBounds_toArray, List.set_cons_zero, List.set_cons_succ, i64_w, i32_w]
                       rfl
                      refine one_ (i := 13) (N := some 129) #[true, true, true, true, true, true, true, true, true, true, true, true, true, true, false, true, true, true, false, false] rfl rfl (one_of HT_.out (by kernel_rfl)) (by decide) (fun K hK => ?_)
                      have hcv96 := own_string (P := Try.prog) Try.underlying60 Try.underlying5 Try.underlying9 (Kd.own_of_R HO130.out)
                      refine value_ (w1 := ?_) (v := ?_) (by rfl) rfl ?_ ?_
                      rotate_left 2
                      ·go_simp
                       constructor
                       ·rfl
                       ·rfl
                      clear hcv96
                      refine hK.out _ _ ⟨(blk_cell BK109.out 0).trans rfl, (blk_cell BK109.out 1).trans rfl, (blk_cell BK109.out 2).trans rfl, (blk_cell BK109.out 3).trans rfl, ((HB.out.cell (World.block_lt_of_cell? w _ hw127_0)).trans hw127_0), ((HB.out.cell (World.block_lt_of_cell? w _ hw127_1)).trans hw127_1), ((HB.out.cell (World.block_lt_of_cell? w _ hw127_2)).trans hw127_2), ((HB.out.cell (World.block_lt_of_cell? w _ hw127_3)).trans hw127_3)⟩ (fun hHeld => ?_)
                      clear hK K
                      refine norm_ (a' := ?_) ?_ ?_
                      rotate_left
                      ·show Act.put _ (some 129) _ = _
                       simp only [Act.put, List.setIfInBounds_toArray, List.set_cons_zero, List.set_cons_succ, i64_w, i32_w]
                       rfl
                      refine pure_ (i := 14) (N := some 130) (v := ?_) (a' := ?_) #[true, true, true, true, true, true, true, true, true, true, true, true, true, true, true, true, true, true, false, false] rfl rfl (any_of HT_.out (by kernel_rfl)) (fun _ _ _ h => h) (Or.inl ⟨by rfl, ?_⟩) ?_ ?_
                      rotate_left
                      ·intro w'
                       go_simp
                       with_reducible rfl
                      rotate_left
                      ·simp only [Act.put, List.setIfInBounds_toArray, List.set_cons_zero, List.set_cons_succ, i64_w, i32_w]
                       rfl
                      refine one_ (i := 18) (N := some 134) #[true, true, true, true, true, true, true, true, true, true, true, true, true, true, true, true, true, true, true, false] rfl rfl (one_of HT_.out (by kernel_rfl)) (by decide) (fun K hK => ?_)
                      refine goes_ Try.func21 (by kernel_rfl) rfl #[.agg #[.string ((rd_T29 l0_3 x13_4).f0), .string ((rd_T29 l0_3 x13_4).f1), .int .i64 ((rd_T29 l0_3 x13_4).f2), .slice A127_3 ((rd_T29 l0_3 x13_4).f3).length c127_3], .int .i64 (wrap64 (a0_2 + 1)), .string (xb ++ (strOfNums y128)), .int .i64 (wrap64 (a3 - x12_4))] (by rfl) rfl rfl (by (try simp only [List.map_toArray, List.map_cons, List.map_nil]); first | done | rfl | (simp only [List.length_drop, List.length_take]; rfl)) ?_
                      with_reducible refine (ih k4 (by have := HJ41.out; have := HJ56.out; have := HJ78.out; have := HK4.out; omega) ((rd_T29 l0_3 x13_4).f0) ((rd_T29 l0_3 x13_4).f1) ((rd_T29 l0_3 x13_4).f2) _ _ ((rd_T29 l0_3 x13_4).f3) (wrap64 (a0_2 + 1)) (xb ++ (strOfNums y128)) (wrap64 (a3 - x12_4)) t131 _ ?side1 ?side2 A91.out).mono ?_
                      (case side1 => repeat (first | exact (Kd.C_below HR127_3.out HB.out) | (with_reducible refine Kd.C_alloc ?_ _) | (with_reducible refine Kd.C_drewN ?_ _) | (with_reducible refine Kd.C_drew ?_)))
                      (case side2 => exact HC127_3.out)
                      rintro e w97 ⟨rfl, hb⟩
                      refine ⟨_, rfl, ?_⟩
                      have n0_ := Aside0.mk (Kd.V_below (by (with_reducible repeat (first | apply Kd.V_alloc | apply Kd.V_drewN | apply Kd.V_drew)); exact HO_123003.out) hb)
                      have n1_ := Aside0.mk (Kd.R_below (by (with_reducible repeat (first | apply Kd.R_alloc | apply Kd.R_drewN | apply Kd.R_drew)); exact HO130.out) hb)
                      have n2_ := Aside0.mk (blk_below (g := gb109) (o := .cells #[.string a0_0, .string a0_1, .int .i64 a0_2, .slice (some ad115) l0_3.length c0_3] 29 (0, 0)) (by (with_reducible repeat (first | refine blk_drewN ?_ _ | refine blk_drew ?_ | refine blk_alloc ?_ _)); exact BK109.out) hb)
                      have n3_ := Aside0.mk (blk_below (g := gb122) (o := .cells #[.string t116, .string t117, .int .i64 t118, .slice Ao63 t119.length co63] 29 (0, 0)) (by (with_reducible repeat (first | refine blk_drewN ?_ _ | refine blk_drew ?_ | refine blk_alloc ?_ _)); exact BK122.out) hb)
                      have n4_ := Aside0.mk (below_step (by repeat (first | (with_reducible first | exact HB.out | apply below_alloc | apply pw_below_drewN | apply below_drew1 | refine below_set ?_ GE109.out | refine below_set ?_ GE122.out) | exact HB.out)) hb)
                      clear HO_123003
                      clear HO130
                      clear BK109
                      clear BK122
                      clear HB
                      have HO_123003 := n0_
                      have HO130 := n1_
                      have BK109 := n2_
                      have BK122 := n3_
                      have HB := n4_
                      clear n0_ n1_ n2_ n3_ n4_
                      (try clear hb)
                      (try clear hb2)
                      (try clear hk)
                      (try clear hi)
                      refine hK.out _ _ ⟨(blk_cell BK109.out 0).trans rfl, (blk_cell BK109.out 1).trans rfl, (blk_cell BK109.out 2).trans rfl, (blk_cell BK109.out 3).trans rfl, ((HB.out.cell (World.block_lt_of_cell? w _ hw127_0)).trans hw127_0), ((HB.out.cell (World.block_lt_of_cell? w _ hw127_1)).trans hw127_1), ((HB.out.cell (World.block_lt_of_cell? w _ hw127_2)).trans hw127_2), ((HB.out.cell (World.block_lt_of_cell? w _ hw127_3)).trans hw127_3)⟩ (fun hHeld => ?_)
                      clear hK K
                      refine norm_ (a' := ?_) ?_ ?_
                      rotate_left
                      ·show Act.put _ (some 134) _ = _
                       simp only [Act.put, List.setIfInBounds_toArray, List.set_cons_zero, List.set_cons_succ, i64_w, i32_w]
                       rfl
                      refine pure_ (i := 19) (N := some 14) (v := ?_) (a' := ?_) #[true, true, true, true, true, true, true, true, true, true, true, true, true, true, true, true, true, true, true, true] rfl rfl (any_of HT_.out (by kernel_rfl)) (fun _ _ _ h => h) (Or.inl ⟨by rfl, ?_⟩) ?_ ?_
                      rotate_left
                      ·intro w'
                       go_simp
                       with_reducible rfl
                      rotate_left
                      ·simp only [Act.put, List.setIfInBounds_toArray, List.set_cons_zero, List.set_cons_succ, i64_w, i32_w]
                       rfl
                      refine done_ (done_of HT_.out (by kernel_rfl)) ?_
                      try go_wp2
                      go_ret
                      exact ⟨by first | rfl | (simp [errW_none, errW_some] <;> rfl) | (simp [*, errW_none, errW_some] <;> rfl), by repeat (first | (with_reducible first | exact HB.out | apply below_alloc | apply pw_below_drewN | apply below_drew1 | refine below_set ?_ GE109.out | refine below_set ?_ GE122.out) | exact HB.out)⟩
                     ·rw [if_neg c92] at H
                      have c92b0 : decide (t131 < 0) = false := decide_eq_false c92
                      clear c92
                      have H' := Aside0.mk H
                      clear H
                      try go_wp2
                      have n0_ := Aside0.mk (Kd.V_drew HO_123003.out)
                      have n1_ := Aside0.mk (blk_drew BK109.out)
                      have n2_ := Aside0.mk (blk_drew BK122.out)
                      have n3_ := Aside0.mk (below_drew1 HB.out)
                      clear HO_123003
                      clear BK109
                      clear BK122
                      clear HB
                      have HO_123003 := n0_
                      have BK109 := n1_
                      have BK122 := n2_
                      have HB := n3_
                      clear n0_ n1_ n2_ n3_
                      have p127 : 0 ≤ (x13_4 : Int) := of_decide_eq_true (by assumption)
                      have q127 : x13_4 < (l0_3.length : Int) := of_decide_eq_true (by assumption)
                      obtain ⟨ad127, A127_3, c127_3, e127, hx127_0, hx127_1, hx127_2, hx127_3, hl127_3, hi127_3⟩ := at_T29 HR0_3.out x13_4 p127 q127
                      have hw127_3 := hx127_3
                      have hw127_2 := hx127_2
                      have hw127_1 := hx127_1
                      have hw127_0 := hx127_0
                      obtain rfl : ad115 = ad127 := (by injection e127)
                      replace hx127_0 := (HB.out.cell (World.block_lt_of_cell? w _ hx127_0)).trans hx127_0
                      replace hx127_1 := (HB.out.cell (World.block_lt_of_cell? w _ hx127_1)).trans hx127_1
                      replace hx127_2 := (HB.out.cell (World.block_lt_of_cell? w _ hx127_2)).trans hx127_2
                      replace hx127_3 := (HB.out.cell (World.block_lt_of_cell? w _ hx127_3)).trans hx127_3
                      have HR127_3 := Aside0.mk hi127_3
                      have HC127_3 := Aside0.mk hl127_3
                      clear hi127_3 hl127_3
                      replace p127 := eq_true p127
                      replace q127 := eq_true q127
                      refine start_ (n := 20) (S := fun w' => w'.cell? ⟨gb109, 0, none⟩ = some (.string a0_0) ∧ w'.cell? ⟨gb109, 1, none⟩ = some (.string a0_1) ∧ w'.cell? ⟨gb109, 2, none⟩ = some (.int .i64 a0_2) ∧ w'.cell? ⟨gb109, 3, none⟩ = some (.slice (some ad115) l0_3.length c0_3) ∧ w'.cell? (ad115.add ((x13_4).toNat * 4)) = some (.string ((rd_T29 l0_3 x13_4).f0)) ∧ w'.cell? ⟨(ad115.add ((x13_4).toNat * 4)).block, (ad115.add ((x13_4).toNat * 4)).off + 1, none⟩ = some (.string ((rd_T29 l0_3 x13_4).f1)) ∧ w'.cell? ⟨(ad115.add ((x13_4).toNat * 4)).block, (ad115.add ((x13_4).toNat * 4)).off + 2, none⟩ = some (.int .i64 ((rd_T29 l0_3 x13_4).f2)) ∧ w'.cell? ⟨(ad115.add ((x13_4).toNat * 4)).block, (ad115.add ((x13_4).toNat * 4)).off + 3, none⟩ = some (.slice A127_3 ((rd_T29 l0_3 x13_4).f3).length c127_3)) (ds := []) #[false, false, false, false, false, false, false, false, false, false, false, false, false, false, false, false, false, false, false, false] (by kernel_rfl) rfl rfl ⟨(blk_cell BK109.out 0).trans rfl, (blk_cell BK109.out 1).trans rfl, (blk_cell BK109.out 2).trans rfl, (blk_cell BK109.out 3).trans rfl, ((HB.out.cell (World.block_lt_of_cell? w _ hw127_0)).trans hw127_0), ((HB.out.cell (World.block_lt_of_cell? w _ hw127_1)).trans hw127_1), ((HB.out.cell (World.block_lt_of_cell? w _ hw127_2)).trans hw127_2), ((HB.out.cell (World.block_lt_of_cell? w _ hw127_3)).trans hw127_3)⟩ (fun hHeld => ?_); refine with_tabW spec_l07Count.tab23 spec_l07Count.bits23 (fun HT_ HW_ => ?_)
                      generalize wr.drew = w98 at HO_123003 BK109 BK122 HB HR127_3 hx127_0 hx127_1 hx127_2 hx127_3 hHeld ⊢
                      refine pure_ (i := 0) (N := some 116) (v := ?_) (a' := ?_) #[true, false, false, false, false, false, false, false, false, false, false, false, false, false, false, false, false, false, false, false] rfl rfl (any_of HT_.out (by kernel_rfl)) (fun _ _ _ h => h) (Or.inl ⟨by rfl, ?_⟩) ?_ ?_
                      rotate_left
                      ·intro w'
                       go_simp
                       with_reducible rfl
                      rotate_left
                      ·simp only [Act.put, List.setIfInBounds_toArray, List.set_cons_zero, List.set_cons_succ, i64_w, i32_w]
                       rfl
                      refine pure_ (i := 2) (N := some 118) (v := ?_) (a' := ?_) #[true, false, true, false, false, false, false, false, false, false, false, false, false, false, false, false, false, false, false, false] rfl rfl (any_of HT_.out (by kernel_rfl)) (fun _ _ _ h => h) (Or.inl ⟨by rfl, ?_⟩) ?_ ?_
                      rotate_left
                      ·intro w'
                       go_simp
                       with_reducible rfl
                      rotate_left
                      ·simp only [Act.put, List.setIfInBounds_toArray, List.set_cons_zero, List.set_cons_succ, i64_w, i32_w]
                       rfl
                      refine pure_ (i := 5) (N := some 121) (v := ?_) (a' := ?_) #[true, false, true, false, false, true, false, false, false, false, false, false, false, false, false, false, false, false, false, false] rfl rfl (any_of HT_.out (by kernel_rfl)) (fun _ _ _ h => h) (Or.inl ⟨by rfl, ?_⟩) ?_ ?_
                      rotate_left
                      ·intro w'
                       go_simp
                       with_reducible rfl
                      rotate_left
                      ·simp only [Act.put, List.setIfInBounds_toArray, List.set_cons_zero, List.set_cons_succ, i64_w, i32_w]
                       rfl
                      refine pure_ (i := 8) (N := some 124) (v := ?_) (a' := ?_) #[true, false, true, false, false, true, false, false, true, false, false, false, false, false, false, false, false, false, false, false] rfl rfl (any_of HT_.out (by kernel_rfl)) (fun _ _ _ h => h) (Or.inl ⟨by rfl, ?_⟩) ?_ ?_
                      rotate_left
                      ·intro w'
                       go_simp
                       with_reducible rfl
                      rotate_left
                      ·simp only [Act.put, List.setIfInBounds_toArray, List.set_cons_zero, List.set_cons_succ, i64_w, i32_w]
                       rfl
                      refine pure_ (i := 9) (N := some 125) (v := ?_) (a' := ?_) #[true, false, true, false, false, true, false, false, true, true, false, false, false, false, false, false, false, false, false, false] rfl rfl (any_of HT_.out (by kernel_rfl)) (fun _ _ _ h => h) (Or.inl ⟨by rfl, ?_⟩) ?_ ?_
                      rotate_left
                      ·intro w'
                       go_simp
                       with_reducible rfl
                      rotate_left
                      ·simp only [Act.put, List.setIfInBounds_toArray, List.set_cons_zero, List.set_cons_succ, i64_w, i32_w]
                       rfl
                      refine pure_ (i := 10) (N := some 126) (v := ?_) (a' := ?_) #[true, false, true, false, false, true, false, false, true, true, true, false, false, false, false, false, false, false, false, false] rfl rfl (any_of HT_.out (by kernel_rfl)) (fun _ _ _ h => h) (Or.inl ⟨by rfl, ?_⟩) ?_ ?_
                      rotate_left
                      ·intro w'
                       go_simp
                       with_reducible rfl
                      rotate_left
                      ·simp only [Act.put, List.setIfInBounds_toArray, List.set_cons_zero, List.set_cons_succ, i64_w, i32_w]
                       rfl
                      refine pure_ (i := 11) (N := some 127) (v := ?_) (a' := ?_) #[true, false, true, false, false, true, false, false, true, true, true, true, false, false, false, false, false, false, false, false] rfl rfl (any_of HT_.out (by kernel_rfl)) (fun _ _ _ h => h) (Or.inl ⟨by rfl, ?_⟩) ?_ ?_
                      rotate_left
                      ·intro w'
                       go_simp
                       with_reducible rfl
                      rotate_left
                      ·simp only [Act.put, List.setIfInBounds_toArray, List.set_cons_zero, List.set_cons_succ, i64_w, i32_w]
                       rfl
                      refine pure_ (i := 15) (N := some 131) (v := ?_) (a' := ?_) #[true, false, true, false, false, true, false, false, true, true, true, true, false, false, false, true, false, false, false, false] rfl rfl (any_of HT_.out (by kernel_rfl)) (fun _ _ _ h => h) (Or.inl ⟨by rfl, ?_⟩) ?_ ?_
                      rotate_left
                      ·intro w'
                       go_simp
                       with_reducible rfl
                      rotate_left
                      ·simp only [Act.put, List.setIfInBounds_toArray, List.set_cons_zero, List.set_cons_succ, i64_w, i32_w]
                       rfl
                      refine pure_ (i := 16) (N := some 132) (v := ?_) (a' := ?_) #[true, false, true, false, false, true, false, false, true, true, true, true, false, false, false, true, true, false, false, false] rfl rfl (any_of HT_.out (by kernel_rfl)) (fun _ _ _ h => h) (Or.inl ⟨by rfl, ?_⟩) ?_ ?_
                      rotate_left
                      ·intro w'
                       go_simp
                       with_reducible rfl
                      rotate_left
                      ·simp only [Act.put, List.setIfInBounds_toArray, List.set_cons_zero, List.set_cons_succ, i64_w, i32_w]
                       rfl
                      refine pure_ (i := 17) (N := some 133) (v := ?_) (a' := ?_) #[true, false, true, false, false, true, false, false, true, true, true, true, false, false, false, true, true, true, false, false] rfl rfl (any_of HT_.out (by kernel_rfl)) (fun _ _ _ h => h) (Or.inl ⟨by rfl, ?_⟩) ?_ ?_
                      rotate_left
                      ·intro w'
                       go_simp
                       with_reducible rfl
                      rotate_left
                      ·simp only [Act.put, List.setIfInBounds_toArray, List.set_cons_zero, List.set_cons_succ, i64_w, i32_w]
                       rfl
                      refine take_ (i := 1) (N := some 117) (v := ?_) (a' := ?_) #[true, true, true, false, false, true, false, false, true, true, true, true, false, false, false, true, true, true, false, false] rfl rfl (take_ofW HT_.out HW_.out (by kernel_rfl)) (fun _ _ _ h => h) (Or.inl ⟨by rfl, ?_⟩) hHeld ?_ ?_
                      rotate_left
                      ·rintro w' ⟨s0, s1, s2, s3, s4, s5, s6, s7⟩
                       go_simp
                       with_reducible rfl
                      rotate_left
                      ·simp only [Act.put, List.setIfInBounds_toArray, List.set_cons_zero, List.set_cons_succ, i64_w, i32_w]
                       rfl
                      refine pure_ (i := 3) (N := some 119) (v := ?_) (a' := ?_) #[true, true, true, true, false, true, false, false, true, true, true, true, false, false, false, true, true, true, false, false] rfl rfl (any_of HT_.out (by kernel_rfl)) (fun _ _ _ h => h) (Or.inl ⟨by rfl, ?_⟩) ?_ ?_
                      rotate_left
                      ·intro w'
                       go_simp
                       with_reducible rfl
                      rotate_left
                      ·simp only [Act.put, List.setIfInBounds_toArray, List.set_cons_zero, List.set_cons_succ, i64_w, i32_w]
                       rfl
                      refine take_ (i := 4) (N := some 120) (v := ?_) (a' := ?_) #[true, true, true, true, true, true, false, false, true, true, true, true, false, false, false, true, true, true, false, false] rfl rfl (take_ofW HT_.out HW_.out (by kernel_rfl)) (fun _ _ _ h => h) (Or.inl ⟨by rfl, ?_⟩) hHeld ?_ ?_
                      rotate_left
                      ·rintro w' ⟨s0, s1, s2, s3, s4, s5, s6, s7⟩
                       go_simp
                       with_reducible rfl
                      rotate_left
                      ·simp only [Act.put, List.setIfInBounds_toArray, List.set_cons_zero, List.set_cons_succ, i64_w, i32_w]
                       rfl
                      refine take_ (i := 6) (N := some 122) (v := ?_) (a' := ?_) #[true, true, true, true, true, true, true, false, true, true, true, true, false, false, false, true, true, true, false, false] rfl rfl (take_ofW HT_.out HW_.out (by kernel_rfl)) (fun _ _ _ h => h) (Or.inl ⟨by rfl, ?_⟩) hHeld ?_ ?_
                      rotate_left
                      ·rintro w' ⟨s0, s1, s2, s3, s4, s5, s6, s7⟩
                       go_simp
                       with_reducible rfl
                      rotate_left
                      ·simp only [Act.put, List.setIfInBounds_toArray, List.set_cons_zero, List.set_cons_succ, i64_w, i32_w]
                       rfl
                      refine pure_ (i := 7) (N := some 123) (v := ?_) (a' := ?_) #[true, true, true, true, true, true, true, true, true, true, true, true, false, false, false, true, true, true, false, false] rfl rfl (any_of HT_.out (by kernel_rfl)) (fun _ _ _ h => h) (Or.inl ⟨by rfl, ?_⟩) ?_ ?_
                      rotate_left
                      ·intro w'
                       go_simp
                       with_reducible rfl
                      rotate_left
                      ·simp only [Act.put, List.setIfInBounds_toArray, List.set_cons_zero, List.set_cons_succ, i64_w, i32_w]
                       rfl
                      refine one_ (i := 12) (N := some 128) #[true, true, true, true, true, true, true, true, true, true, true, true, true, false, false, true, true, true, false, false] rfl rfl (one_of HT_.out (by kernel_rfl)) (by decide) (fun K hK => ?_)
                      refine Kd.R_lit_step (Kd.int .u8) _ 5 ?hg (N := 128) ?hd (xs := ([(48 + ((x13_4) % 256)) % 256] : List Int)) (inner := [.int .u8 ((48 + ((x13_4) % 256)) % 256)]) (ok := fun _ => True) (okp := fun _ => True) ?hr ?hp (fun _ hk => hk) trivial (Below.refl _ _) (Nat.le_refl _) (by simp) ?_; (case hd => rfl); (case hg => rfl); (case hr => first | (go_simp; done) | (go_simp; rw [spec_l07Count.u8b]; done) | (go_simp; rfl)); (case hp => exact (Reps.one (show Kd.M (Kd.int .u8) _ _ _ ((48 + ((x13_4) % 256)) % 256) [.int .u8 ((48 + ((x13_4) % 256)) % 256)] from rfl) (Reps.none _ _)))
                      intro v129 w99 ho100 hb hg_ hnew_
                      clear hg_ hnew_
                      (first | rw [← Ny128.out] at ho100 | (simp only [Int.reduceToNat] at ho100; rw [← Ny128.out] at ho100))
                      have n0_ := Aside0.mk (Kd.V_elder' (by (with_reducible repeat (first | apply Kd.V_alloc | apply Kd.V_drewN | apply Kd.V_drew)); exact HO_123003.out) (Kd.R_base ho100) hb)
                      have n1_ := Aside0.mk (Kd.R_lower ho100 (below_size (by repeat (first | (with_reducible first | exact HB.out | apply below_alloc | apply pw_below_drewN | apply below_drew1 | refine below_set ?_ GE109.out | refine below_set ?_ GE122.out) | exact HB.out))))
                      have n2_ := Aside0.mk (blk_below (g := gb109) (o := .cells #[.string a0_0, .string a0_1, .int .i64 a0_2, .slice (some ad115) l0_3.length c0_3] 29 (0, 0)) (by (with_reducible repeat (first | refine blk_drewN ?_ _ | refine blk_drew ?_ | refine blk_alloc ?_ _)); exact BK109.out) hb)
                      have n3_ := Aside0.mk (blk_below (g := gb122) (o := .cells #[.string t116, .string t117, .int .i64 t118, .slice Ao63 t119.length co63] 29 (0, 0)) (by (with_reducible repeat (first | refine blk_drewN ?_ _ | refine blk_drew ?_ | refine blk_alloc ?_ _)); exact BK122.out) hb)
                      have n4_ := Aside0.mk (below_step (by repeat (first | (with_reducible first | exact HB.out | apply below_alloc | apply pw_below_drewN | apply below_drew1 | refine below_set ?_ GE109.out | refine below_set ?_ GE122.out) | exact HB.out)) hb)
                      clear HO_123003
                      clear BK109
                      clear BK122
                      clear HB
                      have HO_123003 := n0_
                      have HO130 := n1_
                      have BK109 := n2_
                      have BK122 := n3_
                      have HB := n4_
                      clear n0_ n1_ n2_ n3_ n4_
                      clear hb ho100
                      refine hK.out _ _ ⟨(blk_cell BK109.out 0).trans rfl, (blk_cell BK109.out 1).trans rfl, (blk_cell BK109.out 2).trans rfl, (blk_cell BK109.out 3).trans rfl, ((HB.out.cell (World.block_lt_of_cell? w _ hw127_0)).trans hw127_0), ((HB.out.cell (World.block_lt_of_cell? w _ hw127_1)).trans hw127_1), ((HB.out.cell (World.block_lt_of_cell? w _ hw127_2)).trans hw127_2), ((HB.out.cell (World.block_lt_of_cell? w _ hw127_3)).trans hw127_3)⟩ (fun hHeld => ?_)
                      clear hK K
                      refine norm_ (a' := ?_) ?_ ?_
                      rotate_left
                      ·show Act.put _ (some 128) _ = _
                       simp only [Act.put, List.setIfInBounds_toArray, List.set_cons_zero, List.set_cons_succ, i64_w, i32_w]
                       rfl
                      refine one_ (i := 13) (N := some 129) #[true, true, true, true, true, true, true, true, true, true, true, true, true, true, false, true, true, true, false, false] rfl rfl (one_of HT_.out (by kernel_rfl)) (by decide) (fun K hK => ?_)
                      have hcv101 := own_string (P := Try.prog) Try.underlying60 Try.underlying5 Try.underlying9 (Kd.own_of_R HO130.out)
                      refine value_ (w1 := ?_) (v := ?_) (by rfl) rfl ?_ ?_
                      rotate_left 2
                      ·go_simp
                       constructor
                       ·rfl
                       ·rfl
                      clear hcv101
                      refine hK.out _ _ ⟨(blk_cell BK109.out 0).trans rfl, (blk_cell BK109.out 1).trans rfl, (blk_cell BK109.out 2).trans rfl, (blk_cell BK109.out 3).trans rfl, ((HB.out.cell (World.block_lt_of_cell? w _ hw127_0)).trans hw127_0), ((HB.out.cell (World.block_lt_of_cell? w _ hw127_1)).trans hw127_1), ((HB.out.cell (World.block_lt_of_cell? w _ hw127_2)).trans hw127_2), ((HB.out.cell (World.block_lt_of_cell? w _ hw127_3)).trans hw127_3)⟩ (fun hHeld => ?_)
                      clear hK K
                      refine norm_ (a' := ?_) ?_ ?_
                      rotate_left
                      ·show Act.put _ (some 129) _ = _
                       simp only [Act.put, List.setIfInBounds_toArray, List.set_cons_zero, List.set_cons_succ, i64_w, i32_w]
                       rfl
                      refine pure_ (i := 14) (N := some 130) (v := ?_) (a' := ?_) #[true, true, true, true, true, true, true, true, true, true, true, true, true, true, true, true, true, true, false, false] rfl rfl (any_of HT_.out (by kernel_rfl)) (fun _ _ _ h => h) (Or.inl ⟨by rfl, ?_⟩) ?_ ?_
                      rotate_left
                      ·intro w'
                       go_simp
                       with_reducible rfl
                      rotate_left
                      ·simp only [Act.put, List.setIfInBounds_toArray, List.set_cons_zero, List.set_cons_succ, i64_w, i32_w]
                       rfl
                      refine one_ (i := 18) (N := some 134) #[true, true, true, true, true, true, true, true, true, true, true, true, true, true, true, true, true, true, true, false] rfl rfl (one_of HT_.out (by kernel_rfl)) (by decide) (fun K hK => ?_)
                      refine goes_ Try.func21 (by kernel_rfl) rfl #[.agg #[.string ((rd_T29 l0_3 x13_4).f0), .string ((rd_T29 l0_3 x13_4).f1), .int .i64 ((rd_T29 l0_3 x13_4).f2), .slice A127_3 ((rd_T29 l0_3 x13_4).f3).length c127_3], .int .i64 (wrap64 (a0_2 + 1)), .string (xb ++ (strOfNums y128)), .int .i64 (wrap64 (a3 - x12_4))] (by rfl) rfl rfl (by (try simp only [List.map_toArray, List.map_cons, List.map_nil]); first | done | rfl | (simp only [List.length_drop, List.length_take]; rfl)) ?_
                      with_reducible refine (ih k4 (by have := HJ41.out; have := HJ56.out; have := HJ78.out; have := HK4.out; omega) ((rd_T29 l0_3 x13_4).f0) ((rd_T29 l0_3 x13_4).f1) ((rd_T29 l0_3 x13_4).f2) _ _ ((rd_T29 l0_3 x13_4).f3) (wrap64 (a0_2 + 1)) (xb ++ (strOfNums y128)) (wrap64 (a3 - x12_4)) t131 _ ?side1 ?side2 A91.out).mono ?_
                      (case side1 => repeat (first | exact (Kd.C_below HR127_3.out HB.out) | (with_reducible refine Kd.C_alloc ?_ _) | (with_reducible refine Kd.C_drewN ?_ _) | (with_reducible refine Kd.C_drew ?_)))
                      (case side2 => exact HC127_3.out)
                      rintro e w102 ⟨rfl, hb⟩
                      refine ⟨_, rfl, ?_⟩
                      have n0_ := Aside0.mk (Kd.V_below (by (with_reducible repeat (first | apply Kd.V_alloc | apply Kd.V_drewN | apply Kd.V_drew)); exact HO_123003.out) hb)
                      have n1_ := Aside0.mk (Kd.R_below (by (with_reducible repeat (first | apply Kd.R_alloc | apply Kd.R_drewN | apply Kd.R_drew)); exact HO130.out) hb)
                      have n2_ := Aside0.mk (blk_below (g := gb109) (o := .cells #[.string a0_0, .string a0_1, .int .i64 a0_2, .slice (some ad115) l0_3.length c0_3] 29 (0, 0)) (by (with_reducible repeat (first | refine blk_drewN ?_ _ | refine blk_drew ?_ | refine blk_alloc ?_ _)); exact BK109.out) hb)
                      have n3_ := Aside0.mk (blk_below (g := gb122) (o := .cells #[.string t116, .string t117, .int .i64 t118, .slice Ao63 t119.length co63] 29 (0, 0)) (by (with_reducible repeat (first | refine blk_drewN ?_ _ | refine blk_drew ?_ | refine blk_alloc ?_ _)); exact BK122.out) hb)
                      have n4_ := Aside0.mk (below_step (by repeat (first | (with_reducible first | exact HB.out | apply below_alloc | apply pw_below_drewN | apply below_drew1 | refine below_set ?_ GE109.out | refine below_set ?_ GE122.out) | exact HB.out)) hb)
                      clear HO_123003
                      clear HO130
                      clear BK109
                      clear BK122
                      clear HB
                      have HO_123003 := n0_
                      have HO130 := n1_
                      have BK109 := n2_
                      have BK122 := n3_
                      have HB := n4_
                      clear n0_ n1_ n2_ n3_ n4_
                      (try clear hb)
                      (try clear hb2)
                      (try clear hk)
                      (try clear hi)
                      refine hK.out _ _ ⟨(blk_cell BK109.out 0).trans rfl, (blk_cell BK109.out 1).trans rfl, (blk_cell BK109.out 2).trans rfl, (blk_cell BK109.out 3).trans rfl, ((HB.out.cell (World.block_lt_of_cell? w _ hw127_0)).trans hw127_0), ((HB.out.cell (World.block_lt_of_cell? w _ hw127_1)).trans hw127_1), ((HB.out.cell (World.block_lt_of_cell? w _ hw127_2)).trans hw127_2), ((HB.out.cell (World.block_lt_of_cell? w _ hw127_3)).trans hw127_3)⟩ (fun hHeld => ?_)
                      clear hK K
                      refine norm_ (a' := ?_) ?_ ?_
                      rotate_left
                      ·show Act.put _ (some 134) _ = _
                       simp only [Act.put, List.setIfInBounds_toArray, List.set_cons_zero, List.set_cons_succ, i64_w, i32_w]
                       rfl
                      refine pure_ (i := 19) (N := some 14) (v := ?_) (a' := ?_) #[true, true, true, true, true, true, true, true, true, true, true, true, true, true, true, true, true, true, true, true] rfl rfl (any_of HT_.out (by kernel_rfl)) (fun _ _ _ h => h) (Or.inl ⟨by rfl, ?_⟩) ?_ ?_
                      rotate_left
                      ·intro w'
                       go_simp
                       with_reducible rfl
                      rotate_left
                      ·simp only [Act.put, List.setIfInBounds_toArray, List.set_cons_zero, List.set_cons_succ, i64_w, i32_w]
                       rfl
                      refine done_ (done_of HT_.out (by kernel_rfl)) ?_
                      try go_wp2
                      go_roundg k4
                      case measure => have := HJ41.out; have := HJ56.out; have := HJ78.out; have := HK4.out; omega
                      case rel => exact ⟨(wrap64 (x12_4 + t131)), (wrap64 (x13_4 + 1)), (by first | rfl | (simp; done) | (simp [*]; done)), (by first | rfl | (simp; done) | (simp [*]; done)), H', ⟨by have := HJ41.out; have := HJ56.out; have := HJ78.out; have := HK4.out; omega⟩, ⟨by (with_reducible repeat (first | apply Kd.V_alloc | apply Kd.V_drewN | apply Kd.V_drew)); exact Kd.V_mono HO_123003.out (fun _ hk => ⟨hk.1.1, hk.1.2⟩)⟩, ⟨by (with_reducible repeat (first | refine blk_drewN ?_ _ | refine blk_drew ?_ | refine blk_alloc ?_ _)); exact BK109.out⟩, ⟨by (with_reducible repeat (first | refine blk_drewN ?_ _ | refine blk_drew ?_ | refine blk_alloc ?_ _)); exact BK122.out⟩, ⟨by repeat (first | (with_reducible first | exact HB.out | apply below_alloc | apply pw_below_drewN | apply below_drew1 | refine below_set ?_ GE109.out | refine below_set ?_ GE122.out) | exact HB.out)⟩⟩
                    ·rw [if_neg c90] at H
                     exact absurd H (by simp)
                   ·rw [if_neg c89] at H
                    exact absurd H (by simp)
                  ·rw [if_neg c88] at H
                   exact absurd H (by simp)
                 ·rw [if_neg c87] at H
                  have c87b0 : decide (x13_4 < 2) = false := decide_eq_false c87
                  clear c87
                  obtain rfl := Option.some.inj H
                  go_wp2
                  go_ret
                  exact ⟨by first | rfl | (simp [errW_none, errW_some] <;> rfl) | (simp [*, errW_none, errW_some] <;> rfl), by repeat (first | (with_reducible first | exact HB.out | apply below_alloc | apply pw_below_drewN | apply below_drew1 | refine below_set ?_ GE109.out | refine below_set ?_ GE122.out) | exact HB.out)⟩
           ·rw [if_neg c78] at H
            exact absurd H (by simp)
          ·rw [if_neg c77] at H
           exact absurd H (by simp)
      ·rw [if_neg c55] at H
       exact absurd H (by simp)

end Go.Proofs.Ytjkdmegpjdfcaaa.PFnExactMapList
