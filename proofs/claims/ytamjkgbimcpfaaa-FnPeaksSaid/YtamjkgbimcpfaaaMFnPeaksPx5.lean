/- Written by a program (a session's own form of the print): plain functions with the answers of the Go functions, and the walks that show it. Lean checks it. -/
import Derived.Test.YtamjkgbimcpfaaaMFnPeaksPx0
import Derived.Test.YtamjkgbimcpfaaaMFnPeaksPx1
import Derived.Test.YtamjkgbimcpfaaaMFnPeaksPx2
import Derived.Test.YtamjkgbimcpfaaaMFnPeaksPx3
namespace Go.Proofs.Ytamjkgbimcpfaaa.PFnPeaks
open Go.RowKit Go.Proofs.YtamjkgbimcpfaaaW.PrintWords Go.Proofs.YtamjkgbimcpfaaaW.PrintLast Go.Proofs.YtamjkgbimcpfaaaW.PrintMore
attribute [local go_sem] max2_int min2_int max_two min_two max_three min_three max_four min_four   -- for this text's walks alone
set_option linter.unusedVariables false
set_option linter.unusedSimpArgs false

/-! ### impl_PeaksRoot: function 22: by hand -/
-- IMPORT Mk
-- IMPORT U
-- RAWIMPORT Derived.RangeFuncNested
-- RAWIMPORT Derived.RangeFuncBound
-- RAWIMPORT Derived.RangeFuncCalls
-- RAWIMPORT Derived.RangeFuncLeaves
-- RAWIMPORT Derived.Shelf.Abstract
-- RAWIMPORT Derived.Shelf.RegionOpen
-- RAWIMPORT Derived.OwnWalkIn
-- RAWIMPORT Derived.TacticsInMore
-- RAWIMPORT Derived.LoopNIn
-- RAWIMPORT Derived.LoopIn
section
attribute [local go_sem] Oper.semAt_some
/-- What slices.Backward hands over: a place and what stands there. -/
abbrev impl_PeaksRoot.It : Type := { x : Nat × S86 // x.2.f1.size ≤ 100000000 }
def impl_PeaksRoot.enc (x : impl_PeaksRoot.It) : Array Value := #[.int .i64 (x.1.1 : Int), .agg #[.int .i64 x.1.2.f0, .string x.1.2.f1]]
def impl_PeaksRoot.OK (l : List S86) : Prop := ∀ p ∈ l, p.f1.size ≤ 100000000
theorem impl_PeaksRoot.OK.at_ {l : List S86} (h : impl_PeaksRoot.OK l) (m : Nat) : (rd_T86 l (m : Int)).f1.size ≤ 100000000 := by
 unfold rd_T86
 rw [Int.toNat_natCast, List.getD_eq_getElem?_getD]
 by_cases hm : m < l.length
 ·rw [List.getElem?_eq_getElem hm]; exact h _ (List.getElem_mem hm)
 ·rw [List.getElem?_eq_none (by omega)]; exact Nat.zero_le _
def impl_PeaksRoot.item (l : List S86) (h : impl_PeaksRoot.OK l) (m : Nat) : impl_PeaksRoot.It := ⟨(m, rd_T86 l (m : Int)), h.at_ m⟩
def impl_PeaksRoot.upto (l : List S86) (h : impl_PeaksRoot.OK l) (k : Nat) : List impl_PeaksRoot.It := (List.range k).map fun j => impl_PeaksRoot.item l h (l.length - 1 - j)
theorem impl_PeaksRoot.upto_succ (l : List S86) (h : impl_PeaksRoot.OK l) (k : Nat) : impl_PeaksRoot.upto l h (k + 1) = impl_PeaksRoot.upto l h k ++ [impl_PeaksRoot.item l h (l.length - 1 - k)] := by simp [impl_PeaksRoot.upto, List.range_succ]
theorem impl_PeaksRoot.upto_length (l : List S86) (h : impl_PeaksRoot.OK l) (k : Nat) : (impl_PeaksRoot.upto l h k).length = k := by simp [impl_PeaksRoot.upto]
/-- What a round that goes on keeps: what lay there, and the box of the slice. -/
def impl_PeaksRoot.Kp (n₀ Bs : Nat) (W W' : World) : Prop := Below n₀ W W' ∧ W'.heap[Bs]? = W.heap[Bs]?
theorem impl_PeaksRoot.Kp.refl (n₀ Bs : Nat) (W : World) : impl_PeaksRoot.Kp n₀ Bs W W := ⟨Below.refl _ _, rfl⟩
theorem impl_PeaksRoot.Kp.trans {n₀ Bs : Nat} {X Y Z : World} (h : impl_PeaksRoot.Kp n₀ Bs X Y) (k : impl_PeaksRoot.Kp n₀ Bs Y Z) : impl_PeaksRoot.Kp n₀ Bs X Z := ⟨h.1.trans k.1, k.2.trans h.2⟩
set_option maxRecDepth 100000 in
set_option maxHeartbeats 2000000 in
theorem impl_PeaksRoot.back1 (F : Fence) (n : Nat) (hf : F.fn 127) (hro : F.round = none) (hn : 1 ≤ n) (lp Bs : Nat) (w0 : World) (A : Option Addr) (c : Nat) (l : List S86) (hOK : impl_PeaksRoot.OK l) (hC : Kd.C k86 w0 A l.length l) (hm : l.length ≤ 1000000) (J Jx : List impl_PeaksRoot.It → World → Prop)
  (hY : ∀ pre x W, J pre W → pre.length < l.length → YieldAt F (n - 1) Try.prog lp (impl_PeaksRoot.enc x) W fun e W' =>
   (e = .returned (.bool true) ∧ J (pre ++ [x]) W' ∧ impl_PeaksRoot.Kp w0.heap.size Bs W W') ∨ (e = .returned (.bool false) ∧ Jx (pre ++ [x]) W'))
  (W : World) (hB : Below w0.heap.size w0 W) (hBs : W.heap[Bs]? = some (.cells #[.slice A l.length c] 31 (0, 0))) (h0 : J [] W) :
  CallsIn F n Try.prog 127 #[.func (.yield lp) #[] #[], .pointer (some ⟨Bs, 0, none⟩)] W fun e W' => (∃ v, e = .returned v) ∧
   ((∃ ys, ys = impl_PeaksRoot.upto l hOK l.length ∧ J ys W') ∨ (∃ pre, (∃ k, k ≤ l.length ∧ pre = impl_PeaksRoot.upto l hOK k) ∧ Jx pre W')) := by
 have hu := Try.underlying86
 have hc0 : W.cell? ⟨Bs, 0, none⟩ = some (.slice A l.length c) := (blk_cell hBs 0).trans rfl
 have HC := Aside0.mk hC
 have HB := Aside0.mk hB
 have HBs := Aside0.mk hBs
 have HY := Aside0.mk hY
 clear hC hB hBs hY
 refine callsIn_of_wp Try.func127 rfl hf ?_ hro
 simp only [Try.ntmps127, List.size_toArray, List.length_cons, List.length_nil, Nat.reduceAdd, Nat.reduceSub, Array.replicate_succ, Array.replicate_zero, List.push_toArray, List.append_toArray, List.nil_append, List.cons_append]
 gi_wp2
 clear hc0
 gi_loopw [3] (fun v wr => ∃ (k : Nat) (i : Int), k ≤ l.length ∧ i + 1 + k = l.length ∧ v = .int .i64 i ∧ J (impl_PeaksRoot.upto l hOK k) wr ∧ Aside0 (impl_PeaksRoot.Kp w0.heap.size Bs W wr))
  (fun v _ => (intOf v + 1).toNat)
 case atStart => exact ⟨0, (l.length : Int) - 1, Nat.zero_le _, by omega, rfl, h0, ⟨impl_PeaksRoot.Kp.refl _ _ _⟩⟩
 case round =>
  obtain ⟨k, i, hk, hi, rfl, hJs, HK⟩ := hrel
  have hc1 : wr.cell? ⟨Bs, 0, none⟩ = some (.slice A l.length c) := (blk_cell (HK.out.2.trans HBs.out) 0).trans rfl
  by_cases hlt : k < l.length
  ·obtain ⟨m, rfl⟩ := Int.eq_ofNat_of_zero_le (show 0 ≤ i by omega)
   have hmk : l.length - 1 - k = m := by omega
   obtain ⟨ad, e, hx0, hx1⟩ := at_T86 HC.out (m : Int) (by omega) (by omega)
   subst e
   replace hx0 := ((HB.out.trans HK.out.1).cell (World.block_lt_of_cell? w0 _ hx0)).trans hx0
   replace hx1 := ((HB.out.trans HK.out.1).cell (World.block_lt_of_cell? w0 _ hx1)).trans hx1
   have hY1 := HY.out _ (impl_PeaksRoot.item l hOK m) wr hJs (by rw [impl_PeaksRoot.upto_length]; exact hlt)
   obtain ⟨fn, tmps, assign, body, hy, hR⟩ := hY1
   dsimp only [impl_PeaksRoot.enc, impl_PeaksRoot.item] at hy
   rw [← hmk, ← impl_PeaksRoot.upto_succ] at hR
   have HR := Aside0.mk hR
   have hmlt : m < l.length := by omega
   have hkm : Aside0 (m + 1 + k = l.length) := ⟨by omega⟩
   rw [Int.toNat_natCast] at hx0 hx1
   clear hR hk hi hlt hmk
   gi_wp2
   refine HR.out.mono ?_
   rintro e W3 (⟨rfl, hJ3, hk3⟩ | ⟨rfl, hJx3⟩)
   ·gi_wp2
    go_roundw
    case rel => exact ⟨k + 1, (m : Int) - 1, by have := hkm.out; omega, by have := hkm.out; omega, by first | rfl | go_num, hJ3, ⟨HK.out.trans hk3⟩⟩
    case measure => first | (simp [intOf]; done) | (simp [intOf]; omega)
   ·gi_wp2
    refine bodyPost_ret (results_none rfl _ _ _) rfl ?_
    exact ⟨⟨_, rfl⟩, .inr ⟨_, ⟨k + 1, by have := hkm.out; omega, rfl⟩, hJx3⟩⟩
  ·have hneg : i < 0 := by omega
   have hkl : k = l.length := by omega
   clear hi hk hlt
   gi_wp2
   go_end0
   exact ⟨⟨_, rfl⟩, .inl ⟨_, by rw [hkl], hJs⟩⟩
end
section
attribute [local go_sem] Oper.semAt_some
def impl_PeaksRoot.foldN (o : ByteArray) (pre : List impl_PeaksRoot.It) : ByteArray := pre.foldl (fun h x => Go.Proofs.Ytamjkgbimcpfaaa.Mk.nodeOf x.1.2.f1 h) o
theorem impl_PeaksRoot.foldN_snoc (o : ByteArray) (pre : List impl_PeaksRoot.It) (x : impl_PeaksRoot.It) : impl_PeaksRoot.foldN o (pre ++ [x]) = Go.Proofs.Ytamjkgbimcpfaaa.Mk.nodeOf x.1.2.f1 (impl_PeaksRoot.foldN o pre) := by simp [impl_PeaksRoot.foldN]
theorem impl_PeaksRoot.foldN_size (o : ByteArray) (ho : o.size ≤ 100000000) (pre : List impl_PeaksRoot.It) : (impl_PeaksRoot.foldN o pre).size ≤ 100000000 := by
 rcases List.eq_nil_or_concat pre with rfl | ⟨q, x, rfl⟩
 ·exact ho
 ·rw [List.concat_eq_append, impl_PeaksRoot.foldN_snoc, Go.Proofs.Ytamjkgbimcpfaaa.Mk.nodeOf_size]; omega
theorem impl_PeaksRoot.node (l r : ByteArray) (hl : l.size ≤ 100000000) (hr : r.size ≤ 100000000) (w : World) : Calls Try.prog 70 #[.string l, .string r] w fun e w' => e = .returned (.string (Go.Proofs.Ytamjkgbimcpfaaa.Mk.nodeOf l r)) ∧ Below w.heap.size w w' :=
 impl_nodeHash.calls l r _ w (by
  unfold impl_nodeHash.f impl_hash.f
  rw [if_pos (by omega), if_pos (by omega), if_pos (by rw [ByteArray.size_append, ByteArray.size_append]; show 1 + _ + _ ≤ _; omega)]
  rfl)
theorem impl_PeaksRoot.isList (A : Option Addr) (n c : Nat) (hn : n ≤ 9223372036854775807) (w : World) : Calls Try.prog 66 #[.slice A n c] w fun e w' => e = .returned (.bool (decide ((n : Int) ≤ 4096))) ∧ Below w.heap.size w w' := by
 go_enter Try.func66, Try.ntmps66
 go_wp2
 go_ret
 exact ⟨by first | rfl | (simp; done), by repeat (first | exact Below.refl _ _ | apply below_alloc | apply pw_below_drewN | apply below_drew1)⟩
set_option maxRecDepth 100000 in
set_option maxHeartbeats 1000000 in
theorem impl_PeaksRoot.back (F : Fence) (n : Nat) (hf : F.fn 72) (hro : F.round = none) (A : Option Addr) (len cap : Nat) (w : World) :
  CallsIn F n Try.prog 72 #[.slice A len cap] w fun e w' => e = .returned (.func (.func 127) #[] #[.pointer (some ⟨w.heap.size, 0, none⟩)]) ∧ w' = w.alloc (.cells #[.slice A len cap] 31) := by
 refine callsIn_of_wp Try.func72 rfl hf ?_ hro
 simp only [Try.ntmps72, List.size_toArray, List.length_cons, List.length_nil, Nat.reduceAdd, Nat.reduceSub, Array.replicate_succ, Array.replicate_zero, List.push_toArray, List.append_toArray, List.nil_append, List.cons_append]
 gi_wp2
 go_ret
 exact ⟨rfl, rfl⟩
theorem impl_PeaksRoot.obj_kept {X Y : World} {row : Option Nat} {b : Nat} {cs : Array Value} {t : TypeId} {z : Nat × Nat} (h : X.heap[b]? = some (.cells cs t z)) (hg : X.grownBy Y row) (hr : ∀ r, row = some r → ∃ o : Obj, X.heap[r]? = some o ∧ o.isCells = false) : Y.heap[b]? = some (.cells cs t z) :=
 (hg.block b (Array.getElem?_eq_some_iff.1 h).1 (fun e' => by obtain ⟨o, ho, hc⟩ := hr b e'.symm; rw [h] at ho; cases ho; cases hc)).trans h
theorem impl_PeaksRoot.keeps_below {B : Nat} {W W1 : World} (h : Below W.heap.size W W1) : KeepsFrom B W W1 :=
 ⟨h.size, fun k o _ hk _ => (h.block k (Array.getElem?_eq_some_iff.1 hk).1).trans hk⟩
theorem impl_PeaksRoot.stops (n : Nat) (hn : 1 ≤ n) (Bs : Nat) (w0 w : World) (A : Option Addr) (c : Nat) (l : List S86) (hOK : impl_PeaksRoot.OK l) (hC : Kd.C k86 w0 A l.length l) (hm : l.length ≤ 1000000) (hB : Below w0.heap.size w0 w) (hBs : w.heap[Bs]? = some (.cells #[.slice A l.length c] 31 (0, 0))) :
  SeqStopsK Fence.wide n Try.prog 127 #[.pointer (some ⟨Bs, 0, none⟩)] impl_PeaksRoot.enc (impl_PeaksRoot.Kp w0.heap.size Bs) (fun ys => ys = impl_PeaksRoot.upto l hOK l.length) (fun pre => ∃ k, k ≤ l.length ∧ pre = impl_PeaksRoot.upto l hOK k) l.length w := fun lp J Jx W hW _ _ hY h0 =>
 impl_PeaksRoot.back1 Fence.wide n trivial rfl hn lp Bs w0 A c l hOK hC hm J Jx hY W (hB.trans (hW.mono hB.size)) ((hW.block Bs (Array.getElem?_eq_some_iff.1 hBs).1).trans hBs) h0
set_option maxRecDepth 100000 in
set_option maxHeartbeats 4000000 in
theorem impl_PeaksRoot.calls_root (A0 : Option Addr) (c0 : Nat) (t : List S86) (p : S86) (w : World) (hr0 : Kd.C k86 w A0 (t.length + 1) (t ++ [p])) (hc0 : t.length + 1 ≤ c0) (h4 : t.length + 1 ≤ 4096) (hOK : impl_PeaksRoot.OK t) (hp : p.f1.size ≤ 100000000)
  (hPK : ∀ W, Below w.heap.size w W → Calls Try.prog 21 #[.slice A0 (t.length + 1) c0] W fun e w' => e = .returned (.bool true) ∧ Below W.heap.size W w') :
  Calls Try.prog 22 #[.slice A0 (t.length + 1) c0] w fun e w' => e = .returned (.tuple #[.string (impl_PeaksRoot.foldN p.f1 (impl_PeaksRoot.upto t hOK t.length)), .int .i64 0]) ∧ Below w.heap.size w w' := by
 have hu := Try.underlying86
 obtain ⟨ad, rfl, hx0, hx1⟩ := at_T86 hr0 (t.length : Int) (by omega) (by omega)
 have hrd : rd_T86 (t ++ [p]) (t.length : Int) = p := by
  unfold rd_T86
  rw [Int.toNat_natCast, List.getD_eq_getElem?_getD, List.getElem?_append_right (Nat.le_refl _)]
  simp
 rw [hrd, Int.toNat_natCast] at hx1
 have HX := Aside0.mk hx1
 have HT : Aside0 (Kd.C k86 w (some ad) t.length t) := ⟨by
  have h := Kd.C_take (xs := t ++ [p]) (m := t.length) (by rw [List.length_append]; exact hr0) (by simp)
  rw [List.take_left' rfl] at h
  exact h⟩
 obtain ⟨i0, hi0, _, hsz0, _⟩ := info_parts info86
 have hcut := cut_to (P := Try.prog) 31 86 .i64 Try.underlying31 hi0 (some ad) (t.length + 1) c0 (t.length : Int) (by omega) (by omega) hc0
 rw [Int.toNat_natCast] at hcut
 have HP := Aside0.mk hPK
 have HO : Aside0 (p.f1.size ≤ 100000000) := ⟨hp⟩
 clear hr0 hc0 hPK hx0 hx1 hrd hi0 hsz0 hp
 refine (callsIn_wide (n := 8)).1 ?_
 refine callsIn_of_wp_marks Try.func22 rfl trivial ?_ rfl
 simp only [Try.ntmps22, List.size_toArray, List.length_cons, List.length_nil, Nat.reduceAdd, Nat.reduceSub, Array.replicate_succ, Array.replicate_zero, List.push_toArray, List.append_toArray, List.nil_append, List.cons_append]
 have tl : decide ((t.length : Int) + 1 ≤ 4096) = true := decide_eq_true (by omega)
 have tz : ((t.length : Int) + 1 == 0) = false := beq_eq_false_iff_ne.mpr (by omega)
 gi_wp2_with (first
  | (refine ⟨trivial, ?_⟩; gi_at_call 66; refine (callsIn_wide.2 (impl_PeaksRoot.isList (some ad) (t.length + 1) c0 (by omega) w)).mono ?_; rintro e W1 ⟨rfl, hb1⟩; have HB1 := Aside0.mk hb1; clear hb1)
  | (refine ⟨trivial, ?_⟩; gi_at_call 21; refine (callsIn_wide.2 (HP.out W1 HB1.out)).mono ?_; rintro e W2 ⟨rfl, hb2⟩; have HB2 := Aside0.mk (HB1.out.trans (hb2.mono HB1.out.size)); have hx2 := (HB2.out.cell (World.block_lt_of_cell? w _ HX.out)).trans HX.out; clear hb2)
  | (refine ⟨trivial, ?_⟩; gi_at_call 72; refine (impl_PeaksRoot.back Fence.wide _ trivial rfl _ _ _ _).mono ?_; rintro e w' ⟨rfl, rfl⟩))
 have bO := (Boxed.new W2 9 (.string p.f1)).alloc (.cells #[.slice (some ad) t.length c0] 31)
 have bB := Boxed.new (W2.alloc (.cells #[.string p.f1] 9)) 31 (.slice (some ad) t.length c0)
 simp only [World.size_alloc] at bB
 have hB0 : Below w.heap.size w ((W2.alloc (.cells #[.string p.f1] 9)).alloc (.cells #[.slice (some ad) t.length c0] 31)) := (HB2.out.alloc HB2.out.size _).alloc (by have := HB2.out.size; simp; omega) _
 have hsz : ((W2.alloc (.cells #[.string p.f1] 9)).alloc (.cells #[.slice (some ad) t.length c0] 31)).heap.size = W2.heap.size + 2 := by simp
 obtain ⟨b0, hb0⟩ : ∃ b0, W2.heap.size = b0 := ⟨_, rfl⟩
 have hw2 : w.heap.size ≤ b0 := by rw [← hb0]; exact HB2.out.size
 obtain ⟨W0, hW0⟩ : ∃ W0, ((W2.alloc (.cells #[.string p.f1] 9)).alloc (.cells #[.slice (some ad) t.length c0] 31)) = W0 := ⟨_, rfl⟩
 rw [hW0, hb0] at bO bB hsz ⊢
 rw [hW0] at hB0
 clear hW0 hx2
 refine wpIn_rangeFunc_ownH (α := impl_PeaksRoot.It) rfl (by omega) (gf := 127) (lb := #[.pointer (some ⟨b0 + 1, 0, none⟩)]) rfl trivial (enters_of Try.func127 (by kernel_rfl) rfl)
  (impl_PeaksRoot.stops 7 (by omega) (b0 + 1) w W0 (some ad) c0 t hOK HT.out (by omega) hB0 bB) (fun h k => impl_PeaksRoot.Kp.trans h k)
  (fun W lq o o' hl h h1 h2 => ⟨belowK_b (w := W0) hB0.size W lq o o' hl h h1 h2, World.putObj_heap_other (by omega)⟩) (Below.refl _ _) (fun _ => rfl)
  (fun pre W => (Boxed W b0 9 (.string (impl_PeaksRoot.foldN p.f1 pre)) ∧ Boxed W (b0 + 1) 31 (.slice (some ad) t.length c0)) ∧ Below w.heap.size w W)
  (fun _ _ _ => False)
  (OwnFrom.and (OwnFrom.and (Own.from (boxed_own _ _ _) _) (Own.from (boxed_own _ _ _) _)) (ownFrom_below (Nat.le_refl _) hB0.size))
  (fun _ _ _ _ _ hs _ _ => hs)
  ⟨⟨bO, bB⟩, hB0⟩
  (fun x a' W => ∃ Bx, b0 + 1 < Bx ∧ W.heap[Bx]? = some (.cells #[.int .i64 x.1.2.f0, .string x.1.2.f1] 86 (0, 0)) ∧ a' = { tmps := #[.slice (some ad) (t.length + 1) c0, undef, .string ⟨#[]⟩, .int .i64 0, .pointer (some ⟨b0, 0, none⟩), undef, .pointer (some ⟨Bx, 0, none⟩), .bool false, .slice (some ad) (t.length + 1) c0, .bool true, .bool false, .bool false, .slice (some ad) (t.length + 1) c0, .bool true, .bool false, .bool false, .slice (some ad) (t.length + 1) c0, .int .i64 ((t.length : Int) + 1), .bool false, undef, .slice (some ad) (t.length + 1) c0, .slice (some ad) (t.length + 1) c0, .int .i64 ((t.length : Int) + 1), .int .i64 (t.length : Int), .pointer (some (ad.add (t.length * 2))), .pointer (some ⟨(ad.add (t.length * 2)).block, (ad.add (t.length * 2)).off + 1, none⟩), .string p.f1, .slice (some ad) (t.length + 1) c0, .slice (some ad) (t.length + 1) c0, .int .i64 ((t.length : Int) + 1), .int .i64 (t.length : Int), .slice (some ad) t.length c0, .func (.func 127) #[] #[.pointer (some ⟨b0 + 1, 0, none⟩)], .int .i64 (x.1.1 : Int), .agg #[.int .i64 x.1.2.f0, .string x.1.2.f1], undef, undef, undef, undef, undef], defers := [] })
  (fun x a' _ X Y row hs hg hr => by obtain ⟨Bx, h1, h2, h3⟩ := hs; exact ⟨Bx, h1, impl_PeaksRoot.obj_kept h2 hg (fun r e => (hr r e).2), h3⟩)
  ?assign ?body ?done ?stop
 case assign =>
  rintro lq pre x W K ⟨⟨bO1, bB1⟩, hB1⟩ hK
  dsimp only [impl_PeaksRoot.enc]
  gi_wp2
  exact hK _ _ ((KeepsOthers.alloc _ _).from _) ⟨(Below.refl _ W).alloc hB1.size _, Below.heap_alloc W _ _ bB1.lt⟩ ⟨⟨bO1.alloc _, bB1.alloc _⟩, hB1.alloc hB1.size _⟩ ⟨W.heap.size, bB1.lt, World.alloc_heap_new W _, rfl⟩
 case body =>
  rintro lq pre x a' W hl ⟨r, hr⟩ ⟨⟨bO1, bB1⟩, hB1⟩ ⟨Bx, hBx, bX, rfl⟩ hlt
  have cO := bO1.cell
  have fO := bO1.frozen
  have cX : W.cell? ⟨Bx, 1, none⟩ = some (.string x.1.2.f1) := (blk_cell bX 1).trans rfl
  have HBX := Aside0.mk bO1
  have HBB := Aside0.mk bB1
  have HB1 := Aside0.mk hB1
  have hlO := bO1.lt
  have hn := impl_PeaksRoot.foldN_size p.f1 HO.out pre
  have HN := Aside0.mk (impl_PeaksRoot.node x.1.2.f1 (impl_PeaksRoot.foldN p.f1 pre) x.2 hn W)
  clear hn bO1 bB1 hB1
  gi_wp2_with (first
   | (refine ⟨trivial, ?_⟩; gi_at_call 70; refine (CallsIn.inRound lq (callsIn_wide.2 HN.out)).mono ?_; rintro e W3 ⟨rfl, hb3⟩; have HB3 := Aside0.mk hb3; have cO3 := (hb3.cell (p := ⟨b0, 0, none⟩) hlO).trans cO; have fO3 := (hb3.frozen (p := ⟨b0, 0, none⟩) hlO).trans fO; clear hb3))
  have g0 : Boxed W3 b0 9 (.string (impl_PeaksRoot.foldN p.f1 pre)) := (HB3.out.block b0 hlO).trans HBX.out
  have g1 : Boxed W3 (b0 + 1) 31 (.slice (some ad) t.length c0) := (HB3.out.block (b0 + 1) HBB.out.lt).trans HBB.out
  have hb4 := HB3.out.mono HB1.out.size
  exact ⟨(impl_PeaksRoot.keeps_below HB3.out).trans ((KeepsOthers.setCell _ _ _).from _), ⟨hb4.setCell (p := ⟨b0, 0, none⟩) hw2 _, (Below.heap_setCell W3 ⟨b0, 0, none⟩ _ (b0 + 1) (by show b0 + 1 ≠ b0; omega)).trans (HB3.out.block (b0 + 1) HBB.out.lt)⟩,
   ⟨⟨by rw [impl_PeaksRoot.foldN_snoc]; exact g0.set _, g1.other (by omega) _⟩, (HB1.out.trans hb4).setCell (p := ⟨b0, 0, none⟩) hw2 _⟩⟩
 case done =>
  rintro D ys W hD rfl ⟨⟨bO1, bB1⟩, hB1⟩ hK
  have cO := bO1.cell
  gi_wp2
  refine ⟨by simp, .inl ⟨_, _, rfl, run_takeDeferred hK, ?_⟩⟩
  refine ⟨.tuple #[.string (impl_PeaksRoot.foldN p.f1 (impl_PeaksRoot.upto t hOK t.length)), .int .i64 0], ?_, rfl, hB1.trans (belowK_b (w := w) (Nat.le_refl _) W D _ _ (Nat.le_trans hB0.size hD) hK rfl rfl)⟩
  simp [results, Try.f22, go_sem]
 case stop =>
  rintro D c pre W _ _ h _
  exact h.elim
end
section
theorem impl_PeaksRoot.root_list (l : List S86) (h : impl_PeaksRoot.OK l) (o : ByteArray) : impl_PeaksRoot.foldN o (impl_PeaksRoot.upto l h l.length) = l.reverse.foldl (fun q x => Go.Proofs.Ytamjkgbimcpfaaa.Mk.nodeOf x.f1 q) o := by
 have e : (impl_PeaksRoot.upto l h l.length).map (fun x => x.1.2) = l.reverse := by
  apply List.ext_getElem
  ·simp [impl_PeaksRoot.upto]
  ·intro i h1 h2
   simp only [List.length_reverse] at h2
   simp only [impl_PeaksRoot.upto, impl_PeaksRoot.item, List.getElem_map, List.getElem_range, List.getElem_reverse]
   unfold rd_T86
   rw [Int.toNat_natCast, List.getD_eq_getElem?_getD, List.getElem?_eq_getElem (by omega), Option.getD_some]
 rw [← e, List.foldl_map]
 rfl
theorem impl_PeaksRoot.long (A : Option Addr) (n c : Nat) (w : World) (h : 4096 < n) (hn : n ≤ 9223372036854775807) :
  Calls Try.prog 22 #[.slice A n c] w fun e w' => e = .returned (.tuple #[.string ⟨#[]⟩, .int .i64 2]) ∧ Below w.heap.size w w' := by
 have tl : decide ((n : Int) ≤ 4096) = false := decide_eq_false (by omega)
 have HL := Aside0.mk (impl_PeaksRoot.isList A n c hn w)
 clear h hn
 go_enter Try.func22, Try.ntmps22
 go_wp2_with (go_at_call 66; refine HL.out.mono ?_; rintro e W1 ⟨rfl, hb1⟩; have HB1 := Aside0.mk hb1; clear hb1)
 go_ret2
 exact ⟨rfl, HB1.out⟩
set_option maxHeartbeats 400000 in
theorem impl_PeaksRoot.bad (A : Option Addr) (n c : Nat) (w : World) (h : n ≤ 4096) (hPK : ∀ W, Below w.heap.size w W → Calls Try.prog 21 #[.slice A n c] W fun e w' => e = .returned (.bool false) ∧ Below W.heap.size W w') :
  Calls Try.prog 22 #[.slice A n c] w fun e w' => e = .returned (.tuple #[.string ⟨#[]⟩, .int .i64 1]) ∧ Below w.heap.size w w' := by
 have tl : decide ((n : Int) ≤ 4096) = true := decide_eq_true (by omega)
 have HL := Aside0.mk (impl_PeaksRoot.isList A n c (by omega) w)
 have HP := Aside0.mk hPK
 clear h hPK
 go_enter Try.func22, Try.ntmps22
 go_wp2_with (first
  | (go_at_call 66; refine HL.out.mono ?_; rintro e W1 ⟨rfl, hb1⟩; have HB1 := Aside0.mk hb1; clear hb1)
  | (go_at_call 21; refine (HP.out W1 HB1.out).mono ?_; rintro e W2 ⟨rfl, hb2⟩; have HB2 := Aside0.mk (HB1.out.trans (hb2.mono HB1.out.size)); clear hb2))
 go_ret2
 exact ⟨rfl, HB2.out⟩
set_option maxHeartbeats 400000 in
theorem impl_PeaksRoot.none_ (A : Option Addr) (c : Nat) (r : ByteArray) (w : World) (hr : impl_hash.f ⟨#[]⟩ = some r) (hPK : ∀ W, Below w.heap.size w W → Calls Try.prog 21 #[.slice A 0 c] W fun e w' => e = .returned (.bool true) ∧ Below W.heap.size W w') :
  Calls Try.prog 22 #[.slice A 0 c] w fun e w' => e = .returned (.tuple #[.string r, .int .i64 0]) ∧ Below w.heap.size w w' := by
 have HL : Aside0 (Calls Try.prog 66 #[.slice A 0 c] w fun e w' => e = .returned (.bool true) ∧ Below w.heap.size w w') := ⟨impl_PeaksRoot.isList A 0 c (by omega) w⟩
 have HP := Aside0.mk hPK
 have HH := Aside0.mk hr
 clear hPK hr
 go_enter Try.func22, Try.ntmps22
 go_wp2_with (first
  | (go_at_call 66; refine HL.out.mono ?_; rintro e W1 ⟨rfl, hb1⟩; have HB1 := Aside0.mk hb1; clear hb1)
  | (go_at_call 21; refine (HP.out W1 HB1.out).mono ?_; rintro e W2 ⟨rfl, hb2⟩; have HB2 := Aside0.mk (HB1.out.trans (hb2.mono HB1.out.size)); clear hb2)
  | (go_at_call 71; refine (impl_hash.calls _ r W2 HH.out).mono ?_; rintro e W3 ⟨rfl, hb3⟩; have HB3 := Aside0.mk (HB2.out.trans (hb3.mono HB2.out.size)); clear hb3))
 go_ret2
 exact ⟨rfl, HB3.out⟩
/-- What the hashes of trees come to, the last one first. -/
def impl_PeaksRoot.root (l : List S86) : ByteArray :=
 match l.reverse with
 | [] => ⟨#[]⟩
 | p :: t => t.foldl (fun q x => Go.Proofs.Ytamjkgbimcpfaaa.Mk.nodeOf x.f1 q) p.f1
def impl_PeaksRoot.f (k : Nat) (l0 : List S86) : Option (ByteArray × Int) :=
 if (l0.length : Int) > 4096 then some (⟨#[]⟩, 2) else
  (impl_PeaksOK.f k l0).bind fun b => if b = true then
   (if (l0.length : Int) = 0 then (impl_hash.f ⟨#[]⟩).bind fun h => some (h, 0) else if (l0.all fun p => decide (p.f1.size ≤ 100000000)) = true then some (impl_PeaksRoot.root l0, 0) else none) else some (⟨#[]⟩, 1)
theorem impl_PeaksRoot.mono : ∀ a0 k, LeO (impl_PeaksRoot.f k a0) (impl_PeaksRoot.f (k + 1) a0) := by
 intro a0 k
 unfold impl_PeaksRoot.f
 exact LeO.ite (LeO.refl _) (LeO.bind (impl_PeaksOK.mono a0 k) (fun _ => LeO.refl _))
theorem impl_PeaksRoot.calls (k : Nat) (A0 : Option Addr) (c0 : Nat) (l0 : List (S86)) (r1 : ByteArray) (r2 : Int) (w : World) (hr0 : Kd.C k86 w A0 l0.length l0) (hc0 : l0.length ≤ c0) (h : impl_PeaksRoot.f k l0 = some (r1, r2)) :
  Calls Try.prog 22 #[.slice A0 l0.length c0] w fun e w' => e = .returned (.tuple #[.string r1, .int .i64 r2]) ∧ Below w.heap.size w w' := by
 unfold impl_PeaksRoot.f at h
 by_cases h4 : (l0.length : Int) > 4096
 ·rw [if_pos h4] at h
  simp only [Option.some.injEq, Prod.mk.injEq] at h
  obtain ⟨rfl, rfl⟩ := h
  exact impl_PeaksRoot.long A0 _ c0 w (by omega) hr0.2.1
 ·rw [if_neg h4] at h
  replace h := Option.bind_eq_some_iff.mp h
  obtain ⟨b, hb, h⟩ := h
  have hPK : ∀ W, Below w.heap.size w W → Calls Try.prog 21 #[.slice A0 l0.length c0] W fun e w' => e = .returned (.bool b) ∧ Below W.heap.size W w' :=
   fun W hW => impl_PeaksOK.calls k A0 c0 l0 b W (Kd.C_below hr0 hW) hc0 hb
  cases b with
  | false =>
   rw [if_neg (by simp)] at h
   simp only [Option.some.injEq, Prod.mk.injEq] at h
   obtain ⟨rfl, rfl⟩ := h
   exact impl_PeaksRoot.bad A0 _ c0 w (by omega) hPK
  | true =>
   rw [if_pos rfl] at h
   by_cases hz : (l0.length : Int) = 0
   ·rw [if_pos hz] at h
    replace h := Option.bind_eq_some_iff.mp h
    obtain ⟨q, hq, h⟩ := h
    simp only [Option.some.injEq, Prod.mk.injEq] at h
    obtain ⟨rfl, rfl⟩ := h
    obtain rfl : l0 = [] := List.eq_nil_of_length_eq_zero (by omega)
    exact impl_PeaksRoot.none_ A0 c0 q w hq hPK
   ·rw [if_neg hz] at h
    by_cases ha : (l0.all fun p => decide (p.f1.size ≤ 100000000)) = true
    ·rw [if_pos ha] at h
     simp only [Option.some.injEq, Prod.mk.injEq] at h
     obtain ⟨rfl, rfl⟩ := h
     rcases List.eq_nil_or_concat l0 with rfl | ⟨t, p, rfl⟩
     ·exact absurd rfl hz
     ·rw [List.concat_eq_append] at *
      rw [List.length_append] at *
      have hall : ∀ x ∈ t ++ [p], x.f1.size ≤ 100000000 := fun x hx => of_decide_eq_true (List.all_eq_true.mp ha x hx)
      have hOK : impl_PeaksRoot.OK t := fun x hx => hall x (List.mem_append_left _ hx)
      have := impl_PeaksRoot.calls_root A0 c0 t p w hr0 hc0 (by simp only [List.length_cons, List.length_nil] at h4; omega) hOK (hall p (by simp)) hPK
      rw [impl_PeaksRoot.root_list] at this
      have er : impl_PeaksRoot.root (t ++ [p]) = t.reverse.foldl (fun q x => Go.Proofs.Ytamjkgbimcpfaaa.Mk.nodeOf x.f1 q) p.f1 := by
       unfold impl_PeaksRoot.root
       rw [List.reverse_append]
       rfl
      rw [er]
      exact this
    ·rw [if_neg ha] at h
     cases h
end

/-! ### spec_l06Hashes: function 79 -/
def spec_l06Hashes.l0 : Nat → List ByteArray → Int → Option (Bool)
 | 0, _, _ => none
 | k + 1, x0, x3 => if x3 < (x0.length : Int) then (if 0 ≤ x3 then (if ((rdOf ByteArray.empty x0 x3).size : Int) = 32 then (spec_l06Hashes.l0 k x0 (wrap64 (x3 + 1))) else (some false)) else (none)) else (some true)
def spec_l06Hashes.f (k : Nat) (l0 : List ByteArray) : Option (Bool) := if (l0.length : Int) > 64 then (some false) else (spec_l06Hashes.l0 k l0 0)
theorem spec_l06Hashes.mono_l : ∀ k, (∀ y0 y1, LeO (spec_l06Hashes.l0 k y0 y1) (spec_l06Hashes.l0 (k + 1) y0 y1))
 | 0 => fun _ _ r h => by simp [spec_l06Hashes.l0] at h
 | k + 1 => by
  have ih0 := spec_l06Hashes.mono_l k
  ·intro y0 y1
   unfold spec_l06Hashes.l0
   repeat' first
   | (with_reducible exact ih0 _ _)
   | (with_reducible exact LeO.refl _)
   | (with_reducible exact LeO.none _)
   | (with_reducible refine LeO.ite ?_ ?_)
   | (with_reducible refine LeO.bind ?_ (fun _ => ?_))
   | exact ih0 _ _
   | exact LeO.none _
   | refine LeO.ite ?_ ?_
   | refine LeO.bind ?_ (fun _ => ?_)
theorem spec_l06Hashes.mono : ∀ a0 k, LeO (spec_l06Hashes.f k a0) (spec_l06Hashes.f (k + 1) a0) := by
 intro a0 k
 have ih0 := spec_l06Hashes.mono_l k
 unfold spec_l06Hashes.f
 repeat' first
   | (with_reducible exact ih0 _ _)
   | (with_reducible exact LeO.refl _)
   | (with_reducible exact LeO.none _)
   | (with_reducible refine LeO.ite ?_ ?_)
   | (with_reducible refine LeO.bind ?_ (fun _ => ?_))
   | exact ih0 _ _
   | exact LeO.none _
   | refine LeO.ite ?_ ?_
   | refine LeO.bind ?_ (fun _ => ?_)
set_option maxHeartbeats 8000000 in
set_option maxRecDepth 100000 in
theorem spec_l06Hashes.calls (k : Nat) (A0 : Option Addr) (c0 : Nat) (l0 : List ByteArray) (r : Bool) (w : World) (hr0 : Kd.C Kd.string w A0 l0.length l0) (hc0 : l0.length ≤ c0) (h : spec_l06Hashes.f k l0 = some r) :
  Calls Try.prog 79 #[.slice A0 l0.length c0] w fun e w' => e = .returned (.bool r) ∧ Drawn0 w w' := by
 have HR0 := Aside0.mk hr0
 have HC0 := Aside0.mk hc0
 clear hr0 hc0
 have H : (if (l0.length : Int) > 64 then (some false) else (spec_l06Hashes.l0 k l0 0)) = some r := h
 clear h
 by_cases c2 : (l0.length : Int) > 64
 ·rw [if_pos c2] at H
  have c2b0 : decide (64 < (l0.length : Int)) = true := decide_eq_true c2
  have c2b1 : decide (64 < l0.length) = true := decide_eq_true (by omega)
  clear c2
  obtain rfl := Option.some.inj H
  go_enter Try.func79, Try.ntmps79
  go_wp2
  go_ret
  exact ⟨by first | rfl | (simp; done) | (simp [*]; done), by repeat (first | exact Drawn0.refl _ | apply Drawn0.step)⟩
 ·rw [if_neg c2] at H
  have c2b0 : decide (64 < (l0.length : Int)) = false := decide_eq_false c2
  have c2b1 : decide (64 < l0.length) = false := decide_eq_false (by omega)
  clear c2
  have H' := Aside0.mk H
  clear H
  go_enter Try.func79, Try.ntmps79
  go_wp2
  go_loopg [3] k (fun kq v3 w' => ∃ (x3_1 : Int), v3 = .int .i64 x3_1 ∧ Aside0 (spec_l06Hashes.l0 kq l0 x3_1 = some r) ∧ Aside0 (kq ≤ k) ∧ Drawn0 w w')
  case atStart => exact ⟨(0), (by first | rfl | (simp; done) | (simp [*]; done)), H', ⟨Nat.le_refl _⟩, by repeat (first | exact Drawn0.refl _ | apply Drawn0.step)⟩
  case round =>
   clear H'
   try clear c2
   try clear c2b0
   try clear c2b1
   try clear p2
   obtain ⟨x3_1, rfl, HA, HK1, ⟨m1, rfl⟩⟩ := hrel
   cases gk with
   | zero => exact absurd HA.out (by simp [spec_l06Hashes.l0])
   | succ k1 =>
    have H := HA.out
    clear HA
    simp only [spec_l06Hashes.l0] at H
    by_cases c3 : x3_1 < (l0.length : Int)
    ·rw [if_pos c3] at H
     have c3b0 : decide (x3_1 < (l0.length : Int)) = true := decide_eq_true c3
     clear c3
     by_cases c4 : 0 ≤ x3_1
     ·rw [if_pos c4] at H
      have c4b0 : decide (0 ≤ x3_1) = true := decide_eq_true c4
      clear c4
      by_cases c5 : ((rdOf ByteArray.empty l0 x3_1).size : Int) = 32
      ·rw [if_pos c5] at H
       have c5b0 : (((rdOf ByteArray.empty l0 x3_1).size : Int) == 32) = true := beq_iff_eq.mpr c5
       have c5b1 : (((rdOf ByteArray.empty l0 x3_1).size : Int) != 32) = false := bne_eq_false_iff_eq.mpr c5
       clear c5
       have H' := Aside0.mk H
       clear H
       have p217 : 0 ≤ (x3_1 : Int) := of_decide_eq_true (by assumption)
       have q217 : x3_1 < (l0.length : Int) := of_decide_eq_true (by assumption)
       obtain ⟨ad217, e217, hx217_0⟩ := Kd.at_string HR0.out x3_1 p217 q217
       cases e217
       replace p217 := eq_true p217
       replace q217 := eq_true q217
       go_wp2
       go_roundg k1
       case measure => have := HK1.out; omega
       case rel => exact ⟨(wrap64 (x3_1 + 1)), (by first | rfl | (simp; done) | (simp [*]; done)), H', ⟨by have := HK1.out; omega⟩, by repeat (first | exact Drawn0.refl _ | apply Drawn0.step)⟩
      ·rw [if_neg c5] at H
       have c5b0 : (((rdOf ByteArray.empty l0 x3_1).size : Int) == 32) = false := beq_eq_false_iff_ne.mpr c5
       have c5b1 : (((rdOf ByteArray.empty l0 x3_1).size : Int) != 32) = true := bne_iff_ne.mpr c5
       obtain rfl := Option.some.inj H
       have p217 : 0 ≤ (x3_1 : Int) := of_decide_eq_true (by assumption)
       have q217 : x3_1 < (l0.length : Int) := of_decide_eq_true (by assumption)
       obtain ⟨ad217, e217, hx217_0⟩ := Kd.at_string HR0.out x3_1 p217 q217
       cases e217
       replace p217 := eq_true p217
       replace q217 := eq_true q217
       go_wp2
       go_ret
       exact ⟨by first | rfl | (simp; done) | (simp [*]; done), by repeat (first | exact Drawn0.refl _ | apply Drawn0.step)⟩
     ·rw [if_neg c4] at H
      exact absurd H (by simp)
    ·rw [if_neg c3] at H
     have c3b0 : decide (x3_1 < (l0.length : Int)) = false := decide_eq_false c3
     clear c3
     obtain rfl := Option.some.inj H
     go_wp2
     go_ret
     exact ⟨by first | rfl | (simp; done) | (simp [*]; done), by repeat (first | exact Drawn0.refl _ | apply Drawn0.step)⟩

/-! ### spec_l06Code: function 57 -/
def spec_l06Code.f (k : Nat) (l0 : List ByteArray) : Option (Int) := if (l0.length : Int) > 4096 then (some 2) else ((spec_l06Hashes.f k l0).bind fun t218 => (if t218 = true then (some 0) else (some 1)))
theorem spec_l06Code.mono : ∀ a0 k, LeO (spec_l06Code.f k a0) (spec_l06Code.f (k + 1) a0) := by
 intro a0 k
 unfold spec_l06Code.f
 repeat' first
   | (with_reducible exact spec_l06Hashes.mono _ _)
   | (with_reducible exact LeO.refl _)
   | (with_reducible exact LeO.none _)
   | (with_reducible refine LeO.ite ?_ ?_)
   | (with_reducible refine LeO.bind ?_ (fun _ => ?_))
   | exact spec_l06Hashes.mono _ _
   | exact LeO.none _
   | refine LeO.ite ?_ ?_
   | refine LeO.bind ?_ (fun _ => ?_)
set_option maxHeartbeats 8000000 in
set_option maxRecDepth 100000 in
theorem spec_l06Code.calls (k : Nat) (A0 : Option Addr) (c0 : Nat) (l0 : List ByteArray) (r : Int) (w : World) (hr0 : Kd.C Kd.string w A0 l0.length l0) (hc0 : l0.length ≤ c0) (h : spec_l06Code.f k l0 = some r) :
  Calls Try.prog 57 #[.slice A0 l0.length c0] w fun e w' => e = .returned (.int .i64 r) ∧ Drawn0 w w' := by
 have HR0 := Aside0.mk hr0
 have HC0 := Aside0.mk hc0
 clear hr0 hc0
 have H : (if (l0.length : Int) > 4096 then (some 2) else ((spec_l06Hashes.f k l0).bind fun t218 => (if t218 = true then (some 0) else (some 1)))) = some r := h
 clear h
 by_cases c2 : (l0.length : Int) > 4096
 ·rw [if_pos c2] at H
  have c2b0 : decide (4096 < (l0.length : Int)) = true := decide_eq_true c2
  have c2b1 : decide (4096 < l0.length) = true := decide_eq_true (by omega)
  clear c2
  obtain rfl := Option.some.inj H
  go_enter Try.func57, Try.ntmps57
  go_wp2
  go_ret
  exact ⟨by first | rfl | (simp; done) | (simp [*]; done), by repeat (first | exact Drawn0.refl _ | apply Drawn0.step)⟩
 ·rw [if_neg c2] at H
  have c2b0 : decide (4096 < (l0.length : Int)) = false := decide_eq_false c2
  have c2b1 : decide (4096 < l0.length) = false := decide_eq_false (by omega)
  clear c2
  replace H := Option.bind_eq_some_iff.mp H
  obtain ⟨t218, A30, H⟩ := H
  replace H : (if t218 = true then (some 0) else (some 1)) = some r := H
  have A3 := Aside0.mk A30
  clear A30
  by_cases c4 : t218 = true
  ·subst c4
   have H1 : (some 0) = some r := by rw [if_pos rfl] at H; exact H
   clear H
   have H := H1
   clear H1
   obtain rfl := Option.some.inj H
   go_enter Try.func57, Try.ntmps57
   go_wp2_with (first | ((with_reducible refine gate_callee (f := 79) rfl ?_); refine goesL_ (some 7) rfl rfl Try.func79 (by kernel_rfl) rfl #[.slice A0 l0.length c0] rfl (by (try simp only [List.map_toArray, List.map_cons, List.map_nil]); first | done | rfl | (simp only [List.length_drop, List.length_take]; rfl)) ?_; (with_reducible refine (spec_l06Hashes.calls k _ _ l0 true _ ?side1 ?side2 A3.out).mono ?_); (case side1 => repeat (first | exact HR0.out | (with_reducible refine Kd.C_alloc ?_ _) | (with_reducible refine Kd.C_drewN ?_ _) | (with_reducible refine Kd.C_drew ?_))); (case side2 => exact HC0.out); rintro e w' ⟨rfl, ⟨nd, rfl⟩⟩; refine ⟨_, rfl, ?_⟩))
   go_ret
   exact ⟨by first | rfl | (simp; done) | (simp [*]; done), by repeat (first | exact Drawn0.refl _ | apply Drawn0.step)⟩
  ·replace c4 := Bool.eq_false_iff.mpr c4
   subst c4
   have H1 : (some 1) = some r := by rw [if_neg (show ¬ (false = true) by decide)] at H; exact H
   clear H
   have H := H1
   clear H1
   obtain rfl := Option.some.inj H
   go_enter Try.func57, Try.ntmps57
   go_wp2_with (first | ((with_reducible refine gate_callee (f := 79) rfl ?_); refine goesL_ (some 7) rfl rfl Try.func79 (by kernel_rfl) rfl #[.slice A0 l0.length c0] rfl (by (try simp only [List.map_toArray, List.map_cons, List.map_nil]); first | done | rfl | (simp only [List.length_drop, List.length_take]; rfl)) ?_; (with_reducible refine (spec_l06Hashes.calls k _ _ l0 false _ ?side1 ?side2 A3.out).mono ?_); (case side1 => repeat (first | exact HR0.out | (with_reducible refine Kd.C_alloc ?_ _) | (with_reducible refine Kd.C_drewN ?_ _) | (with_reducible refine Kd.C_drew ?_))); (case side2 => exact HC0.out); rintro e w' ⟨rfl, ⟨nd, rfl⟩⟩; refine ⟨_, rfl, ?_⟩))
   go_ret
   exact ⟨by first | rfl | (simp; done) | (simp [*]; done), by repeat (first | exact Drawn0.refl _ | apply Drawn0.step)⟩

/-! ### spec_l06Node: function 75 -/
def spec_l06Node.f (a0 : ByteArray) (a1 : ByteArray) : Option (ByteArray) := (some (([1] : List Int) : List Int)).bind fun y219 => (if y219.length + a0.size < 140737488355328 then ((some (y219 ++ bytesOf a0 : List Int)).bind fun y222 => (if y222.length + a1.size < 140737488355328 then ((spec_l01Hash.f (y222 ++ bytesOf a1)).bind fun t228 => (some t228)) else (none))) else (none))
set_option maxHeartbeats 8000000 in
set_option maxRecDepth 100000 in
theorem spec_l06Node.calls (a0 : ByteArray) (a1 : ByteArray) (r : ByteArray) (w : World) (h : spec_l06Node.f a0 a1 = some r) :
  Calls Try.prog 75 #[.string a0, .string a1] w fun e w' => e = .returned (.string r) ∧ Below w.heap.size w w' := by
 have HB := Aside0.mk (Below.refl w.heap.size w)
 have H : ((some (([1] : List Int) : List Int)).bind fun y219 => (if y219.length + a0.size < 140737488355328 then ((some (y219 ++ bytesOf a0 : List Int)).bind fun y222 => (if y222.length + a1.size < 140737488355328 then ((spec_l01Hash.f (y222 ++ bytesOf a1)).bind fun t228 => (some t228)) else (none))) else (none))) = some r := h
 clear h
 obtain ⟨y219, hy219⟩ : ∃ y_ : List Int, y_ = (([1] : List Int)) := ⟨_, rfl⟩
 replace H : (if y219.length + a0.size < 140737488355328 then ((some (y219 ++ bytesOf a0 : List Int)).bind fun y222 => (if y222.length + a1.size < 140737488355328 then ((spec_l01Hash.f (y222 ++ bytesOf a1)).bind fun t228 => (some t228)) else (none))) else (none)) = some r := by first | (rw [hy219]; with_reducible exact H) | (have H2_ := (Option.bind_some _ _).symm.trans H; rw [hy219]; with_reducible exact H2_) | (have H2_ := (Option.bind_some _ _).symm.trans H; with_reducible exact H2_) | with_reducible exact H | (rw [hy219]; exact H) | exact H
 have Ny219 := Aside0.mk hy219
 clear hy219
 by_cases c3 : y219.length + a0.size < 140737488355328
 ·rw [if_pos c3] at H
  have LMc3 := Aside0.mk c3
  clear c3
  obtain ⟨y222, hy222⟩ : ∃ y_ : List Int, y_ = (y219 ++ bytesOf a0) := ⟨_, rfl⟩
  replace H : (if y222.length + a1.size < 140737488355328 then ((spec_l01Hash.f (y222 ++ bytesOf a1)).bind fun t228 => (some t228)) else (none)) = some r := by first | (rw [hy222]; with_reducible exact H) | (have H2_ := (Option.bind_some _ _).symm.trans H; rw [hy222]; with_reducible exact H2_) | (have H2_ := (Option.bind_some _ _).symm.trans H; with_reducible exact H2_) | with_reducible exact H | (rw [hy222]; exact H) | exact H
  have Ny222 := Aside0.mk hy222
  clear hy222
  by_cases c4 : y222.length + a1.size < 140737488355328
  ·rw [if_pos c4] at H
   have LMc4 := Aside0.mk c4
   clear c4
   obtain ⟨y225, hy225⟩ : ∃ y_ : List Int, y_ = (y222 ++ bytesOf a1) := ⟨_, rfl⟩
   replace H : ((spec_l01Hash.f y225).bind fun t228 => (some t228)) = some r := by first | (rw [hy225]; with_reducible exact H) | (have H2_ := (Option.bind_some _ _).symm.trans H; rw [hy225]; with_reducible exact H2_) | (have H2_ := (Option.bind_some _ _).symm.trans H; with_reducible exact H2_) | with_reducible exact H | (rw [hy225]; exact H) | exact H
   have Ny225 := Aside0.mk hy225
   clear hy225
   replace H := Option.bind_eq_some_iff.mp H
   obtain ⟨t228, A50, H⟩ := H
   replace H : (some t228) = some r := H
   have A5 := Aside0.mk A50
   clear A50
   obtain rfl := Option.some.inj H
   go_enter Try.func75, Try.ntmps75
   go_wp2_with (first | ((with_reducible refine gate_dst (N := 5) rfl ?_); refine Kd.R_lit (Kd.int .u8) _ 5 ?hg (N := 5) ?hd (xs := ([1] : List Int)) (inner := [.int .u8 1]) (ok := fun _ => True) (okp := fun _ => True) ?hr ?hp (fun _ hk => hk) trivial (Below.refl _ _) (Nat.le_refl _) (by simp) ?_; (case hd => rfl); (case hg => rfl); (case hr => first | (go_simp; done) | (go_simp; rfl)); (case hp => exact (Reps.one (show Kd.M (Kd.int .u8) _ _ _ 1 [.int .u8 1] from rfl) (Reps.none _ _))); intro v220 w6 ho7 hb hg_ hnew_; clear hg_ hnew_; (first | rw [← Ny219.out] at ho7 | (simp only [Int.reduceToNat] at ho7; rw [← Ny219.out] at ho7)); have n0_ := Aside0.mk (Kd.R_lower ho7 (below_size (by repeat (first | (with_reducible first | exact HB.out | apply below_alloc | apply pw_below_drewN | apply below_drew1) | exact HB.out)))); have n1_ := Aside0.mk (below_step (by repeat (first | (with_reducible first | exact HB.out | apply below_alloc | apply pw_below_drewN | apply below_drew1) | exact HB.out)) hb); clear HB; have HO221 := n0_; have HB := n1_; clear n0_ n1_; clear hb ho7) | (at_builtin; refine print_append_str (w0 := w) w.heap.size rfl (.tmp 5) _ 29 9 5 rfl Try.underlying29 Try.underlying9 info5 v220 y219 a0 rfl rfl ?aO ?aB ?aS ?aL ?_; (case aB => exact (by repeat (first | (with_reducible first | exact HB.out | apply below_alloc | apply pw_below_drewN | apply below_drew1) | exact HB.out))); (case aO => exact (Kd.own_of_R (by (with_reducible repeat (first | apply Kd.R_alloc | apply Kd.R_drewN | apply Kd.R_drew)); exact HO221.out))); (case aS => exact (below_size (by repeat (first | (with_reducible first | exact HB.out | apply below_alloc | apply pw_below_drewN | apply below_drew1) | exact HB.out)))); (case aL => have := LMc3.out; omega); intro v223 w8 ho0 hb hg; have ho := Kd.R_of_own (h1 := fun _ => rfl) (ok := fun _ => True) ho0 (fun _ _ => trivial); clear ho0; have hat := True.intro; rw [← Ny222.out] at ho; change Kd.R (Kd.int .u8) 5 w8 w.heap.size (fun _ => True) v223 y222 at ho; have n0_ := Aside0.mk (hb); have n1_ := Aside0.mk (ho); clear HB; clear HO221; have HB := n0_; have HO224 := n1_; clear n0_ n1_; clear ho hb hg hat) | (at_builtin; refine print_append_str (w0 := w) w.heap.size rfl (.tmp 7) _ 29 9 5 rfl Try.underlying29 Try.underlying9 info5 v223 y222 a1 rfl rfl ?aO ?aB ?aS ?aL ?_; (case aB => exact (by repeat (first | (with_reducible first | exact HB.out | apply below_alloc | apply pw_below_drewN | apply below_drew1) | exact HB.out))); (case aO => exact (Kd.own_of_R (by (with_reducible repeat (first | apply Kd.R_alloc | apply Kd.R_drewN | apply Kd.R_drew)); exact HO224.out))); (case aS => exact (below_size (by repeat (first | (with_reducible first | exact HB.out | apply below_alloc | apply pw_below_drewN | apply below_drew1) | exact HB.out)))); (case aL => have := LMc4.out; omega); intro v226 w9 ho0 hb hg; have ho := Kd.R_of_own (h1 := fun _ => rfl) (ok := fun _ => True) ho0 (fun _ _ => trivial); clear ho0; have hat := True.intro; rw [← Ny225.out] at ho; change Kd.R (Kd.int .u8) 5 w9 w.heap.size (fun _ => True) v226 y225 at ho; have n0_ := Aside0.mk (hb); have n1_ := Aside0.mk (ho); clear HB; clear HO224; have HB := n0_; have HO227 := n1_; clear n0_ n1_; clear ho hb hg hat; obtain ⟨Ao10, co10, eo10⟩ := Kd.R_slice HO227.out; subst eo10) | ((with_reducible refine gate_callee (f := 96) rfl ?_); refine goesL_ (some 10) rfl rfl Try.func96 (by kernel_rfl) rfl #[.slice Ao10 y225.length co10] rfl (by (try simp only [List.map_toArray, List.map_cons, List.map_nil]); first | done | rfl | (simp only [List.length_drop, List.length_take]; rfl)) ?_; (with_reducible refine (spec_l01Hash.calls _ _ y225 t228 _ ?side1 ?side2 A5.out).mono ?_); (case side1 => repeat (first | exact (Kd.R_reads' HO227.out).2.2 | (with_reducible refine Kd.C_alloc ?_ _) | (with_reducible refine Kd.C_drewN ?_ _) | (with_reducible refine Kd.C_drew ?_))); (case side2 => exact (Kd.R_reads' HO227.out).2.1); rintro e w11 ⟨rfl, hb⟩; refine ⟨_, rfl, ?_⟩; have n0_ := Aside0.mk (Kd.R_below (by (with_reducible repeat (first | apply Kd.R_alloc | apply Kd.R_drewN | apply Kd.R_drew)); exact HO227.out) hb); have n1_ := Aside0.mk (below_step (by repeat (first | (with_reducible first | exact HB.out | apply below_alloc | apply pw_below_drewN | apply below_drew1) | exact HB.out)) hb); clear HO227; clear HB; have HO227 := n0_; have HB := n1_; clear n0_ n1_; (try clear hb); (try clear hb2); (try clear hk); (try clear hi)))
   go_ret
   exact ⟨by first | rfl | (simp [errW_none, errW_some] <;> rfl) | (simp [*, errW_none, errW_some] <;> rfl), by repeat (first | (with_reducible first | exact HB.out | apply below_alloc | apply pw_below_drewN | apply below_drew1) | exact HB.out)⟩
  ·rw [if_neg c4] at H
   exact absurd H (by simp)
 ·rw [if_neg c3] at H
  exact absurd H (by simp)

/-! ### spec_l06Half: function 113 -/
def spec_l06Half.l0 : Nat → Int → Int → Option (Int)
 | 0, _, _ => none
 | k + 1, x0, x3 => if (wrap64 (2 * x3)) < x0 then (spec_l06Half.l0 k x0 (wrap64 (x3 * 2))) else (some x3)
def spec_l06Half.f (k : Nat) (a0 : Int) : Option (Int) := spec_l06Half.l0 k a0 1
theorem spec_l06Half.mono_l : ∀ k, (∀ y0 y1, LeO (spec_l06Half.l0 k y0 y1) (spec_l06Half.l0 (k + 1) y0 y1))
 | 0 => fun _ _ r h => by simp [spec_l06Half.l0] at h
 | k + 1 => by
  have ih0 := spec_l06Half.mono_l k
  ·intro y0 y1
   unfold spec_l06Half.l0
   repeat' first
   | (with_reducible exact ih0 _ _)
   | (with_reducible exact LeO.refl _)
   | (with_reducible exact LeO.none _)
   | (with_reducible refine LeO.ite ?_ ?_)
   | (with_reducible refine LeO.bind ?_ (fun _ => ?_))
   | exact ih0 _ _
   | exact LeO.none _
   | refine LeO.ite ?_ ?_
   | refine LeO.bind ?_ (fun _ => ?_)
theorem spec_l06Half.mono : ∀ a0 k, LeO (spec_l06Half.f k a0) (spec_l06Half.f (k + 1) a0) := by
 intro a0 k
 have ih0 := spec_l06Half.mono_l k
 unfold spec_l06Half.f
 repeat' first
   | (with_reducible exact ih0 _ _)
   | (with_reducible exact LeO.refl _)
   | (with_reducible exact LeO.none _)
   | (with_reducible refine LeO.ite ?_ ?_)
   | (with_reducible refine LeO.bind ?_ (fun _ => ?_))
   | exact ih0 _ _
   | exact LeO.none _
   | refine LeO.ite ?_ ?_
   | refine LeO.bind ?_ (fun _ => ?_)
set_option maxHeartbeats 8000000 in
set_option maxRecDepth 100000 in
theorem spec_l06Half.calls (k : Nat) (a0 : Int) (r : Int) (w : World) (h : spec_l06Half.f k a0 = some r) :
  Calls Try.prog 113 #[.int .i64 a0] w fun e w' => e = .returned (.int .i64 r) ∧ Drawn0 w w' := by
 have H : (spec_l06Half.l0 k a0 1) = some r := h
 clear h
 have H' := Aside0.mk H
 clear H
 go_enter Try.func113, Try.ntmps113
 go_wp2
 go_loopg [3] k (fun kq v3 w' => ∃ (x3_1 : Int), v3 = .int .i64 x3_1 ∧ Aside0 (spec_l06Half.l0 kq a0 x3_1 = some r) ∧ Aside0 (kq ≤ k) ∧ Drawn0 w w')
 case atStart => exact ⟨(1), (by first | rfl | (simp; done) | (simp [*]; done)), H', ⟨Nat.le_refl _⟩, by repeat (first | exact Drawn0.refl _ | apply Drawn0.step)⟩
 case round =>
  clear H'
  try clear c1
  obtain ⟨x3_1, rfl, HA, HK1, ⟨m1, rfl⟩⟩ := hrel
  cases gk with
  | zero => exact absurd HA.out (by simp [spec_l06Half.l0])
  | succ k1 =>
   have H := HA.out
   clear HA
   simp only [spec_l06Half.l0] at H
   by_cases c2 : (wrap64 (2 * x3_1)) < a0
   ·rw [if_pos c2] at H
    have c2b0 : decide ((wrap64 (2 * x3_1)) < a0) = true := decide_eq_true c2
    clear c2
    have H' := Aside0.mk H
    clear H
    go_wp2
    go_roundg k1
    case measure => have := HK1.out; omega
    case rel => exact ⟨(wrap64 (x3_1 * 2)), (by first | rfl | (simp; done) | (simp [*]; done)), H', ⟨by have := HK1.out; omega⟩, by repeat (first | exact Drawn0.refl _ | apply Drawn0.step)⟩
   ·rw [if_neg c2] at H
    have c2b0 : decide ((wrap64 (2 * x3_1)) < a0) = false := decide_eq_false c2
    clear c2
    obtain rfl := Option.some.inj H
    go_wp2
    go_ret
    exact ⟨by first | rfl | (simp; done) | (simp [*]; done), by repeat (first | exact Drawn0.refl _ | apply Drawn0.step)⟩

end Go.Proofs.Ytamjkgbimcpfaaa.PFnPeaks
