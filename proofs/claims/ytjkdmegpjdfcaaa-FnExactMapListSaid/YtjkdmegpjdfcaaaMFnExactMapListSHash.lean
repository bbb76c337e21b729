/- What the reference's hash answers: the same SHA-256; and the walk that shows it, for rows of at most 2^40 bytes. -/
import Derived.Test.YtjkdmegpjdfcaaaMFnExactMapListHash
import Derived.Test.YtjkdmegpjdfcaaaMFnExactMapListBHashx1
set_option linter.unusedVariables false
set_option linter.unusedSimpArgs false
namespace Go.Proofs.Ytjkdmegpjdfcaaa.SHash
open Go.Proofs.Ytjkdmegpjdfcaaa.BHash Go.RowKit Go.Proofs.YtjkdmegpjdfcaaaW.PrintWords Go.Proofs.YtjkdmegpjdfcaaaW.PrintLast Go.Proofs.YtjkdmegpjdfcaaaW.PrintMore Go.Proofs.Ytjkdmegpjdfcaaa.HashW Go.Proofs.Ytjkdmegpjdfcaaa.U Go.Proofs.Ytjkdmegpjdfcaaa.Hash
set_option maxHeartbeats 8000000 in
set_option maxRecDepth 100000 in
theorem turn_same (a0 : Int) (a1 : Int) (r : Int) (w : World) (h : spec_l01Turn.f a0 a1 = some r) :
    Calls Try.prog 63 #[.int .u32 a0, .int .u64 a1] w fun e w' => e = .returned (.int .u32 r) ∧ w' = w := by
  have H : (if 0 ≤ a1 then (if 0 ≤ (IntKind.u64.wrap (32 - a1)) then (some (Go.bits .or .u32 (shr .u32 a0 a1) (shl .u32 a0 (IntKind.u64.wrap (32 - a1))))) else (none)) else (none)) = some r := h
  clear h
  by_cases c3 : 0 ≤ a1
  · rw [if_pos c3] at H
    have c3b0 := eq_true c3
    have c3b1 : decide (0 ≤ a1) = true := decide_eq_true c3
    clear c3
    obtain ⟨ji4, hji4⟩ : ∃ j_ : Int, (shr .u32 a0 a1) = j_ := ⟨_, rfl⟩
    replace H : (if 0 ≤ (IntKind.u64.wrap (32 - a1)) then (some (Go.bits .or .u32 (ji4) (shl .u32 a0 (IntKind.u64.wrap (32 - a1))))) else (none)) = some r := by first | (rw [hji4] at H; exact H) | (simp only [hji4] at H ⊢; exact H)
    have hji4_ : (a0 / 2 ^ min a1.toNat 32) = ji4 := hji4
    have hji4z : a1 ≤ 32 → (a0 / 2 ^ a1.toNat) = ji4 := shr_small hji4
    obtain ⟨ji5, hji5⟩ : ∃ j_ : Int, (IntKind.u64.wrap (32 - a1)) = j_ := ⟨_, rfl⟩
    replace H : (if 0 ≤ (ji5) then (some (Go.bits .or .u32 (ji4) (shl .u32 a0 (ji5)))) else (none)) = some r := by first | (rw [hji5] at H; exact H) | (simp only [hji5] at H ⊢; exact H)
    by_cases c6 : 0 ≤ (ji5)
    · rw [if_pos c6] at H
      have c6b0 := eq_true c6
      have c6b1 : decide (0 ≤ (ji5)) = true := decide_eq_true c6
      clear c6
      obtain ⟨ji7, hji7⟩ : ∃ j_ : Int, (shl .u32 a0 (ji5)) = j_ := ⟨_, rfl⟩
      replace H : (some (Go.bits .or .u32 (ji4) (ji7))) = some r := by first | (rw [hji7] at H; exact H) | (simp only [hji7] at H ⊢; exact H)
      have hji7_ : (IntKind.u32.wrap (a0 * 2 ^ min (ji5).toNat 32)) = ji7 := hji7
      have hji7z : (ji5) ≤ 32 → (IntKind.u32.wrap (a0 * 2 ^ (ji5).toNat)) = ji7 := shl_small hji7
      obtain rfl := Option.some.inj H
      go_enter Try.func63, Try.ntmps63
      go_wp2
      go_ret
      exact ⟨by first | rfl | (simp; done) | (simp only [← hji4, ← hji5, ← hji7] <;> (first | rfl | simp)) | (simp [*]; done), rfl⟩
    · rw [if_neg c6] at H
      exact absurd H (by simp)
  · rw [if_neg c3] at H
    exact absurd H (by simp)
theorem turn_of (x n m : Int) (h1 : IntKind.u64.wrap (32 - n) = m) (h2 : m = 32 - n) (h3 : 0 ≤ n) (h4 : 0 ≤ m) : spec_l01Turn.f x n = some (rot x n) := by
  unfold spec_l01Turn.f
  rw [if_pos h3, h1, if_pos h4, h2]
  rfl
theorem turn_eq (x n : Int) (h : turns n = true) : spec_l01Turn.f x n = some (rot x n) := by
  unfold turns at h
  simp only [Bool.or_eq_true, beq_iff_eq] at h
  rcases h with ((((((((rfl | rfl) | rfl) | rfl) | rfl) | rfl) | rfl) | rfl) | rfl) | rfl
  · exact turn_of x 7 25 (by kernel_rfl) (by kernel_rfl) (by decide) (by decide)
  · exact turn_of x 18 14 (by kernel_rfl) (by kernel_rfl) (by decide) (by decide)
  · exact turn_of x 17 15 (by kernel_rfl) (by kernel_rfl) (by decide) (by decide)
  · exact turn_of x 19 13 (by kernel_rfl) (by kernel_rfl) (by decide) (by decide)
  · exact turn_of x 6 26 (by kernel_rfl) (by kernel_rfl) (by decide) (by decide)
  · exact turn_of x 11 21 (by kernel_rfl) (by kernel_rfl) (by decide) (by decide)
  · exact turn_of x 25 7 (by kernel_rfl) (by kernel_rfl) (by decide) (by decide)
  · exact turn_of x 2 30 (by kernel_rfl) (by kernel_rfl) (by decide) (by decide)
  · exact turn_of x 13 19 (by kernel_rfl) (by kernel_rfl) (by decide) (by decide)
  · exact turn_of x 22 10 (by kernel_rfl) (by kernel_rfl) (by decide) (by decide)
theorem turn_any (x n : Int) (w : World) (h : turns n = true) : Calls Try.prog 63 #[.int .u32 x, .int .u64 n] w fun e w' => e = .returned (.int .u32 (rot x n)) ∧ w' = w :=
  turn_same x n _ w (turn_eq x n h)
/-- A row of words that is only read. -/
structure Row (w : World) (b : Nat) (l : List Int) : Prop where
  cell : ∀ i : Nat, i < l.length → w.cell? ⟨b, i, none⟩ = some (.int .u32 (rd l (i : Int)))
theorem Row.below {w w' : World} {b n : Nat} {l : List Int} (h : Row w b l) (hb : Below n w w') (hn : b < n) : Row w' b l := ⟨fun i hi => (hb.cell (p := ⟨b, i, none⟩) hn).trans (h.cell i hi)⟩
theorem Row.lt {w : World} {b : Nat} {l : List Int} (h : Row w b l) (h0 : 0 < l.length) : b < w.heap.size := World.block_lt_of_cell? w _ (h.cell 0 h0)
theorem Row.kept {w w' : World} {b : Nat} {l : List Int} {S : Nat → Prop} (h : Row w b l) (hk : Kept w w' S) (hn : ¬ S b) : Row w' b l := ⟨fun i hi => cell_kept (h.cell i hi) hk hn⟩
theorem Row.drew {w : World} {b : Nat} {l : List Int} (h : Row w b l) : Row w.drew b l := ⟨fun i hi => (by simp : w.drew.cell? ⟨b, i, none⟩ = w.cell? ⟨b, i, none⟩).trans (h.cell i hi)⟩
theorem _root_.Go.Proofs.Ytjkdmegpjdfcaaa.HashW.Arr.row {w : World} {b : Nat} {l : List Int} (h : Arr w b l) : Row w b l := ⟨fun i hi => h.cell i hi⟩
section
variable {P : Program} {ops : Array Oper} {rest : List Oper} {op : Oper} {a : Act} {W : World} {Q : Exit → Act → World → Prop}
/-- What makes one new block of words. -/
theorem arr_event (hgd : op.guard = none) (t : TypeId) (v : Nat → Value) (l : List Int) (hr : ∀ w : World, (execOp a.eval op).run P w = .ok (.value (v w.heap.size)) (w.alloc (.cells (U l).toArray t)))
    (h : ∀ W1 b, New W W1 b l → wpList P ops Q rest (a.put op.dst (v b)) W1) : wpList P ops Q (op :: rest) a W :=
  wpList_plain hgd fun K hK => by
    obtain ⟨h1, h2⟩ := arr_new (t := t) W l
    have := hK _ _ (h _ _ ⟨rfl, by show (W.heap.push _).size = _; simp, h1, h2⟩)
    unfold Oper.wp
    rw [hr W, Oper.upon_value]
    exact this
end
theorem reads_of {w : World} {b n : Nat} {l : List Int} (h : Arr w b l) (hl : l.length = n) (hn : n ≤ 9223372036854775807) (t : TypeId) : ReadsInt (w.alloc (.cells #[] t)) .u32 (some ⟨b, 0, none⟩) n l :=
  ⟨hl, hn, fun h0 => ⟨_, rfl, fun j hj => by
    have hlt := h.lt (by omega)
    have hc := h.cell j (by omega)
    rw [add_plain, (below_alloc (Below.refl w.heap.size w) (.cells #[] t)).cell (p := ⟨b, j, none⟩) hlt, hc]
    unfold rd
    rw [Int.toNat_natCast]⟩⟩
theorem row_of_own {w : World} {base b n c : Nat} {e : TypeId} {l : List Int} (h : w.ownsRow base e 1 (.slice (some ⟨b, 0, none⟩) n c) n (nums .u32 l)) : Row w b l := ⟨fun i hi => by
  have hl : l.length = n := by have := h.1; simp [nums] at this; exact this
  have := (own_at h (i : Int) (by omega) (by omega)).1
  rw [Int.toNat_natCast] at this
  exact this⟩
theorem made64 : (madeCells #[Value.int .u32 0] 64) = (U (List.replicate 64 0)).toArray := by kernel_rfl
theorem make64 (W : World) : (Instr.makeSlice 73 (.int .i64 64) (.int .i64 64)).run Try.prog W = .ok (.slice (some ⟨W.heap.size, 0, none⟩) 64 64) (W.alloc (.cells (U (List.replicate 64 0)).toArray 72)) := by
  rw [← made64]
  exact print_make 73 72 .u32 4 Try.underlying73 info72 (by decide) 64 (by decide) W
theorem bv_wrap (x : BitVec 32) : BitVec.ofInt 32 (IntKind.u32.wrap (x.toNat : Int)) = x := by
  rw [IntKind.wrap_u32]
  apply BitVec.eq_of_toNat_eq
  rw [BitVec.toNat_ofInt]
  have := x.isLt
  omega
theorem bv_and (a b : Int) : BitVec.ofInt 32 (bits .and .u32 a b) = BitVec.ofInt 32 a &&& BitVec.ofInt 32 b := bv_wrap _
theorem bv_or (a b : Int) : BitVec.ofInt 32 (bits .or .u32 a b) = BitVec.ofInt 32 a ||| BitVec.ofInt 32 b := bv_wrap _
theorem bv_xor (a b : Int) : BitVec.ofInt 32 (bits .xor .u32 a b) = BitVec.ofInt 32 a ^^^ BitVec.ofInt 32 b := bv_wrap _
theorem or_bits {a b c d : Int} (h : BitVec.ofInt 32 a ||| BitVec.ofInt 32 b = BitVec.ofInt 32 c ^^^ BitVec.ofInt 32 d) : bits .or .u32 a b = bits .xor .u32 c d := by
  show IntKind.u32.wrap ((BitVec.ofInt 32 a ||| BitVec.ofInt 32 b).toNat : Int) = IntKind.u32.wrap ((BitVec.ofInt 32 c ^^^ BitVec.ofInt 32 d).toNat : Int)
  rw [h]
theorem ones : BitVec.ofInt 32 IntKind.u32.max = BitVec.allOnes 32 := by decide
theorem ch_xor (e f g : Int) : ch e f g = bits .xor .u32 (bits .and .u32 e f) (bits .and .u32 (bits .xor .u32 IntKind.u32.max e) g) := by
  unfold ch
  apply or_bits
  rw [bv_and, bv_and, bv_xor, ones]
  apply BitVec.eq_of_getLsbD_eq
  intro i hi
  simp only [BitVec.getLsbD_or, BitVec.getLsbD_xor, BitVec.getLsbD_and, BitVec.getLsbD_allOnes, hi, decide_true]
  cases (BitVec.ofInt 32 e).getLsbD i <;> cases (BitVec.ofInt 32 f).getLsbD i <;> cases (BitVec.ofInt 32 g).getLsbD i <;> rfl
theorem maj_xor (a b c : Int) : maj a b c = bits .xor .u32 (bits .xor .u32 (bits .and .u32 a b) (bits .and .u32 a c)) (bits .and .u32 b c) := by
  unfold maj
  apply or_bits
  rw [bv_or, bv_xor, bv_and, bv_and, bv_and]
  apply BitVec.eq_of_getLsbD_eq
  intro i hi
  simp only [BitVec.getLsbD_or, BitVec.getLsbD_xor, BitVec.getLsbD_and]
  cases (BitVec.ofInt 32 a).getLsbD i <;> cases (BitVec.ofInt 32 b).getLsbD i <;> cases (BitVec.ofInt 32 c).getLsbD i <;> rfl
theorem adds_comm (a b : List Int) (ha : a.length = 8) (hb : b.length = 8) : adds a b 8 = adds b a 8 := by
  match a, ha, b, hb with
  | [a0, a1, a2, a3, a4, a5, a6, a7], _, [b0, b1, b2, b3, b4, b5, b6, b7], _ =>
    have e : ∀ a0 a1 a2 a3 a4 a5 a6 a7 b0 b1 b2 b3 b4 b5 b6 b7 : Int, adds [a0, a1, a2, a3, a4, a5, a6, a7] [b0, b1, b2, b3, b4, b5, b6, b7] 8 = [IntKind.u32.wrap (b0 + a0), IntKind.u32.wrap (b1 + a1), IntKind.u32.wrap (b2 + a2), IntKind.u32.wrap (b3 + a3), IntKind.u32.wrap (b4 + a4), IntKind.u32.wrap (b5 + a5), IntKind.u32.wrap (b6 + a6), IntKind.u32.wrap (b7 + a7)] := fun _ _ _ _ _ _ _ _ _ _ _ _ _ _ _ _ => rfl
    rw [e, e, Int.add_comm b0, Int.add_comm b1, Int.add_comm b2, Int.add_comm b3, Int.add_comm b4, Int.add_comm b5, Int.add_comm b6, Int.add_comm b7]
set_option maxHeartbeats 4000000 in
set_option maxRecDepth 100000 in
theorem block_walk (bh bk ch ck cb : Nat) (A : Option Addr) (hs ks bs : List Int) (w : World) (hh : hs.length = 8) (hk : ks.length = 64) (hb : bs.length = 64) (hr : R32 hs)
    (HA : Arr w bh hs) (HKR : Row w bk ks) (HB : Kd.C (Kd.int .u8) w A 64 bs) (hne : bk ≠ bh) :
    Calls Try.prog 52 #[.slice (some ⟨bh, 0, none⟩) 8 ch, .slice A 64 cb, .slice (some ⟨bk, 0, none⟩) 64 ck] w fun e w' => e = .returned (.tuple #[]) ∧ Arr w' bh (block hs ks bs) ∧ Kept w w' (fun k => k = bh) ∧ Below bh w w' := by
  have HH := Aside0.mk hh
  have HK := Aside0.mk hk
  have HL := Aside0.mk hb
  have HR := Aside0.mk hr
  have HA0 := Aside0.mk HA
  have HK0 := Aside0.mk HKR
  obtain ⟨ad, rfl, HAD⟩ : ∃ ad : Addr, A = some ad ∧ Aside0 (∀ i : Int, 0 ≤ i → i < 64 → w.cell? (ad.add i.toNat) = some (.int .u8 (rd bs i))) := by
    obtain ⟨ad, e, _⟩ := Kd.at_int (hb ▸ HB) 0 (by omega) (by omega)
    refine ⟨ad, e, ⟨fun i h0 h1 => ?_⟩⟩
    obtain ⟨ad', e', h⟩ := Kd.at_int (hb ▸ HB) i h0 (by omega)
    rw [e] at e'
    cases e'
    exact h
  have HNE := Aside0.mk hne
  clear hh hk hb hr HA HKR HB hne
  obtain ⟨Z, hZ⟩ : ∃ Z : List Int, Z = List.replicate 64 0 := ⟨_, rfl⟩
  have HM : Aside0 (∀ W : World, (Instr.makeSlice 73 (.int .i64 64) (.int .i64 64)).run Try.prog W = .ok (.slice (some ⟨W.heap.size, 0, none⟩) 64 64) (W.alloc (.cells (U Z).toArray 72))) := ⟨fun W => by rw [hZ]; exact make64 W⟩
  have HZ := Aside0.mk hZ
  clear hZ
  go_enter Try.func52, Try.ntmps52
  go_wp2_with ((with_reducible refine gate_dst (N := 18) rfl ?_); refine arr_event rfl 72 (fun b => .slice (some ⟨b, 0, none⟩) 64 64) Z (fun w => by unfold execOp; simp only [Sem.run_bind]; show (Result.andThen ((Instr.makeSlice 73 (.int .i64 64) (.int .i64 64)).run Try.prog w) _) = _; rw [HM.out]; rfl) ?_; intro W1 bw hn1; have HN1 := Aside0.mk hn1; clear hn1)
  have HB0 : Aside0 (Below w.heap.size w W1) := ⟨HN1.out.below⟩
  have HW0 : Aside0 (Arr W1 bw (words bs 0)) := ⟨by rw [show words bs 0 = Z from HZ.out.symm]; exact HN1.out.arr⟩
  have Hbw : Aside0 (w.heap.size ≤ bw) := ⟨by have := HN1.out.at_; omega⟩
  clear HN1
  go_loopw [7] (fun v7 w' => ∃ i : Nat, i ≤ 16 ∧ v7 = .int .i64 i ∧ Aside0 (Below w.heap.size w w') ∧ Aside0 (Arr w' bw (words bs i))) (fun v7 _ => 16 - (intOf v7).toNat)
  case atStart => exact ⟨0, by omega, rfl, HB0, HW0⟩
  case round =>
    clear HB0 HW0
    obtain ⟨i, hi, rfl, HB, HW⟩ := hrel
    by_cases hlt : i < 16
    · skip
      go_wp2
      have HI := Aside0.mk hlt
      have h16 : i < 16 := hlt
      have h64 : (i : Int) < 64 := by omega
      obtain ⟨j0, hj0⟩ : ∃ j : Int, j = 4 * (i : Int) := ⟨_, rfl⟩
      obtain ⟨j1, hj1⟩ : ∃ j : Int, j = j0 + 1 := ⟨_, rfl⟩
      obtain ⟨j2, hj2⟩ : ∃ j : Int, j = j0 + 2 := ⟨_, rfl⟩
      obtain ⟨j3, hj3⟩ : ∃ j : Int, j = j0 + 3 := ⟨_, rfl⟩
      have hx0 := HAD.out j0 (by omega) (by omega)
      have hx1 := HAD.out j1 (by omega) (by omega)
      have hx2 := HAD.out j2 (by omega) (by omega)
      have hx3 := HAD.out j3 (by omega) (by omega)
      replace hx0 := (HB.out.cell (World.block_lt_of_cell? w _ hx0)).trans hx0
      replace hx1 := (HB.out.cell (World.block_lt_of_cell? w _ hx1)).trans hx1
      replace hx2 := (HB.out.cell (World.block_lt_of_cell? w _ hx2)).trans hx2
      replace hx3 := (HB.out.cell (World.block_lt_of_cell? w _ hx3)).trans hx3
      have p0 := eq_true (show (0 : Int) ≤ j0 by omega)
      have p1 := eq_true (show (0 : Int) ≤ j1 by omega)
      have p2 := eq_true (show (0 : Int) ≤ j2 by omega)
      have p3 := eq_true (show (0 : Int) ≤ j3 by omega)
      have q0 := eq_true (show j0 < 64 by omega)
      have q1 := eq_true (show j1 < 64 by omega)
      have q2 := eq_true (show j2 < 64 by omega)
      have q3 := eq_true (show j3 < 64 by omega)
      have e0 : IntKind.i64.wrap (4 * (i : Int)) = j0 := by rw [hj0]; exact IntWalk.i64_in _ (by omega)
      have e1 : IntKind.i64.wrap (j0 + 1) = j1 := by rw [hj1]; exact IntWalk.i64_in _ (by omega)
      have e2 : IntKind.i64.wrap (j0 + 2) = j2 := by rw [hj2]; exact IntWalk.i64_in _ (by omega)
      have e3 : IntKind.i64.wrap (j0 + 3) = j3 := by rw [hj3]; exact IntWalk.i64_in _ (by omega)
      have HJ := Aside0.mk (And.intro hj0 (And.intro hj1 (And.intro hj2 hj3)))
      clear hj0 hj1 hj2 hj3 hlt
      have hc : wr.cell? ⟨bw, i, none⟩ = some (.int .u32 (rd (words bs i) (i : Int))) := HW.out.cell i (by rw [words_length]; omega)
      have hf : wr.frozen? ⟨bw, i, none⟩ = false := HW.out.frozen i (by rw [words_length]; omega)
      go_still_tail 36, (by kernel_rfl)
      change wpList _ _ _ _ _ wr.drew
      go_wp2_with fail
      go_roundw
      case rel =>
        refine ⟨i + 1, by have := HI.out; omega, by go_num, ⟨below_drew (HB.out.setCell (p := ⟨bw, i, none⟩) Hbw.out _)⟩, ⟨Arr.drew ?_⟩⟩
        rw [words_succ, Go.Proofs.Ytjkdmegpjdfcaaa.Hash.step, if_pos HI.out]
        unfold f16
        obtain ⟨g0, g1, g2, g3⟩ := HJ.out
        rw [← g0, ← g1, ← g2, ← g3]
        simp only [IntKind.wrap_u32]
        exact HW.out.set i _ (by rw [words_length]; have := HI.out; omega)
      case measure => have := HI.out; simp [intOf]; omega
    · have e16 : i = 16 := by omega
      have k16 : 16 ≤ (i : Int) := by omega
      have HB0 := HB
      have HW0 : Aside0 (Arr wr bw (words bs 16)) := by rw [e16] at HW; exact HW
      clear HB HW hi hlt e16
      go_wp2_with fail
      go_loopw [8] (fun v8 w' => ∃ i : Nat, 16 ≤ i ∧ i ≤ 64 ∧ v8 = .int .i64 i ∧ Aside0 (Below w.heap.size w w') ∧ Aside0 (Arr w' bw (words bs i))) (fun v8 _ => 64 - (intOf v8).toNat)
      case atStart => exact ⟨16, by omega, by omega, rfl, HB0, HW0⟩
      case round =>
        clear HB0 HW0
        obtain ⟨i, h16, hi, rfl, HB, HW⟩ := hrel
        by_cases hlt : i < 64
        · skip
          have HI := Aside0.mk (And.intro h16 hlt)
          obtain ⟨ja, hja⟩ : ∃ j : Int, j = (i : Int) - 15 := ⟨_, rfl⟩
          obtain ⟨jb, hjb⟩ : ∃ j : Int, j = (i : Int) - 2 := ⟨_, rfl⟩
          obtain ⟨jc, hjc⟩ : ∃ j : Int, j = (i : Int) - 16 := ⟨_, rfl⟩
          obtain ⟨jd, hjd⟩ : ∃ j : Int, j = (i : Int) - 7 := ⟨_, rfl⟩
          have pa := eq_true (show (0 : Int) ≤ ja by omega)
          have pb := eq_true (show (0 : Int) ≤ jb by omega)
          have pc := eq_true (show (0 : Int) ≤ jc by omega)
          have pd := eq_true (show (0 : Int) ≤ jd by omega)
          have qa := eq_true (show ja < 64 by omega)
          have qb := eq_true (show jb < 64 by omega)
          have qc := eq_true (show jc < 64 by omega)
          have qd := eq_true (show jd < 64 by omega)
          have ea : IntKind.i64.wrap ((i : Int) - 15) = ja := by rw [hja]; exact IntWalk.i64_in _ (by omega)
          have eb : IntKind.i64.wrap ((i : Int) - 2) = jb := by rw [hjb]; exact IntWalk.i64_in _ (by omega)
          have ec : IntKind.i64.wrap ((i : Int) - 16) = jc := by rw [hjc]; exact IntWalk.i64_in _ (by omega)
          have ed : IntKind.i64.wrap ((i : Int) - 7) = jd := by rw [hjd]; exact IntWalk.i64_in _ (by omega)
          have hx0 := (words_range bs i).rd ja
          have hy0 := (words_range bs i).rd jb
          have hl := words_length bs i
          have ha := HW.out.cell ja.toNat (by omega)
          have hb := HW.out.cell jb.toNat (by omega)
          have hc := HW.out.cell jc.toNat (by omega)
          have hd := HW.out.cell jd.toNat (by omega)
          rw [Int.toNat_of_nonneg (by omega)] at ha hb hc hd
          obtain ⟨x, hx⟩ : ∃ x, x = rd (words bs i) ja := ⟨_, rfl⟩
          obtain ⟨y, hy⟩ : ∃ x, x = rd (words bs i) jb := ⟨_, rfl⟩
          obtain ⟨z, hzz⟩ : ∃ x, x = rd (words bs i) jc := ⟨_, rfl⟩
          obtain ⟨u, hu⟩ : ∃ x, x = rd (words bs i) jd := ⟨_, rfl⟩
          rw [← hx] at ha hx0
          rw [← hy] at hb hy0
          rw [← hzz] at hc
          rw [← hu] at hd
          have HX := Aside0.mk (And.intro hx (And.intro hy (And.intro hzz hu)))
          have HJ := Aside0.mk (And.intro hja (And.intro hjb (And.intro hjc hjd)))
          have hf : wr.frozen? ⟨bw, i, none⟩ = false := HW.out.frozen i (by omega)
          have hcc : wr.cell? ⟨bw, i, none⟩ = some (.int .u32 (rd (words bs i) (i : Int))) := HW.out.cell i (by omega)
          have h64 : (i : Int) < 64 := by omega
          clear hx hy hzz hu hja hjb hjc hjd hlt hl h16 hi
          go_wp2_with fail
          refine wp_region_still_tail 32 (by kernel_rfl) (by kernel_rfl) ?_
          simp only [List.take_succ_cons, List.take_zero, List.drop_succ_cons, List.drop_zero]
          repeat (first | still_step | still_call (turn_any _ _ _ (by rfl)))
          try refine wpStill_nil ?_
          change wpList _ _ _ _ _ wr.drew
          go_wp2_with fail
          go_roundw
          case rel =>
            have hI := HI.out
            refine ⟨i + 1, by omega, by omega, by go_num, ⟨below_drew (HB.out.setCell (p := ⟨bw, i, none⟩) Hbw.out _)⟩, ⟨Arr.drew ?_⟩⟩
            rw [words_succ, Go.Proofs.Ytjkdmegpjdfcaaa.Hash.step, if_neg (by omega)]
            unfold g16 sg
            obtain ⟨g0, g1, g2, g3⟩ := HJ.out
            obtain ⟨k0, k1, k2, k3⟩ := HX.out
            rw [← g0, ← g1, ← g2, ← g3, ← k0, ← k1, ← k2, ← k3]
            simp only [IntKind.wrap_u32, Int.emod_add_emod, Int.add_emod_emod]
            exact HW.out.set i _ (by rw [words_length]; omega)
          case measure => have := HI.out; simp [intOf]; omega
        · have e64 : i = 64 := by omega
          have g64 : 64 ≤ (i : Int) := by omega
          obtain ⟨ws, hws⟩ : ∃ ws, words bs 64 = ws := ⟨_, rfl⟩
          have HWL : Aside0 (ws.length = 64) := ⟨by rw [← hws]; exact words_length _ _⟩
          have HW0 : Aside0 (Arr wr bw ws) := by rw [e64, hws] at HW; exact HW
          have HWS := Aside0.mk hws
          have HB0 := HB
          clear HB HW hi hlt e64 h16 hws
          have HAr := HA0.out.below HB0.out (HA0.out.lt (by rw [HH.out]; omega))
          have hri : ReadsInt (wr.alloc (.cells #[] 72)) .u32 (some ⟨bh, 0, none⟩) 8 hs := reads_of HAr HH.out (by omega) 72
          have HRI := Aside0.mk hri
          clear hri HAr
          go_wp2_with ((with_reducible refine gate_builtin (b := .append) (xs := #[.tmp 105, .tmp 106]) rfl ?_); at_builtin; refine print_append_row (w0 := wr) wr.heap.size rfl (.tmp 105) (.tmp 106) 73 72 .u32 4 rfl Try.underlying73 info72 (by decide) _ [] hs _ _ _ rfl rfl (own_lit wr wr.heap.size 72 .u32 [] (Nat.le_refl _) (by simp)) HRI.out (below_alloc (Below.refl _ _) _) (by simp) (by simp) ?_; intro v1 w1 hown hB1 hg1 hat1; obtain ⟨bv, cv, rfl, hbv, hlv⟩ := hown.form (by rw [List.nil_append, HH.out]; omega); have HV1 := Aside0.mk (row_of_own hown); have HB1 := Aside0.mk hB1; have HB2 := Aside0.mk hbv; clear hg1 hat1 hown hB1 hbv hlv)
          rw [List.nil_append] at HV1
          have hlen := HH.out
          rw [hlen]
          clear hlen
          have HB3 : Aside0 (Below w.heap.size w w1) := ⟨below_then HB0.out HB0.out.size HB1.out⟩
          have hbwl := HW0.out.lt (by rw [HWL.out]; omega)
          have HW3 : Aside0 (Row w1 bw ws) := ⟨HW0.out.row.below HB1.out hbwl⟩
          have HV3 : Aside0 (Row w1 bv (rounds ks ws hs 0)) := HV1
          have HB4 : Aside0 (w.heap.size ≤ bv) := ⟨Nat.le_trans HB0.out.size HB2.out⟩
          clear HB0 HW0 HB1 HB2 HV1 hbwl HRI
          go_loopw [12, 11] (fun v12 v11 w' => ∃ i bv cv : Nat, i ≤ 64 ∧ v12 = .int .i64 i ∧ v11 = .slice (some ⟨bv, 0, none⟩) 8 cv ∧ Aside0 (Below w.heap.size w w') ∧ Aside0 (Row w' bw ws) ∧ Aside0 (Row w' bv (rounds ks ws hs i)) ∧ Aside0 (w.heap.size ≤ bv)) (fun v12 _ _ => 64 - (intOf v12).toNat)
          case atStart => exact ⟨0, bv, cv, by omega, rfl, rfl, HB3, HW3, HV3, HB4⟩
          case round =>
            clear HB3 HW3 HV3 HB4
            obtain ⟨i, b11, c11, hi, rfl, rfl, HB, HW, HV, HN⟩ := hrel
            by_cases hlt : i < 64
            · obtain ⟨v, hv⟩ : ∃ v, v = rounds ks ws hs i := ⟨_, rfl⟩
              rw [← hv] at HV
              have HVL : Aside0 (v.length = 8) := ⟨by rw [hv]; exact rounds_length _ _ _ HH.out _⟩
              have HVR : Aside0 (R32 v) := ⟨by rw [hv]; exact rounds_range _ _ _ HR.out _⟩
              have HVE := Aside0.mk hv
              clear hv
              have HI := Aside0.mk hlt
              have h64 : (i : Int) < 64 := by omega
              clear hlt hi
              have l8 := HVL.out
              have c0 := HV.out.cell 0 (by omega)
              have c4 := HV.out.cell 4 (by omega)
              have r0 := HVR.out.rd (0 : Nat)
              have r4 := HVR.out.rd (4 : Nat)
              clear l8
              generalize hxa : rd v ((0 : Nat) : Int) = xa at c0 r0
              generalize hxe : rd v ((4 : Nat) : Int) = xe at c4 r4
              have HX := Aside0.mk (And.intro hxa hxe)
              clear hxa hxe
              go_wp2_with fail
              have l8 := HVL.out
              have c5 := HV.out.cell 5 (by omega)
              have c6 := HV.out.cell 6 (by omega)
              have c7 := HV.out.cell 7 (by omega)
              have HKL : Aside0 (bk < w.heap.size) := ⟨HK0.out.lt (by rw [HK.out]; omega)⟩
              have ck := (HK0.out.below HB.out HKL.out).cell i (by rw [HK.out]; exact HI.out)
              have cw := HW.out.cell i (by rw [HWL.out]; exact HI.out)
              clear l8
              generalize hxf : rd v ((5 : Nat) : Int) = xf at c5
              generalize hxg : rd v ((6 : Nat) : Int) = xg at c6
              generalize hxh : rd v ((7 : Nat) : Int) = xh at c7
              generalize hxk : rd ks (i : Int) = xk at ck
              generalize hxw : rd ws (i : Int) = xw at cw
              have HY := Aside0.mk (And.intro hxf (And.intro hxg (And.intro hxh (And.intro hxk hxw))))
              clear hxf hxg hxh hxk hxw
              refine wp_region_still_lit (by kernel_rfl) (by kernel_rfl) ?_
              repeat (first | still_step | still_call (turn_any _ _ _ (by rfl)))
              refine wpStill_nil ?_
              change Exit.then _ _ _ _ (World.drew wr)
              generalize hw7 : World.drew wr = w7
              have HB7 : Aside0 (Below w.heap.size w w7) := ⟨hw7 ▸ below_drew HB.out⟩
              have HW7 : Aside0 (Row w7 bw ws) := ⟨hw7 ▸ HW.out.drew⟩
              have HV7 : Aside0 (Row w7 b11 v) := ⟨hw7 ▸ HV.out.drew⟩
              clear hw7 c0 c4 c5 c6 c7 ck cw HB HW HV
              have l8 := HVL.out
              have c1 := HV7.out.cell 1 (by omega)
              have c2 := HV7.out.cell 2 (by omega)
              clear l8
              generalize hxb : rd v ((1 : Nat) : Int) = xb at c1
              generalize hxc : rd v ((2 : Nat) : Int) = xc at c2
              have HU := Aside0.mk (And.intro hxb hxc)
              clear hxb hxc
              go_wp2_with fail
              refine wp_region_still_lit (by kernel_rfl) (by kernel_rfl) ?_
              repeat (first | still_step | still_call (turn_any _ _ _ (by rfl)))
              refine wpStill_nil ?_
              change Exit.then _ _ _ _ (World.drew w7)
              generalize hw8 : World.drew w7 = w8
              have HB8 : Aside0 (Below w.heap.size w w8) := ⟨hw8 ▸ below_drew HB7.out⟩
              have HW8 : Aside0 (Row w8 bw ws) := ⟨hw8 ▸ HW7.out.drew⟩
              have HV8 : Aside0 (Row w8 b11 v) := ⟨hw8 ▸ HV7.out.drew⟩
              clear hw8 c1 c2 HB7 HW7 HV7
              have l8 := HVL.out
              have c0 := HV8.out.cell 0 (by omega)
              have c1 := HV8.out.cell 1 (by omega)
              have c2 := HV8.out.cell 2 (by omega)
              have c3 := HV8.out.cell 3 (by omega)
              have c4 := HV8.out.cell 4 (by omega)
              have c5 := HV8.out.cell 5 (by omega)
              have c6 := HV8.out.cell 6 (by omega)
              clear l8
              rw [HX.out.1] at c0
              rw [HU.out.1] at c1
              rw [HU.out.2] at c2
              rw [HX.out.2] at c4
              rw [HY.out.1] at c5
              rw [HY.out.2.1] at c6
              generalize hxd : rd v ((3 : Nat) : Int) = xd at c3
              have HT := Aside0.mk hxd
              clear hxd
              go_wp2_with fail
              refine wp_region_still_tail 26 (by kernel_rfl) (by kernel_rfl) ?_
              simp only [List.take_succ_cons, List.take_zero, List.drop_succ_cons, List.drop_zero]
              repeat still_step
              try refine wpStill_nil ?_
              change wpList _ _ _ _ _ w8.drew
              go_wp2_with ((with_reducible refine gate_dst (N := 207) rfl ?_); refine arr_event rfl 72 (fun b => .slice (some ⟨b, 0, none⟩) 8 8) [?x0, ?x1, ?x2, ?x3, ?x4, ?x5, ?x6, ?x7] ?hr ?_; (case hr => intro w; first | (go_simp; done) | (go_simp; rfl)); intro W9 b9 hn; have HN9 := Aside0.mk hn; clear hn)
              go_roundw
              case rel =>
                have hI := HI.out
                have hb9 := HN9.out.below
                refine ⟨i + 1, b9, 8, by omega, by go_num, rfl, ⟨(below_drew HB8.out).trans (hb9.mono (below_drew HB8.out).size)⟩, ⟨(HW8.out.drew).below hb9 (HW8.out.drew.lt (by rw [HWL.out]; omega))⟩, ⟨?_⟩, ⟨by have h1 := HN9.out.at_; have h2 := (below_drew HB8.out).size; omega⟩⟩
                have h9 := HN9.out.arr.row
                rw [Go.Proofs.Ytjkdmegpjdfcaaa.Hash.rounds_succ, ← HVE.out]
                simp only [rstep]
                rw [show rd v 0 = xa from HX.out.1, show rd v 1 = xb from HU.out.1, show rd v 2 = xc from HU.out.2, show rd v 3 = xd from HT.out, show rd v 4 = xe from HX.out.2, show rd v 5 = xf from HY.out.1, show rd v 6 = xg from HY.out.2.1, show rd v 7 = xh from HY.out.2.2.1, HY.out.2.2.2.1, HY.out.2.2.2.2]
                simp only [pv, qv, tri, ch_xor, maj_xor, IntKind.wrap_u32, Int.emod_add_emod, Int.add_emod_emod] at h9 ⊢
                exact h9
              case measure => have := HI.out; simp [intOf]; omega
            · have e64 : i = 64 := by omega
              have h64 : 64 ≤ (i : Int) := by omega
              obtain ⟨v, hv⟩ : ∃ v, rounds ks ws hs 64 = v := ⟨_, rfl⟩
              have HVL : Aside0 (v.length = 8) := ⟨by rw [← hv]; exact rounds_length _ _ _ HH.out _⟩
              have HBE : Aside0 (adds hs v 8 = block hs ks bs) := ⟨by rw [← hv]; unfold block; rw [HWS.out]⟩
              have HV0 : Aside0 (Row wr b11 v) := ⟨by rw [e64, hv] at HV; exact HV.out⟩
              clear hv HV hlt hi e64
              have HBE2 : Aside0 (adds v hs 8 = block hs ks bs) := ⟨by rw [adds_comm v hs HVL.out HH.out]; exact HBE.out⟩
              have HA1 : Aside0 (Arr wr bh (adds v hs 0)) := ⟨HA0.out.below HB.out (HA0.out.lt (by rw [HH.out]; omega))⟩
              have HK1 : Aside0 (Kept w wr (fun k => k = bh) ∧ Below bh w wr) := ⟨Kept.of_below HB.out _, HB.out.mono (Nat.le_of_lt (HA0.out.lt (by rw [HH.out]; omega)))⟩
              have HBN : Aside0 (¬ b11 = bh) := ⟨by have h1 := HN.out; have h2 := HA0.out.lt (by rw [HH.out]; omega); omega⟩
              clear HBE HB HW HN
              go_wp2_with fail
              go_loopw [17] (fun v17 w' => ∃ i : Nat, i ≤ 8 ∧ v17 = .int .i64 i ∧ Aside0 (Arr w' bh (adds v hs i)) ∧ Aside0 (Row w' b11 v) ∧ Aside0 (Kept w w' (fun k => k = bh) ∧ Below bh w w')) (fun v17 _ => 8 - (intOf v17).toNat)
              case atStart => exact ⟨0, by omega, rfl, HA1, HV0, HK1⟩
              case round =>
                clear HA1 HV0 HK1
                obtain ⟨j, hj, rfl, HA, HV, HKP⟩ := hrel
                by_cases hlt : j < 8
                · have HI := Aside0.mk hlt
                  have h8 : (j : Int) < 8 := by omega
                  have HL8 : Aside0 ((adds v hs j).length = 8) := ⟨by rw [adds_length]; exact HH.out⟩
                  have cv := HV.out.cell j (by rw [HVL.out]; omega)
                  have chh := HA.out.cell j (by rw [HL8.out]; omega)
                  have hf : wr.frozen? ⟨bh, j, none⟩ = false := HA.out.frozen j (by rw [HL8.out]; omega)
                  clear hlt hj
                  generalize hxv : rd v (j : Int) = xv at cv
                  generalize hxh : rd (adds v hs j) (j : Int) = xh at chh
                  have HX := Aside0.mk (And.intro hxv hxh)
                  clear hxv hxh
                  go_wp2_with fail
                  go_still_tail 10, (by kernel_rfl)
                  change wpList _ _ _ _ _ wr.drew
                  go_wp2_with fail
                  go_roundw
                  case rel =>
                    have hI := HI.out
                    refine ⟨j + 1, by omega, by go_num, ⟨Arr.drew ?_⟩, ⟨(Row.kept HV.out (S := fun k => k = bh) ((Kept.refl wr (fun k => k = bh)).setCell (p := ⟨bh, j, none⟩) (Or.inl rfl) _) HBN.out).drew⟩, ⟨(HKP.out.1.setCell (p := ⟨bh, j, none⟩) (Or.inl rfl) _).drew, below_drew (HKP.out.2.setCell (p := ⟨bh, j, none⟩) (Nat.le_refl _) _)⟩⟩
                    rw [adds_succ, astep, HX.out.1, HX.out.2]
                    simp only [IntKind.wrap_u32]
                    exact HA.out.set j _ (by rw [HL8.out]; exact hI)
                  case measure => have := HI.out; simp [intOf]; omega
                · have e8 : j = 8 := by omega
                  have h8 : 8 ≤ (j : Int) := by omega
                  have HF : Aside0 (Arr wr bh (block hs ks bs)) := ⟨by rw [← HBE2.out, ← e8]; exact HA.out⟩
                  clear HA hlt hj e8
                  go_wp2_with fail
                  go_end0
                  exact ⟨rfl, HF.out, HKP.out.1, HKP.out.2⟩
end Go.Proofs.Ytjkdmegpjdfcaaa.SHash
