/- What the program's hash answers: SHA-256, as plain Lean; and the walk that shows it, for texts of at most 2^40 bytes. -/
import Derived.Test.YtjkdmegpjdfcaaaMFnExactMapListBHashx3
import Derived.Test.YtjkdmegpjdfcaaaMFnExactMapListHashW
import Derived.Test.YtjkdmegpjdfcaaaMFnExactMapListShelf
import Derived.Test.YtjkdmegpjdfcaaaMFnExactMapListU
import Derived.StillTailTactics
import Derived.IntWalk
set_option linter.unusedVariables false
set_option linter.unusedSimpArgs false
namespace Go.Proofs.Ytjkdmegpjdfcaaa.Hash
open Go.Proofs.Ytjkdmegpjdfcaaa.BHash Go.RowKit Go.Proofs.YtjkdmegpjdfcaaaW.PrintWords Go.Proofs.YtjkdmegpjdfcaaaW.PrintLast Go.Proofs.YtjkdmegpjdfcaaaW.PrintMore Go.Proofs.Ytjkdmegpjdfcaaa.HashW Go.Proofs.Ytjkdmegpjdfcaaa.U
theorem z94 : ∃ Z : List Int, Z = List.replicate 64 0 ∧ ∀ w, (zeroValue 80).run Try.prog w = .ok (.agg (U Z).toArray) w := ⟨_, rfl, fun w => Try.zeroValue80 w⟩
theorem i94 : (Try.prog.info? 80).map (·.size) = some 64 := by kernel_rfl
theorem i92 : (Try.prog.info? 78).map (·.size) = some 8 := by kernel_rfl
/-- A word turned right. -/
def rot (x n : Int) : Int := bits .or .u32 (shr .u32 x n) (shl .u32 x (32 - n))
def f16 (b : List Int) (j : Int) : Int :=
  bits .or .u32 (bits .or .u32 (bits .or .u32 (IntKind.u32.wrap (IntKind.u32.wrap (rd b j) * 16777216)) (IntKind.u32.wrap (IntKind.u32.wrap (rd b (j + 1)) * 65536))) (IntKind.u32.wrap (IntKind.u32.wrap (rd b (j + 2)) * 256))) (IntKind.u32.wrap (rd b (j + 3)))
def sg (x a b c : Int) : Int := bits .xor .u32 (bits .xor .u32 (rot x a) (rot x b)) c
def g16 (x y z u : Int) : Int := IntKind.u32.wrap (IntKind.u32.wrap (IntKind.u32.wrap (z + sg x 7 18 (x / 8)) + u) + sg y 17 19 (y / 1024))
def step (bs : List Int) (l : List Int) (i : Nat) : List Int := if i < 16 then l.set i (f16 bs (4 * (i : Int))) else l.set i (g16 (rd l ((i : Int) - 15)) (rd l ((i : Int) - 2)) (rd l ((i : Int) - 16)) (rd l ((i : Int) - 7)))
def words (bs : List Int) (i : Nat) : List Int := (List.range i).foldl (step bs) (List.replicate 64 0)
theorem words_succ (bs : List Int) (i : Nat) : words bs (i + 1) = step bs (words bs i) i := by simp [words, List.range_succ]
def R32 (l : List Int) : Prop := ∀ x ∈ l, 0 ≤ x ∧ x < 4294967296
theorem bits_range (op : BinOp) (a b : Int) : 0 ≤ bits op .u32 a b ∧ bits op .u32 a b < 4294967296 := by
  unfold bits
  rw [IntKind.wrap_u32]
  omega
theorem f16_range (b : List Int) (j : Int) : 0 ≤ f16 b j ∧ f16 b j < 4294967296 := bits_range _ _ _
theorem g16_range (x y z u : Int) : 0 ≤ g16 x y z u ∧ g16 x y z u < 4294967296 := by
  unfold g16
  rw [IntKind.wrap_u32]
  omega
theorem R32.set {l : List Int} (h : R32 l) (i : Nat) (v : Int) (hv : 0 ≤ v ∧ v < 4294967296) : R32 (l.set i v) := by
  intro x hx
  rcases List.mem_or_eq_of_mem_set hx with h' | rfl
  · exact h x h'
  · exact hv
theorem R32.rd {l : List Int} (h : R32 l) (j : Int) : 0 ≤ rd l j ∧ rd l j < 4294967296 := by
  unfold YtjkdmegpjdfcaaaW.PrintWords.rd
  rw [List.getD_eq_getElem?_getD]
  cases hq : l[j.toNat]? with
  | none => simp
  | some v => exact h v (List.mem_of_getElem? hq)
theorem words_range (bs : List Int) : ∀ i, R32 (words bs i) := by
  intro i
  induction i with
  | zero =>
    intro x hx
    simp only [words, List.range_zero, List.foldl_nil, List.mem_replicate] at hx
    omega
  | succ i ih =>
    rw [words_succ, step]
    split
    · exact ih.set _ _ (f16_range _ _)
    · exact ih.set _ _ (g16_range _ _ _ _)
theorem rd_bytes (s : ByteArray) (j : Int) : rd (bytesOf s) j = bt s j := by
  unfold rd bt bytesOf
  rw [List.getD_eq_getElem?_getD, List.getElem?_map]
  by_cases h : j.toNat < s.size
  · rw [dif_pos h, List.getElem?_eq_getElem (by simpa using h)]
    simp
    rfl
  · rw [dif_neg h, List.getElem?_eq_none (by simpa using h)]
    rfl
theorem words_length (bs : List Int) : ∀ i, (words bs i).length = 64 := by
  intro i
  induction i with
  | zero => simp [words]
  | succ i ih =>
    have : words bs (i + 1) = step bs (words bs i) i := by simp [words, List.range_succ]
    rw [this, step]
    split <;> simp [ih]
theorem or_comm32 (a b : Int) : bits .or .u32 a b = bits .or .u32 b a := by
  unfold bits
  simp only [BitVec.or_comm]
theorem turned_of (x n m : Int) (h1 : bits .and .u64 (IntKind.u64.wrap (wrap64 (-n))) 31 = m) (h2 : IntKind.u64.wrap (32 - m) = n) (h3 : m = 32 - n) (h4 : 0 ≤ m) (h5 : 0 ≤ n) : impl_turned.f x n = some (rot x n) := by
  unfold impl_turned.f bits_RotateLeft32.f
  rw [h1, h2, if_pos h4, if_pos h5, or_comm32, h3]
  rfl
def turns (n : Int) : Bool := n == 7 || n == 18 || n == 17 || n == 19 || n == 6 || n == 11 || n == 25 || n == 2 || n == 13 || n == 22
theorem turned_eq (x n : Int) (h : turns n = true) : impl_turned.f x n = some (rot x n) := by
  unfold turns at h
  simp only [Bool.or_eq_true, beq_iff_eq] at h
  rcases h with ((((((((rfl | rfl) | rfl) | rfl) | rfl) | rfl) | rfl) | rfl) | rfl) | rfl
  · exact turned_of x 7 25 (by kernel_rfl) (by kernel_rfl) (by kernel_rfl) (by decide) (by decide)
  · exact turned_of x 18 14 (by kernel_rfl) (by kernel_rfl) (by kernel_rfl) (by decide) (by decide)
  · exact turned_of x 17 15 (by kernel_rfl) (by kernel_rfl) (by kernel_rfl) (by decide) (by decide)
  · exact turned_of x 19 13 (by kernel_rfl) (by kernel_rfl) (by kernel_rfl) (by decide) (by decide)
  · exact turned_of x 6 26 (by kernel_rfl) (by kernel_rfl) (by kernel_rfl) (by decide) (by decide)
  · exact turned_of x 11 21 (by kernel_rfl) (by kernel_rfl) (by kernel_rfl) (by decide) (by decide)
  · exact turned_of x 25 7 (by kernel_rfl) (by kernel_rfl) (by kernel_rfl) (by decide) (by decide)
  · exact turned_of x 2 30 (by kernel_rfl) (by kernel_rfl) (by kernel_rfl) (by decide) (by decide)
  · exact turned_of x 13 19 (by kernel_rfl) (by kernel_rfl) (by kernel_rfl) (by decide) (by decide)
  · exact turned_of x 22 10 (by kernel_rfl) (by kernel_rfl) (by kernel_rfl) (by decide) (by decide)
set_option maxHeartbeats 8000000 in
set_option maxRecDepth 100000 in
theorem rotl_same (a0 : Int) (a1 : Int) (r : Int) (w : World) (h : bits_RotateLeft32.f a0 a1 = some r) :
    Calls Try.prog 77 #[.int .u32 a0, .int .i64 a1] w fun e w' => e = .returned (.int .u32 r) ∧ w' = w := by
  have H : (if 0 ≤ (Go.bits .and .u64 (IntKind.u64.wrap (a1)) 31) then (if 0 ≤ (IntKind.u64.wrap (32 - (Go.bits .and .u64 (IntKind.u64.wrap (a1)) 31))) then (some (Go.bits .or .u32 (shl .u32 a0 (Go.bits .and .u64 (IntKind.u64.wrap (a1)) 31)) (shr .u32 a0 (IntKind.u64.wrap (32 - (Go.bits .and .u64 (IntKind.u64.wrap (a1)) 31)))))) else (none)) else (none)) = some r := h
  clear h
  obtain ⟨ji3, hji3⟩ : ∃ j_ : Int, (Go.bits .and .u64 (IntKind.u64.wrap (a1)) 31) = j_ := ⟨_, rfl⟩
  replace H : (if 0 ≤ (ji3) then (if 0 ≤ (IntKind.u64.wrap (32 - (ji3))) then (some (Go.bits .or .u32 (shl .u32 a0 (ji3)) (shr .u32 a0 (IntKind.u64.wrap (32 - (ji3)))))) else (none)) else (none)) = some r := by first | (rw [hji3] at H; exact H) | (simp only [hji3] at H ⊢; exact H)
  by_cases c4 : 0 ≤ (ji3)
  · rw [if_pos c4] at H
    have c4b0 := eq_true c4
    have c4b1 : decide (0 ≤ (ji3)) = true := decide_eq_true c4
    clear c4
    obtain ⟨ji5, hji5⟩ : ∃ j_ : Int, (shl .u32 a0 (ji3)) = j_ := ⟨_, rfl⟩
    replace H : (if 0 ≤ (IntKind.u64.wrap (32 - (ji3))) then (some (Go.bits .or .u32 (ji5) (shr .u32 a0 (IntKind.u64.wrap (32 - (ji3)))))) else (none)) = some r := by first | (rw [hji5] at H; exact H) | (simp only [hji5] at H ⊢; exact H)
    have hji5_ : (IntKind.u32.wrap (a0 * 2 ^ min (ji3).toNat 32)) = ji5 := hji5
    have hji5z : (ji3) ≤ 32 → (IntKind.u32.wrap (a0 * 2 ^ (ji3).toNat)) = ji5 := shl_small hji5
    obtain ⟨ji6, hji6⟩ : ∃ j_ : Int, (IntKind.u64.wrap (32 - (ji3))) = j_ := ⟨_, rfl⟩
    replace H : (if 0 ≤ (ji6) then (some (Go.bits .or .u32 (ji5) (shr .u32 a0 (ji6)))) else (none)) = some r := by first | (rw [hji6] at H; exact H) | (simp only [hji6] at H ⊢; exact H)
    by_cases c7 : 0 ≤ (ji6)
    · rw [if_pos c7] at H
      have c7b0 := eq_true c7
      have c7b1 : decide (0 ≤ (ji6)) = true := decide_eq_true c7
      clear c7
      obtain ⟨ji8, hji8⟩ : ∃ j_ : Int, (shr .u32 a0 (ji6)) = j_ := ⟨_, rfl⟩
      replace H : (some (Go.bits .or .u32 (ji5) (ji8))) = some r := by first | (rw [hji8] at H; exact H) | (simp only [hji8] at H ⊢; exact H)
      have hji8_ : (a0 / 2 ^ min (ji6).toNat 32) = ji8 := hji8
      have hji8z : (ji6) ≤ 32 → (a0 / 2 ^ (ji6).toNat) = ji8 := shr_small hji8
      obtain rfl := Option.some.inj H
      go_enter Try.func77, Try.ntmps77
      go_wp2
      go_ret
      exact ⟨by first | rfl | (simp; done) | (simp only [← hji3, ← hji5, ← hji6, ← hji8] <;> (first | rfl | simp)) | (simp [*]; done), rfl⟩
    · rw [if_neg c7] at H
      exact absurd H (by simp)
  · rw [if_neg c4] at H
    exact absurd H (by simp)
set_option maxHeartbeats 8000000 in
set_option maxRecDepth 100000 in
theorem turned_same (a0 : Int) (a1 : Int) (r : Int) (w : World) (h : impl_turned.f a0 a1 = some r) :
    Calls Try.prog 71 #[.int .u32 a0, .int .i64 a1] w fun e w' => e = .returned (.int .u32 r) ∧ w' = w := by
  have H : ((bits_RotateLeft32.f a0 (wrap64 (-a1))).bind fun t208 => (some t208)) = some r := h
  clear h
  replace H := Option.bind_eq_some_iff.mp H
  obtain ⟨t208, A30, H⟩ := H
  replace H : (some t208) = some r := H
  have A3 := Aside0.mk A30
  clear A30
  obtain rfl := Option.some.inj H
  go_enter Try.func71, Try.ntmps71
  go_wp2_with (first | ((with_reducible refine gate_callee (f := 77) rfl ?_); refine goesL_ (some 8) rfl rfl Try.func77 (by kernel_rfl) rfl #[.int .u32 a0, .int .i64 (wrap64 (-a1))] rfl (by (try simp only [List.map_toArray, List.map_cons, List.map_nil]); first | done | rfl | (simp only [List.length_drop, List.length_take]; rfl)) ?_; (with_reducible refine (rotl_same a0 (wrap64 (-a1)) t208 _ A3.out).mono ?_); rintro e w' ⟨rfl, hw'⟩; rw [hw']; clear hw'; refine ⟨_, rfl, ?_⟩))
  go_ret
  exact ⟨by first | rfl | (simp; done) | (simp [*]; done), rfl⟩
theorem turned_any (x n : Int) (w : World) (h : turns n = true) : Calls Try.prog 71 #[.int .u32 x, .int .i64 n] w fun e w' => e = .returned (.int .u32 (rot x n)) ∧ w' = w :=
  turned_same x n _ w (turned_eq x n h)
set_option maxHeartbeats 1000000 in
set_option maxRecDepth 100000 in
theorem wordsOf (s : ByteArray) (w : World) (hs : s.size = 64) :
    Calls Try.prog 70 #[.string s] w fun e w' => e = .returned (.agg (U (words (bytesOf s) 64)).toArray) ∧ Below w.heap.size w w' := by
  obtain ⟨Z, hZ, hz⟩ := z94
  have HZ := Aside0.mk hZ
  have hZl : Z.length = 64 := by rw [hZ]; rfl
  have HZl := Aside0.mk hZl
  clear hZ hZl
  have H0 : Aside0 (words (bytesOf s) 0 = Z) := ⟨HZ.out.symm⟩
  go_enter Try.func70, Try.ntmps70
  go_wp2_with (first
    | ((with_reducible refine gate_dst (N := 2) rfl ?_); refine arr_alloc rfl 80 Z rfl hz ?_; intro W1 b1 hn1; have HN1 := Aside0.mk hn1; clear hn1)
    | ((with_reducible refine gate_dst (N := 9) rfl ?_); refine arr_value rfl _ (fun w => hz w) ?_)
    | ((with_reducible refine gate_dst (N := 3) rfl ?_); refine arr_alloc rfl 80 Z rfl hz ?_; intro W2 b2 hn2; have HN2 := Aside0.mk hn2; clear hn2)
    | ((with_reducible refine gate_store (t := 80) (p := 3) rfl ?_); refine arr_store rfl 80 64 _ _ _ _ Z rfl rfl rfl HN2.out.arr i94 HZl.out HZl.out ?_; intro W3 hp; have HP := Aside0.mk hp; clear hp))
  have HB : Aside0 (Below w.heap.size w W3) := ⟨HP.out.below _ _ (by have := HN1.out; have := HN2.out; have h1 := HN1.out.at_; have h2 := HN1.out.size; have h3 := HN2.out.at_; omega) ((HN1.out.below).trans (HN2.out.below.mono (by have h1 := HN1.out.at_; have h2 := HN1.out.size; omega)))⟩
  have HR : Aside0 (Arr W3 b1 Z) := ⟨HP.out.apart _ _ (by have h2 := HN1.out.size; have h3 := HN2.out.at_; omega) (HN1.out.arr.below HN2.out.below (by have h2 := HN1.out.size; omega))⟩
  have HA : Aside0 (Arr W3 b2 (words (bytesOf s) 0)) := ⟨by rw [H0.out]; exact HP.out.arr⟩
  have Hw : Aside0 (w.heap.size ≤ b1 ∧ w.heap.size ≤ b2 ∧ b1 ≠ b2) := ⟨by have h1 := HN1.out.at_; have h2 := HN1.out.size; have h3 := HN2.out.at_; omega⟩
  clear HP HN1 HN2 H0
  go_loopw [10] (fun v10 w' => ∃ i : Nat, i ≤ 64 ∧ v10 = .int .i64 i ∧ Aside0 (Below w.heap.size w w') ∧ Aside0 (Arr w' b1 Z) ∧ Aside0 (Arr w' b2 (words (bytesOf s) i))) (fun v10 _ => 64 - (intOf v10).toNat)
  case atStart => exact ⟨0, by omega, rfl, HB, HR, HA⟩
  case round =>
    clear HB HR HA
    obtain ⟨i, hi, rfl, HB, HR, HA⟩ := hrel
    by_cases hlt : i < 64
    · by_cases h16 : i < 16
      · go_wp2
        have HI := Aside0.mk hlt
        obtain ⟨j0, hj0⟩ : ∃ j : Int, j = 4 * (i : Int) := ⟨_, rfl⟩
        obtain ⟨j1, hj1⟩ : ∃ j : Int, j = j0 + 1 := ⟨_, rfl⟩
        obtain ⟨j2, hj2⟩ : ∃ j : Int, j = j0 + 2 := ⟨_, rfl⟩
        obtain ⟨j3, hj3⟩ : ∃ j : Int, j = j0 + 3 := ⟨_, rfl⟩
        have p0 := eq_true (show (0 : Int) ≤ j0 by omega)
        have p1 := eq_true (show (0 : Int) ≤ j1 by omega)
        have p2 := eq_true (show (0 : Int) ≤ j2 by omega)
        have p3 := eq_true (show (0 : Int) ≤ j3 by omega)
        have q0 := eq_true (show j0 < (s.size : Int) by omega)
        have q1 := eq_true (show j1 < (s.size : Int) by omega)
        have q2 := eq_true (show j2 < (s.size : Int) by omega)
        have q3 := eq_true (show j3 < (s.size : Int) by omega)
        have e0 : IntKind.i64.wrap (4 * (i : Int)) = j0 := by rw [hj0]; exact IntWalk.i64_in _ (by omega)
        have e1 : IntKind.i64.wrap (j0 + 1) = j1 := by rw [hj1]; exact IntWalk.i64_in _ (by omega)
        have e2 : IntKind.i64.wrap (j0 + 2) = j2 := by rw [hj2]; exact IntWalk.i64_in _ (by omega)
        have e3 : IntKind.i64.wrap (j0 + 3) = j3 := by rw [hj3]; exact IntWalk.i64_in _ (by omega)
        have hx0 := bt_at s j0
        have hx1 := bt_at s j1
        have hx2 := bt_at s j2
        have hx3 := bt_at s j3
        have HJ := Aside0.mk (And.intro hj0 (And.intro hj1 (And.intro hj2 hj3)))
        have HS := Aside0.mk hs
        clear hj0 hj1 hj2 hj3 hs hlt
        have hc : wr.cell? ⟨b2, i, none⟩ = some (.int .u32 (rd (words (bytesOf s) i) (i : Int))) := HA.out.cell i (by rw [words_length]; omega)
        have hf : wr.frozen? ⟨b2, i, none⟩ = false := HA.out.frozen i (by rw [words_length]; omega)
        go_still_tail 31, (by kernel_rfl)
        change wpList _ _ _ _ _ wr.drew
        go_wp2_with (first
          | ((with_reducible refine gate_store (t := 72) (p := 45) rfl ?_); refine arr_put rfl 72 _ _ b2 i _ _ rfl rfl rfl Try.sizeOf72 (HA.out.drew) (by rw [words_length]; exact HI.out) ?_; intro W5 hp; have HP := Aside0.mk hp; clear hp))
        go_roundw
        case rel =>
          refine ⟨i + 1, by omega, by go_num, ⟨HP.out.below _ _ Hw.out.2.1 (pw_below_drewN HB.out 1)⟩, ⟨HP.out.apart _ _ Hw.out.2.2 HR.out.drew⟩, ⟨?_⟩⟩
          have h5 := HP.out.arr
          rw [words_succ, step, if_pos h16]
          unfold f16
          obtain ⟨g0, g1, g2, g3⟩ := HJ.out
          rw [rd_bytes, rd_bytes, rd_bytes, rd_bytes, ← g0, ← g1, ← g2, ← g3]
          exact h5
        case measure => simp [intOf]; omega
      · go_wp2
        have HI := Aside0.mk hlt
        obtain ⟨ja, hja⟩ : ∃ j : Int, j = (i : Int) - 15 := ⟨_, rfl⟩
        obtain ⟨jb, hjb⟩ : ∃ j : Int, j = (i : Int) - 2 := ⟨_, rfl⟩
        obtain ⟨jc, hjc⟩ : ∃ j : Int, j = (i : Int) - 16 := ⟨_, rfl⟩
        obtain ⟨jd, hjd⟩ : ∃ j : Int, j = (i : Int) - 7 := ⟨_, rfl⟩
        have pa := eq_true (show (0 : Int) ≤ ja by omega)
        have pb := eq_true (show (0 : Int) ≤ jb by omega)
        have pc := eq_true (show (0 : Int) ≤ jc by omega)
        have pd := eq_true (show (0 : Int) ≤ jd by omega)
        have qa := eq_true (show ja < 64 by omega)
        have qb := eq_true (show jb < 64 by omega)
        have qc := eq_true (show jc < 64 by omega)
        have qd := eq_true (show jd < 64 by omega)
        have ea : IntKind.i64.wrap ((i : Int) - 15) = ja := by rw [hja]; exact IntWalk.i64_in _ (by omega)
        have eb : IntKind.i64.wrap ((i : Int) - 2) = jb := by rw [hjb]; exact IntWalk.i64_in _ (by omega)
        have ec : IntKind.i64.wrap ((i : Int) - 16) = jc := by rw [hjc]; exact IntWalk.i64_in _ (by omega)
        have ed : IntKind.i64.wrap ((i : Int) - 7) = jd := by rw [hjd]; exact IntWalk.i64_in _ (by omega)
        have hx0 := (words_range (bytesOf s) i).rd ja
        have hy0 := (words_range (bytesOf s) i).rd jb
        have hl := words_length (bytesOf s) i
        have ha := HA.out.cell ja.toNat (by omega)
        have hb := HA.out.cell jb.toNat (by omega)
        have hc := HA.out.cell jc.toNat (by omega)
        have hd := HA.out.cell jd.toNat (by omega)
        rw [Int.toNat_of_nonneg (by omega)] at ha hb hc hd
        obtain ⟨x, hx⟩ : ∃ x, x = rd (words (bytesOf s) i) ja := ⟨_, rfl⟩
        obtain ⟨y, hy⟩ : ∃ x, x = rd (words (bytesOf s) i) jb := ⟨_, rfl⟩
        obtain ⟨z, hzz⟩ : ∃ x, x = rd (words (bytesOf s) i) jc := ⟨_, rfl⟩
        obtain ⟨u, hu⟩ : ∃ x, x = rd (words (bytesOf s) i) jd := ⟨_, rfl⟩
        rw [← hx] at ha hx0
        rw [← hy] at hb hy0
        rw [← hzz] at hc
        rw [← hu] at hd
        have HX := Aside0.mk (And.intro hx (And.intro hy (And.intro hzz hu)))
        have HJ := Aside0.mk (And.intro hja (And.intro hjb (And.intro hjc hjd)))
        clear hx hy hzz hu hja hjb hjc hjd hlt hl
        have hf : wr.frozen? ⟨b2, i, none⟩ = false := HA.out.frozen i (by rw [words_length]; exact HI.out)
        have h16' : (i : Int) < 64 := by have := HI.out; omega
        go_still (by kernel_rfl)
        go_wp2_with (first | (go_at_call 71; refine (turned_any _ _ _ (by rfl)).mono ?_; rintro e w' ⟨rfl, hw'⟩; rw [hw']; clear hw'))
        generalize hw7 : World.drew wr = w7
        have HA7 : Aside0 (Arr w7 b2 (words (bytesOf s) i)) := ⟨hw7 ▸ HA.out.drew⟩
        have HR7 : Aside0 (Arr w7 b1 Z) := ⟨hw7 ▸ HR.out.drew⟩
        have HB7 : Aside0 (Below w.heap.size w w7) := ⟨hw7 ▸ pw_below_drewN HB.out 1⟩
        clear hw7 ha hb hc hd hf
        have hl := words_length (bytesOf s) i
        have pc' : (0 : Int) ≤ jc := of_eq_true pc
        have pd' : (0 : Int) ≤ jd := of_eq_true pd
        have qc' : jc < 64 := of_eq_true qc
        have qd' : jd < 64 := of_eq_true qd
        have hc := HA7.out.cell jc.toNat (by omega)
        have hd := HA7.out.cell jd.toNat (by omega)
        rw [Int.toNat_of_nonneg (by omega)] at hc hd
        obtain ⟨g1, g2, g3, g4⟩ := HX.out
        rw [← g3] at hc
        rw [← g4] at hd
        clear g1 g2 g3 g4 pc' pd' qc' qd' hl
        go_still_tail 15, (by kernel_rfl)
        change wpList _ _ _ _ _ w7.drew
        go_wp2_with (first
          | ((with_reducible refine gate_store (t := 72) (p := 84) rfl ?_); refine arr_put rfl 72 _ _ b2 i _ _ rfl rfl rfl Try.sizeOf72 (HA7.out.drew) (by rw [words_length]; exact HI.out) ?_; intro W5 hp; have HP := Aside0.mk hp; clear hp))
        go_roundw
        case rel =>
          refine ⟨i + 1, by omega, by go_num, ⟨HP.out.below _ _ Hw.out.2.1 (pw_below_drewN HB7.out 1)⟩, ⟨HP.out.apart _ _ Hw.out.2.2 HR7.out.drew⟩, ⟨?_⟩⟩
          have h5 := HP.out.arr
          rw [words_succ, step, if_neg h16]
          unfold g16 sg
          obtain ⟨g0, g1, g2, g3⟩ := HJ.out
          obtain ⟨k0, k1, k2, k3⟩ := HX.out
          rw [← g0, ← g1, ← g2, ← g3, ← k0, ← k1, ← k2, ← k3]
          exact h5
        case measure => simp [intOf]; omega
    · obtain rfl : i = 64 := by omega
      go_wp2_with (first
        | ((with_reducible refine gate_dst (N := 86) rfl ?_); refine arr_load rfl 80 64 72 _ _ _ rfl rfl HA.out Try.underlying80 i94 (words_length _ _) ?_)
        | ((with_reducible refine gate_store (t := 80) (p := 2) rfl ?_); refine arr_store rfl 80 64 _ _ _ _ (words (bytesOf s) 64) rfl rfl rfl HR.out i94 HZl.out (words_length _ _) ?_; intro W5 hp; have HP := Aside0.mk hp; clear hp))
      refine bodyPost_ret (v := .agg (U (words (bytesOf s) 64)).toArray) ?_ rfl ⟨rfl, ?_⟩
      · exact results_arr (p := 2) (t := 80) rfl _ rfl HP.out.arr 64 72 Try.underlying80 i94 (words_length _ _)
      · exact HP.out.below _ _ Hw.out.1 HB.out

theorem z92 : ∃ Z : List Int, Z = List.replicate 8 0 ∧ ∀ w, (zeroValue 78).run Try.prog w = .ok (.agg (U Z).toArray) w := ⟨_, rfl, fun w => Try.zeroValue78 w⟩
def H0 : List Int := [0x6a09e667, 0xbb67ae85, 0x3c6ef372, 0xa54ff53a, 0x510e527f, 0x9b05688c, 0x1f83d9ab, 0x5be0cd19]
def K0 : List Int := [0x428a2f98, 0x71374491, 0xb5c0fbcf, 0xe9b5dba5, 0x3956c25b, 0x59f111f1, 0x923f82a4, 0xab1c5ed5,
  0xd807aa98, 0x12835b01, 0x243185be, 0x550c7dc3, 0x72be5d74, 0x80deb1fe, 0x9bdc06a7, 0xc19bf174,
  0xe49b69c1, 0xefbe4786, 0x0fc19dc6, 0x240ca1cc, 0x2de92c6f, 0x4a7484aa, 0x5cb0a9dc, 0x76f988da,
  0x983e5152, 0xa831c66d, 0xb00327c8, 0xbf597fc7, 0xc6e00bf3, 0xd5a79147, 0x06ca6351, 0x14292967,
  0x27b70a85, 0x2e1b2138, 0x4d2c6dfc, 0x53380d13, 0x650a7354, 0x766a0abb, 0x81c2c92e, 0x92722c85,
  0xa2bfe8a1, 0xa81a664b, 0xc24b8b70, 0xc76c51a3, 0xd192e819, 0xd6990624, 0xf40e3585, 0x106aa070,
  0x19a4c116, 0x1e376c08, 0x2748774c, 0x34b0bcb5, 0x391c0cb3, 0x4ed8aa4a, 0x5b9cca4f, 0x682e6ff3,
  0x748f82ee, 0x78a5636f, 0x84c87814, 0x8cc70208, 0x90befffa, 0xa4506ceb, 0xbef9a3f7, 0xc67178f2]
theorem H0_length : H0.length = 8 := rfl
theorem K0_length : K0.length = 64 := rfl
set_option maxHeartbeats 1000000 in
set_option maxRecDepth 100000 in
theorem hashWords (w : World) : Calls Try.prog 55 #[] w fun e w' => e = .returned (.agg (U H0).toArray) ∧ Below w.heap.size w w' := by
  obtain ⟨Z, hZ, hz⟩ := z92
  have HZl : Aside0 (Z.length = 8) := ⟨by rw [hZ]; rfl⟩
  clear hZ
  obtain ⟨H, hH⟩ : ∃ H, H = H0 := ⟨_, rfl⟩
  have HH := Aside0.mk hH
  clear hH
  go_enter Try.func55, Try.ntmps55
  go_wp2_with (first
    | ((with_reducible refine gate_dst (N := 0) rfl ?_); refine arr_alloc rfl 78 Z rfl hz ?_; intro W1 b1 hn1; have HN1 := Aside0.mk hn1; clear hn1)
    | ((with_reducible refine gate_dst (N := 1) rfl ?_); refine arr_value rfl (.agg (U H).toArray) (fun w => by rw [HH.out]; kernel_rfl) ?_)
    | ((with_reducible refine gate_store (t := 78) (p := 0) rfl ?_); refine arr_store rfl 78 8 _ _ _ _ H rfl rfl rfl HN1.out.arr i92 HZl.out (by rw [HH.out]; rfl) ?_; intro W3 hp; have HP := Aside0.mk hp; clear hp))
  have hb : w.heap.size ≤ b1 := by have := HN1.out.at_; omega
  rw [← HH.out]
  refine bodyPost_ret (v := .agg (U H).toArray) ?_ rfl ⟨rfl, HP.out.below _ _ hb HN1.out.below⟩
  exact results_arr (p := 0) (t := 78) rfl _ rfl HP.out.arr 8 72 Try.underlying78 i92 (by rw [HH.out]; rfl)
set_option maxHeartbeats 1000000 in
set_option maxRecDepth 100000 in
theorem roundWords (w : World) : Calls Try.prog 56 #[] w fun e w' => e = .returned (.agg (U K0).toArray) ∧ Below w.heap.size w w' := by
  obtain ⟨Z, hZ, hz⟩ := z94
  have HZl : Aside0 (Z.length = 64) := ⟨by rw [hZ]; rfl⟩
  clear hZ
  obtain ⟨H, hH⟩ : ∃ H, H = K0 := ⟨_, rfl⟩
  have HH := Aside0.mk hH
  clear hH
  go_enter Try.func56, Try.ntmps56
  go_wp2_with (first
    | ((with_reducible refine gate_dst (N := 0) rfl ?_); refine arr_alloc rfl 80 Z rfl hz ?_; intro W1 b1 hn1; have HN1 := Aside0.mk hn1; clear hn1)
    | ((with_reducible refine gate_dst (N := 1) rfl ?_); refine arr_value rfl (.agg (U H).toArray) (fun w => by rw [HH.out]; kernel_rfl) ?_)
    | ((with_reducible refine gate_store (t := 80) (p := 0) rfl ?_); refine arr_store rfl 80 64 _ _ _ _ H rfl rfl rfl HN1.out.arr i94 HZl.out (by rw [HH.out]; rfl) ?_; intro W3 hp; have HP := Aside0.mk hp; clear hp))
  have hb : w.heap.size ≤ b1 := by have := HN1.out.at_; omega
  rw [← HH.out]
  refine bodyPost_ret (v := .agg (U H).toArray) ?_ rfl ⟨rfl, HP.out.below _ _ hb HN1.out.below⟩
  exact results_arr (p := 0) (t := 80) rfl _ rfl HP.out.arr 64 72 Try.underlying80 i94 (by rw [HH.out]; rfl)
def ch (e f g : Int) : Int := bits .or .u32 (bits .and .u32 e f) (bits .and .u32 (bits .xor .u32 IntKind.u32.max e) g)
def maj (a b c : Int) : Int := bits .or .u32 (bits .or .u32 (bits .and .u32 a b) (bits .and .u32 a c)) (bits .and .u32 b c)
def tri (x l m n : Int) : Int := bits .xor .u32 (bits .xor .u32 (rot x l) (rot x m)) (rot x n)
def pv (h e f g k w : Int) : Int := IntKind.u32.wrap (IntKind.u32.wrap (IntKind.u32.wrap (IntKind.u32.wrap (h + tri e 6 11 25) + ch e f g) + k) + w)
def qv (a b c : Int) : Int := IntKind.u32.wrap (tri a 2 13 22 + maj a b c)
def rstep (ks ws v : List Int) (i : Nat) : List Int :=
  let p := pv (rd v 7) (rd v 4) (rd v 5) (rd v 6) (rd ks (i : Int)) (rd ws (i : Int))
  [IntKind.u32.wrap (p + qv (rd v 0) (rd v 1) (rd v 2)), rd v 0, rd v 1, rd v 2, IntKind.u32.wrap (rd v 3 + p), rd v 4, rd v 5, rd v 6]
def rounds (ks ws hs : List Int) (i : Nat) : List Int := (List.range i).foldl (rstep ks ws) hs
theorem rounds_succ (ks ws hs : List Int) (i : Nat) : rounds ks ws hs (i + 1) = rstep ks ws (rounds ks ws hs i) i := by simp [rounds, List.range_succ]
theorem rounds_length (ks ws hs : List Int) (h : hs.length = 8) : ∀ i, (rounds ks ws hs i).length = 8 := by
  intro i
  cases i with
  | zero => simpa [rounds] using h
  | succ i => rw [rounds_succ]; rfl
theorem rounds_range (ks ws hs : List Int) (h : R32 hs) : ∀ i, R32 (rounds ks ws hs i) := by
  intro i
  induction i with
  | zero => simpa [rounds] using h
  | succ i ih =>
    rw [rounds_succ]
    intro x hx
    simp only [rstep, List.mem_cons, List.not_mem_nil, or_false] at hx
    have hw : ∀ y, 0 ≤ IntKind.u32.wrap y ∧ IntKind.u32.wrap y < 4294967296 := fun y => by rw [IntKind.wrap_u32]; omega
    rcases hx with rfl | rfl | rfl | rfl | rfl | rfl | rfl | rfl
    · exact hw _
    · exact ih.rd _
    · exact ih.rd _
    · exact ih.rd _
    · exact hw _
    · exact ih.rd _
    · exact ih.rd _
    · exact ih.rd _
def astep (hs v : List Int) (i : Nat) : List Int := v.set i (IntKind.u32.wrap (rd v (i : Int) + rd hs (i : Int)))
def adds (hs v : List Int) (i : Nat) : List Int := (List.range i).foldl (astep hs) v
theorem adds_succ (hs v : List Int) (i : Nat) : adds hs v (i + 1) = astep hs (adds hs v i) i := by simp [adds, List.range_succ]
theorem adds_length (hs v : List Int) : ∀ i, (adds hs v i).length = v.length := by
  intro i
  induction i with
  | zero => rfl
  | succ i ih => rw [adds_succ, astep, List.length_set, ih]
theorem adds_range (hs v : List Int) (h : R32 v) : ∀ i, R32 (adds hs v i) := by
  intro i
  induction i with
  | zero => exact h
  | succ i ih => rw [adds_succ, astep]; exact ih.set _ _ (by rw [IntKind.wrap_u32]; omega)
/-- The eight words behind a block. -/
def block (hs ks bs : List Int) : List Int := adds hs (rounds ks (words bs 64) hs 64) 8
theorem block_length (hs ks bs : List Int) (h : hs.length = 8) : (block hs ks bs).length = 8 := by
  unfold block
  rw [adds_length, rounds_length _ _ _ h]
theorem block_range (hs ks bs : List Int) (h : R32 hs) : R32 (block hs ks bs) := adds_range _ _ (rounds_range _ _ _ h _) _
/-- What stands while a block is hashed: three blocks of the call's own, and all that was there. -/
structure Bs (n : Nat) (w0 w : World) (b3 b4 b6 : Nat) (hs ks z : List Int) : Prop where
  below : Below n w0 w
  a3 : Arr w b3 hs
  a4 : Arr w b4 ks
  a6 : Arr w b6 z
  n3 : n ≤ b3
  n4 : n ≤ b4
  n6 : n ≤ b6
  h3 : 0 < hs.length
  h4 : 0 < ks.length
  h6 : 0 < z.length
theorem Bs.step {n : Nat} {w0 w w' : World} {b3 b4 b6 : Nat} {hs ks z : List Int} (h : Bs n w0 w b3 b4 b6 hs ks z) (hb : Below w.heap.size w w') : Bs n w0 w' b3 b4 b6 hs ks z :=
  have h3 := h.a3.lt h.h3
  have h4 := h.a4.lt h.h4
  have h6 := h.a6.lt h.h6
  ⟨h.below.trans (hb.mono (by have := h.n3; omega)), h.a3.below hb h3, h.a4.below hb h4, h.a6.below hb h6, h.n3, h.n4, h.n6, h.h3, h.h4, h.h6⟩
theorem Bs.drew {n : Nat} {w0 w : World} {b3 b4 b6 : Nat} {hs ks z : List Int} (h : Bs n w0 w b3 b4 b6 hs ks z) : Bs n w0 w.drew b3 b4 b6 hs ks z := h.step (pw_below_drewN (Below.refl _ _) 1)
theorem Bs.put {n : Nat} {w0 w w' : World} {b3 b4 b6 b : Nat} {hs ks z l : List Int} (h : Bs n w0 w b3 b4 b6 hs ks z) (hp : Put w w' b l) (e3 : b ≠ b3) (e4 : b ≠ b4) (e6 : b ≠ b6) (en : n ≤ b) : Bs n w0 w' b3 b4 b6 hs ks z :=
  ⟨hp.below _ _ en h.below, hp.apart _ _ (Ne.symm e3) h.a3, hp.apart _ _ (Ne.symm e4) h.a4, hp.apart _ _ (Ne.symm e6) h.a6, h.n3, h.n4, h.n6, h.h3, h.h4, h.h6⟩
set_option maxHeartbeats 2000000 in
set_option maxRecDepth 100000 in
theorem blockHash (hs ks : List Int) (s : ByteArray) (w : World) (hh : hs.length = 8) (hk : ks.length = 64) (hr : R32 hs) (hsz : s.size = 64) :
    Calls Try.prog 57 #[.agg (U hs).toArray, .agg (U ks).toArray, .string s] w fun e w' => e = .returned (.agg (U (block hs ks (bytesOf s))).toArray) ∧ Below w.heap.size w w' := by
  obtain ⟨B, hB⟩ : ∃ B, block hs ks (bytesOf s) = B := ⟨_, rfl⟩
  rw [hB]
  have HBb := Aside0.mk hB
  clear hB
  obtain ⟨Z, hZ, hz_⟩ := z92
  have hz := Aside0.mk hz_
  have HZl : Aside0 (Z.length = 8) := ⟨by rw [hZ]; rfl⟩
  clear hZ hz_
  obtain ⟨Y, hY, hy_⟩ := z94
  have hy := Aside0.mk hy_
  have HYl : Aside0 (Y.length = 64) := ⟨by rw [hY]; rfl⟩
  clear hY hy_
  have HH := Aside0.mk hh
  have HK := Aside0.mk hk
  have HR := Aside0.mk hr
  clear hr
  obtain ⟨ws, hws⟩ : ∃ ws, words (bytesOf s) 64 = ws := ⟨_, rfl⟩
  have HWL : Aside0 (ws.length = 64) := ⟨by rw [← hws]; exact words_length _ _⟩
  have HWR : Aside0 (R32 ws) := ⟨by rw [← hws]; exact words_range _ _⟩
  have HCW : Aside0 (∀ w, Calls Try.prog 70 #[.string s] w fun e w' => e = .returned (.agg (U ws).toArray) ∧ Below w.heap.size w w') := ⟨fun w => by rw [← hws]; exact wordsOf s w hsz⟩
  have HWS := Aside0.mk hws
  clear hh hk hsz hws
  go_enter Try.func57, Try.ntmps57
  go_wp2_with (first
    | ((with_reducible refine gate_dst (N := 3) rfl ?_); refine arr_box rfl 78 _ hs rfl rfl ?_; intro W1 b3 hn1; have HN1 := Aside0.mk hn1; clear hn1)
    | ((with_reducible refine gate_dst (N := 4) rfl ?_); refine arr_box rfl 80 _ ks rfl rfl ?_; intro W2 b4 hn2; have HN2 := Aside0.mk hn2; clear hn2)
    | ((with_reducible refine gate_dst (N := 6) rfl ?_); refine arr_alloc rfl 78 Z rfl hz.out ?_; intro W3 b6 hn3; have HN3 := Aside0.mk hn3; clear hn3))
  have HB0 : Aside0 (Bs w.heap.size w W3 b3 b4 b6 hs ks Z) := ⟨by
    have k1 := HN1.out
    have k2 := HN2.out
    have k3 := HN3.out
    have q1 := k1.at_
    have q2 := k2.at_
    have q3 := k3.at_
    have s1 := k1.size
    have s2 := k2.size
    have hh := HH.out
    have hk := HK.out
    have hz := HZl.out
    exact ⟨(k1.below.trans (k2.below.mono (by omega))).trans (k3.below.mono (by omega)), (k1.arr.below k2.below (by omega)).below k3.below (by omega), k2.arr.below k3.below (by omega), k3.arr, by omega, by omega, by omega, by omega, by omega, by omega⟩⟩
  have HD0 : Aside0 (b3 ≠ b4 ∧ b3 ≠ b6 ∧ b4 ≠ b6) := ⟨by
    have q1 := HN1.out.at_
    have q2 := HN2.out.at_
    have q3 := HN3.out.at_
    have s1 := HN1.out.size
    have s2 := HN2.out.size
    omega⟩
  clear HN1 HN2 HN3
  refine start_ (S := fun w' => Bs w.heap.size w w' b3 b4 b6 hs ks Z) (ds := []) #[false, false, false, false, false, false, false] (by kernel_rfl) rfl rfl HB0.out.drew ?_
  intro hS
  have hu92 := Try.underlying78
  have hi92 := i92
  refine take_ (i := 0) (N := some 19) (v := .agg (U hs).toArray) (a' := ?_) #[true, false, false, false, false, false, false] rfl rfl (by kernel_rfl) (fun _ _ _ h => h)
    (yieldsIf_load_mid (by rfl) 78 (.tmp 3) rfl b3 0 rfl (U hs) _ (fun w' hw' => hw'.a3.lies) Try.underlying78 rfl (by rw [U_length, HH.out]; exact i92)) hS ?_ ?_
  rotate_left
  · simp only [Act.put, List.setIfInBounds_toArray, List.set_cons_zero, List.set_cons_succ]
    rfl
  refine pure_ (i := 1) (N := some 20) (v := .string s) (a' := ?_) #[true, true, false, false, false, false, false] rfl rfl (by kernel_rfl) (fun _ _ _ h => h) (Or.inl ⟨by rfl, fun w' => by go_simp⟩) ?_ ?_
  rotate_left
  · simp only [Act.put, List.setIfInBounds_toArray, List.set_cons_zero, List.set_cons_succ]
    rfl
  refine join_ (σ := Nat × Nat) 2 #[true, true, true, true, true, false, false] (fun p => [(21, .agg (U ws).toArray), (7, .pointer (some ⟨p.1, 0, none⟩)), (8, .pointer (some ⟨p.2, 0, none⟩))]) (fun p w' => Bs w.heap.size w w' b3 b4 b6 hs ks Z ∧ Arr w' p.1 Z ∧ Arr w' p.2 Y ∧ (p.1 ≠ p.2 ∧ p.1 ≠ b3 ∧ p.1 ≠ b4 ∧ p.1 ≠ b6 ∧ p.2 ≠ b3 ∧ p.2 ≠ b4 ∧ p.2 ≠ b6 ∧ w.heap.size ≤ p.1 ∧ w.heap.size ≤ p.2)) ?_ ?_
  rotate_left
  · intro Hc
    have S0 := hS
    refine three_ (i := 2) (j := 3) (k := 4) (Ni := some 21) (Nj := some 7) (Nk := some 8) #[true, true, true, false, false, false, false] #[true, true, false, true, false, false, false] #[true, true, false, false, true, false, false] rfl rfl rfl rfl rfl rfl (by kernel_rfl) (by decide) (by decide) (by decide) (fun K hK => ?_) (fun K hK => ?_) (fun K hK => ?_)
    · skip
      refine goes_ Try.func70 (by kernel_rfl) rfl #[.string s] (by rfl) rfl rfl (by (try simp only [List.map_toArray, List.map_cons, List.map_nil]); first | done | rfl) ?_
      refine (HCW.out _).mono ?_
      rintro e V1 ⟨rfl, e2⟩
      refine ⟨_, rfl, ?_⟩
      refine hK.out _ _ (S0.step e2) (fun S1 => ?_)
      clear hK K
      refine norm_ (a' := ?_) ?_ ?_
      rotate_left
      · show Act.put _ (some 21) _ = _
        simp only [Act.put, List.setIfInBounds_toArray, List.set_cons_zero, List.set_cons_succ]
        rfl
      refine two_ (i := 3) (j := 4) (Ni := some 7) (Nj := some 8) #[true, true, true, true, false, false, false] #[true, true, true, false, true, false, false] rfl rfl rfl rfl (by kernel_rfl) (by decide) (by decide) (fun K hK => ?_) (fun K hK => ?_)
      · skip
        refine alloc_step (by rfl) 78 Z rfl hz.out (fun V2 c3 e3 => ?_)
        refine hK.out _ _ (S1.step e3.below) (fun S2 => ?_)
        clear hK K
        refine norm_ (a' := ?_) ?_ ?_
        rotate_left
        · show Act.put _ (some 7) _ = _
          simp only [Act.put, List.setIfInBounds_toArray, List.set_cons_zero, List.set_cons_succ]
          rfl
        refine one_ (i := 4) (N := some 8) #[true, true, true, true, true, false, false] rfl rfl (by kernel_rfl) (by decide) (fun K hK => ?_)
        · skip
          refine alloc_step (by rfl) 80 Y rfl hy.out (fun V3 c4 e4 => ?_)
          refine hK.out _ _ (S2.step e4.below) (fun S3 => ?_)
          clear hK K
          refine norm_ (a' := ?_) ?_ ?_
          rotate_left
          · show Act.put _ (some 8) _ = _
            simp only [Act.put, List.setIfInBounds_toArray, List.set_cons_zero, List.set_cons_succ]
            rfl
          have z0 := e2.size
          have z1 := e3.at_
          have y1 := e3.size
          have z2 := e4.at_
          have y2 := e4.size
          have x3 := S0.a3.lt S0.h3
          have x4 := S0.a4.lt S0.h4
          have x6 := S0.a6.lt S0.h6
          have x0 := S0.n3
          have g7 : Arr V3 c3 Z := (e3.arr).below e4.below (by omega)
          have g8 : Arr V3 c4 Y := e4.arr
          exact norm_ (by simp only [putAll, Act.put, List.setIfInBounds_toArray, List.set_cons_zero, List.set_cons_succ]) (Hc (c3, c4) V3 ⟨S3, g7, g8, by omega⟩)
      · skip
        refine alloc_step (by rfl) 80 Y rfl hy.out (fun V2 c4 e4 => ?_)
        refine hK.out _ _ (S1.step e4.below) (fun S2 => ?_)
        clear hK K
        refine norm_ (a' := ?_) ?_ ?_
        rotate_left
        · show Act.put _ (some 8) _ = _
          simp only [Act.put, List.setIfInBounds_toArray, List.set_cons_zero, List.set_cons_succ]
          rfl
        refine one_ (i := 3) (N := some 7) #[true, true, true, true, true, false, false] rfl rfl (by kernel_rfl) (by decide) (fun K hK => ?_)
        · skip
          refine alloc_step (by rfl) 78 Z rfl hz.out (fun V3 c3 e3 => ?_)
          refine hK.out _ _ (S2.step e3.below) (fun S3 => ?_)
          clear hK K
          refine norm_ (a' := ?_) ?_ ?_
          rotate_left
          · show Act.put _ (some 7) _ = _
            simp only [Act.put, List.setIfInBounds_toArray, List.set_cons_zero, List.set_cons_succ]
            rfl
          have z0 := e2.size
          have z1 := e4.at_
          have y1 := e4.size
          have z2 := e3.at_
          have y2 := e3.size
          have x3 := S0.a3.lt S0.h3
          have x4 := S0.a4.lt S0.h4
          have x6 := S0.a6.lt S0.h6
          have x0 := S0.n3
          have g7 : Arr V3 c3 Z := e3.arr
          have g8 : Arr V3 c4 Y := (e4.arr).below e3.below (by omega)
          exact norm_ (by simp only [putAll, Act.put, List.setIfInBounds_toArray, List.set_cons_zero, List.set_cons_succ]) (Hc (c3, c4) V3 ⟨S3, g7, g8, by omega⟩)
    · skip
      refine alloc_step (by rfl) 78 Z rfl hz.out (fun V1 c3 e3 => ?_)
      refine hK.out _ _ (S0.step e3.below) (fun S1 => ?_)
      clear hK K
      refine norm_ (a' := ?_) ?_ ?_
      rotate_left
      · show Act.put _ (some 7) _ = _
        simp only [Act.put, List.setIfInBounds_toArray, List.set_cons_zero, List.set_cons_succ]
        rfl
      refine two_ (i := 2) (j := 4) (Ni := some 21) (Nj := some 8) #[true, true, true, true, false, false, false] #[true, true, false, true, true, false, false] rfl rfl rfl rfl (by kernel_rfl) (by decide) (by decide) (fun K hK => ?_) (fun K hK => ?_)
      · skip
        refine goes_ Try.func70 (by kernel_rfl) rfl #[.string s] (by rfl) rfl rfl (by (try simp only [List.map_toArray, List.map_cons, List.map_nil]); first | done | rfl) ?_
        refine (HCW.out _).mono ?_
        rintro e V2 ⟨rfl, e2⟩
        refine ⟨_, rfl, ?_⟩
        refine hK.out _ _ (S1.step e2) (fun S2 => ?_)
        clear hK K
        refine norm_ (a' := ?_) ?_ ?_
        rotate_left
        · show Act.put _ (some 21) _ = _
          simp only [Act.put, List.setIfInBounds_toArray, List.set_cons_zero, List.set_cons_succ]
          rfl
        refine one_ (i := 4) (N := some 8) #[true, true, true, true, true, false, false] rfl rfl (by kernel_rfl) (by decide) (fun K hK => ?_)
        · skip
          refine alloc_step (by rfl) 80 Y rfl hy.out (fun V3 c4 e4 => ?_)
          refine hK.out _ _ (S2.step e4.below) (fun S3 => ?_)
          clear hK K
          refine norm_ (a' := ?_) ?_ ?_
          rotate_left
          · show Act.put _ (some 8) _ = _
            simp only [Act.put, List.setIfInBounds_toArray, List.set_cons_zero, List.set_cons_succ]
            rfl
          have z0 := e3.at_
          have y0 := e3.size
          have z1 := e2.size
          have z2 := e4.at_
          have y2 := e4.size
          have x3 := S0.a3.lt S0.h3
          have x4 := S0.a4.lt S0.h4
          have x6 := S0.a6.lt S0.h6
          have x0 := S0.n3
          have g7 : Arr V3 c3 Z := ((e3.arr).below e2 (by omega)).below e4.below (by omega)
          have g8 : Arr V3 c4 Y := e4.arr
          exact norm_ (by simp only [putAll, Act.put, List.setIfInBounds_toArray, List.set_cons_zero, List.set_cons_succ]) (Hc (c3, c4) V3 ⟨S3, g7, g8, by omega⟩)
      · skip
        refine alloc_step (by rfl) 80 Y rfl hy.out (fun V2 c4 e4 => ?_)
        refine hK.out _ _ (S1.step e4.below) (fun S2 => ?_)
        clear hK K
        refine norm_ (a' := ?_) ?_ ?_
        rotate_left
        · show Act.put _ (some 8) _ = _
          simp only [Act.put, List.setIfInBounds_toArray, List.set_cons_zero, List.set_cons_succ]
          rfl
        refine one_ (i := 2) (N := some 21) #[true, true, true, true, true, false, false] rfl rfl (by kernel_rfl) (by decide) (fun K hK => ?_)
        · skip
          refine goes_ Try.func70 (by kernel_rfl) rfl #[.string s] (by rfl) rfl rfl (by (try simp only [List.map_toArray, List.map_cons, List.map_nil]); first | done | rfl) ?_
          refine (HCW.out _).mono ?_
          rintro e V3 ⟨rfl, e2⟩
          refine ⟨_, rfl, ?_⟩
          refine hK.out _ _ (S2.step e2) (fun S3 => ?_)
          clear hK K
          refine norm_ (a' := ?_) ?_ ?_
          rotate_left
          · show Act.put _ (some 21) _ = _
            simp only [Act.put, List.setIfInBounds_toArray, List.set_cons_zero, List.set_cons_succ]
            rfl
          have z0 := e3.at_
          have y0 := e3.size
          have z1 := e4.at_
          have y1 := e4.size
          have z2 := e2.size
          have x3 := S0.a3.lt S0.h3
          have x4 := S0.a4.lt S0.h4
          have x6 := S0.a6.lt S0.h6
          have x0 := S0.n3
          have g7 : Arr V3 c3 Z := ((e3.arr).below e4.below (by omega)).below e2 (by omega)
          have g8 : Arr V3 c4 Y := (e4.arr).below e2 (by omega)
          exact norm_ (by simp only [putAll, Act.put, List.setIfInBounds_toArray, List.set_cons_zero, List.set_cons_succ]) (Hc (c3, c4) V3 ⟨S3, g7, g8, by omega⟩)
    · skip
      refine alloc_step (by rfl) 80 Y rfl hy.out (fun V1 c4 e4 => ?_)
      refine hK.out _ _ (S0.step e4.below) (fun S1 => ?_)
      clear hK K
      refine norm_ (a' := ?_) ?_ ?_
      rotate_left
      · show Act.put _ (some 8) _ = _
        simp only [Act.put, List.setIfInBounds_toArray, List.set_cons_zero, List.set_cons_succ]
        rfl
      refine two_ (i := 2) (j := 3) (Ni := some 21) (Nj := some 7) #[true, true, true, false, true, false, false] #[true, true, false, true, true, false, false] rfl rfl rfl rfl (by kernel_rfl) (by decide) (by decide) (fun K hK => ?_) (fun K hK => ?_)
      · skip
        refine goes_ Try.func70 (by kernel_rfl) rfl #[.string s] (by rfl) rfl rfl (by (try simp only [List.map_toArray, List.map_cons, List.map_nil]); first | done | rfl) ?_
        refine (HCW.out _).mono ?_
        rintro e V2 ⟨rfl, e2⟩
        refine ⟨_, rfl, ?_⟩
        refine hK.out _ _ (S1.step e2) (fun S2 => ?_)
        clear hK K
        refine norm_ (a' := ?_) ?_ ?_
        rotate_left
        · show Act.put _ (some 21) _ = _
          simp only [Act.put, List.setIfInBounds_toArray, List.set_cons_zero, List.set_cons_succ]
          rfl
        refine one_ (i := 3) (N := some 7) #[true, true, true, true, true, false, false] rfl rfl (by kernel_rfl) (by decide) (fun K hK => ?_)
        · skip
          refine alloc_step (by rfl) 78 Z rfl hz.out (fun V3 c3 e3 => ?_)
          refine hK.out _ _ (S2.step e3.below) (fun S3 => ?_)
          clear hK K
          refine norm_ (a' := ?_) ?_ ?_
          rotate_left
          · show Act.put _ (some 7) _ = _
            simp only [Act.put, List.setIfInBounds_toArray, List.set_cons_zero, List.set_cons_succ]
            rfl
          have z0 := e4.at_
          have y0 := e4.size
          have z1 := e2.size
          have z2 := e3.at_
          have y2 := e3.size
          have x3 := S0.a3.lt S0.h3
          have x4 := S0.a4.lt S0.h4
          have x6 := S0.a6.lt S0.h6
          have x0 := S0.n3
          have g7 : Arr V3 c3 Z := e3.arr
          have g8 : Arr V3 c4 Y := ((e4.arr).below e2 (by omega)).below e3.below (by omega)
          exact norm_ (by simp only [putAll, Act.put, List.setIfInBounds_toArray, List.set_cons_zero, List.set_cons_succ]) (Hc (c3, c4) V3 ⟨S3, g7, g8, by omega⟩)
      · skip
        refine alloc_step (by rfl) 78 Z rfl hz.out (fun V2 c3 e3 => ?_)
        refine hK.out _ _ (S1.step e3.below) (fun S2 => ?_)
        clear hK K
        refine norm_ (a' := ?_) ?_ ?_
        rotate_left
        · show Act.put _ (some 7) _ = _
          simp only [Act.put, List.setIfInBounds_toArray, List.set_cons_zero, List.set_cons_succ]
          rfl
        refine one_ (i := 2) (N := some 21) #[true, true, true, true, true, false, false] rfl rfl (by kernel_rfl) (by decide) (fun K hK => ?_)
        · skip
          refine goes_ Try.func70 (by kernel_rfl) rfl #[.string s] (by rfl) rfl rfl (by (try simp only [List.map_toArray, List.map_cons, List.map_nil]); first | done | rfl) ?_
          refine (HCW.out _).mono ?_
          rintro e V3 ⟨rfl, e2⟩
          refine ⟨_, rfl, ?_⟩
          refine hK.out _ _ (S2.step e2) (fun S3 => ?_)
          clear hK K
          refine norm_ (a' := ?_) ?_ ?_
          rotate_left
          · show Act.put _ (some 21) _ = _
            simp only [Act.put, List.setIfInBounds_toArray, List.set_cons_zero, List.set_cons_succ]
            rfl
          have z0 := e4.at_
          have y0 := e4.size
          have z1 := e3.at_
          have y1 := e3.size
          have z2 := e2.size
          have x3 := S0.a3.lt S0.h3
          have x4 := S0.a4.lt S0.h4
          have x6 := S0.a6.lt S0.h6
          have x0 := S0.n3
          have g7 : Arr V3 c3 Z := (e3.arr).below e2 (by omega)
          have g8 : Arr V3 c4 Y := ((e4.arr).below e3.below (by omega)).below e2 (by omega)
          exact norm_ (by simp only [putAll, Act.put, List.setIfInBounds_toArray, List.set_cons_zero, List.set_cons_succ]) (Hc (c3, c4) V3 ⟨S3, g7, g8, by omega⟩)
  rintro ⟨b7, b8⟩ V ⟨hS, g7, g8, hne⟩
  simp only at g7 g8 hne
  refine norm_ (a' := ?_) ?_ ?_
  rotate_left
  · simp only [putAll, Act.put, List.setIfInBounds_toArray, List.set_cons_zero, List.set_cons_succ]
    rfl
  refine one_ (i := 5) (N := none) #[true, true, true, true, true, true, false] rfl rfl (by kernel_rfl) (by decide) (fun K hK => ?_)
  refine store_step (by rfl) 78 8 _ _ b7 Z hs rfl rfl rfl g7 i92 HZl.out HH.out (fun V5 p5 => ?_)
  refine hK.out _ _ (hS.put p5 (by omega) (by omega) (by omega) (by omega)) (fun S5 => ?_)
  clear hK K
  have g8' := p5.apart _ _ (by omega) g8
  refine norm_ (a' := ?_) ?_ ?_
  rotate_left
  · show Act.put _ none _ = _
    simp only [Act.put]
    rfl
  refine one_ (i := 6) (N := none) #[true, true, true, true, true, true, true] rfl rfl (by kernel_rfl) (by decide) (fun K hK => ?_)
  refine store_step (by rfl) 80 64 _ _ b8 Y ws rfl rfl rfl g8' i94 HYl.out HWL.out (fun V6 p6 => ?_)
  refine hK.out _ _ (S5.put p6 (by omega) (by omega) (by omega) (by omega)) (fun S6 => ?_)
  clear hK K
  have g7' := p6.apart _ _ (by omega) p5.arr
  refine norm_ (a' := ?_) ?_ ?_
  rotate_left
  · show Act.put _ none _ = _
    simp only [Act.put]
    rfl
  refine done_ (by kernel_rfl) ?_
  have HS6 := Aside0.mk S6
  have HV := Aside0.mk g7'
  have HW := Aside0.mk p6.arr
  have HNE := Aside0.mk hne
  clear hS S5 S6 p5 p6 g7 g8 g8' g7' hne HD0 HB0
  clear hS hu92 hi92
  go_wp2_with fail
  have HV0 : Aside0 (Arr V6 b7 (rounds ks ws hs 0)) := ⟨HV.out⟩
  go_loopw [22] (fun v22 w' => ∃ i : Nat, i ≤ 64 ∧ v22 = .int .i64 i ∧ Aside0 (Bs w.heap.size w w' b3 b4 b6 hs ks Z) ∧ Aside0 (Arr w' b7 (rounds ks ws hs i)) ∧ Aside0 (Arr w' b8 ws)) (fun v22 _ => 64 - (intOf v22).toNat)
  case atStart => exact ⟨0, by omega, rfl, HS6, HV0, HW⟩
  case round =>
    clear HS6 HV0 HW HV
    obtain ⟨i, hi, rfl, HB, HV, HW⟩ := hrel
    by_cases hlt : i < 64
    · obtain ⟨v, hv⟩ : ∃ v, v = rounds ks ws hs i := ⟨_, rfl⟩
      rw [← hv] at HV
      have HVL : Aside0 (v.length = 8) := ⟨by rw [hv]; exact rounds_length _ _ _ HH.out _⟩
      have HVR : Aside0 (R32 v) := ⟨by rw [hv]; exact rounds_range _ _ _ HR.out _⟩
      have HVE := Aside0.mk hv
      clear hv
      have HI := Aside0.mk hlt
      have h64 : (i : Int) < 64 := by omega
      clear hlt
      have l8 := HVL.out
      have c0 := HV.out.cell 0 (by omega)
      have c1 := HV.out.cell 1 (by omega)
      have c2 := HV.out.cell 2 (by omega)
      have c4 := HV.out.cell 4 (by omega)
      have c5 := HV.out.cell 5 (by omega)
      have c6 := HV.out.cell 6 (by omega)
      have r0 := HVR.out.rd (0 : Nat)
      have r1 := HVR.out.rd (1 : Nat)
      have r2 := HVR.out.rd (2 : Nat)
      have r4 := HVR.out.rd (4 : Nat)
      have r5 := HVR.out.rd (5 : Nat)
      have r6 := HVR.out.rd (6 : Nat)
      clear l8
      generalize hxa : rd v ((0 : Nat) : Int) = xa at c0 r0
      generalize hxb : rd v ((1 : Nat) : Int) = xb at c1 r1
      generalize hxc : rd v ((2 : Nat) : Int) = xc at c2 r2
      generalize hxe : rd v ((4 : Nat) : Int) = xe at c4 r4
      generalize hxf : rd v ((5 : Nat) : Int) = xf at c5 r5
      generalize hxg : rd v ((6 : Nat) : Int) = xg at c6 r6
      have HX := Aside0.mk (And.intro hxa (And.intro hxb (And.intro hxc (And.intro hxe (And.intro hxf hxg)))))
      clear hxa hxb hxc hxe hxf hxg
      go_wp2_with fail
      go_still (by kernel_rfl)
      go_wp2_with fail
      change Code.wp _ _ _ _ (World.drew wr)
      generalize hw7 : World.drew wr = w7
      have HB7 : Aside0 (Bs w.heap.size w w7 b3 b4 b6 hs ks Z) := ⟨hw7 ▸ HB.out.drew⟩
      have HV7 : Aside0 (Arr w7 b7 v) := ⟨hw7 ▸ HV.out.drew⟩
      have HW7 : Aside0 (Arr w7 b8 ws) := ⟨hw7 ▸ HW.out.drew⟩
      clear hw7 c0 c1 c2 c4 c5 c6 HB HV HW
      have c7 := HV7.out.cell 7 (by have := HVL.out; omega)
      have ck := HB7.out.a4.cell i (by have := HK.out; have := HI.out; omega)
      have cw := HW7.out.cell i (by have := HWL.out; have := HI.out; omega)
      generalize hxh : rd v ((7 : Nat) : Int) = xh at c7
      generalize hxk : rd ks (i : Int) = xk at ck
      generalize hxw : rd ws (i : Int) = xw at cw
      have HY := Aside0.mk (And.intro hxh (And.intro hxk hxw))
      clear hxh hxk hxw
      refine wp_region_still_lit (by kernel_rfl) (by kernel_rfl) ?_
      repeat (first | still_step | still_call (turned_any _ _ _ (by rfl)))
      refine wpStill_nil ?_
      change Exit.then _ _ _ _ (World.drew w7)
      generalize hw8 : World.drew w7 = w8
      have HB8 : Aside0 (Bs w.heap.size w w8 b3 b4 b6 hs ks Z) := ⟨hw8 ▸ HB7.out.drew⟩
      have HV8 : Aside0 (Arr w8 b7 v) := ⟨hw8 ▸ HV7.out.drew⟩
      have HW8 : Aside0 (Arr w8 b8 ws) := ⟨hw8 ▸ HW7.out.drew⟩
      clear hw8 c7 ck cw HB7 HV7 HW7
      have c3 := HV8.out.cell 3 (by have := HVL.out; omega)
      generalize hxd : rd v ((3 : Nat) : Int) = xd at c3
      have HXd := Aside0.mk hxd
      clear hxd
      go_wp2_with (first
        | (go_at_call 71; refine (turned_any _ _ _ (by rfl)).mono ?_; rintro e w' ⟨rfl, hw'⟩; rw [hw']; clear hw')
        | ((with_reducible refine gate_store (t := 78) (p := 7) rfl ?_); refine arr_store rfl 78 8 _ _ b7 v [_, _, _, _, _, _, _, _] rfl rfl rfl HV8.out i92 HVL.out rfl ?_; intro W9 hp; have HP := Aside0.mk hp; clear hp))
      go_roundw
      case rel =>
        refine ⟨i + 1, by have := HI.out; omega, by go_num, ⟨HB8.out.put HP.out (by have := HNE.out; omega) (by have := HNE.out; omega) (by have := HNE.out; omega) (by have := HNE.out; omega)⟩, ⟨?_⟩, ⟨HP.out.apart _ _ (by have := HNE.out; omega) HW8.out⟩⟩
        have h9 := HP.out.arr
        rw [rounds_succ, ← HVE.out]
        obtain ⟨g0, g1, g2, g4, g5, g6⟩ := HX.out
        obtain ⟨g7, gk, gw⟩ := HY.out
        simp only [rstep]
        rw [show rd v 0 = xa from g0, show rd v 1 = xb from g1, show rd v 2 = xc from g2, show rd v 3 = xd from HXd.out, show rd v 4 = xe from g4, show rd v 5 = xf from g5, show rd v 6 = xg from g6, show rd v 7 = xh from g7, gk, gw]
        simp only [pv, qv, tri, ch, maj, IntKind.wrap_u32, Int.emod_add_emod, Int.add_emod_emod] at h9 ⊢
        exact h9
      case measure => have := HI.out; simp [intOf]; omega
    · have h64 : i = 64 := by omega
      have h64' : 64 ≤ (i : Int) := by omega
      rw [h64] at HV
      clear h64
      obtain ⟨v, hv⟩ : ∃ v, rounds ks ws hs 64 = v := ⟨_, rfl⟩
      have HVL : Aside0 (v.length = 8) := ⟨by rw [← hv]; exact rounds_length _ _ _ HH.out _⟩
      have HBE : Aside0 (adds hs v 8 = B) := ⟨by rw [← HBb.out, ← hv]; unfold block; rw [HWS.out]⟩
      have HV0 : Aside0 (Arr wr b7 (adds hs v 0)) := ⟨by rw [hv] at HV; exact HV.out⟩
      clear hv HV hlt hi
      go_wp2_with fail
      go_loopw [100] (fun v100 w' => ∃ i : Nat, i ≤ 8 ∧ v100 = .int .i64 i ∧ Aside0 (Bs w.heap.size w w' b3 b4 b6 hs ks Z) ∧ Aside0 (Arr w' b7 (adds hs v i))) (fun v100 _ => 8 - (intOf v100).toNat)
      case atStart => exact ⟨0, by omega, rfl, HB, HV0⟩
      case round =>
        clear HB HV0 HW
        obtain ⟨i, hi, rfl, HB, HV⟩ := hrel
        by_cases hlt : i < 8
        · have HI := Aside0.mk hlt
          have h8 : (i : Int) < 8 := by omega
          clear hlt
          have l8 : (adds hs v i).length = 8 := by rw [adds_length]; exact HVL.out
          have HL8 := Aside0.mk l8
          clear l8
          go_wp2_with fail
          have cv := HV.out.cell i (by have := HI.out; have := HL8.out; omega)
          have ch := HB.out.a3.cell i (by have := HI.out; have := HH.out; omega)
          generalize hxv : rd (adds hs v i) (i : Int) = xv at cv
          generalize hxh : rd hs (i : Int) = xh at ch
          have HX := Aside0.mk (And.intro hxv hxh)
          clear hxv hxh
          go_still_tail 8, (by kernel_rfl)
          change wpList _ _ _ _ _ wr.drew
          go_wp2_with (first
            | ((with_reducible refine gate_store (t := 72) (p := 110) rfl ?_); refine arr_put rfl 72 _ _ b7 i _ _ rfl rfl rfl Try.sizeOf72 (HV.out.drew) (by rw [HL8.out]; exact HI.out) ?_; intro W5 hp; have HP := Aside0.mk hp; clear hp))
          go_roundw
          case rel =>
            refine ⟨i + 1, by have := HI.out; omega, by go_num, ⟨HB.out.drew.put HP.out (by have := HNE.out; omega) (by have := HNE.out; omega) (by have := HNE.out; omega) (by have := HNE.out; omega)⟩, ⟨?_⟩⟩
            have h9 := HP.out.arr
            rw [adds_succ, astep, HX.out.1, HX.out.2]
            exact h9
          case measure => have := HI.out; simp [intOf]; omega
        · obtain rfl : i = 8 := by omega
          rw [HBE.out] at HV
          have HBL : Aside0 (B.length = 8) := ⟨by rw [← HBb.out]; exact block_length _ _ _ HH.out⟩
          go_wp2_with (first
            | ((with_reducible refine gate_dst (N := 112) rfl ?_); refine arr_load rfl 78 8 72 _ _ _ rfl rfl HV.out Try.underlying78 i92 HBL.out ?_)
            | ((with_reducible refine gate_store (t := 78) (p := 6) rfl ?_); refine arr_store rfl 78 8 _ _ _ _ B rfl rfl rfl HB.out.a6 i92 HZl.out HBL.out ?_; intro W5 hp; have HP := Aside0.mk hp; clear hp))
          refine bodyPost_ret (v := .agg (U B).toArray) ?_ rfl ⟨rfl, HP.out.below _ _ HB.out.n6 HB.out.below⟩
          exact results_arr (p := 6) (t := 78) rfl _ rfl HP.out.arr 8 72 Try.underlying78 i92 HBL.out
/-- What the program's number writes. -/
theorem number_from (m : Nat) (hm : m ≤ 1000) (i : Nat) : ∀ (n : Int) (x : List Int), i ≤ m → x.length = m → Ev (fun k => impl_number.l0 k n x ((i : Int) - 1)) (strOfNums (BE n i ++ x.drop i)) := by
  induction i with
  | zero =>
    intro n x hi hx
    refine ev_succ (ev_of_eq fun k => ?_)
    simp only [impl_number.l0]
    rw [if_neg (by omega)]
    rfl
  | succ i ih =>
    intro n x hi hx
    have h := ih (n / 256) (x.set i (n % 256)) (by omega) (by rw [List.length_set, hx])
    have he : BE (n / 256) i ++ (x.set i (n % 256)).drop i = BE n (i + 1) ++ x.drop (i + 1) := by
      have hd : (x.set i (n % 256)).drop i = (n % 256) :: x.drop (i + 1) := by
        rw [List.drop_eq_getElem_cons (by rw [List.length_set]; omega), List.getElem_set_self, List.drop_set_of_lt (by omega)]
      rw [hd, BE, List.append_assoc]
      rfl
    rw [he] at h
    refine ev_succ (ev_congr (fun k => ?_) h)
    simp only [impl_number.l0]
    rw [show (((i + 1 : Nat) : Int) - 1) = (i : Int) from by omega, if_pos (by omega), if_pos (by omega), if_pos (by omega), Int.toNat_natCast, wrap_in (x := (i : Int) - 1) (by omega) (by omega)]
theorem number_ev (n : Int) (m : Nat) (hm : m ≤ 1000) : Ev (fun k => impl_number.f k n (m : Int)) (strOfNums (BE n m)) := by
  have h := number_from m hm m n (List.replicate m 0) (Nat.le_refl _) (by simp)
  rw [List.drop_of_length_le (by simp), List.append_nil] at h
  refine ev_congr (fun k => ?_) h
  unfold impl_number.f
  rw [if_pos (by omega), if_pos (by omega), Int.toNat_natCast, wrap_in (by omega) (by omega)]
theorem run_index {P : Program} (t : TypeId) (n : Nat) (e : TypeId) (l : List Int) (i : Nat) (hu : P.underlying t = some (.array n e)) (ha : ∀ w, (isAgg e).run P w = .ok false w) (hs : ∀ w, (sizeOf e).run P w = .ok 1 w) (hi : i < n) (hl : l.length = n) (w : World) :
    (Instr.index t (.agg (U l).toArray) (.int .i64 (i : Int))).run P w = .ok (.int .u32 (rd l (i : Int))) w := by
  have hc : (U l)[i]? = some (.int .u32 (rd l (i : Int))) := by
    unfold U rd
    rw [List.getElem?_map, Int.toNat_natCast, List.getD_eq_getElem?_getD, List.getElem?_eq_getElem (by omega)]
    rfl
  simp [Instr.index, run_underlying hu, hs, ha, part, hc, asIntOf]
  intro h
  omega
theorem number_any (n : Int) (m : Nat) (w : World) (hm : m ≤ 1000) : Calls Try.prog 54 #[.int .i64 n, .int .i64 (m : Int)] w fun e w' => e = .returned (.string (strOfNums (BE n m))) ∧ Below w.heap.size w w' := by
  obtain ⟨K, h⟩ := number_ev n m hm
  exact impl_number.calls K n m _ w (h K (Nat.le_refl _))
def zeros (n : Nat) : ByteArray := ⟨(Lib.repeatL [0] ((119 - n % 64) % 64)).toArray⟩
/-- A text and what is put behind it ahead of hashing. -/
def padded (s : ByteArray) : ByteArray := s ++ ⟨#[128]⟩ ++ zeros s.size ++ strOfNums (BE (8 * (s.size : Int)) 8)
def hstep (all : ByteArray) (h : List Int) (j : Nat) : List Int := block h K0 (bytesOf (all.extract (64 * j) (64 * j + 64)))
def hashed (all : ByteArray) (j : Nat) : List Int := (List.range j).foldl (hstep all) H0
theorem hashed_succ (all : ByteArray) (j : Nat) : hashed all (j + 1) = hstep all (hashed all j) j := by simp [hashed, List.range_succ]
theorem hashed_length (all : ByteArray) : ∀ j, (hashed all j).length = 8 := by
  intro j
  induction j with
  | zero => rfl
  | succ j ih => rw [hashed_succ, hstep, block_length _ _ _ ih]
theorem H0_range : R32 H0 := by
  intro x hx
  simp only [H0, List.mem_cons, List.not_mem_nil, or_false] at hx
  omega
theorem hashed_range (all : ByteArray) : ∀ j, R32 (hashed all j) := by
  intro j
  induction j with
  | zero => exact H0_range
  | succ j ih => rw [hashed_succ, hstep]; exact block_range _ _ _ ih
def told (h : List Int) (i : Nat) : ByteArray := (List.range i).foldl (fun (out : ByteArray) (i : Nat) => out ++ strOfNums (BE (rd h (i : Int)) 4)) (⟨#[]⟩ : ByteArray)
theorem told_succ (h : List Int) (i : Nat) : told h (i + 1) = told h i ++ strOfNums (BE (rd h (i : Int)) 4) := by simp [told, List.range_succ]
theorem told_size (h : List Int) : ∀ i, (told h i).size = 4 * i := by
  intro i
  induction i with
  | zero => rfl
  | succ i ih => rw [told_succ, ByteArray.size_append, ih, size_strOfNums, BE_length]; omega
def sha (s : ByteArray) : ByteArray := told (hashed (padded s) ((padded s).size / 64)) 8
theorem zeros_size (n : Nat) : (zeros n).size = (119 - n % 64) % 64 := by
  show ((Lib.repeatL [0] ((119 - n % 64) % 64)).toArray).size = _
  simp [Lib.repeatL_length]
theorem padded_size (s : ByteArray) : (padded s).size = s.size + 9 + (119 - s.size % 64) % 64 := by
  unfold padded
  rw [ByteArray.size_append, ByteArray.size_append, ByteArray.size_append, zeros_size, size_strOfNums, BE_length]
  show s.size + 1 + _ + 8 = _
  omega
theorem padded_mod (s : ByteArray) : (padded s).size % 64 = 0 := by rw [padded_size]; omega
set_option maxHeartbeats 2000000 in
set_option maxRecDepth 100000 in
theorem hash_walk (s : ByteArray) (w : World) (hs : s.size ≤ 1099511627776) :
    Calls Try.prog 41 #[.string s] w fun e w' => e = .returned (.string (sha s)) ∧ Below w.heap.size w w' := by
  obtain ⟨R, hR⟩ : ∃ R, sha s = R := ⟨_, rfl⟩
  rw [hR]
  have HR := Aside0.mk hR
  clear hR
  obtain ⟨Z, hZ, hz_⟩ := z92
  have hz := Aside0.mk hz_
  have HZl : Aside0 (Z.length = 8) := ⟨by rw [hZ]; rfl⟩
  clear hZ hz_
  obtain ⟨Y, hY, hy_⟩ := z94
  have hy := Aside0.mk hy_
  have HYl : Aside0 (Y.length = 64) := ⟨by rw [hY]; rfl⟩
  clear hY hy_
  obtain ⟨H, hH⟩ : ∃ H, H0 = H := ⟨_, rfl⟩
  have HHl : Aside0 (H.length = 8) := ⟨by rw [← hH]; rfl⟩
  have HHw : Aside0 (∀ w, Calls Try.prog 55 #[] w fun e w' => e = .returned (.agg (U H).toArray) ∧ Below w.heap.size w w') := ⟨fun w => by rw [← hH]; exact hashWords w⟩
  have HHe := Aside0.mk hH
  clear hH
  obtain ⟨K, hK⟩ : ∃ K, K0 = K := ⟨_, rfl⟩
  have HKl : Aside0 (K.length = 64) := ⟨by rw [← hK]; rfl⟩
  have HKw : Aside0 (∀ w, Calls Try.prog 56 #[] w fun e w' => e = .returned (.agg (U K).toArray) ∧ Below w.heap.size w w') := ⟨fun w => by rw [← hK]; exact roundWords w⟩
  have HKe := Aside0.mk hK
  clear hK
  obtain ⟨zs, hzs⟩ : ∃ zs, zeros s.size = zs := ⟨_, rfl⟩
  have hzl : zs.size ≤ 63 := by rw [← hzs, zeros_size]; omega
  have HC : Aside0 (∀ w, Calls Try.prog 53 #[.string ⟨#[0]⟩, .int .i64 ((119 - (s.size : Int)) % 64)] w fun e w' => e = .returned (.string zs) ∧ Below w.heap.size w w') := ⟨fun w => by
    have h := Try.strings_Repeat ⟨#[0]⟩ ((119 - s.size % 64) % 64) w (by omega) (by show 1 * _ ≤ _; omega)
    rw [← hzs, show (119 - (s.size : Int)) % 64 = (((119 - s.size % 64) % 64 : Nat) : Int) by omega]
    exact h⟩
  have HZs := Aside0.mk hzs
  clear hzs
  obtain ⟨nb, hnb⟩ : ∃ nb, strOfNums (BE (8 * (s.size : Int)) 8) = nb := ⟨_, rfl⟩
  have hnl : nb.size = 8 := by rw [← hnb, size_strOfNums, BE_length]
  have HN : Aside0 (∀ w, Calls Try.prog 54 #[.int .i64 (8 * (s.size : Int)), .int .i64 8] w fun e w' => e = .returned (.string nb) ∧ Below w.heap.size w w') := ⟨fun w => by rw [← hnb]; exact number_any _ 8 w (by omega)⟩
  have HNb := Aside0.mk hnb
  clear hnb
  go_enter Try.func41, Try.ntmps41
  go_wp2_with (first
    | (go_at_call 53; refine (HC.out _).mono ?_; rintro e W1 ⟨rfl, hb1⟩; have HB1 := Aside0.mk hb1; clear hb1)
    | (go_at_call 54; refine (HN.out _).mono ?_; rintro e W2 ⟨rfl, hb2⟩; have HB2 := Aside0.mk hb2; clear hb2)
    | (go_at_call 55; refine (HHw.out _).mono ?_; rintro e W3 ⟨rfl, hb3⟩; have HB3 := Aside0.mk hb3; clear hb3)
    | (go_at_call 56; refine (HKw.out _).mono ?_; rintro e W4 ⟨rfl, hb4⟩; have HB4 := Aside0.mk hb4; clear hb4)
    | ((with_reducible refine gate_dst (N := 4) rfl ?_); refine arr_alloc rfl 78 Z rfl hz.out ?_; intro W5 b4 hn5; have HN5 := Aside0.mk hn5; clear hn5)
    | ((with_reducible refine gate_dst (N := 5) rfl ?_); refine arr_alloc rfl 80 Y rfl hy.out ?_; intro W6 b5 hn6; have HN6 := Aside0.mk hn6; clear hn6)
    | ((with_reducible refine gate_store (t := 78) (p := 4) rfl ?_); refine arr_store rfl 78 8 _ _ b4 Z H rfl rfl rfl (HN5.out.arr.below HN6.out.below (by have := HN5.out.size; omega)) i92 HZl.out HHl.out ?_; intro W7 hp7; have HP7 := Aside0.mk hp7; clear hp7)
    | ((with_reducible refine gate_store (t := 80) (p := 5) rfl ?_); refine arr_store rfl 80 64 _ _ b5 Y K rfl rfl rfl (HP7.out.apart _ _ (by have h1 := HN5.out.size; have h2 := HN6.out.at_; omega) HN6.out.arr) i94 HYl.out HKl.out ?_; intro W8 hp8; have HP8 := Aside0.mk hp8; clear hp8))
  have HW : Aside0 (w.heap.size ≤ b4 ∧ w.heap.size ≤ b5 ∧ b4 ≠ b5) := ⟨by
    have z1 := HB1.out.size
    have z2 := HB2.out.size
    have z3 := HB3.out.size
    have z4 := HB4.out.size
    have h1 := HN5.out.size
    have h2 := HN5.out.at_
    have h3 := HN6.out.at_
    omega⟩
  have HB : Aside0 (Below w.heap.size w W8) := ⟨by
    have z1 := HB1.out.size
    have z2 := HB2.out.size
    have z3 := HB3.out.size
    have z4 := HB4.out.size
    have h1 := HN5.out.size
    have h2 := HN5.out.at_
    exact HP8.out.below _ _ HW.out.2.1 (HP7.out.below _ _ HW.out.1 (((((HB1.out.trans (HB2.out.mono (by omega))).trans (HB3.out.mono (by omega))).trans (HB4.out.mono (by omega))).trans (HN5.out.below.mono (by omega))).trans (HN6.out.below.mono (by omega))))⟩
  generalize hall : s ++ { data := #[128] } ++ zs ++ nb = all
  have HAll : Aside0 (padded s = all) := ⟨by unfold padded; rw [HZs.out, HNb.out]; exact hall⟩
  have hsz : all.size ≤ 2199023255552 := by rw [← HAll.out, padded_size]; omega
  have HMod : Aside0 (all.size % 64 = 0) := ⟨by rw [← HAll.out]; exact padded_mod s⟩
  clear hall hzl hnl
  have HA4 : Aside0 (Arr W8 b4 (hashed all (0 / 64))) := ⟨HP8.out.apart _ _ HW.out.2.2 (by rw [show hashed all (0 / 64) = H from HHe.out]; exact HP7.out.arr)⟩
  have HA5 : Aside0 (Arr W8 b5 K) := ⟨HP8.out.arr⟩
  clear HP8 HP7 HN5 HN6 HB1 HB2 HB3 HB4
  go_loopw [6] (fun v6 w' => ∃ m : Nat, m ≤ all.size ∧ v6 = .int .i64 (m : Int) ∧ Aside0 (m % 64 = 0) ∧ Aside0 (Below w.heap.size w w') ∧ Aside0 (Arr w' b4 (hashed all (m / 64))) ∧ Aside0 (Arr w' b5 K)) (fun v6 _ => all.size - (intOf v6).toNat)
  case atStart => exact ⟨0, by omega, rfl, ⟨rfl⟩, HB, HA4, HA5⟩
  case round =>
    clear HB HA4 HA5
    obtain ⟨m, hm, rfl, HM, HB, HA4, HA5⟩ := hrel
    have HAL : Aside0 ((hashed all (m / 64)).length = 8) := ⟨hashed_length _ _⟩
    have HAR : Aside0 (R32 (hashed all (m / 64))) := ⟨hashed_range _ _⟩
    obtain ⟨h, hh⟩ : ∃ h, hashed all (m / 64) = h := ⟨_, rfl⟩
    rw [hh] at HA4 HAL HAR
    have HE := Aside0.mk hh
    clear hh
    by_cases hlt : m < all.size
    · have hlt' : (m : Int) < (all.size : Int) := by omega
      obtain ⟨m2, hm2⟩ : ∃ m2, m + 64 = m2 := ⟨_, rfl⟩
      have hle : m2 ≤ all.size := by have := HM.out; have := HMod.out; omega
      have hle1 : (m2 : Int) ≤ (all.size : Int) := by omega
      have hle2 : (m : Int) ≤ (m2 : Int) := by omega
      have hle3 : (0 : Int) ≤ (m : Int) := by omega
      have hle4 : (0 : Int) ≤ (m2 : Int) := by omega
      have e2 : IntKind.i64.wrap ((m : Int) + 64) = (m2 : Int) := by rw [← hm2]; exact IntWalk.i64_in _ (by omega)
      have HM2 := Aside0.mk hm2
      have HLT := Aside0.mk hlt
      obtain ⟨blk, hblk⟩ : ∃ blk, all.extract m m2 = blk := ⟨_, rfl⟩
      have hbs : blk.size = 64 := by rw [← hblk, ByteArray.size_extract]; omega
      obtain ⟨B, hB⟩ : ∃ B, block h K (bytesOf blk) = B := ⟨_, rfl⟩
      have HBl : Aside0 (B.length = 8) := ⟨by rw [← hB]; exact block_length _ _ _ HAL.out⟩
      have HCb : Aside0 (∀ w, Calls Try.prog 57 #[.agg (U h).toArray, .agg (U K).toArray, .string blk] w fun e w' => e = .returned (.agg (U B).toArray) ∧ Below w.heap.size w w') := ⟨fun w => by rw [← hB]; exact blockHash h K blk w HAL.out HKl.out HAR.out hbs⟩
      have HBe := Aside0.mk hB
      have HBk := Aside0.mk hblk
      clear hm2 hlt hbs hB hblk
      go_wp2_with fail
      refine start_ (S := fun w' => Below w.heap.size w w' ∧ Arr w' b4 h ∧ Arr w' b5 K) (ds := [8]) #[false, false, false, false, false, false, false, false, false] (by kernel_rfl) rfl rfl ⟨pw_below_drewN HB.out 1, HA4.out.drew, HA5.out.drew⟩ ?_
      intro hS
      refine take_ (i := 0) (N := some 32) (v := .agg (U h).toArray) (a' := ?_) #[true, false, false, false, false, false, false, false, false] rfl rfl (by kernel_rfl) (fun _ _ _ h => h)
        (yieldsIf_load_mid (by rfl) 78 (.tmp 4) rfl b4 0 rfl (U h) _ (fun w' hw' => hw'.2.1.lies) Try.underlying78 rfl (by rw [U_length, HAL.out]; exact i92)) hS ?_ ?_
      rotate_left
      · simp only [Act.put, List.setIfInBounds_toArray, List.set_cons_zero, List.set_cons_succ]
        rfl
      refine take_ (i := 1) (N := some 33) (v := .agg (U K).toArray) (a' := ?_) #[true, true, false, false, false, false, false, false, false] rfl rfl (by kernel_rfl) (fun _ _ _ h => h)
        (yieldsIf_load_mid (by rfl) 80 (.tmp 5) rfl b5 0 rfl (U K) _ (fun w' hw' => hw'.2.2.lies) Try.underlying80 rfl (by rw [U_length, HKl.out]; exact i94)) hS ?_ ?_
      rotate_left
      · simp only [Act.put, List.setIfInBounds_toArray, List.set_cons_zero, List.set_cons_succ]
        rfl
      refine pure_ (i := 2) (N := some 34) (v := .string all) (a' := ?_) #[true, true, true, false, false, false, false, false, false] rfl rfl (by kernel_rfl) (fun _ _ _ h => h) (Or.inl ⟨by rfl, fun w' => by go_simp⟩) ?_ ?_
      rotate_left
      · simp only [Act.put, List.setIfInBounds_toArray, List.set_cons_zero, List.set_cons_succ]
        rfl
      refine pure_ (i := 3) (N := some 35) (v := .int .i64 (m : Int)) (a' := ?_) #[true, true, true, true, false, false, false, false, false] rfl rfl (by kernel_rfl) (fun _ _ _ h => h) (Or.inl ⟨by rfl, fun w' => by go_simp⟩) ?_ ?_
      rotate_left
      · simp only [Act.put, List.setIfInBounds_toArray, List.set_cons_zero, List.set_cons_succ]
        rfl
      refine pure_ (i := 4) (N := some 36) (v := .int .i64 (m : Int)) (a' := ?_) #[true, true, true, true, true, false, false, false, false] rfl rfl (by kernel_rfl) (fun _ _ _ h => h) (Or.inl ⟨by rfl, fun w' => by go_simp⟩) ?_ ?_
      rotate_left
      · simp only [Act.put, List.setIfInBounds_toArray, List.set_cons_zero, List.set_cons_succ]
        rfl
      refine pure_ (i := 5) (N := some 37) (v := .int .i64 (m2 : Int)) (a' := ?_) #[true, true, true, true, true, true, false, false, false] rfl rfl (by kernel_rfl) (fun _ _ _ h => h) (Or.inl ⟨by rfl, fun w' => by go_simp⟩) ?_ ?_
      rotate_left
      · simp only [Act.put, List.setIfInBounds_toArray, List.set_cons_zero, List.set_cons_succ]
        rfl
      refine pure_ (i := 6) (N := some 38) (v := .string blk) (a' := ?_) #[true, true, true, true, true, true, true, false, false] rfl rfl (by kernel_rfl) (fun _ _ _ h => h) (Or.inl ⟨by rfl, fun w' => by go_simp; exact HBk.out⟩) ?_ ?_
      rotate_left
      · simp only [Act.put, List.setIfInBounds_toArray, List.set_cons_zero, List.set_cons_succ]
        rfl
      refine one_ (i := 7) (N := some 39) #[true, true, true, true, true, true, true, true, false] rfl rfl (by kernel_rfl) (by decide) (fun K_ hK => ?_)
      refine goes_ Try.func57 (by kernel_rfl) rfl #[.agg (U h).toArray, .agg (U K).toArray, .string blk] (by rfl) rfl rfl (by (try simp only [List.map_toArray, List.map_cons, List.map_nil]); first | done | rfl) ?_
      refine (HCb.out _).mono ?_
      rintro e V1 ⟨rfl, e1⟩
      refine ⟨_, rfl, ?_⟩
      refine hK.out _ _ ⟨hS.1.trans (e1.mono (by have := hS.1.size; omega)), hS.2.1.below e1 (hS.2.1.lt (by have := HAL.out; omega)), hS.2.2.below e1 (hS.2.2.lt (by have := HKl.out; omega))⟩ (fun S1 => ?_)
      clear hK K_
      refine norm_ (a' := ?_) ?_ ?_
      rotate_left
      · show Act.put _ (some 39) _ = _
        simp only [Act.put, List.setIfInBounds_toArray, List.set_cons_zero, List.set_cons_succ]
        rfl
      refine last_ (i := 8) (N := none) #[true, true, true, true, true, true, true, true, true] rfl rfl (by kernel_rfl) (by decide) (fun K_ hK => ?_)
      refine store_step (by rfl) 78 8 _ _ b4 h B rfl rfl rfl S1.2.1 i92 HAL.out HBl.out (fun V2 p2 => ?_)
      refine hK.out _ _ ?_
      clear hK K_
      have HV1 : Aside0 (Below w.heap.size w V2) := ⟨p2.below _ _ HW.out.1 S1.1⟩
      have HV2 : Aside0 (Arr V2 b4 B) := ⟨p2.arr⟩
      have HV3 : Aside0 (Arr V2 b5 K) := ⟨p2.apart _ _ (Ne.symm HW.out.2.2) S1.2.2⟩
      clear p2 S1 e1 hS
      refine norm_ (a' := ?_) ?_ ?_
      rotate_left
      · show Act.put _ none _ = _
        simp only [Act.put]
        rfl
      refine done_ (by kernel_rfl) ?_
      go_wp2_with fail
      go_roundw
      case rel =>
        refine ⟨m2, hle, rfl, ⟨by have := HM2.out; have := HM.out; omega⟩, HV1, ⟨?_⟩, HV3⟩
        rw [show m2 / 64 = m / 64 + 1 by have := HM2.out; omega, hashed_succ, hstep, HE.out, show 64 * (m / 64) = m by have := HM.out; omega, HM2.out, HBk.out, HKe.out, HBe.out]
        exact HV2.out
      case measure => have := HM2.out; have := HLT.out; simp [intOf]; omega
    · have hme : m = all.size := by omega
      have hle : (all.size : Int) ≤ (m : Int) := by omega
      have HF : Aside0 (told h 8 = R) := ⟨by rw [← HR.out]; unfold sha; rw [HAll.out, ← hme, HE.out]⟩
      clear hme
      go_wp2_with (first
        | ((with_reducible refine gate_dst (N := 40) rfl ?_); refine arr_load rfl 78 8 72 _ _ _ rfl rfl HA4.out Try.underlying78 i92 HAL.out ?_))
      go_loopw [7, 41] (fun v7 v41 w' => ∃ i : Nat, i ≤ 8 ∧ v41 = .int .i64 i ∧ v7 = .string (told h i) ∧ Aside0 (Below w.heap.size w w')) (fun _ v41 _ => 8 - (intOf v41).toNat)
      case atStart => exact ⟨0, by omega, rfl, rfl, HB⟩
      case round =>
        clear HB HA4 HA5
        obtain ⟨i, hi, rfl, rfl, HB⟩ := hrel
        by_cases hlt : i < 8
        · have h8 : (i : Int) < 8 := by omega
          obtain ⟨x, hx⟩ : ∃ x, rd h (i : Int) = x := ⟨_, rfl⟩
          have hr := HAR.out.rd (i : Int)
          rw [hx] at hr
          have HIx : Aside0 (∀ w, (Instr.index 78 (.agg (U h).toArray) (.int .i64 (i : Int))).run Try.prog w = .ok (.int .u32 x) w) := ⟨fun w => by rw [← hx]; exact run_index 78 8 72 h i Try.underlying78 Try.isAgg72 Try.sizeOf72 hlt HAL.out w⟩
          obtain ⟨out, hout⟩ : ∃ out, told h i = out := ⟨_, rfl⟩
          have hos : out.size ≤ 32 := by rw [← hout, told_size]; omega
          obtain ⟨q, hq⟩ : ∃ q, strOfNums (BE x 4) = q := ⟨_, rfl⟩
          have hqs : q.size = 4 := by rw [← hq, size_strOfNums, BE_length]
          have HNq : Aside0 (∀ w, Calls Try.prog 54 #[.int .i64 x, .int .i64 4] w fun e w' => e = .returned (.string q) ∧ Below w.heap.size w w') := ⟨fun w => by rw [← hq]; exact number_any _ 4 w (by omega)⟩
          have HQ : Aside0 (told h (i + 1) = out ++ q) := ⟨by rw [told_succ, hout, hx, hq]⟩
          rw [hout]
          have HI := Aside0.mk hlt
          clear hlt hx hq hout
          go_wp2_with (first
            | ((with_reducible refine gate_dst (N := 43) rfl ?_); refine arr_value rfl (.int .u32 x) (fun w => by unfold execOp; simp only [Sem.run_bind]; show (Result.andThen ((Instr.index 78 (.agg (U h).toArray) (.int .i64 (i : Int))).run Try.prog w) _) = _; rw [HIx.out]; rfl) ?_)
            | (go_at_call 54; refine (HNq.out _).mono ?_; rintro e W9 ⟨rfl, hb9⟩; have HB9 := Aside0.mk hb9; clear hb9))
          go_roundw
          case rel =>
            refine ⟨i + 1, by have := HI.out; omega, by go_num, by rw [HQ.out], ⟨HB.out.trans (HB9.out.mono (by have := HB.out.size; omega))⟩⟩
          case measure => have := HI.out; simp [intOf]; omega
        · have h8 : i = 8 := by omega
          have h8' : (8 : Int) ≤ (i : Int) := by omega
          rw [h8, HF.out]
          clear h8
          go_wp2_with fail
          go_ret
          exact ⟨rfl, HB.out⟩
end Go.Proofs.Ytjkdmegpjdfcaaa.Hash
