/- What the reference's hash answers at a row of bytes: the same SHA-256 (rows of at most 2^40 bytes). -/
import Derived.Test.YtjkdmegpjdfcaaaMFnExactMapListSHash
set_option linter.unusedVariables false
set_option linter.unusedSimpArgs false
namespace Go.Proofs.Ytjkdmegpjdfcaaa.SHash
open Go.Proofs.Ytjkdmegpjdfcaaa.BHash Go.RowKit Go.Proofs.YtjkdmegpjdfcaaaW.PrintWords Go.Proofs.YtjkdmegpjdfcaaaW.PrintLast Go.Proofs.YtjkdmegpjdfcaaaW.PrintMore Go.Proofs.Ytjkdmegpjdfcaaa.HashW Go.Proofs.Ytjkdmegpjdfcaaa.U Go.Proofs.Ytjkdmegpjdfcaaa.Hash
/-- What is put behind a row of bytes. -/
def padz (n : Nat) : Nat := (119 - n % 64) % 64
def padl (l : List Int) : List Int := l ++ [128] ++ List.replicate (padz l.length) 0 ++ BE (8 * (l.length : Int)) 8
theorem padl_length (l : List Int) : (padl l).length = l.length + 9 + padz l.length := by
  unfold padl
  simp only [List.length_append, List.length_cons, List.length_nil, List.length_replicate, BE_length]
  omega
theorem padl_mod (l : List Int) : (padl l).length % 64 = 0 := by
  rw [padl_length, padz]
  omega
def hstepL (all : List Int) (h : List Int) (j : Nat) : List Int := block h K0 ((all.take (64 * j + 64)).drop (64 * j))
def hashedL (all : List Int) (j : Nat) : List Int := (List.range j).foldl (hstepL all) H0
theorem hashedL_succ (all : List Int) (j : Nat) : hashedL all (j + 1) = hstepL all (hashedL all j) j := by simp [hashedL, List.range_succ]
theorem hashedL_length (all : List Int) : ∀ j, (hashedL all j).length = 8 := by
  intro j
  induction j with
  | zero => rfl
  | succ j ih => rw [hashedL_succ, hstepL, block_length _ _ _ ih]
theorem hashedL_range (all : List Int) : ∀ j, R32 (hashedL all j) := by
  intro j
  induction j with
  | zero => exact H0_range
  | succ j ih => rw [hashedL_succ, hstepL]; exact block_range _ _ _ ih
def outL (h : List Int) (i : Nat) : List Int := (List.range i).foldl (fun (out : List Int) (i : Nat) => out ++ BE (rd h (i : Int)) 4) []
theorem outL_succ (h : List Int) (i : Nat) : outL h (i + 1) = outL h i ++ BE (rd h (i : Int)) 4 := by simp [outL, List.range_succ]
theorem outL_length (h : List Int) : ∀ i, (outL h i).length = 4 * i := by
  intro i
  induction i with
  | zero => rfl
  | succ i ih => rw [outL_succ, List.length_append, ih, BE_length]; omega
theorem outL_told (h : List Int) : ∀ i, strOfNums (outL h i) = told h i := by
  intro i
  induction i with
  | zero => rfl
  | succ i ih => rw [outL_succ, strOfNums_append, ih, told_succ]
/-- SHA-256 of a row of bytes. -/
def shaL (l : List Int) : ByteArray := strOfNums (outL (hashedL (padl l) ((padl l).length / 64)) 8)
theorem ext_bytes (l : List Int) (a b : Nat) : (strOfNums l).extract a b = strOfNums ((l.take b).drop a) := by
  apply ByteArray.ext
  rw [ByteArray.data_extract]
  show ((l.map fun n => UInt8.ofNat n.toNat).toArray).extract a b = (((l.take b).drop a).map fun n => UInt8.ofNat n.toNat).toArray
  rw [List.extract_toArray]
  congr 1
  rw [List.extract_eq_take_drop, List.map_drop, List.map_take, List.drop_take]
theorem repeat_zero (m : Nat) : Lib.repeatL [(0 : UInt8)] m = List.replicate m (0 : UInt8) := by
  induction m with
  | zero => rfl
  | succ m ih => rw [List.replicate_succ, ← ih]; rfl
theorem zeros_nums (n : Nat) : strOfNums (List.replicate (padz n) 0) = zeros n := by
  apply ByteArray.ext
  show ((List.replicate (padz n) (0 : Int)).map fun n => UInt8.ofNat n.toNat).toArray = (Lib.repeatL [0] ((119 - n % 64) % 64)).toArray
  rw [repeat_zero, List.map_replicate]
  rfl
theorem padl_padded (l : List Int) : strOfNums (padl l) = padded (strOfNums l) := by
  unfold padl padded
  rw [strOfNums_append, strOfNums_append, strOfNums_append, size_strOfNums, zeros_nums]
  rfl
theorem padl_bytes (l : List Int) (hb : ∀ x ∈ l, 0 ≤ x ∧ x < 256) : ∀ x ∈ padl l, 0 ≤ x ∧ x < 256 := by
  intro x hx
  unfold padl at hx
  simp only [List.mem_append, List.mem_cons, List.not_mem_nil, or_false, List.mem_replicate] at hx
  rcases hx with ((h | h) | h) | h
  · exact hb x h
  · omega
  · omega
  · exact BE_range _ _ x h
theorem hstepL_eq (l : List Int) (hb : ∀ x ∈ l, 0 ≤ x ∧ x < 256) (h : List Int) (j : Nat) : hstepL l h j = hstep (strOfNums l) h j :=
  congrArg (block h K0) (by
    rw [ext_bytes, bytesOf_strOfNums]
    intro x hx
    exact hb x (List.mem_of_mem_take (List.mem_of_mem_drop hx)))
theorem hashedL_eq (l : List Int) (hb : ∀ x ∈ l, 0 ≤ x ∧ x < 256) : ∀ j, hashedL l j = hashed (strOfNums l) j := by
  intro j
  induction j with
  | zero => exact (show hashedL l 0 = H0 from rfl).trans (show H0 = hashed (strOfNums l) 0 from rfl)
  | succ j ih =>
    have h1 := hashedL_succ l j
    have h2 := hashed_succ (strOfNums l) j
    rw [ih] at h1
    exact (h1.trans (hstepL_eq l hb _ j)).trans h2.symm
theorem shaL_eq (l : List Int) (hb : ∀ x ∈ l, 0 ≤ x ∧ x < 256) : shaL l = sha (strOfNums l) := by
  unfold shaL sha
  rw [outL_told, hashedL_eq _ (padl_bytes l hb), padl_padded, ← padl_padded, size_strOfNums]
theorem sha_eq (s : ByteArray) : sha s = shaL (bytesOf s) := by rw [shaL_eq _ (bytesOf_range s), strOfNums_bytesOf]
theorem shaL_size (l : List Int) : (shaL l).size = 32 := by unfold shaL; rw [size_strOfNums, outL_length]
theorem sha_size (s : ByteArray) : (sha s).size = 32 := by rw [sha_eq, shaL_size]
set_option maxHeartbeats 1000000 in
set_option maxRecDepth 100000 in
theorem consts_walk (w : World) : Calls Try.prog 51 #[] w fun e w' => ∃ b, e = .returned (.slice (some ⟨b, 0, none⟩) 64 64) ∧ New w w' b K0 := by
  obtain ⟨H, hH⟩ : ∃ H, H = K0 := ⟨_, rfl⟩
  have HH := Aside0.mk hH
  clear hH
  go_enter Try.func51, Try.ntmps51
  go_wp2_with ((with_reducible refine gate_dst (N := 1) rfl ?_); refine arr_event rfl 72 (fun b => .slice (some ⟨b, 0, none⟩) 64 64) H (fun w => by rw [HH.out]; first | kernel_rfl | (go_simp; rfl)) ?_; intro W1 b1 hn1; have HN1 := Aside0.mk hn1; clear hn1)
  rw [← HH.out]
  go_ret
  exact ⟨_, rfl, HN1.out⟩
theorem digit8 (N : Int) (m : Nat) (hm : m < 8) : N / 2 ^ (8 * (7 - (m : Int))).toNat % 256 = rd (BE N 8) (m : Int) := by
  have h0 : N / 72057594037927936 % 256 = N / 256 / 256 / 256 / 256 / 256 / 256 / 256 % 256 := by omega
  have h1 : N / 281474976710656 % 256 = N / 256 / 256 / 256 / 256 / 256 / 256 % 256 := by omega
  have h2 : N / 1099511627776 % 256 = N / 256 / 256 / 256 / 256 / 256 % 256 := by omega
  have h3 : N / 4294967296 % 256 = N / 256 / 256 / 256 / 256 % 256 := by omega
  have h4 : N / 16777216 % 256 = N / 256 / 256 / 256 % 256 := by omega
  have h5 : N / 65536 % 256 = N / 256 / 256 % 256 := by omega
  have h6 : N / 256 % 256 = N / 256 % 256 := rfl
  have h7 : N / 1 % 256 = N % 256 := by rw [Int.ediv_one]
  match m, hm with
  | 0, _ => exact h0
  | 1, _ => exact h1
  | 2, _ => exact h2
  | 3, _ => exact h3
  | 4, _ => exact h4
  | 5, _ => exact h5
  | 6, _ => exact h6
  | 7, _ => exact h7
theorem reads_kept {w w' : World} {k : IntKind} {g o n : Nat} {xs : List Int} {S : Nat → Prop} (h : ReadsInt w k (some ⟨g, o, none⟩) n xs) (hk : Kept w w' S) (hn : ¬ S g) : ReadsInt w' k (some ⟨g, o, none⟩) n xs :=
  ⟨h.1, h.2.1, fun h0 => by
    obtain ⟨ad, e, hc⟩ := h.2.2 h0
    cases e
    refine ⟨_, rfl, fun j hj => cell_kept (hc j hj) hk ?_⟩
    show ¬ S ((⟨g, o, none⟩ : Addr).add j).block
    have : ((⟨g, o, none⟩ : Addr).add j).block = g := by unfold Addr.add; split <;> rfl
    rw [this]
    exact hn⟩
theorem reads_of_own {w : World} {base g n c : Nat} {e : TypeId} {xs : List Int} (h : w.ownsRow base e 1 (.slice (some ⟨g, 0, none⟩) n c) n (nums .u8 xs)) : ReadsInt w .u8 (some ⟨g, 0, none⟩) n xs := by
  obtain ⟨A, c', e', hr⟩ := own_reads h
  cases e'
  exact hr
theorem own_cap {w : World} {base g n c : Nat} {e : TypeId} {xs : List Value} (h : w.ownsRow base e 1 (.slice (some ⟨g, 0, none⟩) n c) n xs) : n ≤ c ∧ base ≤ g := by
  rcases h.2 with ⟨h', _⟩ | ⟨g', cap, cur, h', hb, _, hnc, _⟩
  · cases h'
  · cases h'
    exact ⟨hnc, hb⟩
theorem below_alloc' {n : Nat} {w W : World} (h : Below w.heap.size w W) (hn : n ≤ w.heap.size) (o : Obj) : Below n w (W.alloc o) := (below_alloc h o).mono hn
theorem HA7c {w w' : World} {b n m : Nat} {l : List Int} {x : Int} (h : Arr w b l) (hl : l.length = 8) (hx : rd l (m : Int) = x) (hb : Below n w w') (hn : b < n) (hm : m < 8) : w'.cell? ⟨b, m, none⟩ = some (.int .u32 x) := by
  rw [← hx]
  exact (h.below hb hn).cell m (by omega)
def lenV : Value → Nat
  | .slice _ n _ => n
  | _ => 0
set_option maxHeartbeats 2000000 in
set_option maxRecDepth 100000 in
theorem shash_walk (A0 : Option Addr) (c0 : Nat) (l : List Int) (w : World) (hr0 : Kd.C (Kd.int .u8) w A0 l.length l) (hc0 : l.length ≤ c0) (hl : l.length ≤ 1099511627776) :
    Calls Try.prog 38 #[.slice A0 l.length c0] w fun e w' => e = .returned (.string (shaL l)) ∧ Below w.heap.size w w' := by
  obtain ⟨H, hH⟩ : ∃ H, H = H0 := ⟨_, rfl⟩
  have HH := Aside0.mk hH
  clear hH
  have HRI : Aside0 (ReadsInt w .u8 A0 l.length l) := ⟨Kd.reads_of_C hr0⟩
  have HL := Aside0.mk hl
  clear hr0 hc0 hl
  go_enter Try.func38, Try.ntmps38
  go_wp2_with (first
    | ((with_reducible refine gate_dst (N := 10) rfl ?_); refine arr_event rfl 72 (fun b => .slice (some ⟨b, 0, none⟩) 8 8) H (fun w => by rw [HH.out]; first | kernel_rfl | (go_simp; rfl)) ?_; intro W1 bh hn1; have HN1 := Aside0.mk hn1; clear hn1)
    | ((with_reducible refine gate_builtin (b := .append) (xs := #[.tmp 11, .tmp 12]) rfl ?_); at_builtin; refine print_append_row (w0 := W1) W1.heap.size rfl (.tmp 11) (.tmp 12) 60 5 .u8 1 rfl Try.underlying60 info5 (by decide) _ [] l _ _ _ rfl rfl (own_lit W1 W1.heap.size 5 .u8 [] (Nat.le_refl _) (by simp)) (ReadsInt.below HRI.out (below_alloc HN1.out.below _)) (below_alloc (Below.refl _ _) _) (by simp) (by have := HL.out; simp; omega) ?_; intro v1 W2 ho2 hb2 hg2 hat2; have HO2 := Aside0.mk ho2; have HB2 := Aside0.mk hb2; clear hg2 hat2 ho2 hb2)
    | ((with_reducible refine gate_builtin (b := .append) (xs := #[.tmp 13, .tmp 14]) rfl ?_); at_builtin; refine print_append_num (w0 := W1) W1.heap.size rfl (.tmp 13) (.tmp 14) 60 5 .u8 1 rfl Try.underlying60 info5 (by decide) v1 ([] ++ l) 128 rfl rfl HO2.out HB2.out HB2.out.size (by have := HL.out; simp; omega) ?_; intro v2 W3 ho3 hb3 hg3 hat3; have HO3 := Aside0.mk ho3; have HB3 := Aside0.mk hb3; clear hg3 hat3 ho3 hb3))
  obtain ⟨g2, c2, rfl, hg2, hl2⟩ := HO3.out.form (by simp)
  have HO4 : Aside0 (W3.ownsRow W1.heap.size 5 1 (.slice (some ⟨g2, 0, none⟩) (l.length + 1 + 0) c2) (l.length + 1 + 0) (nums .u8 (l ++ [128] ++ List.replicate 0 0))) := ⟨by
    have h := HO3.out
    simp only [List.nil_append, List.length_append, List.length_cons, List.length_nil, List.replicate_zero, List.append_nil] at h ⊢
    exact h⟩
  obtain ⟨n2, hn2⟩ : ∃ n, n = ([] ++ l ++ [(128 : Int)]).length := ⟨_, rfl⟩
  have HN2 : Aside0 (n2 = l.length + 1 + 0) := ⟨by rw [hn2]; simp⟩
  rw [← hn2]
  clear hn2 HO3 hg2 hl2 HO2 HB2
  go_loopw [4] (fun v4 w' => ∃ j g c : Nat, j ≤ padz l.length ∧ v4 = .slice (some ⟨g, 0, none⟩) (l.length + 1 + j) c ∧ Aside0 (w'.ownsRow W1.heap.size 5 1 (.slice (some ⟨g, 0, none⟩) (l.length + 1 + j) c) (l.length + 1 + j) (nums .u8 (l ++ [128] ++ List.replicate j 0))) ∧ Aside0 (Below W1.heap.size W1 w')) (fun v4 _ => (l.length + 1 + padz l.length) - lenV v4)
  case atStart => exact ⟨0, g2, c2, by omega, by rw [HN2.out], HO4, HB3⟩
  case round =>
    clear HO4 HB3
    obtain ⟨j, g, c, hj, rfl, HO, HB⟩ := hrel
    obtain ⟨xs, hxs⟩ : ∃ xs, xs = l ++ [128] ++ List.replicate j 0 := ⟨_, rfl⟩
    rw [← hxs] at HO
    have HXL : Aside0 (xs.length = l.length + 1 + j) := ⟨by rw [hxs]; simp only [List.length_append, List.length_cons, List.length_nil, List.length_replicate]⟩
    have HXE := Aside0.mk hxs
    clear hxs
    have HJ := Aside0.mk hj
    clear hj
    by_cases hlt : j < padz l.length
    · have HLT := Aside0.mk hlt
      have hc : (((l.length : Int) + 1 + (j : Int)) % 64 != 56) = true := by
        rw [bne_iff_ne]
        unfold padz at hlt
        omega
      clear hlt
      go_wp2_with ((with_reducible refine gate_builtin (b := .append) (xs := #[.tmp 20, .tmp 21]) rfl ?_); at_builtin; refine print_append_num (w0 := W1) W1.heap.size rfl (.tmp 20) (.tmp 21) 60 5 .u8 1 rfl Try.underlying60 info5 (by decide) _ xs 0 rfl rfl (by rw [HXL.out]; exact HO.out) HB.out HB.out.size (by have := HL.out; have := HXL.out; have := HJ.out; unfold padz at this; omega) ?_; intro v2 W4 ho4 hb4 hg4 hat4; obtain ⟨g4, c4, rfl, hg5, hl5⟩ := ho4.form (by simp); have HO4 := Aside0.mk ho4; have HB4 := Aside0.mk hb4; clear hg4 hat4 ho4 hb4 hg5 hl5)
      go_roundw
      case rel =>
        have hl4 : (xs ++ [(0 : Int)]).length = l.length + 1 + (j + 1) := by rw [List.length_append, HXL.out]; rfl
        have h4 := HO4.out
        rw [hl4] at h4
        refine ⟨j + 1, g4, c4, HLT.out, by first | (rw [hl4]; done) | (simp [HXL.out]; omega), ⟨?_⟩, HB4⟩
        rw [List.replicate_succ', ← List.append_assoc, ← HXE.out]
        exact h4
      case measure => have := HLT.out; have := HXL.out; simp [lenV]; omega
    · have he : j = padz l.length := by have := HJ.out; omega
      have hc : ((xs.length : Int) % 64 != 56) = false := by
        rw [bne_eq_false_iff_eq, HXL.out, he]
        unfold padz
        omega
      have HQL : Aside0 (xs.length = l.length + 1 + padz l.length) := ⟨by rw [← he]; exact HXL.out⟩
      have HQE : Aside0 (xs = l ++ [128] ++ List.replicate (padz l.length) 0) := ⟨by rw [← he]; exact HXE.out⟩
      have HO0 : Aside0 (wr.ownsRow W1.heap.size 5 1 (.slice (some ⟨g, 0, none⟩) xs.length c) xs.length (nums .u8 xs)) := ⟨by rw [HXL.out]; exact HO.out⟩
      rw [← HXL.out]
      clear he hlt HO HXL HXE HJ
      go_wp2_with fail
      have HM0 : Aside0 (wr.ownsRow W1.heap.size 5 1 (.slice (some ⟨g, 0, none⟩) (xs.length + 0) c) (xs.length + 0) (nums .u8 (xs ++ (BE (8 * (l.length : Int)) 8).take 0))) := ⟨by simpa using HO0.out⟩
      obtain ⟨q, hq⟩ : ∃ q, q = xs.length := ⟨_, rfl⟩
      rw [← hq] at HM0 ⊢
      have HQ := Aside0.mk hq
      clear hq HO0 hc
      obtain ⟨D, hD⟩ : ∃ D, D = BE (8 * (l.length : Int)) 8 := ⟨_, rfl⟩
      rw [← hD] at HM0
      have HDE := Aside0.mk hD
      clear hD
      have HB0 := HB
      clear HB
      go_loopw [4, 5] (fun v4 v5 w' => ∃ m g c : Nat, m ≤ 8 ∧ v4 = .slice (some ⟨g, 0, none⟩) (q + m) c ∧ v5 = .int .i64 (7 - (m : Int)) ∧ Aside0 (w'.ownsRow W1.heap.size 5 1 (.slice (some ⟨g, 0, none⟩) (q + m) c) (q + m) (nums .u8 (xs ++ D.take m))) ∧ Aside0 (Below W1.heap.size W1 w')) (fun _ v5 _ => (intOf v5 + 1).toNat)
      case atStart => exact ⟨0, g, c, by omega, rfl, rfl, HM0, HB0⟩
      case round =>
        clear HM0 HB0
        obtain ⟨m, g3, c3, hm, rfl, rfl, HO, HB⟩ := hrel
        obtain ⟨i, hi⟩ : ∃ i : Int, i = 7 - (m : Int) := ⟨_, rfl⟩
        rw [← hi]
        have HI := Aside0.mk (And.intro hi hm)
        clear hi hm
        by_cases h0 : 0 ≤ i
        · skip
          have hi7 : i ≤ 7 := by have := HI.out; omega
          have e1 : IntKind.i64.wrap (8 * i) = 8 * i := IntWalk.i64_in _ (by omega)
          have e2 : IntKind.u64.wrap (8 * i) = 8 * i := by rw [IntKind.wrap_u64]; omega
          have e3 : IntKind.i64.wrap (8 * (l.length : Int)) = 8 * (l.length : Int) := IntWalk.i64_in _ (by have := HL.out; omega)
          have hln : (xs ++ D.take m).length = q + m := by rw [List.length_append, HQ.out, List.length_take, HDE.out, BE_length]; have := HI.out; omega
          have HLN := Aside0.mk hln
          clear hln
          go_wp2_with ((with_reducible refine gate_builtin (b := .append) (xs := #[.tmp 27, .tmp 36]) rfl ?_); at_builtin; refine print_append_num (w0 := W1) W1.heap.size rfl (.tmp 27) (.tmp 36) 60 5 .u8 1 rfl Try.underlying60 info5 (by decide) _ (xs ++ D.take m) (8 * (l.length : Int) / 2 ^ (8 * i).toNat % 256) rfl rfl (by rw [HLN.out]; exact HO.out) HB.out HB.out.size (by have h1 := HL.out; have h2 := HQL.out; have h3 := HLN.out; have h4 := HQ.out; have h5 := HI.out; unfold padz at h2; omega) ?_; intro v2 W4 ho4 hb4 hg4 hat4; obtain ⟨g4, c4, rfl, hg5, hl5⟩ := ho4.form (by rw [List.length_append]; exact Nat.succ_pos _); have HO4 := Aside0.mk ho4; have HB4 := Aside0.mk hb4; clear hg4 hat4 ho4 hb4 hg5 hl5)
          go_roundw
          case rel =>
            have hI := HI.out
            have hl4 : (xs ++ D.take m ++ [8 * (l.length : Int) / 2 ^ (8 * i).toNat % 256]).length = q + (m + 1) := by rw [List.length_append, HLN.out]; rfl
            have h4 := HO4.out
            rw [hl4] at h4
            have hd : 8 * (l.length : Int) / 2 ^ (8 * i).toNat % 256 = rd D (m : Int) := by rw [hI.1, HDE.out]; exact digit8 _ m (by omega)
            refine ⟨m + 1, g4, c4, by omega, by first | (rw [hl4]; done) | (rw [← hl4]; simp; done), by first | (congr 1; omega) | (go_num; omega), ⟨?_⟩, HB4⟩
            rw [hd, List.append_assoc, take_snoc_rd D m (by rw [HDE.out, BE_length]; omega)] at h4
            exact h4
          case measure => have := HI.out; simp [intOf]; omega
        · have hm8 : m = 8 := by have := HI.out; omega
          have HB0 := HB
          obtain ⟨al, hal⟩ : ∃ al, al = padl l := ⟨_, rfl⟩
          have HO0 : Aside0 (wr.ownsRow W1.heap.size 5 1 (.slice (some ⟨g3, 0, none⟩) (q + m) c3) (q + m) (nums .u8 al)) := ⟨by
            have h1 : al = xs ++ D.take m := by
              rw [hal, HQE.out, HDE.out, hm8, List.take_of_length_le (by rw [BE_length]; omega)]
              rfl
            rw [h1]
            exact HO.out⟩
          have HAL : Aside0 (al.length = q + m) := ⟨by rw [hal, padl_length, hm8, HQ.out, HQL.out]; omega⟩
          have HAE := Aside0.mk hal
          rw [← HAL.out]
          have h0' : i < 0 := by omega
          clear hal h0 hm8 HO HB
          go_wp2_with (go_at_call 51; refine (consts_walk _).mono ?_; rintro e W5 ⟨bk, rfl, hn5⟩; have HN5 := Aside0.mk hn5; clear hn5)
          have HO1 : Aside0 (wr.ownsRow W1.heap.size 5 1 (.slice (some ⟨g3, 0, none⟩) al.length c3) al.length (nums .u8 al)) := ⟨by rw [HAL.out]; exact HO0.out⟩
          have hcap := own_cap HO1.out
          have hbh : bh < W1.heap.size := by have := HN1.out.size; omega
          have hbw : w.heap.size ≤ bh := by have := HN1.out.at_; omega
          have HF : Aside0 (g3 ≠ bh ∧ bk ≠ bh ∧ w.heap.size ≤ bh ∧ al.length ≤ c3) := ⟨by
            have h1 := HN5.out.at_
            have h2 := HB0.out.size
            omega⟩
          have HA5 : Aside0 (Arr W5 bh (hashedL al 0)) := ⟨by
            have h1 : Arr W5 bh H := (HN1.out.arr.below HB0.out hbh).below HN5.out.below (by have := HB0.out.size; omega)
            rw [HH.out] at h1
            exact h1⟩
          have HK5 : Aside0 (Row W5 bk K0) := ⟨HN5.out.arr.row⟩
          have HR5 : Aside0 (ReadsInt W5 .u8 (some ⟨g3, 0, none⟩) al.length al) := ⟨(reads_of_own HO1.out).below HN5.out.below⟩
          have HW5 : Aside0 (Below w.heap.size w W5) := ⟨(HN1.out.below.trans (HB0.out.mono (by omega))).trans (HN5.out.below.mono (by have := HB0.out.size; omega))⟩
          have HMD : Aside0 (al.length % 64 = 0 ∧ al.length ≤ 2199023255552) := ⟨by
            rw [HAE.out]
            refine ⟨padl_mod l, ?_⟩
            rw [padl_length]
            have := HL.out
            unfold padz
            omega⟩
          clear hcap hbh hbw HO0 HO1 HN5 HB0 HAL h0'
          go_loopw [7] (fun v7 w' => ∃ j : Nat, 64 * j ≤ al.length ∧ v7 = .int .i64 (64 * (j : Int)) ∧ Aside0 (Arr w' bh (hashedL al j)) ∧ Aside0 (Row w' bk K0) ∧ Aside0 (ReadsInt w' .u8 (some ⟨g3, 0, none⟩) al.length al) ∧ Aside0 (Below w.heap.size w w')) (fun v7 _ => al.length - (intOf v7).toNat)
          case atStart => exact ⟨0, by omega, by go_num, HA5, HK5, HR5, HW5⟩
          case round =>
            clear HA5 HK5 HR5 HW5
            obtain ⟨j, hj, rfl, HA, HKR, HRD, HB⟩ := hrel
            by_cases hlt : 64 * j < al.length
            · have h64 : 64 * j + 64 ≤ al.length := by have := HMD.out.1; omega
              obtain ⟨ia, hia⟩ : ∃ x : Int, x = 64 * (j : Int) := ⟨_, rfl⟩
              obtain ⟨ib, hib⟩ : ∃ x : Int, x = ia + 64 := ⟨_, rfl⟩
              have e1 : IntKind.i64.wrap (ia + 64) = ib := by rw [hib]; exact IntWalk.i64_in _ (by have := HMD.out.2; omega)
              have c1 : ia < (al.length : Int) := by omega
              obtain ⟨i0, hi0, hz0⟩ := Option.map_eq_some_iff.1 info5
              simp only [Prod.mk.injEq] at hz0
              obtain ⟨A', hsl, hrd, hcp⟩ := print_mid_int (P := Try.prog) (k := .u8) 60 5 Try.underlying60 hi0 hz0.2.1 (some ⟨g3, 0, none⟩) c3 al ia ib (by omega) (by omega) (by omega) HF.out.2.2.2
              obtain ⟨blk, hblk⟩ : ∃ b, b = (al.take ib.toNat).drop ia.toNat := ⟨_, rfl⟩
              rw [← hblk] at hsl hrd hcp
              have hbl : blk.length = 64 := by rw [hblk, List.length_drop, List.length_take]; omega
              rw [hbl] at hsl hrd
              have hbe : hashedL al (j + 1) = block (hashedL al j) K0 blk := by
                rw [hashedL_succ, hstepL, hblk, show ib.toNat = 64 * j + 64 by omega, show ia.toNat = 64 * j by omega]
              have hh8 := hashedL_length al j
              have hhr := hashedL_range al j
              rw [← hia]
              obtain ⟨hv, hhv⟩ : ∃ h, hashedL al j = h := ⟨_, rfl⟩
              rw [hhv] at HA hbe hh8 hhr
              obtain ⟨B, hB⟩ : ∃ B, block hv K0 blk = B := ⟨_, rfl⟩
              rw [hB] at hbe
              have HC : Aside0 (∀ cb, Calls Try.prog 52 #[.slice (some ⟨bh, 0, none⟩) 8 8, .slice A' 64 cb, .slice (some ⟨bk, 0, none⟩) 64 64] wr fun e w' => e = .returned (.tuple #[]) ∧ Arr w' bh B ∧ Kept wr w' (fun k => k = bh) ∧ Below bh wr w') := ⟨fun cb => by
                rw [← hB]
                exact block_walk bh bk 8 64 cb A' hv K0 blk wr hh8 K0_length hbl hhr HA.out HKR.out (Kd.C_of_reads (d := (0 : Int)) (hrd wr HRD.out)) HF.out.2.1⟩
              have HBE := Aside0.mk hbe
              have HJ := Aside0.mk (And.intro hia (And.intro hib h64))
              clear hB hhv hbe hh8 hhr hbl hblk hrd hia hib h64 hlt hj hi0 hz0 hcp
              go_wp2_with (go_at_call 52; refine (HC.out _).mono ?_; rintro e W6 ⟨rfl, ha6, hk6, hb6⟩; have HA6 := Aside0.mk ha6; have HK6 := Aside0.mk hk6; have HB6 := Aside0.mk hb6; clear ha6 hk6 hb6)
              go_roundw
              case rel =>
                have hJ := HJ.out
                refine ⟨j + 1, by omega, by first | (congr 1; omega) | (go_num; omega), ⟨by rw [HBE.out]; exact HA6.out⟩, ⟨HKR.out.kept HK6.out HF.out.2.1⟩, ⟨reads_kept HRD.out HK6.out HF.out.1⟩, ⟨HB.out.trans (HB6.out.mono HF.out.2.2.1)⟩⟩
              case measure => have := HJ.out; simp [intOf]; omega
            · have hje : al.length / 64 = j := by omega
              have hjl : al.length ≤ 64 * j := by omega
              have hjl' : (al.length : Int) ≤ 64 * (j : Int) := by omega
              obtain ⟨hv, hhv⟩ : ∃ h, hashedL al j = h := ⟨_, rfl⟩
              have HVL : Aside0 (hv.length = 8) := ⟨by rw [← hhv]; exact hashedL_length _ _⟩
              have HVR : Aside0 (R32 hv) := ⟨by rw [← hhv]; exact hashedL_range _ _⟩
              have HVA : Aside0 (Arr wr bh hv) := ⟨by rw [← hhv]; exact HA.out⟩
              have HSE : Aside0 (shaL l = strOfNums (outL hv 8)) := ⟨by rw [← hhv, ← hje, HAE.out]; rfl⟩
              clear hje hhv HA HKR HRD hj hlt hjl
              go_wp2_with fail
              have HO0 : Aside0 ((wr.alloc (.cells #[] 5)).ownsRow wr.heap.size 5 1 (.slice (some ⟨wr.heap.size, 0, none⟩) 0 0) (4 * 0) (nums .u8 (outL hv 0))) := ⟨own_lit wr wr.heap.size 5 .u8 [] (Nat.le_refl _) (by simp)⟩
              have HB0 : Aside0 (Below w.heap.size w (wr.alloc (.cells #[] 5))) := ⟨HB.out.alloc HB.out.size _⟩
              have HBL : Aside0 (bh < wr.heap.size) := ⟨HVA.out.lt (by rw [HVL.out]; omega)⟩
              have HA0 : Aside0 (Arr (wr.alloc (.cells #[] 5)) bh hv) := ⟨HVA.out.below (below_alloc (Below.refl _ _) _) HBL.out⟩
              have HNB : Aside0 (wr.heap.size ≤ (wr.alloc (.cells #[] 5)).heap.size) := ⟨by simp⟩
              generalize hv0 : Value.slice (some ⟨wr.heap.size, 0, none⟩) 0 0 = v0 at HO0
              clear hv0 HVA HB
              generalize wr.alloc (.cells #[] 5) = w0 at HO0 HB0 HA0 HNB
              generalize wr.heap.size = nb at HO0 HBL HNB
              go_loopw [9, 8] (fun v9 v8 w' => ∃ i : Nat, i ≤ 8 ∧ v9 = .int .i64 i ∧ Aside0 (w'.ownsRow nb 5 1 v8 (4 * i) (nums .u8 (outL hv i))) ∧ Aside0 (Below w.heap.size w w') ∧ Aside0 (Arr w' bh hv) ∧ Aside0 (nb ≤ w'.heap.size)) (fun v9 _ _ => 8 - (intOf v9).toNat)
              case atStart => exact ⟨0, by omega, rfl, HO0, HB0, HA0, HNB⟩
              case round =>
                clear HO0 HB0 HA0 HNB
                obtain ⟨m, hm, rfl, HO, HB, HA, HNB⟩ := hrel
                by_cases hlt : m < 8
                · have HI := Aside0.mk hlt
                  have h8 : (m : Int) < 8 := by omega
                  clear hlt hm
                  have cx := HA.out.cell m (by rw [HVL.out]; exact HI.out)
                  have rx := HVR.out.rd (m : Int)
                  generalize hx : rd hv (m : Int) = x at cx rx
                  have HX := Aside0.mk hx
                  clear hx
                  go_wp2_with fail
                  have HD : Aside0 (wr.drew.ownsRow nb 5 1 u8 (4 * m) (nums .u8 (outL hv m)) ∧ Below w.heap.size w wr.drew ∧ Arr wr.drew bh hv ∧ nb ≤ wr.drew.heap.size ∧ wr.drew.cell? ⟨bh, m, none⟩ = some (.int .u32 x)) := ⟨pw_own_below HO.out (below_drew (Below.refl _ _)), below_drew HB.out, HA.out.drew, HNB.out, by simpa using cx⟩
                  refine start_ (S := fun w' => w'.cell? ⟨bh, m, none⟩ = some (.int .u32 x)) (ds := []) #[false, false, false, false, false, false, false, false, false, false, false, false, false, false, false, false, false, false, false, false, false, false, false, false, false, false, false] (by kernel_rfl) rfl rfl HD.out.2.2.2.2 ?_
                  intro hS
                  clear cx HO HB HA HNB
                  generalize hw7 : World.drew wr = w7 at HD hS ⊢
                  clear hw7
                  refine pure_ (i := 0) (N := some 58) (v := ?_) (a' := ?_) #[true, false, false, false, false, false, false, false, false, false, false, false, false, false, false, false, false, false, false, false, false, false, false, false, false, false, false] rfl rfl (by kernel_rfl) (fun _ _ _ h => h) (Or.inl ⟨by rfl, ?_⟩) ?_ ?_
                  rotate_left
                  · intro w'
                    go_simp
                    with_reducible rfl
                  rotate_left
                  · simp only [Act.put, List.setIfInBounds_toArray, List.set_cons_zero, List.set_cons_succ]
                    rfl
                  refine pure_ (i := 1) (N := some 59) (v := ?_) (a' := ?_) #[true, true, false, false, false, false, false, false, false, false, false, false, false, false, false, false, false, false, false, false, false, false, false, false, false, false, false] rfl rfl (by kernel_rfl) (fun _ _ _ h => h) (Or.inl ⟨by rfl, ?_⟩) ?_ ?_
                  rotate_left
                  · intro w'
                    go_simp
                    with_reducible rfl
                  rotate_left
                  · simp only [Act.put, List.setIfInBounds_toArray, List.set_cons_zero, List.set_cons_succ]
                    rfl
                  refine pure_ (i := 2) (N := some 60) (v := ?_) (a' := ?_) #[true, true, true, false, false, false, false, false, false, false, false, false, false, false, false, false, false, false, false, false, false, false, false, false, false, false, false] rfl rfl (by kernel_rfl) (fun _ _ _ h => h) (Or.inl ⟨by rfl, ?_⟩) ?_ ?_
                  rotate_left
                  · intro w'
                    go_simp
                    with_reducible rfl
                  rotate_left
                  · simp only [Act.put, List.setIfInBounds_toArray, List.set_cons_zero, List.set_cons_succ]
                    rfl
                  refine pure_ (i := 3) (N := some 61) (v := ?_) (a' := ?_) #[true, true, true, true, false, false, false, false, false, false, false, false, false, false, false, false, false, false, false, false, false, false, false, false, false, false, false] rfl rfl (by kernel_rfl) (fun _ _ _ h => h) (Or.inl ⟨by rfl, ?_⟩) ?_ ?_
                  rotate_left
                  · intro w'
                    go_simp
                    with_reducible rfl
                  rotate_left
                  · simp only [Act.put, List.setIfInBounds_toArray, List.set_cons_zero, List.set_cons_succ]
                    rfl
                  refine take_ (i := 4) (N := some 62) (v := ?_) (a' := ?_) #[true, true, true, true, true, false, false, false, false, false, false, false, false, false, false, false, false, false, false, false, false, false, false, false, false, false, false] rfl rfl (by kernel_rfl) (fun _ _ _ h => h) (Or.inl ⟨by rfl, ?_⟩) hS ?_ ?_
                  rotate_left
                  · intro w' hw'
                    go_simp
                    with_reducible rfl
                  rotate_left
                  · simp only [Act.put, List.setIfInBounds_toArray, List.set_cons_zero, List.set_cons_succ]
                    rfl
                  refine pure_ (i := 5) (N := some 63) (v := ?_) (a' := ?_) #[true, true, true, true, true, true, false, false, false, false, false, false, false, false, false, false, false, false, false, false, false, false, false, false, false, false, false] rfl rfl (by kernel_rfl) (fun _ _ _ h => h) (Or.inl ⟨by rfl, ?_⟩) ?_ ?_
                  rotate_left
                  · intro w'
                    go_simp
                    with_reducible rfl
                  rotate_left
                  · simp only [Act.put, List.setIfInBounds_toArray, List.set_cons_zero, List.set_cons_succ]
                    rfl
                  refine pure_ (i := 6) (N := some 64) (v := ?_) (a' := ?_) #[true, true, true, true, true, true, true, false, false, false, false, false, false, false, false, false, false, false, false, false, false, false, false, false, false, false, false] rfl rfl (by kernel_rfl) (fun _ _ _ h => h) (Or.inl ⟨by rfl, ?_⟩) ?_ ?_
                  rotate_left
                  · intro w'
                    go_simp
                    with_reducible rfl
                  rotate_left
                  · simp only [Act.put, List.setIfInBounds_toArray, List.set_cons_zero, List.set_cons_succ]
                    rfl
                  refine pure_ (i := 7) (N := some 65) (v := ?_) (a' := ?_) #[true, true, true, true, true, true, true, true, false, false, false, false, false, false, false, false, false, false, false, false, false, false, false, false, false, false, false] rfl rfl (by kernel_rfl) (fun _ _ _ h => h) (Or.inl ⟨by rfl, ?_⟩) ?_ ?_
                  rotate_left
                  · intro w'
                    go_simp
                    with_reducible rfl
                  rotate_left
                  · simp only [Act.put, List.setIfInBounds_toArray, List.set_cons_zero, List.set_cons_succ]
                    rfl
                  refine pure_ (i := 8) (N := some 66) (v := ?_) (a' := ?_) #[true, true, true, true, true, true, true, true, true, false, false, false, false, false, false, false, false, false, false, false, false, false, false, false, false, false, false] rfl rfl (by kernel_rfl) (fun _ _ _ h => h) (Or.inl ⟨by rfl, ?_⟩) ?_ ?_
                  rotate_left
                  · intro w'
                    go_simp
                    with_reducible rfl
                  rotate_left
                  · simp only [Act.put, List.setIfInBounds_toArray, List.set_cons_zero, List.set_cons_succ]
                    rfl
                  refine pure_ (i := 9) (N := some 67) (v := ?_) (a' := ?_) #[true, true, true, true, true, true, true, true, true, true, false, false, false, false, false, false, false, false, false, false, false, false, false, false, false, false, false] rfl rfl (by kernel_rfl) (fun _ _ _ h => h) (Or.inl ⟨by rfl, ?_⟩) ?_ ?_
                  rotate_left
                  · intro w'
                    go_simp
                    with_reducible rfl
                  rotate_left
                  · simp only [Act.put, List.setIfInBounds_toArray, List.set_cons_zero, List.set_cons_succ]
                    rfl
                  refine take_ (i := 10) (N := some 68) (v := ?_) (a' := ?_) #[true, true, true, true, true, true, true, true, true, true, true, false, false, false, false, false, false, false, false, false, false, false, false, false, false, false, false] rfl rfl (by kernel_rfl) (fun _ _ _ h => h) (Or.inl ⟨by rfl, ?_⟩) hS ?_ ?_
                  rotate_left
                  · intro w' hw'
                    go_simp
                    with_reducible rfl
                  rotate_left
                  · simp only [Act.put, List.setIfInBounds_toArray, List.set_cons_zero, List.set_cons_succ]
                    rfl
                  refine pure_ (i := 11) (N := some 69) (v := ?_) (a' := ?_) #[true, true, true, true, true, true, true, true, true, true, true, true, false, false, false, false, false, false, false, false, false, false, false, false, false, false, false] rfl rfl (by kernel_rfl) (fun _ _ _ h => h) (Or.inl ⟨by rfl, ?_⟩) ?_ ?_
                  rotate_left
                  · intro w'
                    go_simp
                    with_reducible rfl
                  rotate_left
                  · simp only [Act.put, List.setIfInBounds_toArray, List.set_cons_zero, List.set_cons_succ]
                    rfl
                  refine pure_ (i := 12) (N := some 70) (v := ?_) (a' := ?_) #[true, true, true, true, true, true, true, true, true, true, true, true, true, false, false, false, false, false, false, false, false, false, false, false, false, false, false] rfl rfl (by kernel_rfl) (fun _ _ _ h => h) (Or.inl ⟨by rfl, ?_⟩) ?_ ?_
                  rotate_left
                  · intro w'
                    go_simp
                    with_reducible rfl
                  rotate_left
                  · simp only [Act.put, List.setIfInBounds_toArray, List.set_cons_zero, List.set_cons_succ]
                    rfl
                  refine pure_ (i := 13) (N := some 71) (v := ?_) (a' := ?_) #[true, true, true, true, true, true, true, true, true, true, true, true, true, true, false, false, false, false, false, false, false, false, false, false, false, false, false] rfl rfl (by kernel_rfl) (fun _ _ _ h => h) (Or.inl ⟨by rfl, ?_⟩) ?_ ?_
                  rotate_left
                  · intro w'
                    go_simp
                    with_reducible rfl
                  rotate_left
                  · simp only [Act.put, List.setIfInBounds_toArray, List.set_cons_zero, List.set_cons_succ]
                    rfl
                  refine pure_ (i := 14) (N := some 72) (v := ?_) (a' := ?_) #[true, true, true, true, true, true, true, true, true, true, true, true, true, true, true, false, false, false, false, false, false, false, false, false, false, false, false] rfl rfl (by kernel_rfl) (fun _ _ _ h => h) (Or.inl ⟨by rfl, ?_⟩) ?_ ?_
                  rotate_left
                  · intro w'
                    go_simp
                    with_reducible rfl
                  rotate_left
                  · simp only [Act.put, List.setIfInBounds_toArray, List.set_cons_zero, List.set_cons_succ]
                    rfl
                  refine pure_ (i := 15) (N := some 73) (v := ?_) (a' := ?_) #[true, true, true, true, true, true, true, true, true, true, true, true, true, true, true, true, false, false, false, false, false, false, false, false, false, false, false] rfl rfl (by kernel_rfl) (fun _ _ _ h => h) (Or.inl ⟨by rfl, ?_⟩) ?_ ?_
                  rotate_left
                  · intro w'
                    go_simp
                    with_reducible rfl
                  rotate_left
                  · simp only [Act.put, List.setIfInBounds_toArray, List.set_cons_zero, List.set_cons_succ]
                    rfl
                  refine take_ (i := 16) (N := some 74) (v := ?_) (a' := ?_) #[true, true, true, true, true, true, true, true, true, true, true, true, true, true, true, true, true, false, false, false, false, false, false, false, false, false, false] rfl rfl (by kernel_rfl) (fun _ _ _ h => h) (Or.inl ⟨by rfl, ?_⟩) hS ?_ ?_
                  rotate_left
                  · intro w' hw'
                    go_simp
                    with_reducible rfl
                  rotate_left
                  · simp only [Act.put, List.setIfInBounds_toArray, List.set_cons_zero, List.set_cons_succ]
                    rfl
                  refine pure_ (i := 17) (N := some 75) (v := ?_) (a' := ?_) #[true, true, true, true, true, true, true, true, true, true, true, true, true, true, true, true, true, true, false, false, false, false, false, false, false, false, false] rfl rfl (by kernel_rfl) (fun _ _ _ h => h) (Or.inl ⟨by rfl, ?_⟩) ?_ ?_
                  rotate_left
                  · intro w'
                    go_simp
                    with_reducible rfl
                  rotate_left
                  · simp only [Act.put, List.setIfInBounds_toArray, List.set_cons_zero, List.set_cons_succ]
                    rfl
                  refine pure_ (i := 18) (N := some 76) (v := ?_) (a' := ?_) #[true, true, true, true, true, true, true, true, true, true, true, true, true, true, true, true, true, true, true, false, false, false, false, false, false, false, false] rfl rfl (by kernel_rfl) (fun _ _ _ h => h) (Or.inl ⟨by rfl, ?_⟩) ?_ ?_
                  rotate_left
                  · intro w'
                    go_simp
                    with_reducible rfl
                  rotate_left
                  · simp only [Act.put, List.setIfInBounds_toArray, List.set_cons_zero, List.set_cons_succ]
                    rfl
                  refine pure_ (i := 19) (N := some 77) (v := ?_) (a' := ?_) #[true, true, true, true, true, true, true, true, true, true, true, true, true, true, true, true, true, true, true, true, false, false, false, false, false, false, false] rfl rfl (by kernel_rfl) (fun _ _ _ h => h) (Or.inl ⟨by rfl, ?_⟩) ?_ ?_
                  rotate_left
                  · intro w'
                    go_simp
                    with_reducible rfl
                  rotate_left
                  · simp only [Act.put, List.setIfInBounds_toArray, List.set_cons_zero, List.set_cons_succ]
                    rfl
                  refine pure_ (i := 20) (N := some 78) (v := ?_) (a' := ?_) #[true, true, true, true, true, true, true, true, true, true, true, true, true, true, true, true, true, true, true, true, true, false, false, false, false, false, false] rfl rfl (by kernel_rfl) (fun _ _ _ h => h) (Or.inl ⟨by rfl, ?_⟩) ?_ ?_
                  rotate_left
                  · intro w'
                    go_simp
                    with_reducible rfl
                  rotate_left
                  · simp only [Act.put, List.setIfInBounds_toArray, List.set_cons_zero, List.set_cons_succ]
                    rfl
                  refine pure_ (i := 21) (N := some 79) (v := ?_) (a' := ?_) #[true, true, true, true, true, true, true, true, true, true, true, true, true, true, true, true, true, true, true, true, true, true, false, false, false, false, false] rfl rfl (by kernel_rfl) (fun _ _ _ h => h) (Or.inl ⟨by rfl, ?_⟩) ?_ ?_
                  rotate_left
                  · intro w'
                    go_simp
                    with_reducible rfl
                  rotate_left
                  · simp only [Act.put, List.setIfInBounds_toArray, List.set_cons_zero, List.set_cons_succ]
                    rfl
                  refine take_ (i := 22) (N := some 80) (v := ?_) (a' := ?_) #[true, true, true, true, true, true, true, true, true, true, true, true, true, true, true, true, true, true, true, true, true, true, true, false, false, false, false] rfl rfl (by kernel_rfl) (fun _ _ _ h => h) (Or.inl ⟨by rfl, ?_⟩) hS ?_ ?_
                  rotate_left
                  · intro w' hw'
                    go_simp
                    with_reducible rfl
                  rotate_left
                  · simp only [Act.put, List.setIfInBounds_toArray, List.set_cons_zero, List.set_cons_succ]
                    rfl
                  refine pure_ (i := 23) (N := some 81) (v := ?_) (a' := ?_) #[true, true, true, true, true, true, true, true, true, true, true, true, true, true, true, true, true, true, true, true, true, true, true, true, false, false, false] rfl rfl (by kernel_rfl) (fun _ _ _ h => h) (Or.inl ⟨by rfl, ?_⟩) ?_ ?_
                  rotate_left
                  · intro w'
                    go_simp
                    with_reducible rfl
                  rotate_left
                  · simp only [Act.put, List.setIfInBounds_toArray, List.set_cons_zero, List.set_cons_succ]
                    rfl
                  refine one_ (i := 24) (N := some 82) #[true, true, true, true, true, true, true, true, true, true, true, true, true, true, true, true, true, true, true, true, true, true, true, true, true, false, false] rfl rfl (by kernel_rfl) (by decide) (fun K hK => ?_)
                  refine event_step (by rfl) (w1 := w7.alloc (.cells (nums .u8 [IntKind.u8.wrap (x / 16777216), IntKind.u8.wrap (x / 65536), IntKind.u8.wrap (x / 256), IntKind.u8.wrap x]).toArray 5)) (v := .slice (some ⟨w7.heap.size, 0, none⟩) 4 4) (by first | (go_simp; done) | (go_simp; rfl)) ?_
                  have hrx := reads_of_own (own_lit w7 0 5 .u8 [IntKind.u8.wrap (x / 16777216), IntKind.u8.wrap (x / 65536), IntKind.u8.wrap (x / 256), IntKind.u8.wrap x] (Nat.zero_le _) (by simp))
                  have HE : Aside0 (Kd.C (Kd.int .u8) (w7.alloc (.cells (nums .u8 [IntKind.u8.wrap (x / 16777216), IntKind.u8.wrap (x / 65536), IntKind.u8.wrap (x / 256), IntKind.u8.wrap x]).toArray 5)) (some ⟨w7.heap.size, 0, none⟩) 4 [IntKind.u8.wrap (x / 16777216), IntKind.u8.wrap (x / 65536), IntKind.u8.wrap (x / 256), IntKind.u8.wrap x] ∧ Kd.R (Kd.int .u8) 5 (w7.alloc (.cells (nums .u8 [IntKind.u8.wrap (x / 16777216), IntKind.u8.wrap (x / 65536), IntKind.u8.wrap (x / 256), IntKind.u8.wrap x]).toArray 5)) nb (fun _ => True) u8 (outL hv m) ∧ Below nb w7 (w7.alloc (.cells (nums .u8 [IntKind.u8.wrap (x / 16777216), IntKind.u8.wrap (x / 65536), IntKind.u8.wrap (x / 256), IntKind.u8.wrap x]).toArray 5)) ∧ w7.heap.size ≤ (w7.alloc (.cells (nums .u8 [IntKind.u8.wrap (x / 16777216), IntKind.u8.wrap (x / 65536), IntKind.u8.wrap (x / 256), IntKind.u8.wrap x]).toArray 5)).heap.size ∧ (w7.alloc (.cells (nums .u8 [IntKind.u8.wrap (x / 16777216), IntKind.u8.wrap (x / 65536), IntKind.u8.wrap (x / 256), IntKind.u8.wrap x]).toArray 5)).cell? ⟨bh, m, none⟩ = some (.int .u32 x)) := ⟨Kd.C_of_reads (d := (0 : Int)) hrx, Kd.R_of_own (by rw [outL_length]; exact pw_own_below HD.out.1 (below_alloc (Below.refl _ _) _)) (fun _ _ => trivial), below_alloc' (Below.refl _ _) HD.out.2.2.2.1 _, by simp, ((below_alloc (Below.refl w7.heap.size w7) _).cell (p := ⟨bh, m, none⟩) (World.block_lt_of_cell? w7 _ hS)).trans hS⟩
                  clear hrx hS
                  generalize w7.alloc (.cells (nums .u8 [IntKind.u8.wrap (x / 16777216), IntKind.u8.wrap (x / 65536), IntKind.u8.wrap (x / 256), IntKind.u8.wrap x]).toArray 5) = w8 at HE ⊢
                  refine hK.out _ _ HE.out.2.2.2.2 (fun hS => ?_)
                  clear hK K
                  refine norm_ (a' := ?_) ?_ ?_
                  rotate_left
                  · show Act.put _ (some 82) _ = _
                    simp only [Act.put, List.setIfInBounds_toArray, List.set_cons_zero, List.set_cons_succ]
                    rfl
                  refine one_ (i := 25) (N := some 83) #[true, true, true, true, true, true, true, true, true, true, true, true, true, true, true, true, true, true, true, true, true, true, true, true, true, true, false] rfl rfl (by kernel_rfl) (by decide) (fun K hK => ?_)
                  refine Kd.R_append_rows_step (Kd.int .u8) (w0 := w7) nb (by rfl) (.tmp 58) (.tmp 82) 60 5 (.int .u8 0) 1 rfl Try.underlying60 info5 rfl (by decide) (by omega) u8 (outL hv m) [IntKind.u8.wrap (x / 16777216), IntKind.u8.wrap (x / 65536), IntKind.u8.wrap (x / 256), IntKind.u8.wrap x] _ _ _ (fun _ => True) (fun _ => False) rfl rfl HE.out.2.1 HE.out.1 (fun _ _ h => h) (fun _ h => h.elim) (fun _ _ => trivial) HE.out.2.2.1 (by have h1 := HD.out.2.2.2.1; have h2 := HE.out.2.2.2.1; omega) (by rw [outL_length]; have := HI.out; omega) ?_
                  intro v9 W9 ho9 hb9 hg9 hat9
                  have HO9 := Aside0.mk (Kd.own_of_R ho9)
                  have HB9 := Aside0.mk hb9
                  have hS9 : W9.cell? ⟨bh, m, none⟩ = some (.int .u32 x) := by have h1 := HA7c HD.out.2.2.1 HVL.out HX.out hb9 HBL.out HI.out; exact h1
                  clear ho9 hb9 hg9 hat9 hS
                  refine hK.out _ _ hS9 (fun hS => ?_)
                  clear hK K hS9
                  refine norm_ (a' := ?_) ?_ ?_
                  rotate_left
                  · show Act.put _ (some 83) _ = _
                    simp only [Act.put, List.setIfInBounds_toArray, List.set_cons_zero, List.set_cons_succ]
                    rfl
                  refine pure_ (i := 26) (N := some 8) (v := ?_) (a' := ?_) #[true, true, true, true, true, true, true, true, true, true, true, true, true, true, true, true, true, true, true, true, true, true, true, true, true, true, true] rfl rfl (by kernel_rfl) (fun _ _ _ h => h) (Or.inl ⟨by rfl, ?_⟩) ?_ ?_
                  rotate_left
                  · intro w'
                    go_simp
                    with_reducible rfl
                  rotate_left
                  · simp only [Act.put, List.setIfInBounds_toArray, List.set_cons_zero, List.set_cons_succ]
                    rfl
                  refine done_ (by kernel_rfl) ?_
                  go_wp2_with fail
                  skip
                  go_roundw
                  case rel =>
                    have hI := HI.out
                    have h9 := HO9.out
                    have he : outL hv m ++ [IntKind.u8.wrap (x / 16777216), IntKind.u8.wrap (x / 65536), IntKind.u8.wrap (x / 256), IntKind.u8.wrap x] = outL hv (m + 1) := by
                      rw [outL_succ, HX.out]
                      congr 1
                      show _ = [x / 256 / 256 / 256 % 256, x / 256 / 256 % 256, x / 256 % 256, x % 256]
                      simp only [IntKind.wrap_u8]
                      rw [show x / 16777216 = x / 256 / 256 / 256 by omega, show x / 65536 = x / 256 / 256 by omega]
                    rw [he, outL_length] at h9
                    refine ⟨m + 1, by omega, by go_num, ⟨h9⟩, ⟨HD.out.2.1.trans (HB9.out.mono ?_)⟩, ⟨HD.out.2.2.1.below HB9.out HBL.out⟩, ⟨Nat.le_trans HD.out.2.2.2.1 HB9.out.size⟩⟩
                    have := HBL.out
                    have := HF.out.2.2.1
                    omega
                  case measure => have := HI.out; simp [intOf]; omega
                · have hm8 : m = 8 := by omega
                  have h8 : 8 ≤ (m : Int) := by omega
                  have hcv : (convert 60 9 u8).run Try.prog wr = .ok (.string (shaL l)) wr := by
                    rw [HSE.out, ← hm8]
                    exact own_string Try.underlying60 Try.underlying5 Try.underlying9 HO.out
                  clear hm8 hlt hm
                  go_wp2_with fail
                  skip
                  go_ret
                  exact ⟨rfl, HB.out⟩
end Go.Proofs.Ytjkdmegpjdfcaaa.SHash
