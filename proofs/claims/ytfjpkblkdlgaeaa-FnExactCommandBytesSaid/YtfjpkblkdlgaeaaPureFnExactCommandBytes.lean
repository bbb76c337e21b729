/- The program's CommandBytes answers as the reference's at all commands: the plain form. No conditions. -/
import Derived.Test.YtfjpkblkdlgaeaaQFnExactCommandBytes
import Derived.Test.YtfjpkblkdlgaeaaU
namespace Go.Proofs.Ytfjpkblkdlgaeaa.Pure
open Go.RowKit Go.Proofs.Ytfjpkblkdlgaeaa.PFnExactCommandBytes Go.Proofs.YtfjpkblkdlgaeaaW.PrintWords Go.Proofs.YtfjpkblkdlgaeaaW.PrintLast Go.Proofs.YtfjpkblkdlgaeaaW.PrintMore Go.Proofs.Ytfjpkblkdlgaeaa.U
set_option linter.unusedVariables false
set_option linter.unusedSimpArgs false
theorem key_eq (a : ByteArray) : impl_isKey.f a = spec_l02Key.f a := by
  unfold impl_isKey.f impl_within.f spec_l02Key.f
  split <;> rfl
theorem key_some (a : ByteArray) : ∃ b, spec_l02Key.f a = some b := by
  unfold spec_l02Key.f
  split <;> exact ⟨_, rfl⟩
theorem j1_eq (k : Nat) (a : Int) (b : Bool) (c d e : Int) (f g : ByteArray) : impl_CommandOK.j1 k a b c d e f g = spec_CommandOK.j1 k a b c d e f g := by
  cases k with
  | zero => rfl
  | succ k => simp only [impl_CommandOK.j1, spec_CommandOK.j1, key_eq]
theorem j0_eq (k : Nat) (b : Bool) (c d e : Int) (f g : ByteArray) : impl_CommandOK.j0 k b c d e f g = spec_CommandOK.j0 k b c d e f g := by
  cases k with
  | zero => rfl
  | succ k => simp only [impl_CommandOK.j0, spec_CommandOK.j0, j1_eq]
theorem j1_some (k : Nat) (a : Int) (b : Bool) (c d e : Int) (f g : ByteArray) : ∃ r, spec_CommandOK.j1 (k + 1) a b c d e f g = some r := by
  obtain ⟨q, hq⟩ := key_some f
  simp only [spec_CommandOK.j1, hq, Option.bind_some]
  repeat' split
  all_goals exact ⟨_, rfl⟩
theorem j0_some (k : Nat) (b : Bool) (c d e : Int) (f g : ByteArray) : ∃ r, spec_CommandOK.j0 (k + 2) b c d e f g = some r := by
  simp only [spec_CommandOK.j0]
  split
  · exact ⟨_, rfl⟩
  · split <;> exact j1_some k _ _ _ _ _ _ _
theorem cmd_eq (k : Nat) (a b c : Int) (d e : ByteArray) : impl_CommandOK.f k a b c d e = spec_CommandOK.f k a b c d e := by
  have hv : (!(decide ((e.size : Int) ≤ 60))) = decide ((e.size : Int) > 60) := by rw [Bool.eq_iff_iff]; simp
  unfold impl_CommandOK.f spec_CommandOK.f impl_isShort.f impl_isValue.f impl_within.f spec_l01In.f
  simp only [j0_eq]
  by_cases hb : b ≥ 0
  · by_cases hc : c ≥ 0
    · rw [if_pos hb, if_pos hc]
      simp only [Option.bind_some, hv]
    · rw [if_pos hb, if_neg hc]
      simp only [Option.bind_some, Bool.false_eq_true, if_false]
  · rw [if_neg hb]
    simp only [Option.bind_some, Bool.false_eq_true, if_false]
theorem cmd_some (a b c : Int) (d e : ByteArray) : ∃ r, spec_CommandOK.f 2 a b c d e = some r := by
  unfold spec_CommandOK.f spec_l01In.f
  obtain ⟨r, h⟩ := j0_some 0 true a b c d e
  obtain ⟨r2, h2⟩ := j0_some 0 (decide ((e.size : Int) > 60)) a b c d e
  by_cases hb : b ≥ 0 <;> by_cases hc : c ≥ 0
  all_goals simp only [hb, hc, if_true, if_false, Option.bind_some, Bool.false_eq_true]
  all_goals repeat' split
  all_goals first | exact ⟨r, h⟩ | exact ⟨r2, h2⟩

/-- What the program's number writes. -/
theorem number_from (m : Nat) (hm : m ≤ 1000) (i : Nat) : ∀ (n : Int) (x : List Int), i ≤ m → x.length = m → Ev (fun k => impl_number.l0 k n x ((i : Int) - 1)) (strOfNums (BE n i ++ x.drop i)) := by
  induction i with
  | zero =>
    intro n x hi hx
    refine ev_succ (ev_of_eq fun k => ?_)
    simp only [impl_number.l0]
    rw [if_neg (by omega)]
    rfl
  | succ i ih =>
    intro n x hi hx
    have h := ih (n / 256) (x.set i (n % 256)) (by omega) (by rw [List.length_set, hx])
    have he : BE (n / 256) i ++ (x.set i (n % 256)).drop i = BE n (i + 1) ++ x.drop (i + 1) := by
      have hd : (x.set i (n % 256)).drop i = (n % 256) :: x.drop (i + 1) := by
        rw [List.drop_eq_getElem_cons (by rw [List.length_set]; omega), List.getElem_set_self, List.drop_set_of_lt (by omega)]
      rw [hd, BE, List.append_assoc]
      rfl
    rw [he] at h
    refine ev_succ (ev_congr (fun k => ?_) h)
    simp only [impl_number.l0]
    rw [show (((i + 1 : Nat) : Int) - 1) = (i : Int) from by omega, if_pos (by omega), if_pos (by omega), if_pos (by omega), Int.toNat_natCast, wrap_in (x := (i : Int) - 1) (by omega) (by omega)]
theorem number_ev (n : Int) (m : Nat) (hm : m ≤ 1000) : Ev (fun k => impl_number.f k n (m : Int)) (strOfNums (BE n m)) := by
  have h := number_from m hm m n (List.replicate m 0) (Nat.le_refl _) (by simp)
  rw [List.drop_of_length_le (by simp), List.append_nil] at h
  refine ev_congr (fun k => ?_) h
  unfold impl_number.f
  rw [if_pos (by omega), if_pos (by omega), Int.toNat_natCast, wrap_in (by omega) (by omega)]

theorem eqByteS_ev (l : List Int) (hl : l.length ≤ 100000000) : Ev (fun k => laws_eqByteS.f k l l) true := by
  have key := ev_loop (fun k (i : Int) => laws_eqByteS.l0 k l l i) (fun i => 0 ≤ i ∧ i ≤ l.length) (fun i => l.length - i.toNat) (fun _ => true) (by
    rintro i ⟨h0, h1⟩
    by_cases hi : i < (l.length : Int)
    · right
      refine ⟨i + 1, ⟨by omega, by omega⟩, by omega, rfl, 0, fun j _ => ?_⟩
      simp only [laws_eqByteS.l0]
      rw [if_pos hi, if_pos h0, if_pos hi, if_pos trivial, wrap_in (by omega) (by omega)]
    · left
      refine ⟨0, fun j _ => ?_⟩
      simp only [laws_eqByteS.l0]
      rw [if_neg hi])
  refine ev_congr (fun k => ?_) (key 0 ⟨by omega, by omega⟩)
  unfold laws_eqByteS.f
  rw [if_pos rfl]

/-- What the marks are: 1, 2, 3, .. -/
def marksB (n : Nat) : List Int := (List.range n).map fun i => (((i : Nat) : Int) + 1) % 256
theorem marksB_length (n : Nat) : (marksB n).length = n := by simp [marksB]
theorem marksB_get (n i : Nat) (h : i < n) : (marksB n).getD i 0 = ((i : Int) + 1) % 256 := by
  unfold marksB
  rw [List.getD_eq_getElem?_getD, List.getElem?_map, List.getElem?_range h]
  rfl
theorem markByteS_is (l : List Int) (hl : l.length ≤ 100000000) : Ev (fun k => laws_markByteS.f k l 1) ((l.length : Int) + 1, marksB l.length) := by
  have key := ev_loop (fun k (s : List Int × Int) => laws_markByteS.l0 k s.1 (s.2 + 1) s.2) (fun s => 0 ≤ s.2 ∧ s.2 ≤ l.length ∧ s.1.length = l.length ∧ ∀ j : Nat, j < s.2.toNat → s.1[j]? = (marksB l.length)[j]?) (fun s => l.length - s.2.toNat) (fun _ => ((l.length : Int) + 1, marksB l.length)) (by
    rintro ⟨x, i⟩ ⟨h0, h1, h2, h3⟩
    simp only at h0 h1 h2 h3
    have hml := marksB_length l.length
    by_cases hi : i < (l.length : Int)
    · right
      obtain ⟨hs1, hs2⟩ := copy_step (marksB l.length) x i.toNat 0 (by rw [hml]; exact h2) (by rw [hml]; omega) h3
      have hg := marksB_get l.length i.toNat (by omega)
      rw [hg] at hs1 hs2
      rw [hml] at hs1
      have hc : ((i.toNat : Nat) : Int) + 1 = i + 1 := by omega
      rw [hc] at hs1 hs2
      refine ⟨(x.set i.toNat ((i + 1) % 256), i + 1), ⟨by simp only; omega, by simp only; omega, hs1, fun j hj => hs2 j (by simp only at hj; omega)⟩, by simp only; omega, rfl, 0, fun j _ => ?_⟩
      show laws_markByteS.l0 (j + 1) x (i + 1) i = laws_markByteS.l0 j (x.set i.toNat ((i + 1) % 256)) (i + 1 + 1) (i + 1)
      simp only [laws_markByteS.l0]
      rw [if_pos (by omega), if_pos h0, wrap_in (x := i + 1 + 1) (by omega) (by omega), wrap_in (x := i + 1) (by omega) (by omega)]
    · left
      refine ⟨0, fun j _ => ?_⟩
      show laws_markByteS.l0 (j + 1) x (i + 1) i = _
      simp only [laws_markByteS.l0]
      rw [if_neg (by omega), copy_end (marksB l.length) x (by rw [hml]; exact h2) (fun j hj => h3 j (by rw [hml] at hj; omega)), show i + 1 = (l.length : Int) + 1 from by omega])
  have := key (l, 0) ⟨by simp, by simp, rfl, fun j hj => absurd hj (by simp)⟩
  exact this
theorem heldByteS_is (n : Nat) (hl : n ≤ 100000000) : Ev (fun k => laws_heldByteS.f k (marksB n) 1) ((n : Int) + 1) := by
  have hml := marksB_length n
  have key := ev_loop (fun k (i : Int) => laws_heldByteS.l0 k (marksB n) (i + 1) i) (fun i => 0 ≤ i ∧ i ≤ n) (fun i => n - i.toNat) (fun _ => (n : Int) + 1) (by
    rintro i ⟨h0, h1⟩
    by_cases hi : i < (n : Int)
    · right
      have hg := marksB_get n i.toNat (by omega)
      have hr : rd (marksB n) i = (i + 1) % 256 := by unfold rd; rw [hg, Int.toNat_of_nonneg h0]
      refine ⟨i + 1, ⟨by omega, by omega⟩, by omega, rfl, 0, fun j _ => ?_⟩
      simp only [laws_heldByteS.l0]
      rw [if_pos (by rw [hml]; omega), if_pos h0, if_pos hr, wrap_in (x := i + 1 + 1) (by omega) (by omega), wrap_in (x := i + 1) (by omega) (by omega)]
    · left
      refine ⟨0, fun j _ => ?_⟩
      simp only [laws_heldByteS.l0]
      rw [if_neg (by rw [hml]; omega), show i + 1 = (n : Int) + 1 from by omega])
  exact key 0 ⟨by omega, by omega⟩

theorem BEl1 (n : Int) : BE n 1 = [n % 256] := rfl
theorem BEl2 (n : Int) : BE n 2 = [n / 256 % 256, n % 256] := rfl
/-- The bytes of a command. -/
def cbytes (a b c : Int) (d e : ByteArray) : ByteArray := strOfNums (BE a 1) ++ strOfNums (BE b 2) ++ strOfNums (BE c 2) ++ (strOfNums (BE (d.size : Int) 1) ++ d) ++ (strOfNums (BE (e.size : Int) 1) ++ e)
theorem cbytes_size (a b c : Int) (d e : ByteArray) : (cbytes a b c d e).size = 7 + d.size + e.size := by
  unfold cbytes
  simp only [ByteArray.size_append, size_strOfNums, BE_length]
  omega
theorem impl_cbytes (a b c : Int) (d e : ByteArray) (hd : d.size ≤ 1048576) (he : e.size ≤ 1048576) : Ev (fun k => impl_Command_bytes.f k a b c d e) (cbytes a b c d e) := by
  unfold impl_Command_bytes.f impl_counted.f
  have ha := number_ev a 1 (by omega)
  have hb := number_ev b 2 (by omega)
  have hc := number_ev c 2 (by omega)
  have hd1 := number_ev (d.size : Int) 1 (by omega)
  have he1 := number_ev (e.size : Int) 1 (by omega)
  refine ev_bind ha (ev_bind hb (ev_if_pos (by simp only [size_strOfNums, BE_length]; omega) (ev_bind hc (ev_if_pos (by simp only [size_strOfNums, BE_length]; omega) (ev_bind (ev_bind hd1 (ev_if_pos (by simp only [size_strOfNums, BE_length]; omega) (ev_some _))) (ev_if_pos (by simp only [ByteArray.size_append, size_strOfNums, BE_length]; omega) (ev_bind (ev_bind he1 (ev_if_pos (by simp only [size_strOfNums, BE_length]; omega) (ev_some _))) (ev_if_pos (by simp only [ByteArray.size_append, size_strOfNums, BE_length]; omega) (ev_some _)))))))))
theorem two_is (c : Int) (h0 : 0 ≤ c) (h1 : c ≤ 65535) : spec_l02Two.f c = some (BE c 2) := by
  unfold spec_l02Two.f
  rw [BEl2, Int.tdiv_eq_ediv_of_nonneg h0, wrap_in (by omega) (by omega)]
theorem spec_cbytes (a b c : Int) (d e : ByteArray) (hb : 0 ≤ b ∧ b ≤ 65535) (hc : 0 ≤ c ∧ c ≤ 65535) (hd : d.size ≤ 1048576) (he : e.size ≤ 1048576) : spec_l02Bytes.f a b c d e = some (bytesOf (cbytes a b c d e)) := by
  have hr : bytesOf (cbytes a b c d e) = BE a 1 ++ BE b 2 ++ BE c 2 ++ (BE (d.size : Int) 1 ++ bytesOf d) ++ (BE (e.size : Int) 1 ++ bytesOf e) := by
    have h1 : cbytes a b c d e = strOfNums (BE a 1 ++ BE b 2 ++ BE c 2 ++ (BE (d.size : Int) 1 ++ bytesOf d) ++ (BE (e.size : Int) 1 ++ bytesOf e)) := by
      unfold cbytes
      simp only [strOfNums_append, strOfNums_bytesOf]
    rw [h1, bytesOf_strOfNums]
    intro x hx
    simp only [List.mem_append] at hx
    rcases hx with (((hx | hx) | hx) | (hx | hx)) | (hx | hx)
    · exact BE_range 1 a x hx
    · exact BE_range 2 b x hx
    · exact BE_range 2 c x hx
    · exact BE_range 1 _ x hx
    · exact bytesOf_range d x hx
    · exact BE_range 1 _ x hx
    · exact bytesOf_range e x hx
  have hld : (bytesOf d).length = d.size := bytesOf_length d
  rw [hr]
  unfold spec_l02Bytes.f
  rw [two_is b hb.1 hb.2, two_is c hc.1 hc.2]
  simp only [Option.bind_some, BEl1, BEl2]
  simp only [List.length_cons, List.length_nil, List.length_append, hld]
  rw [if_pos (by omega), if_pos (by omega), if_pos (by omega), if_pos (by omega), if_pos (by omega), if_pos (by omega)]
  simp only [List.append_assoc]
/-- A command that is right has numbers of two bytes. -/
theorem cmd_short (a b c : Int) (d e : ByteArray) (h : Ev (fun k => spec_CommandOK.f k a b c d e) true) : (0 ≤ b ∧ b ≤ 65535) ∧ (0 ≤ c ∧ c ≤ 65535) := by
  have hin : ∀ x : Int, spec_l01In.f x 0 65535 = some (decide (0 ≤ x ∧ x ≤ 65535)) := by
    intro x
    unfold spec_l01In.f
    split <;> simp only [Option.some.injEq] <;> rw [Bool.eq_iff_iff] <;> simp <;> omega
  obtain ⟨K, h⟩ := h
  have h := h (K + 1) (by omega)
  have jbad : spec_CommandOK.j0 (K + 1) true a b c d e = some false := by simp only [spec_CommandOK.j0]; rw [if_pos (by first | rfl | trivial)]
  simp only [spec_CommandOK.f, hin, Option.bind_some, decide_eq_true_eq] at h
  by_cases hb : 0 ≤ b ∧ b ≤ 65535
  · rw [if_pos hb] at h
    by_cases hc : 0 ≤ c ∧ c ≤ 65535
    · exact ⟨hb, hc⟩
    · rw [if_neg hc, jbad] at h
      simp at h
  · rw [if_neg hb, jbad] at h
    simp at h
theorem FnExactCommandBytes : laws_FnExactCommandBytes.Pure := by
  intro a b c d e _ _ _ hd he
  refine Ev.rounds (r := true) ?_
  unfold laws_FnExactCommandBytes.f
  unfold maxLen at hd he
  have hz : laws_szCommand.f a b c d e 1048576 = some (if (d.size : Int) + (e.size : Int) ≤ 1048576 then 1048576 - (d.size : Int) - (e.size : Int) else -1) := by
    unfold laws_szCommand.f
    have w : wrap64 (1048576 - (d.size : Int)) = 1048576 - (d.size : Int) := wrap_in (by omega) (by omega)
    rw [w]
    clear w
    by_cases h : (d.size : Int) ≤ 1048576
    · rw [if_neg (by omega)]
      have w : wrap64 (1048576 - (d.size : Int) - (e.size : Int)) = 1048576 - (d.size : Int) - (e.size : Int) := wrap_in (by omega) (by omega)
      rw [w]
      clear w
      by_cases h2 : (d.size : Int) + (e.size : Int) ≤ 1048576
      · rw [if_neg (by omega), if_pos h2]
      · rw [if_pos (by omega), if_neg h2]
    · rw [if_pos (by omega), if_neg (by omega)]
  rw [hz]
  clear hz
  by_cases h : (d.size : Int) + (e.size : Int) ≤ 1048576
  · rw [if_pos h]
    simp only [Option.bind_some]
    refine ev_if_neg (by omega) ?_
    have hs := cbytes_size a b c d e
    obtain ⟨r, h0⟩ := cmd_some a b c d e
    have h1 : Ev (fun k => spec_CommandOK.f k a b c d e) r := ev_mono (fun k => spec_CommandOK.mono a b c d e k) h0
    have h2 : Ev (fun k => impl_CommandOK.f k a b c d e) r := ev_congr (fun k => cmd_eq k a b c d e) h1
    cases r with
    | true =>
      obtain ⟨hb, hc⟩ := cmd_short a b c d e h1
      have hsp : Ev (fun k => spec_CommandBytes.f k a b c d e) (bytesOf (cbytes a b c d e), 0) := by
        unfold spec_CommandBytes.f
        refine ev_bind h1 (ev_if_pos (by first | rfl | trivial) ?_)
        rw [spec_cbytes a b c d e hb hc (by omega) (by omega)]
        exact ev_some _
      have hl : (bytesOf (cbytes a b c d e)).length ≤ 1048576 + 7 := by rw [bytesOf_length]; omega
      have hq := eqByteS_ev (bytesOf (cbytes a b c d e)) (by omega)
      have hm := markByteS_is (bytesOf (cbytes a b c d e)) (by omega)
      have hh := heldByteS_is (bytesOf (cbytes a b c d e)).length (by omega)
      refine ev_bind hsp (ev_bind h2 (ev_bind hq (ev_bind hm (ev_bind hh (ev_if_pos (by first | rfl | trivial) (ev_bind (impl_cbytes a b c d e (by omega) (by omega)) (ev_if_pos ⟨by omega, rfl, rfl, rfl, by omega⟩ (ev_some _))))))))
    | false =>
      have hsp : Ev (fun k => spec_CommandBytes.f k a b c d e) ([], 1) := by
        unfold spec_CommandBytes.f
        exact ev_bind h1 (ev_if_neg (by simp) (ev_some _))
      have hq := eqByteS_ev [] (by simp)
      have hm := markByteS_is [] (by simp)
      have hh := heldByteS_is 0 (by simp)
      exact ev_bind hsp (ev_bind h2 (ev_bind hq (ev_bind hm (ev_bind hh (ev_if_neg (by simp) (ev_if_pos ⟨rfl, rfl, rfl, rfl⟩ (ev_some _)))))))
  · rw [if_neg h]
    exact ev_of_eq fun k => by simp
end Go.Proofs.Ytfjpkblkdlgaeaa.Pure
