/- Small words on rounds, bytes and texts, for the plain statements. No conditions. -/
import Derived.Test.YtjkdmegpjdfcaaaMFnExactMapListWMore
import Derived.Laws.BitsAllLaws
namespace Go.Proofs.Ytjkdmegpjdfcaaa.U
open Go.RowKit Go.Proofs.YtjkdmegpjdfcaaaW.PrintWords Go.Proofs.YtjkdmegpjdfcaaaW.PrintLast Go.Proofs.YtjkdmegpjdfcaaaW.PrintMore
/-- A loop, told by its state: from each state that is right it answers, or it goes on at a smaller one of the same answer. -/
theorem ev_loop {σ β : Type} (l : Nat → σ → Option β) (inv : σ → Prop) (m : σ → Nat) (ans : σ → β)
    (h : ∀ s, inv s → (∃ k, ∀ j, k ≤ j → l (j + 1) s = some (ans s)) ∨ ∃ s', inv s' ∧ m s' < m s ∧ ans s' = ans s ∧ ∃ k, ∀ j, k ≤ j → l (j + 1) s = l j s') :
    ∀ s, inv s → Ev (fun k => l k s) (ans s) := by
  have key : ∀ (n : Nat) (s : σ), m s < n → inv s → Ev (fun k => l k s) (ans s) := by
    intro n
    induction n with
    | zero => intro s hs; omega
    | succ n ih =>
      intro s hs hi
      rcases h s hi with ⟨k, hk⟩ | ⟨s', hi', hm, ha, k, hk⟩
      · refine ⟨k + 1, fun j hj => ?_⟩
        obtain ⟨j, rfl⟩ : ∃ q, j = q + 1 := ⟨j - 1, by omega⟩
        exact hk j (by omega)
      · obtain ⟨K, hK⟩ := ih s' (by omega) hi'
        refine ⟨max k K + 1, fun j hj => ?_⟩
        obtain ⟨j, rfl⟩ : ∃ q, j = q + 1 := ⟨j - 1, by omega⟩
        show l (j + 1) s = some (ans s)
        rw [hk j (by omega), ← ha]
        exact hK j (by omega)
  exact fun s hi => key (m s + 1) s (by omega) hi
theorem ev_of_eq {α : Type} {g : Nat → Option α} {r : α} (h : ∀ k, g k = some r) : Ev g r := ⟨0, fun k _ => h k⟩
theorem ev_some {α : Type} (r : α) : Ev (fun _ => some r) r := ⟨0, fun _ _ => rfl⟩
theorem ev_if_pos {α : Type} {c : Prop} [Decidable c] {f g : Nat → Option α} {r : α} (hc : c) (h : Ev f r) : Ev (fun k => if c then f k else g k) r := by
  obtain ⟨K, h⟩ := h
  exact ⟨K, fun k hk => by show (if c then f k else g k) = some r; rw [if_pos hc]; exact h k hk⟩
theorem ev_if_neg {α : Type} {c : Prop} [Decidable c] {f g : Nat → Option α} {r : α} (hc : ¬ c) (h : Ev g r) : Ev (fun k => if c then f k else g k) r := by
  obtain ⟨K, h⟩ := h
  exact ⟨K, fun k hk => by show (if c then f k else g k) = some r; rw [if_neg hc]; exact h k hk⟩
theorem ev_bind {α β : Type} {g : Nat → Option α} {f : Nat → α → Option β} {a : α} {r : β} (h : Ev g a) (k : Ev (fun n => f n a) r) : Ev (fun n => (g n).bind (f n)) r := Ev.bind h k
theorem ev_shift {α : Type} {g : Nat → Option α} {r : α} (h : Ev g r) : Ev (fun k => g (k + 1)) r := by
  obtain ⟨K, h⟩ := h
  exact ⟨K, fun k hk => h (k + 1) (by omega)⟩
theorem ev_succ {α : Type} {g : Nat → Option α} {r : α} (h : Ev (fun k => g (k + 1)) r) : Ev g r := by
  obtain ⟨K, h⟩ := h
  refine ⟨K + 1, fun k hk => ?_⟩
  obtain ⟨k, rfl⟩ : ∃ q, k = q + 1 := ⟨k - 1, by omega⟩
  exact h k (by omega)
theorem ev_unique {α : Type} {g : Nat → Option α} {r s : α} (h : Ev g r) (h' : Ev g s) : r = s := by
  obtain ⟨K, h⟩ := h
  obtain ⟨K', h'⟩ := h'
  have h1 := h (max K K') (by omega)
  have h2 := h' (max K K') (by omega)
  rw [h1] at h2
  exact Option.some.inj h2
theorem ev_mono {α : Type} {g : Nat → Option α} {r : α} (hm : ∀ k, LeO (g k) (g (k + 1))) {k : Nat} (h : g k = some r) : Ev g r := Ev.of hm h
theorem ev_congr {α : Type} {g f : Nat → Option α} {r : α} (h : ∀ k, g k = f k) (k : Ev f r) : Ev g r := Ev.congr h k
theorem wrap_in {x : Int} (h0 : -9223372036854775808 ≤ x) (h1 : x ≤ 9223372036854775807) : wrap64 x = x := by unfold wrap64; omega
theorem ofInt_i64 (a : Nat) (ha : a < 4294967296) : (BitVec.ofInt 64 (a : Int)).toNat = a := by
  rw [BitVec.ofInt_natCast, BitVec.toNat_ofNat, Nat.mod_eq_of_lt (by omega)]
theorem i64_xor (a b : Int) (h1 : 0 ≤ a) (h2 : a < 4294967296) (h3 : 0 ≤ b) (h4 : b < 4294967296) : Go.bits .xor .i64 a b = ((a.toNat ^^^ b.toNat : Nat) : Int) := by
  obtain ⟨a, rfl⟩ := Int.eq_ofNat_of_zero_le h1
  obtain ⟨b, rfl⟩ := Int.eq_ofNat_of_zero_le h3
  have ha : a < 4294967296 := by omega
  have hb : b < 4294967296 := by omega
  have hx : a ^^^ b < 2 ^ 32 := Nat.xor_lt_two_pow (by omega) (by omega)
  have e1 := ofInt_i64 a ha
  have e2 := ofInt_i64 b hb
  have hz : ∀ n : Int, 0 ≤ n → n < 4611686018427387904 → IntKind.i64.wrap n = n := fun n h₀ h₁ => by rw [IntKind.wrap_i64]; omega
  show IntKind.i64.wrap ((BitVec.ofInt 64 (a : Int) ^^^ BitVec.ofInt 64 (b : Int)).toNat : Int) = _
  rw [BitVec.toNat_xor, e1, e2, Int.toNat_natCast, Int.toNat_natCast]
  exact hz _ (Int.natCast_nonneg _) (by omega)
/-- A copy, place by place. -/
theorem copy_step {α : Type} (l x : List α) (i : Nat) (d : α) (hlen : x.length = l.length) (hi : i < l.length) (h : ∀ j, j < i → x[j]? = l[j]?) :
    (x.set i (l.getD i d)).length = l.length ∧ ∀ j, j < i + 1 → (x.set i (l.getD i d))[j]? = l[j]? := by
  refine ⟨by rw [List.length_set, hlen], fun j hj => ?_⟩
  rcases Nat.lt_or_ge j i with hlt | hge
  · rw [List.getElem?_set_ne (by omega)]
    exact h j hlt
  · obtain rfl : j = i := by omega
    rw [List.getElem?_set_self (by omega), List.getD_eq_getElem?_getD, List.getElem?_eq_getElem hi, Option.getD_some]
theorem copy_end {α : Type} (l x : List α) (hlen : x.length = l.length) (h : ∀ j, j < l.length → x[j]? = l[j]?) : x = l := by
  apply List.ext_getElem?
  intro j
  rcases Nat.lt_or_ge j l.length with hlt | hge
  · exact h j hlt
  · rw [List.getElem?_eq_none (by omega), List.getElem?_eq_none (by omega)]
theorem size_strOfNums (l : List Int) : (strOfNums l).size = l.length := by
  show ((l.map fun n => UInt8.ofNat n.toNat).toArray).size = l.length
  simp
theorem bt_strOfNums (l : List Int) (i : Nat) (hi : i < l.length) (h0 : 0 ≤ l.getD i 0) (h1 : l.getD i 0 < 256) : bt (strOfNums l) (i : Int) = l.getD i 0 := by
  unfold bt
  have hs : (i : Int).toNat < (strOfNums l).size := by rw [size_strOfNums]; omega
  rw [dif_pos hs]
  have : (strOfNums l)[(i : Int).toNat]'hs = UInt8.ofNat (l.getD i 0).toNat := by
    show ((l.map fun n => UInt8.ofNat n.toNat).toArray)[(i : Int).toNat]'_ = _
    simp [List.getD_eq_getElem?_getD, List.getElem?_eq_getElem hi]
  rw [this]
  have h2 : (l.getD i 0).toNat < 256 := by omega
  have h3 : (UInt8.ofNat (l.getD i 0).toNat).toNat = (l.getD i 0).toNat % 256 := rfl
  rw [h3]
  omega
theorem strOfNums_append (a b : List Int) : strOfNums (a ++ b) = strOfNums a ++ strOfNums b := by
  apply ByteArray.ext
  rw [ByteArray.data_append]
  show ((a ++ b).map fun n => UInt8.ofNat n.toNat).toArray = (a.map fun n => UInt8.ofNat n.toNat).toArray ++ (b.map fun n => UInt8.ofNat n.toNat).toArray
  simp
theorem strOfNums_nil : strOfNums [] = (⟨#[]⟩ : ByteArray) := rfl
theorem toNat_byte (x : Int) (h0 : 0 ≤ x) (h1 : x < 256) : ((UInt8.ofNat x.toNat).toNat : Int) = x := by
  have h3 : (UInt8.ofNat x.toNat).toNat = x.toNat % 256 := rfl
  rw [h3]
  omega
theorem bytesOf_strOfNums (l : List Int) (hb : ∀ x ∈ l, 0 ≤ x ∧ x < 256) : bytesOf (strOfNums l) = l := by
  show ((l.map fun n => UInt8.ofNat n.toNat).toArray.toList.map fun b => (b.toNat : Int)) = l
  rw [List.toList_toArray, List.map_map]
  conv => rhs; rw [← List.map_id l]
  apply List.map_congr_left
  intro x hx
  exact toNat_byte x (hb x hx).1 (hb x hx).2
theorem strOfNums_bytesOf (s : ByteArray) : strOfNums (bytesOf s) = s := by
  apply ByteArray.ext
  show ((s.data.toList.map fun b => ((b.toNat : Nat) : Int)).map fun n => UInt8.ofNat n.toNat).toArray = s.data
  rw [List.map_map]
  have : s.data.toList.map ((fun n : Int => UInt8.ofNat n.toNat) ∘ fun b : UInt8 => ((b.toNat : Nat) : Int)) = s.data.toList := by
    conv => rhs; rw [← List.map_id s.data.toList]
    apply List.map_congr_left
    intro b _
    show UInt8.ofNat ((b.toNat : Int).toNat) = b
    rw [Int.toNat_natCast]
    simp
  rw [this]
theorem bytesOf_range (s : ByteArray) : ∀ x ∈ bytesOf s, 0 ≤ x ∧ x < 256 := by
  intro x hx
  obtain ⟨b, _, rfl⟩ := List.mem_map.1 hx
  have := b.toNat_lt
  omega
/-- A number in so many bytes, the highest first. -/
def BE (n : Int) : Nat → List Int
  | 0 => []
  | m + 1 => BE (n / 256) m ++ [n % 256]
theorem BE_length (m : Nat) : ∀ n : Int, (BE n m).length = m := by
  induction m with
  | zero => intro n; rfl
  | succ m ih => intro n; simp [BE, ih]
theorem BE_range (m : Nat) : ∀ n : Int, ∀ x ∈ BE n m, 0 ≤ x ∧ x < 256 := by
  induction m with
  | zero => intro n x hx; simp [BE] at hx
  | succ m ih =>
    intro n x hx
    simp only [BE, List.mem_append, List.mem_singleton] at hx
    rcases hx with hx | rfl
    · exact ih _ x hx
    · omega
theorem rd_mem (l : List Int) (i : Nat) (hi : i < l.length) : rd l (i : Int) ∈ l := by
  unfold rd
  rw [Int.toNat_natCast, List.getD_eq_getElem?_getD, List.getElem?_eq_getElem hi, Option.getD_some]
  exact List.getElem_mem hi
theorem take_snoc_rd (l : List Int) (n : Nat) (h : n < l.length) : l.take n ++ [rd l (n : Int)] = l.take (n + 1) := by
  rw [List.take_succ_eq_append_getElem h]
  unfold rd
  rw [Int.toNat_natCast, List.getD_eq_getElem?_getD, List.getElem?_eq_getElem h, Option.getD_some]
/-- A store as an event: the world behind it gets a letter ('hr' by 'go_simp; rfl'). -/
theorem set_event {P : Program} {ops : Array Oper} {rest : List Oper} {o : Oper} {a : Act} {Q : Exit → Act → World → Prop} {W w1 : World} (hgd : o.guard = none) (hN : o.dst = none) (hr : (execOp a.eval o).run P W = .ok .skip w1)
    (h : ∀ W', W' = w1 → wpList P ops Q rest (a.put none undef) W') : wpList P ops Q (o :: rest) a W := by
  refine wpList_plain hgd fun K hK => ?_
  unfold Oper.wp
  rw [hr]
  have := h w1 rfl
  rw [← hN] at this
  exact hK _ _ this
/-- '[]byte(s)' as an event: a row of its bytes that is read, the world a letter. -/
theorem bytes_event {P : Program} {ops : Array Oper} {rest : List Oper} {o : Oper} {a : Act} {Q : Exit → Act → World → Prop} {W : World} (hgd : o.guard = none) {N : Tmp} (_hd : o.dst = some N) (src dst e : TypeId) (x : Operand) (s : ByteArray)
    (ho : o.op = .convert src dst x) (hx : a.eval x = .string s) (hs : P.underlying src = some .string) (hd : P.underlying dst = some (.slice e)) (he : P.underlying e = some (.int .u8)) (hl : s.size ≤ 9223372036854775807)
    (h : ∀ g c W', Kd.C (Kd.int .u8) W' (some ⟨g, 0, none⟩) s.size (bytesOf s) → s.size ≤ c → Below W.heap.size W W' → wpList P ops Q rest (a.put o.dst (.slice (some ⟨g, 0, none⟩) s.size c)) W') : wpList P ops Q (o :: rest) a W := by
  have hr := print_bytes (P := P) src dst e hs hd he s W
  refine Kd.event_run hgd (w1 := Lib.bytesWorld W e s) (v := .slice (some ⟨W.heap.size, 0, none⟩) s.size (grownCap W s.size 0 e)) ?_ (h _ _ _ (Kd.C_of_reads (enc := Value.int .u8) (d := (0 : Int)) (bytes_reads W e s hl)) ?_ (bytes_below (Below.refl _ _) (Nat.le_refl _) e s))
  · unfold execOp
    rw [ho]
    simp [hx, hr]
  · have := grownCap_ge W s.size 0 e
    omega
end Go.Proofs.Ytjkdmegpjdfcaaa.U
