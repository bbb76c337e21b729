/- What came in as data, told as a kind: every value that reads as data of a type of the program is, as a kind (Kd) sees it, a Lean value, with what holds of its numbers and lengths. No conditions. -/
import Derived.Test.YtjkdmegpjdfcaaaMFnExactMapListWWords
import Derived.ProofKit
import Derived.ChangeArms
import Derived.DataReads
import Derived.DataElems
namespace Go.Proofs.Ytjkdmegpjdfcaaa.Open
open Go.Proofs.YtjkdmegpjdfcaaaW.PrintWords
section
variable {H : Type} {enc : TypeId × Value → H} {P : Program} {w : World} {α β : Type} {t e : TypeId} {d : Kd α} {G : α → Prop} {fuel : Nat}
/-- Every reading of data of type t, with this much fuel, is a value of the kind d of which G holds. -/
def OpensAt (enc : TypeId × Value → H) (P : Program) (w : World) (fuel : Nat) (t : TypeId) (d : Kd α) (G : α → Prop) : Prop :=
  ∀ cs x, DataW.trod enc P w 0 (fun _ => true) true fuel t cs = some x → ∃ y, d.K w y cs ∧ G y
def Opens (enc : TypeId × Value → H) (P : Program) (w : World) (t : TypeId) (d : Kd α) (G : α → Prop) : Prop := ∀ fuel, OpensAt enc P w fuel t d G
/-- A list that is no longer than a slice can be, all of whose elements are good. -/
def GL (G : α → Prop) (xs : List α) : Prop := xs.length ≤ maxLen ∧ ∀ x ∈ xs, G x
theorem OpensAt.int {k : IntKind} (ht : P.underlying t = some (.int k)) : OpensAt enc P w fuel t (Kd.int k) (fun n => (Lit.int k n).wf = true) := by
  intro cs x h
  obtain ⟨n, rfl, rfl, hw⟩ := DataW.trod_int ht h
  exact ⟨n, rfl, hw⟩
theorem OpensAt.string (ht : P.underlying t = some .string) : OpensAt enc P w fuel t Kd.string (fun s => s.size ≤ maxLen) := by
  intro cs x h
  obtain ⟨s, rfl, rfl, hw⟩ := DataW.trod_string ht h
  exact ⟨s, rfl, hw⟩
theorem OpensAt.bool (ht : P.underlying t = some .bool) : OpensAt enc P w fuel t Kd.bool (fun _ => True) := by
  intro cs x h
  obtain ⟨b, rfl, rfl⟩ := DataW.trod_bool ht h
  exact ⟨b, rfl, trivial⟩
theorem choose_list {Q : Nat → α → Prop} (n : Nat) (h : ∀ i, i < n → ∃ y, Q i y) : ∃ ys : List α, ys.length = n ∧ ∀ i y, ys[i]? = some y → Q i y := by
  induction n with
  | zero => exact ⟨[], rfl, fun i y hy => by simp at hy⟩
  | succ n ih =>
    obtain ⟨ys, hl, hys⟩ := ih (fun i hi => h i (by omega))
    obtain ⟨y, hy⟩ := h n (by omega)
    refine ⟨ys ++ [y], by simp [hl], fun i z hz => ?_⟩
    rcases Nat.lt_or_ge i ys.length with hi | hi
    · rw [List.getElem?_append_left hi] at hz
      exact hys i z hz
    · rw [List.getElem?_append_right hi] at hz
      have hi' : i = n := by
        have := (List.getElem?_eq_some_iff.1 hz).1
        simp at this
        omega
      subst hi'
      rw [hl, Nat.sub_self] at hz
      simp at hz
      subst hz
      exact hy
theorem OpensAt.slice (ht : P.underlying t = some (.slice e)) (hc : P.cellsOf e = d.sz) (h : ∀ m, m + 1 = fuel → OpensAt enc P w m e d G) : OpensAt enc P w fuel t (Kd.slice e d) (GL G) := by
  intro cs x hx
  rcases DataW.trod_slice ht hx with ⟨rfl, rfl⟩ | ⟨a, len, cap, elems, rest, n, hf, rfl, rfl, hb, hl, hm, hlen, hel, _, _⟩
  · exact ⟨[], ⟨none, 0, rfl, Nat.le_refl _, rfl, by simp, fun hp => absurd hp (by simp)⟩, by simp, fun y hy => by simp at hy⟩
  · have hO := h n hf.symm
    have step : ∀ i, i < len → ∃ y : α, ∃ c : List Value, w.cells? 0 (a.add (i * d.sz)) d.sz = some c ∧ d.K w y c ∧ G y := by
      intro i hi
      have h1 := hel i hi
      rw [hc] at h1
      have h2 : elems[i]? = some (elems[i]'(by omega)) := List.getElem?_eq_getElem (by omega)
      rw [h2] at h1
      obtain ⟨c, hcs, htr⟩ := Option.bind_eq_some_iff.1 h1
      obtain ⟨y, hK, hG⟩ := hO c _ htr
      exact ⟨y, c, hcs, hK, hG⟩
    obtain ⟨ys, hyl, hys⟩ := choose_list len step
    refine ⟨ys, ⟨some a, cap, by rw [hyl], by rw [hyl]; exact hl, rfl, by rw [hyl]; unfold maxLen at hm; omega, fun _ => ⟨a, rfl, fun j p hj => ?_⟩⟩, by rw [hyl]; exact Nat.le_trans hl hm, fun y hy => ?_⟩
    · obtain ⟨c, hcs, hK, _⟩ := hys j p hj
      refine ⟨c, d.K_len hK, hK, fun i u hu => ?_⟩
      obtain ⟨_, _, hget⟩ := World.cells?_some hcs
      have hi : i < d.sz := by rw [← d.K_len hK]; exact (List.getElem?_eq_some_iff.1 hu).1
      have := hget i hi
      rw [hu] at this
      rw [← this, show (a.add (j * d.sz)).add i = a.add (j * d.sz + i) from Addr.add_add _ _ _]
    · obtain ⟨i, hi, rfl⟩ := List.mem_iff_getElem.1 hy
      obtain ⟨_, _, _, hG⟩ := hys i _ (List.getElem?_eq_getElem hi)
      exact hG
/-- The fields from a place on, read one by one. -/
def FieldsAt (enc : TypeId × Value → H) (P : Program) (w : World) (fuel : Nat) (fs : List (TypeId × Nat × Nat)) (off : Nat) (d : Kd α) (G : α → Prop) : Prop :=
  ∀ cs : List Value, cs.length = off + d.sz → (∀ f ∈ fs, ∃ x, DataW.trod enc P w 0 (fun _ => true) true fuel f.1 ((cs.drop f.2.1).take f.2.2) = some x) → ∃ y, d.K w y (cs.drop off) ∧ G y
theorem FieldsAt.one {off sz : Nat} (hs : d.sz = sz) (h : OpensAt enc P w fuel t d G) : FieldsAt enc P w fuel [(t, off, sz)] off d G := by
  intro cs hl hf
  obtain ⟨x, hx⟩ := hf _ (List.mem_singleton.2 rfl)
  have hx' : DataW.trod enc P w 0 (fun _ => true) true fuel t ((cs.drop off).take sz) = some x := hx
  rw [List.take_of_length_le (by rw [List.length_drop]; omega)] at hx'
  exact h _ _ hx'
theorem FieldsAt.cons {d1 : Kd β} {G1 : β → Prop} {off sz : Nat} {fs : List (TypeId × Nat × Nat)} (hs : d.sz = sz) (h : OpensAt enc P w fuel t d G) (h1 : FieldsAt enc P w fuel fs (off + sz) d1 G1) :
    FieldsAt enc P w fuel ((t, off, sz) :: fs) off (Kd.pair d d1) (fun x => G x.1 ∧ G1 x.2) := by
  intro cs hl hf
  have hl' : cs.length = off + sz + d1.sz := by
    have : (Kd.pair d d1).sz = d.sz + d1.sz := rfl
    omega
  obtain ⟨x, hx⟩ := hf _ List.mem_cons_self
  have hx' : DataW.trod enc P w 0 (fun _ => true) true fuel t ((cs.drop off).take sz) = some x := hx
  obtain ⟨y, hK, hG⟩ := h _ _ hx'
  obtain ⟨y1, hK1, hG1⟩ := h1 cs hl' (fun f hm => hf f (List.mem_cons_of_mem _ hm))
  refine ⟨(y, y1), ⟨_, _, ?_, hK, hK1⟩, hG, hG1⟩
  rw [← List.drop_drop, List.take_append_drop]
theorem OpensAt.struct {fs : Array Field} {L : List (TypeId × Nat × Nat)} (ht : P.underlying t = some (.struct fs)) (hc : P.cellsOf t = d.sz) (hfs : fs.toList.map (fun f => (f.type, f.offset, P.cellsOf f.type)) = L)
    (h : ∀ m, m + 1 = fuel → FieldsAt enc P w m L 0 d G) : OpensAt enc P w fuel t d G := by
  intro cs x hx
  obtain ⟨xs, n, hf, rfl, hl, hlen, hfi⟩ := DataW.trod_struct ht hx
  have := h n hf.symm cs (by rw [hl, hc, Nat.zero_add]) (by
    intro f hm
    rw [← hfs] at hm
    obtain ⟨g, hg, rfl⟩ := List.mem_map.1 hm
    obtain ⟨i, hi, rfl⟩ := List.mem_iff_getElem.1 hg
    have hi' : i < fs.size := by simpa using hi
    have h1 := hfi i fs[i] (Array.getElem?_eq_getElem hi')
    refine ⟨xs[i]'(by omega), ?_⟩
    have h2 : xs[i]? = some (xs[i]'(by omega)) := List.getElem?_eq_getElem (by omega)
    rw [h2] at h1
    simpa using h1)
  simpa using this
theorem OpensAt.iso {f : β → α} (g : α → β) (hfg : ∀ x, f (g x) = x) (h : OpensAt enc P w fuel t d G) : OpensAt enc P w fuel t (Kd.iso d f) (fun y => G (f y)) := by
  intro cs x hx
  obtain ⟨y, hK, hG⟩ := h cs x hx
  exact ⟨g y, show d.K w (f (g y)) cs by rw [hfg]; exact hK, show G (f (g y)) by rw [hfg]; exact hG⟩
theorem OpensAt.imp {G' : α → Prop} (h : OpensAt enc P w fuel t d G) (hG : ∀ y, G y → G' y) : OpensAt enc P w fuel t d G' := by
  intro cs x hx
  obtain ⟨y, hK, h⟩ := h cs x hx
  exact ⟨y, hK, hG y h⟩
end
end Go.Proofs.Ytjkdmegpjdfcaaa.Open
