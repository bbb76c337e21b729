/- Arrays of words in blocks of memory: what a walk needs of them. No conditions. -/
import Derived.Test.YtjkdmegpjdfcaaaMFnExactMapListWMore
import Derived.Deep.MidRow
import Derived.Deep.WholeRow
import Derived.Below
set_option linter.unusedVariables false
set_option linter.unusedSimpArgs false
namespace Go.Proofs.Ytjkdmegpjdfcaaa.HashW
open Go.RowKit Go.Proofs.YtjkdmegpjdfcaaaW.PrintWords
variable {P : Program}
def U (l : List Int) : List Value := l.map (Value.int .u32)
theorem U_length (l : List Int) : (U l).length = l.length := List.length_map _
structure Arr (w : World) (b : Nat) (l : List Int) : Prop where
  lies : w.rangeAt b 0 (U l)
  free : w.there b 0 l.length
theorem Arr.cell {w : World} {b : Nat} {l : List Int} (h : Arr w b l) (i : Nat) (hi : i < l.length) : w.cell? ⟨b, i, none⟩ = some (.int .u32 (rd l (i : Int))) := by
  have := h.lies i (.int .u32 (rd l (i : Int))) (by
    unfold U rd
    rw [List.getElem?_map, Int.toNat_natCast, List.getD_eq_getElem?_getD, List.getElem?_eq_getElem hi]
    rfl)
  simpa using this
theorem Arr.lt {w : World} {b : Nat} {l : List Int} (h : Arr w b l) (h0 : 0 < l.length) : b < w.heap.size :=
  World.block_lt_of_cell? w _ (h.cell 0 h0)
theorem Arr.frozen {w : World} {b : Nat} {l : List Int} (h : Arr w b l) (i : Nat) (hi : i < l.length) : w.frozen? ⟨b, i, none⟩ = false := by
  simpa using (h.free i hi).2
theorem Arr.of_same {w w' : World} {b : Nat} {l : List Int} (h : Arr w b l) (hc : ∀ o, w'.cell? ⟨b, o, none⟩ = w.cell? ⟨b, o, none⟩) (hf : ∀ o, w'.frozen? ⟨b, o, none⟩ = w.frozen? ⟨b, o, none⟩) : Arr w' b l :=
  ⟨fun j v hv => by rw [hc]; exact h.lies j v hv, fun j hj => by rw [hc, hf]; exact h.free j hj⟩
theorem Arr.below {w w' : World} {b n : Nat} {l : List Int} (h : Arr w b l) (hb : Below n w w') (hn : b < n) : Arr w' b l :=
  h.of_same (fun o => hb.cell (p := ⟨b, o, none⟩) hn) (fun o => hb.frozen (p := ⟨b, o, none⟩) hn)
theorem Arr.drew {w : World} {b : Nat} {l : List Int} (h : Arr w b l) : Arr w.drew b l :=
  h.of_same (fun o => by simp) (fun o => by simp)
theorem Arr.drewN {w : World} {b : Nat} {l : List Int} (h : Arr w b l) (n : Nat) : Arr (w.drewN n) b l :=
  h.of_same (fun o => by simp) (fun o => by simp)
theorem Arr.set {w : World} {b : Nat} {l : List Int} (h : Arr w b l) (i : Nat) (v : Int) (hi : i < l.length) : Arr (w.setCell ⟨b, i, none⟩ (.int .u32 v)) b (l.set i v) := by
  refine ⟨fun j u hu => ?_, fun j hj => ?_⟩
  · unfold U at hu
    rw [List.getElem?_map] at hu
    by_cases hji : i = j
    · subst hji
      rw [List.getElem?_set_self hi] at hu
      simp only [Option.map_some, Option.some.injEq] at hu
      subst hu
      rw [Nat.zero_add, World.cell?_setCell_same _ _ _ (h.cell i hi)]
    · rw [List.getElem?_set_ne hji] at hu
      rw [Nat.zero_add, World.cell?_setCell_other _ _ _ _ (by simp [hji])]
      have := h.lies j u (by unfold U; rw [List.getElem?_map]; exact hu)
      simpa using this
  · rw [List.length_set] at hj
    rw [World.frozen?_setCell, Nat.zero_add]
    refine ⟨?_, h.frozen j hj⟩
    by_cases hji : i = j
    · subst hji
      rw [World.cell?_setCell_same _ _ _ (h.cell i hi)]; rfl
    · rw [World.cell?_setCell_other _ _ _ _ (by simp [hji]), h.cell j hj]; rfl
theorem Arr.apart {w : World} {b : Nat} {l : List Int} (h : Arr w b l) (p : Addr) (v : Value) (hb : p.block ≠ b) : Arr (w.setCell p v) b l :=
  h.of_same (fun o => World.cell?_setCell_other _ _ _ _ (by intro e; exact hb (by rw [e]))) (fun o => World.frozen?_setCell _ _ _ _)
theorem Arr.store {w : World} {b : Nat} {l : List Int} (h : Arr w b l) (l' : List Int) (hl : l'.length = l.length) : Arr (w.setCells b 0 (U l')) b l' :=
  ⟨World.rangeAt_setCells_same _ _ _ _ (by rw [U_length, hl]; exact h.free), by rw [hl]; exact World.there_setCells h.free _ _ _⟩
theorem Arr.store_apart {w : World} {b : Nat} {l : List Int} (h : Arr w b l) (b' : Nat) (vs : List Value) (hb : b ≠ b') : Arr (w.setCells b' 0 vs) b l :=
  ⟨World.rangeAt_setCells_apart h.lies _ _ _ (Or.inl hb), World.there_setCells h.free _ _ _⟩
theorem below_setCells {n : Nat} {w0 : World} (b : Nat) (hn : n ≤ b) : ∀ (vs : List Value) (o : Nat) (w : World), Below n w0 w → Below n w0 (w.setCells b o vs) := by
  intro vs
  induction vs with
  | nil => intro o w h; exact h
  | cons v r ih => intro o w h; exact ih (o + 1) _ (h.setCell (by simpa using hn) _)
theorem all_one (l : List Int) : (U l).toArray.all (·.oneCell') = true :=
  all_oneCell_toArray (fun v hv => by
    obtain ⟨x, _, rfl⟩ := List.mem_map.1 hv
    rfl)
section
variable {ops : Array Oper} {rest : List Oper} {op : Oper} {a : Act} {W : World} {Q : Exit → Act → World → Prop}
theorem arr_new {t : TypeId} (w : World) (l : List Int) : Below w.heap.size w (w.alloc (.cells (U l).toArray t)) ∧ Arr (w.alloc (.cells (U l).toArray t)) w.heap.size l := by
  have hb : (w.alloc (.cells (U l).toArray t)).heap[w.heap.size]? = some (.cells (U l).toArray t (0, 0)) := heap_alloc_last w _
  refine ⟨(Below.refl _ _).alloc (Nat.le_refl _) _, ⟨?_, fun j hj => ⟨?_, ?_⟩⟩⟩
  · have := World.rangeAt_of_block hb 0 (U l).length
    simpa using this
  · have := World.rangeAt_of_block hb 0 (U l).length j ((U l)[j]'(by rw [U_length]; exact hj)) (by simp [U_length, hj])
    rw [this]; rfl
  · rw [Nat.zero_add]; unfold World.frozen?; rw [hb]; simp
/-- What is told of a new array: its block, and that of what was there nothing has turned. -/
structure New (W W1 : World) (b : Nat) (l : List Int) : Prop where
  at_ : b = W.heap.size
  size : W1.heap.size = b + 1
  below : Below W.heap.size W W1
  arr : Arr W1 b l
theorem arr_alloc (hgd : op.guard = none) (t : TypeId) (Z : List Int) (ho : op.op = .alloc t) (hz : ∀ w, (zeroValue t).run P w = .ok (.agg (U Z).toArray) w)
    (h : ∀ W1 b, New W W1 b Z → wpList P ops Q rest (a.put op.dst (.pointer (some ⟨b, 0, none⟩))) W1) : wpList P ops Q (op :: rest) a W :=
  wpList_plain hgd fun K hK => by
    obtain ⟨h1, h2⟩ := arr_new (t := t) W Z
    have := hK _ _ (h _ _ ⟨rfl, by show (W.heap.push _).size = _; simp, h1, h2⟩)
    unfold Oper.wp execOp
    simp [ho, Instr.alloc, newVar, hz, Value.cells, Oper.upon]
    exact this
theorem arr_box (hgd : op.guard = none) (t : TypeId) (x : Operand) (l : List Int) (ho : op.op = .box t x) (hx : a.eval x = .agg (U l).toArray)
    (h : ∀ W1 b, New W W1 b l → wpList P ops Q rest (a.put op.dst (.pointer (some ⟨b, 0, none⟩))) W1) : wpList P ops Q (op :: rest) a W :=
  wpList_plain hgd fun K hK => by
    obtain ⟨h1, h2⟩ := arr_new (t := t) W l
    have := hK _ _ (h _ _ ⟨rfl, by show (W.heap.push _).size = _; simp, h1, h2⟩)
    unfold Oper.wp execOp
    simp [ho, hx, Instr.box, newVar, Value.cells, Oper.upon]
    exact this
theorem arr_value (hgd : op.guard = none) (v : Value) (hr : ∀ w, (execOp a.eval op).run P w = .ok (.value v) w)
    (h : wpList P ops Q rest (a.put op.dst v) W) : wpList P ops Q (op :: rest) a W :=
  wpList_plain hgd fun K hK => by
    have := hK _ _ h
    unfold Oper.wp
    rw [hr, Oper.upon_value]
    exact this
theorem size_setCells (b : Nat) : ∀ (vs : List Value) (o : Nat) (w : World), (w.setCells b o vs).heap.size = w.heap.size := by
  intro vs
  induction vs with
  | nil => intro o w; rfl
  | cons v r ih => intro o w; rw [World.setCells, ih]; simp
/-- What is told of a world in which block b has been written. -/
structure Put (W W1 : World) (b : Nat) (l : List Int) : Prop where
  size : W1.heap.size = W.heap.size
  below : ∀ n w0, n ≤ b → Below n w0 W → Below n w0 W1
  apart : ∀ b' l', b' ≠ b → Arr W b' l' → Arr W1 b' l'
  arr : Arr W1 b l
theorem put_cells {W : World} {b : Nat} {l : List Int} (hA : Arr W b l) (l' : List Int) (hl : l'.length = l.length) : Put W (W.setCells b 0 (U l')) b l' :=
  ⟨size_setCells _ _ _ _, fun n w0 hn hb => below_setCells b hn _ _ _ hb, fun b' l' hne h => h.store_apart b _ hne, hA.store l' hl⟩
theorem put_cell {W : World} {b : Nat} {l : List Int} (hA : Arr W b l) (i : Nat) (v : Int) (hi : i < l.length) : Put W (W.setCell ⟨b, i, none⟩ (.int .u32 v)) b (l.set i v) :=
  ⟨by simp, fun n w0 hn hb => hb.setCell (by simpa using hn) _, fun b' l' hne h => h.apart _ _ (fun e => hne e.symm), hA.set i v hi⟩
theorem arr_store (hgd : op.guard = none) (t : TypeId) (n : Nat) (x y : Operand) (b : Nat) (l l' : List Int) (ho : op.op = .store t x y) (hx : a.eval x = .pointer (some ⟨b, 0, none⟩)) (hy : a.eval y = .agg (U l').toArray)
    (hA : Arr W b l) (hi : (P.info? t).map (·.size) = some n) (hl : l.length = n) (hn : l'.length = n)
    (h : ∀ W1, Put W W1 b l' → wpList P ops Q rest (a.put op.dst undef) W1) : wpList P ops Q (op :: rest) a W := by
  have hs : (U l').toArray.size = n := by simp [U_length, hn]
  refine wpList_store_mid hgd t x y ho b 0 (U l').toArray hx hy ?_ (by rw [hs]; exact hi) (all_one l') ?_
  · rw [hs, ← hl]; exact hA.free
  · have := h _ (put_cells hA l' (hn.trans hl.symm))
    simpa using this
theorem arr_put (hgd : op.guard = none) (t : TypeId) (x y : Operand) (b i : Nat) (l : List Int) (v : Int) (ho : op.op = .store t x y) (hx : a.eval x = .pointer (some ⟨b, i, none⟩)) (hy : a.eval y = .int .u32 v)
    (hz : ∀ w, (sizeOf t).run P w = .ok 1 w) (hA : Arr W b l) (hi : i < l.length)
    (h : ∀ W1, Put W W1 b (l.set i v) → wpList P ops Q rest (a.put op.dst undef) W1) : wpList P ops Q (op :: rest) a W :=
  wpList_plain hgd fun K hK => by
    have := hK _ _ (h _ (put_cell hA i v hi))
    have hc := hA.cell i hi
    have hf := hA.frozen i hi
    have hs := run_storeCells_cells (P := P) b i [Value.int .u32 v] 0 W (fun j hj => by
      obtain rfl : j = 0 := by simpa using hj
      simp [hc]) (fun j hj => by
      obtain rfl : j = 0 := by simpa using hj
      simpa using hf) (fun u hu => by
      obtain rfl : u = Value.int .u32 v := by simpa using hu
      rfl)
    have hrun : (storeVar t ⟨b, i, none⟩ (.int .u32 v)).run P W = .ok () (W.setCell ⟨b, i, none⟩ (.int .u32 v)) := by
      simpa [storeVar, hz, Value.cells, World.setCells] using hs
    unfold Oper.wp execOp
    simp only [ho, hx, hy, Instr.storeAt, Instr.sureAddr, Sem.run_bind, Sem.run_pure, Result.andThen_ok, hrun]
    exact this
theorem Arr.loadVar {w : World} {b : Nat} {l : List Int} (h : Arr w b l) (t : TypeId) (n : Nat) (e : TypeId) (hu : P.underlying t = some (.array n e)) (hi : (P.info? t).map (·.size) = some n) (hn : l.length = n) :
    (Go.loadVar t ⟨b, 0, none⟩).run P w = .ok (.agg (U l).toArray) w :=
  run_loadVar_mid w b 0 t (U l) _ h.lies hu rfl (by rw [U_length, hn]; exact hi)
theorem results_arr {fn : Func} {p : Tmp} {t : TypeId} {w : World} {b : Nat} {l : List Int} (hr : fn.results = #[.cell p t]) (tmps : Array Value) (hp : tmps.getD p undef = .pointer (some ⟨b, 0, none⟩)) (h : Arr w b l) (n : Nat) (e : TypeId)
    (hu : P.underlying t = some (.array n e)) (hi : (P.info? t).map (·.size) = some n) (hn : l.length = n) : (results fn tmps).run P w = .ok (.agg (U l).toArray) w := by
  have hp' : tmps[p]?.getD undef = .pointer (some ⟨b, 0, none⟩) := by simpa using hp
  simp [results, hr, hp', asAddr, h.loadVar (P := P) t n e hu hi hn]
theorem arr_load (hgd : op.guard = none) (t : TypeId) (n : Nat) (e : TypeId) (x : Operand) (b : Nat) (l : List Int) (ho : op.op = .load t x) (hx : a.eval x = .pointer (some ⟨b, 0, none⟩))
    (hA : Arr W b l) (hu : P.underlying t = some (.array n e)) (hi : (P.info? t).map (·.size) = some n) (hn : l.length = n)
    (h : wpList P ops Q rest (a.put op.dst (.agg (U l).toArray)) W) : wpList P ops Q (op :: rest) a W :=
  wpList_load_mid hgd t x ho b 0 hx (U l) _ hA.lies hu rfl (by rw [U_length, hn]; exact hi) h
theorem alloc_step {Kc : Act → World → Prop} (hw : Region.wanted op (yielded ops a.tmps) = true) (t : TypeId) (Z : List Int) (ho : op.op = .alloc t) (hz : ∀ w, (zeroValue t).run P w = .ok (.agg (U Z).toArray) w)
    (h : ∀ W1 b, New W W1 b Z → Kc (a.put op.dst (.pointer (some ⟨b, 0, none⟩))) W1) : if Region.wanted op (yielded ops a.tmps) = true then Oper.wp P op a W Kc Q else Kc (a.put op.dst undef) W := by
  obtain ⟨h1, h2⟩ := arr_new (t := t) W Z
  refine event_step hw (w1 := W.alloc (.cells (U Z).toArray t)) (v := .pointer (some ⟨W.heap.size, 0, none⟩)) ?_ (h (W.alloc (.cells (U Z).toArray t)) W.heap.size ⟨rfl, (by show (W.heap.push _).size = _; simp), h1, h2⟩)
  unfold execOp
  simp [ho, Instr.alloc, newVar, hz, Value.cells]
  rfl
theorem store_step {Kc : Act → World → Prop} (hw : Region.wanted op (yielded ops a.tmps) = true) (t : TypeId) (n : Nat) (x y : Operand) (b : Nat) (l l' : List Int) (ho : op.op = .store t x y) (hx : a.eval x = .pointer (some ⟨b, 0, none⟩)) (hy : a.eval y = .agg (U l').toArray)
    (hA : Arr W b l) (hi : (P.info? t).map (·.size) = some n) (hl : l.length = n) (hn : l'.length = n)
    (h : ∀ W1, Put W W1 b l' → Kc (a.put op.dst undef) W1) : if Region.wanted op (yielded ops a.tmps) = true then Oper.wp P op a W Kc Q else Kc (a.put op.dst undef) W := by
  rw [if_pos hw]
  have hs : (U l').toArray.size = n := by simp [U_length, hn]
  refine wp_store_mid t x y ho b 0 (U l').toArray hx hy ?_ (by rw [hs]; exact hi) (all_one l') ?_
  · rw [hs, ← hl]; exact hA.free
  · have := h _ (put_cells hA l' (hn.trans hl.symm))
    simpa using this
end
end Go.Proofs.Ytjkdmegpjdfcaaa.HashW
