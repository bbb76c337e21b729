/- Written by a program (a session's own form of the print): plain functions with the answers of the Go functions, and the walks that show it. Lean checks it. -/
import Derived.Test.YtbkgjjiceldjeaaMFnExactStateRecordsPx0
namespace Go.Proofs.Ytbkgjjiceldjeaa.PFnExactStateRecords
open Go.RowKit Go.Proofs.YtbkgjjiceldjeaaW.PrintWords Go.Proofs.YtbkgjjiceldjeaaW.PrintLast Go.Proofs.YtbkgjjiceldjeaaW.PrintMore
attribute [local go_sem] max2_int min2_int max_two min_two max_three min_three max_four min_four   -- for this text's walks alone
set_option linter.unusedVariables false
set_option linter.unusedSimpArgs false

/-! ### spec_l02Four: function 111 -/
def spec_l02Four.f (a0 : Int) : Option (List Int) := some (([(a0 / 16777216) % 256, (a0 / 65536) % 256, (a0 / 256) % 256, (a0) % 256] : List Int))
set_option maxHeartbeats 8000000 in
set_option maxRecDepth 100000 in
theorem spec_l02Four.calls (a0 : Int) (r : List Int) (w : World) (h : spec_l02Four.f a0 = some r) :
  Calls Try.prog 111 #[.int .i64 a0] w fun e w' => ∃ v0_ : Value, e = .returned (v0_) ∧ Kd.R (Kd.int .u8) 5 w' w.heap.size (fun _ => True) v0_ r ∧ Below w.heap.size w w' := by
 have HB := Aside0.mk (Below.refl w.heap.size w)
 have H : (some (([(a0 / 16777216) % 256, (a0 / 65536) % 256, (a0 / 256) % 256, (a0) % 256] : List Int))) = some r := h
 clear h
 obtain ⟨y170, hy170⟩ : ∃ y_ : List Int, y_ = (([(a0 / 16777216) % 256, (a0 / 65536) % 256, (a0 / 256) % 256, (a0) % 256] : List Int)) := ⟨_, rfl⟩
 replace H : (some y170) = some r := by first | (rw [hy170]; with_reducible exact H) | (have H2_ := (Option.bind_some _ _).symm.trans H; rw [hy170]; with_reducible exact H2_) | (have H2_ := (Option.bind_some _ _).symm.trans H; with_reducible exact H2_) | with_reducible exact H | (rw [hy170]; exact H) | exact H
 have Ny170 := Aside0.mk hy170
 clear hy170
 obtain rfl := Option.some.inj H
 go_enter Try.func111, Try.ntmps111
 go_wp2_with (first | ((with_reducible refine gate_dst (N := 14) rfl ?_); refine Kd.R_lit (Kd.int .u8) _ 5 ?hg (N := 14) ?hd (xs := ([(a0 / 16777216) % 256, (a0 / 65536) % 256, (a0 / 256) % 256, (a0) % 256] : List Int)) (inner := [.int .u8 ((a0 / 16777216) % 256), .int .u8 ((a0 / 65536) % 256), .int .u8 ((a0 / 256) % 256), .int .u8 ((a0) % 256)]) (ok := fun _ => True) (okp := fun _ => True) ?hr ?hp (fun _ hk => hk) trivial (Below.refl _ _) (Nat.le_refl _) (by simp) ?_; (case hd => rfl); (case hg => rfl); (case hr => first | (go_simp; done) | (go_simp; rfl)); (case hp => exact (Reps.one (show Kd.M (Kd.int .u8) _ _ _ ((a0 / 16777216) % 256) [.int .u8 ((a0 / 16777216) % 256)] from rfl) (Reps.one (show Kd.M (Kd.int .u8) _ _ _ ((a0 / 65536) % 256) [.int .u8 ((a0 / 65536) % 256)] from rfl) (Reps.one (show Kd.M (Kd.int .u8) _ _ _ ((a0 / 256) % 256) [.int .u8 ((a0 / 256) % 256)] from rfl) (Reps.one (show Kd.M (Kd.int .u8) _ _ _ ((a0) % 256) [.int .u8 ((a0) % 256)] from rfl) (Reps.none _ _)))))); intro v171 w2 ho3 hb hg_ hnew_; clear hg_ hnew_; (first | rw [← Ny170.out] at ho3 | (simp only [Int.reduceToNat] at ho3; rw [← Ny170.out] at ho3)); have n0_ := Aside0.mk (Kd.R_lower ho3 (below_size (by repeat (first | (with_reducible first | exact HB.out | apply below_alloc | apply pw_below_drewN | apply below_drew1) | exact HB.out)))); have n1_ := Aside0.mk (below_step (by repeat (first | (with_reducible first | exact HB.out | apply below_alloc | apply pw_below_drewN | apply below_drew1) | exact HB.out)) hb); clear HB; have HO172 := n0_; have HB := n1_; clear n0_ n1_; clear hb ho3))
 go_ret
 exact ⟨_, by first | rfl | (simp [errW_none, errW_some] <;> rfl) | (simp [*, errW_none, errW_some] <;> rfl), by (with_reducible repeat (first | apply Kd.R_alloc | apply Kd.R_drewN | apply Kd.R_drew)); exact HO172.out, by repeat (first | (with_reducible first | exact HB.out | apply below_alloc | apply pw_below_drewN | apply below_drew1) | exact HB.out)⟩

/-! ### spec_l02EntryBytes: function 79: by hand -/
theorem spec_l02EntryBytes.reads_of {w : World} {base g n c : Nat} {e : TypeId} {xs : List Int} (h : w.ownsRow base e 1 (.slice (some ⟨g, 0, none⟩) n c) n (nums .u8 xs)) : ReadsInt w .u8 (some ⟨g, 0, none⟩) n xs := by
 obtain ⟨A, c', e', hr⟩ := own_reads h
 cases e'
 exact hr
theorem spec_l02EntryBytes.cells_of {w W : World} {b n : Nat} {a0 a1 : Int} {a2 : ByteArray} (h : w.cell? ⟨b, 0, none⟩ = some (.int .i64 a0) ∧ w.cell? ⟨b, 1, none⟩ = some (.int .i64 a1) ∧ w.cell? ⟨b, 2, none⟩ = some (.string a2)) (hb : Below n w W) (hn : b < n) :
  W.cell? ⟨b, 0, none⟩ = some (.int .i64 a0) ∧ W.cell? ⟨b, 1, none⟩ = some (.int .i64 a1) ∧ W.cell? ⟨b, 2, none⟩ = some (.string a2) :=
 ⟨(hb.cell (p := ⟨b, 0, none⟩) hn).trans h.1, (hb.cell (p := ⟨b, 1, none⟩) hn).trans h.2.1, (hb.cell (p := ⟨b, 2, none⟩) hn).trans h.2.2⟩
def spec_l02EntryBytes.f (a0 a1 : Int) (a2 : ByteArray) : Option (List Int) := if a2.size ≤ 1099511627776 then (spec_l02Four.f a0).bind fun t => some ((t ++ [IntKind.u8.wrap a1, IntKind.u8.wrap (a2.size : Int)]) ++ bytesOf a2) else none
set_option maxHeartbeats 1000000 in
set_option maxRecDepth 100000 in
theorem spec_l02EntryBytes.calls (a0_0 : Int) (a0_1 : Int) (a0_2 : ByteArray) (r : List Int) (w : World) (h : spec_l02EntryBytes.f a0_0 a0_1 a0_2 = some r) :
  Calls Try.prog 79 #[.agg #[.int .i64 a0_0, .int .i64 a0_1, .string a0_2]] w fun e w' => ∃ v0_ : Value, e = .returned (v0_) ∧ Kd.R (Kd.int .u8) 5 w' w.heap.size (fun _ => True) v0_ r ∧ Below w.heap.size w w' := by
 have hu49 := Try.underlying49
 unfold spec_l02EntryBytes.f at h
 split at h
 ·rename_i hs
  replace h := Option.bind_eq_some_iff.mp h
  obtain ⟨t, ht, h⟩ := h
  obtain rfl := Option.some.inj h
  clear h
  have HT := Aside0.mk ht
  have HS := Aside0.mk hs
  have HTL : Aside0 (t.length = 4) := ⟨by unfold spec_l02Four.f at ht; obtain rfl := Option.some.inj ht; rfl⟩
  clear ht hs
  go_enter Try.func79, Try.ntmps79
  go_wp2_with fail
  obtain ⟨W0, hW0⟩ : ∃ W0, W0 = w.alloc (.cells #[.int .i64 a0_0, .int .i64 a0_1, .string a0_2] 49) := ⟨_, rfl⟩
  have HB0 : Aside0 (Below w.heap.size w W0.drew ∧ w.heap.size < W0.drew.heap.size) := ⟨by rw [hW0]; exact below_drew (below_alloc (Below.refl _ _) _), by rw [hW0]; show _ < (w.heap.push _).size; simp⟩
  have hS0 : W0.drew.cell? ⟨w.heap.size, 0, none⟩ = some (.int .i64 a0_0) ∧ W0.drew.cell? ⟨w.heap.size, 1, none⟩ = some (.int .i64 a0_1) ∧ W0.drew.cell? ⟨w.heap.size, 2, none⟩ = some (.string a0_2) := by
   rw [hW0]
   have hb : (w.alloc (.cells #[.int .i64 a0_0, .int .i64 a0_1, .string a0_2] 49)).drew.heap[w.heap.size]? = some (.cells #[.int .i64 a0_0, .int .i64 a0_1, .string a0_2] 49) := heap_alloc_new w _
   simp only [World.cell?, hb]
   exact ⟨rfl, rfl, rfl⟩
  rw [← hW0]
  clear hW0
  refine start_ (S := fun w' => w'.cell? ⟨w.heap.size, 0, none⟩ = some (.int .i64 a0_0) ∧ w'.cell? ⟨w.heap.size, 1, none⟩ = some (.int .i64 a0_1) ∧ w'.cell? ⟨w.heap.size, 2, none⟩ = some (.string a0_2)) (ds := []) #[F,F,F,F,F,F,F,F,F,F,F,F,F] (by kernel_rfl) rfl rfl hS0 ?_
  intro hS
  clear hS0
  generalize hw7 : World.drew W0 = w7 at HB0 hS ⊢
  clear hw7
  refine pure_ (i := 0) (N := some 4) (v := ?_) (a' := ?_) #[T,F,F,F,F,F,F,F,F,F,F,F,F] rfl rfl (by kernel_rfl) (fun _ _ _ h => h) (Or.inl ⟨by rfl, ?_⟩) ?_ ?_
  rotate_left
  ·intro w'
   go_simp
   with_reducible rfl
  rotate_left
  ·simp only [Act.put, List.setIfInBounds_toArray, List.set_cons_zero, List.set_cons_succ]
   rfl
  refine take_ (i := 1) (N := some 5) (v := ?_) (a' := ?_) #[T,T,F,F,F,F,F,F,F,F,F,F,F] rfl rfl (by kernel_rfl) (fun _ _ _ h => h) (Or.inl ⟨by rfl, ?_⟩) hS ?_ ?_
  rotate_left
  ·intro w' hw'
   obtain ⟨k0, k1, k2⟩ := hw'
   go_simp
   with_reducible rfl
  rotate_left
  ·simp only [Act.put, List.setIfInBounds_toArray, List.set_cons_zero, List.set_cons_succ]
   rfl
  refine pure_ (i := 3) (N := some 7) (v := ?_) (a' := ?_) #[T,T,F,T,F,F,F,F,F,F,F,F,F] rfl rfl (by kernel_rfl) (fun _ _ _ h => h) (Or.inl ⟨by rfl, ?_⟩) ?_ ?_
  rotate_left
  ·intro w'
   go_simp
   with_reducible rfl
  rotate_left
  ·simp only [Act.put, List.setIfInBounds_toArray, List.set_cons_zero, List.set_cons_succ]
   rfl
  refine take_ (i := 4) (N := some 8) (v := ?_) (a' := ?_) #[T,T,F,T,T,F,F,F,F,F,F,F,F] rfl rfl (by kernel_rfl) (fun _ _ _ h => h) (Or.inl ⟨by rfl, ?_⟩) hS ?_ ?_
  rotate_left
  ·intro w' hw'
   obtain ⟨k0, k1, k2⟩ := hw'
   go_simp
   with_reducible rfl
  rotate_left
  ·simp only [Act.put, List.setIfInBounds_toArray, List.set_cons_zero, List.set_cons_succ]
   rfl
  refine pure_ (i := 5) (N := some 9) (v := ?_) (a' := ?_) #[T,T,F,T,T,T,F,F,F,F,F,F,F] rfl rfl (by kernel_rfl) (fun _ _ _ h => h) (Or.inl ⟨by rfl, ?_⟩) ?_ ?_
  rotate_left
  ·intro w'
   go_simp
   with_reducible rfl
  rotate_left
  ·simp only [Act.put, List.setIfInBounds_toArray, List.set_cons_zero, List.set_cons_succ]
   rfl
  refine pure_ (i := 6) (N := some 10) (v := ?_) (a' := ?_) #[T,T,F,T,T,T,T,F,F,F,F,F,F] rfl rfl (by kernel_rfl) (fun _ _ _ h => h) (Or.inl ⟨by rfl, ?_⟩) ?_ ?_
  rotate_left
  ·intro w'
   go_simp
   with_reducible rfl
  rotate_left
  ·simp only [Act.put, List.setIfInBounds_toArray, List.set_cons_zero, List.set_cons_succ]
   rfl
  refine take_ (i := 7) (N := some 11) (v := ?_) (a' := ?_) #[T,T,F,T,T,T,T,T,F,F,F,F,F] rfl rfl (by kernel_rfl) (fun _ _ _ h => h) (Or.inl ⟨by rfl, ?_⟩) hS ?_ ?_
  rotate_left
  ·intro w' hw'
   obtain ⟨k0, k1, k2⟩ := hw'
   go_simp
   with_reducible rfl
  rotate_left
  ·simp only [Act.put, List.setIfInBounds_toArray, List.set_cons_zero, List.set_cons_succ]
   rfl
  refine pure_ (i := 8) (N := some 12) (v := ?_) (a' := ?_) #[T,T,F,T,T,T,T,T,T,F,F,F,F] rfl rfl (by kernel_rfl) (fun _ _ _ h => h) (Or.inl ⟨by rfl, ?_⟩) ?_ ?_
  rotate_left
  ·intro w'
   go_simp
   with_reducible rfl
  rotate_left
  ·simp only [Act.put, List.setIfInBounds_toArray, List.set_cons_zero, List.set_cons_succ]
   rfl
  refine pure_ (i := 9) (N := some 13) (v := ?_) (a' := ?_) #[T,T,F,T,T,T,T,T,T,T,F,F,F] rfl rfl (by kernel_rfl) (fun _ _ _ h => h) (Or.inl ⟨by rfl, ?_⟩) ?_ ?_
  rotate_left
  ·intro w'
   go_simp
   with_reducible rfl
  rotate_left
  ·simp only [Act.put, List.setIfInBounds_toArray, List.set_cons_zero, List.set_cons_succ]
   rfl
  refine join_ (σ := Value × Nat) 2 #[T,T,T,T,T,T,T,T,T,T,T,F,F] (fun p => [(6, p.1), (14, .slice (some ⟨p.2, 0, none⟩) 2 2)]) (fun p w' => (w'.cell? ⟨w.heap.size, 0, none⟩ = some (.int .i64 a0_0) ∧ w'.cell? ⟨w.heap.size, 1, none⟩ = some (.int .i64 a0_1) ∧ w'.cell? ⟨w.heap.size, 2, none⟩ = some (.string a0_2)) ∧ Kd.R (Kd.int .u8) 5 w' (w.heap.size + 1) (fun _ => True) p.1 t ∧ Kd.C (Kd.int .u8) w' (some ⟨p.2, 0, none⟩) 2 [IntKind.u8.wrap a0_1, IntKind.u8.wrap (a0_2.size : Int)] ∧ Below w.heap.size w w' ∧ w.heap.size < w'.heap.size) ?_ ?_
  rotate_left
  ·intro Hc
   refine two_ (i := 2) (j := 10) (Ni := some 6) (Nj := some 14) #[T,T,T,T,T,T,T,T,T,T,F,F,F] #[T,T,F,T,T,T,T,T,T,T,T,F,F] rfl rfl rfl rfl (by kernel_rfl) (by decide) (by decide) (fun K hK => ?_) (fun K hK => ?_)
   ·skip
    refine goes_ Try.func111 (by kernel_rfl) rfl #[.int .i64 a0_0] (by rfl) rfl rfl (by (try simp only [List.map_toArray, List.map_cons, List.map_nil]); first | done | rfl) ?_
    refine (spec_l02Four.calls a0_0 t _ HT.out).mono ?_
    rintro e W8 ⟨v6, rfl, ho6, hb6⟩
    refine ⟨_, rfl, ?_⟩
    have hs8 := spec_l02EntryBytes.cells_of hS hb6 HB0.out.2
    refine hK.out _ _ hs8 (fun S8 => ?_)
    clear hK K
    refine norm_ (a' := ?_) ?_ ?_
    rotate_left
    ·show Act.put _ (some 6) _ = _
     simp only [Act.put, List.setIfInBounds_toArray, List.set_cons_zero, List.set_cons_succ]
     rfl
    refine one_ (i := 10) (N := some 14) #[T,T,T,T,T,T,T,T,T,T,T,F,F] rfl rfl (by kernel_rfl) (by decide) (fun K hK => ?_)
    refine event_step (by rfl) (w1 := W8.alloc (.cells (nums .u8 [IntKind.u8.wrap a0_1, IntKind.u8.wrap (a0_2.size : Int)]).toArray 5)) (v := .slice (some ⟨W8.heap.size, 0, none⟩) 2 2) (by first | (go_simp; done) | (go_simp; rfl)) ?_
    have hrx : Kd.C (Kd.int .u8) _ _ _ _ := Kd.C_of_reads (d := (0 : Int)) (spec_l02EntryBytes.reads_of (own_lit W8 0 5 .u8 [IntKind.u8.wrap a0_1, IntKind.u8.wrap (a0_2.size : Int)] (Nat.zero_le _) (by simp)))
    have hbx := below_alloc (Below.refl W8.heap.size W8) (.cells (nums .u8 [IntKind.u8.wrap a0_1, IntKind.u8.wrap (a0_2.size : Int)]).toArray 5)
    generalize hgb : W8.heap.size = gb at hrx ⊢
    generalize W8.alloc (.cells (nums .u8 [IntKind.u8.wrap a0_1, IntKind.u8.wrap (a0_2.size : Int)]).toArray 5) = W9 at hrx hbx ⊢
    have hs9 := spec_l02EntryBytes.cells_of hs8 hbx (Nat.lt_of_lt_of_le HB0.out.2 hb6.size)
    refine hK.out _ _ hs9 (fun S9 => ?_)
    clear hK K
    refine norm_ (a' := ?_) ?_ ?_
    rotate_left
    ·show Act.put _ (some 14) _ = _
     simp only [Act.put, List.setIfInBounds_toArray, List.set_cons_zero, List.set_cons_succ]
     rfl
    exact norm_ (by simp only [putAll, Act.put, List.setIfInBounds_toArray, List.set_cons_zero, List.set_cons_succ]) (Hc (v6, gb) W9 ⟨hs9, Kd.R_below (Kd.R_lower ho6 HB0.out.2) hbx, hrx, (HB0.out.1.trans (hb6.mono (Nat.le_of_lt HB0.out.2))).trans (hbx.mono (Nat.le_trans (Nat.le_of_lt HB0.out.2) hb6.size)), Nat.lt_of_lt_of_le (Nat.lt_of_lt_of_le HB0.out.2 hb6.size) hbx.size⟩)
   ·skip
    refine event_step (by rfl) (w1 := w7.alloc (.cells (nums .u8 [IntKind.u8.wrap a0_1, IntKind.u8.wrap (a0_2.size : Int)]).toArray 5)) (v := .slice (some ⟨w7.heap.size, 0, none⟩) 2 2) (by first | (go_simp; done) | (go_simp; rfl)) ?_
    have hrx : Kd.C (Kd.int .u8) _ _ _ _ := Kd.C_of_reads (d := (0 : Int)) (spec_l02EntryBytes.reads_of (own_lit w7 0 5 .u8 [IntKind.u8.wrap a0_1, IntKind.u8.wrap (a0_2.size : Int)] (Nat.zero_le _) (by simp)))
    have hbx := below_alloc (Below.refl w7.heap.size w7) (.cells (nums .u8 [IntKind.u8.wrap a0_1, IntKind.u8.wrap (a0_2.size : Int)]).toArray 5)
    generalize hgb : w7.heap.size = gb at hrx ⊢
    generalize w7.alloc (.cells (nums .u8 [IntKind.u8.wrap a0_1, IntKind.u8.wrap (a0_2.size : Int)]).toArray 5) = W8 at hrx hbx ⊢
    have hs8 := spec_l02EntryBytes.cells_of hS hbx HB0.out.2
    refine hK.out _ _ hs8 (fun S8 => ?_)
    clear hK K
    refine norm_ (a' := ?_) ?_ ?_
    rotate_left
    ·show Act.put _ (some 14) _ = _
     simp only [Act.put, List.setIfInBounds_toArray, List.set_cons_zero, List.set_cons_succ]
     rfl
    refine one_ (i := 2) (N := some 6) #[T,T,T,T,T,T,T,T,T,T,T,F,F] rfl rfl (by kernel_rfl) (by decide) (fun K hK => ?_)
    refine goes_ Try.func111 (by kernel_rfl) rfl #[.int .i64 a0_0] (by rfl) rfl rfl (by (try simp only [List.map_toArray, List.map_cons, List.map_nil]); first | done | rfl) ?_
    refine (spec_l02Four.calls a0_0 t _ HT.out).mono ?_
    rintro e W9 ⟨v6, rfl, ho6, hb6⟩
    refine ⟨_, rfl, ?_⟩
    have hs9 := spec_l02EntryBytes.cells_of hs8 hb6 (Nat.lt_of_lt_of_le HB0.out.2 hbx.size)
    refine hK.out _ _ hs9 (fun S9 => ?_)
    clear hK K
    refine norm_ (a' := ?_) ?_ ?_
    rotate_left
    ·show Act.put _ (some 6) _ = _
     simp only [Act.put, List.setIfInBounds_toArray, List.set_cons_zero, List.set_cons_succ]
     rfl
    exact norm_ (by simp only [putAll, Act.put, List.setIfInBounds_toArray, List.set_cons_zero, List.set_cons_succ]) (Hc (v6, gb) W9 ⟨hs9, Kd.R_lower ho6 (Nat.le_trans HB0.out.2 hbx.size), Kd.C_below hrx hb6, (HB0.out.1.trans (hbx.mono (Nat.le_of_lt HB0.out.2))).trans (hb6.mono (Nat.le_trans (Nat.le_of_lt HB0.out.2) hbx.size)), Nat.lt_of_lt_of_le (Nat.lt_of_lt_of_le HB0.out.2 hbx.size) hb6.size⟩)
  rintro ⟨v6, gb⟩ V ⟨hS, ho6, hrx, hb6, hlt⟩
  simp only at ho6 hrx
  refine norm_ (a' := ?_) ?_ ?_
  rotate_left
  ·simp only [putAll, Act.put, List.setIfInBounds_toArray, List.set_cons_zero, List.set_cons_succ]
   rfl
  refine one_ (i := 11) (N := some 15) #[T,T,T,T,T,T,T,T,T,T,T,T,F] rfl rfl (by kernel_rfl) (by decide) (fun K hK => ?_)
  refine Kd.R_append_rows_step (Kd.int .u8) (w0 := V) (w.heap.size + 1) (by rfl) (.tmp 6) (.tmp 14) 28 5 (.int .u8 0) 1 rfl Try.underlying28 info5 rfl (by decide) (by omega) v6 t [IntKind.u8.wrap a0_1, IntKind.u8.wrap (a0_2.size : Int)] _ _ _ (fun _ => True) (fun _ => False) rfl rfl ho6 hrx (fun _ _ h => h) (fun _ h => h.elim) (fun _ _ => trivial) (Below.refl _ _) hlt (by have := HTL.out; omega) ?_
  intro v15 W9 ho9 hb9 hg9 hat9
  have hs9 : W9.cell? ⟨w.heap.size, 0, none⟩ = some (.int .i64 a0_0) ∧ W9.cell? ⟨w.heap.size, 1, none⟩ = some (.int .i64 a0_1) ∧ W9.cell? ⟨w.heap.size, 2, none⟩ = some (.string a0_2) := spec_l02EntryBytes.cells_of hS hb9 (Nat.lt_succ_self _)
  refine hK.out _ _ hs9 (fun S9 => ?_)
  clear hK K
  refine norm_ (a' := ?_) ?_ ?_
  rotate_left
  ·show Act.put _ (some 15) _ = _
   simp only [Act.put, List.setIfInBounds_toArray, List.set_cons_zero, List.set_cons_succ]
   rfl
  refine pure_ (i := 12) (N := some 3) (v := ?_) (a' := ?_) #[T,T,T,T,T,T,T,T,T,T,T,T,T] rfl rfl (by kernel_rfl) (fun _ _ _ h => h) (Or.inl ⟨by rfl, ?_⟩) ?_ ?_
  rotate_left
  ·intro w'
   go_simp
   with_reducible rfl
  rotate_left
  ·simp only [Act.put, List.setIfInBounds_toArray, List.set_cons_zero, List.set_cons_succ]
   rfl
  refine done_ (by kernel_rfl) ?_
  have HO9 := Aside0.mk (Kd.own_of_R (Kd.R_lower ho9 (Nat.le_succ w.heap.size)))
  have HB9 : Aside0 (Below w.heap.size w W9) := ⟨hb6.trans (hb9.mono (Nat.le_succ _))⟩
  obtain ⟨k0, k1, k2⟩ := hs9
  clear hS ho6 hrx hb6 hlt ho9 hb9 hg9 hat9 S9 k0 k1
  skip
  go_wp2_with ((with_reducible refine gate_builtin (b := .append) (xs := #[.tmp 16, .tmp 18]) rfl ?_); at_builtin; refine print_append_str (w0 := w) w.heap.size rfl (.tmp 16) (.tmp 18) 28 9 5 rfl Try.underlying28 Try.underlying9 info5 _ _ a0_2 rfl rfl HO9.out HB9.out HB9.out.size (by have := HTL.out; have := HS.out; simp; omega) ?_; intro v19 W10 ho10 hb10 hg10; have HO10 := Aside0.mk ho10; have HB10 := Aside0.mk hb10; clear ho10 hb10 hg10)
  go_ret
  exact ⟨_, rfl, Kd.R_of_own HO10.out (fun _ _ => trivial), HB10.out⟩
 ·cases h

end Go.Proofs.Ytbkgjjiceldjeaa.PFnExactStateRecords
