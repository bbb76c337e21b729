/- Written by a program (a session's own form of the print): plain functions with the answers of the Go functions, and the walks that show it. Lean checks it. -/
import Derived.Test.YtpdhfoegbannkaaDoorMFnExactWalSyncPx0
import Derived.Test.YtpdhfoegbannkaaDoorMFnExactWalSyncPx1
import Derived.Test.YtpdhfoegbannkaaDoorMFnExactWalSyncPx2
import Derived.Test.YtpdhfoegbannkaaDoorMFnExactWalSyncPx7
import Derived.Test.YtpdhfoegbannkaaDoorMFnExactWalSyncPx10
import Derived.Test.YtpdhfoegbannkaaDoorMFnExactWalSyncPx11
namespace Go.Proofs.YtpdhfoegbannkaaDoor.PFnExactWalSync
open Go.RowKit Go.Proofs.YtpdhfoegbannkaaDoorW.PrintWords Go.Proofs.YtpdhfoegbannkaaDoorW.PrintLast Go.Proofs.YtpdhfoegbannkaaDoorW.PrintMore
attribute [local go_sem] max2_int min2_int max_two min_two max_three min_three max_four min_four   -- for this text's walks alone
set_option linter.unusedVariables false
set_option linter.unusedSimpArgs false

/-! ### laws_FnExactWalSync: function 5 -/
mutual
def laws_FnExactWalSync.j0 : Nat → Int → Int → Bool → Int → List (S67) → Int → List (S69) → Int → List (S69) → Int → List (S69) → Option (Bool)
 | 0, _, _, _, _, _, _, _, _, _, _, _ => none
 | k + 1, x5, x8, x40, x269000, x269001, x280000, x280001, x285000, x285001, x291000, x291001 => if x40 = true then (some false) else ((laws_toDisk.f k x269000 x269001).bind fun bt292 => ((laws_eqDisk.f k x285000 x285001 bt292.1 bt292.2).bind fun t296 => (if t296 = true then ((laws_markDisk.f k x285000 x285001 1).bind fun bt297 => (if bt297.1 < 0 then (laws_FnExactWalSync.j1 k x5 true x269000 x269001 x280000 x280001 x291000 x291001) else ((laws_eqDisk.f k x291000 x291001 x280000 x280001).bind fun t299 => (if t299 = true then (laws_FnExactWalSync.j1 k x5 (x8 != x5) x269000 x269001 x280000 x280001 x291000 x291001) else (laws_FnExactWalSync.j1 k x5 true x269000 x269001 x280000 x280001 x291000 x291001))))) else (some false))))
def laws_FnExactWalSync.j1 : Nat → Int → Bool → Int → List (S67) → Int → List (S69) → Int → List (S69) → Option (Bool)
 | 0, _, _, _, _, _, _, _, _ => none
 | k + 1, x5, x61, x269000, x269001, x280000, x280001, x291000, x291001 => if x61 = true then (some false) else ((laws_markDisk.f k x291000 x291001 1).bind fun bt300 => ((laws_heldDisk.f k x291000 bt300.2 1).bind fun t302 => (if t302 < 0 then (some false) else (if t302 = bt300.1 then ((laws_toDisk.f k x269000 x269001).bind fun bt303 => ((impl_WalSync.f k bt303.1 bt303.2).bind fun bt307 => ((laws_eqDisk.f k bt307.1 bt307.2.1 x280000 x280001).bind fun t313 => (if t313 = true then (laws_FnExactWalSync.j2 k bt300.1 (bt307.2.2 != x5) x291000 bt300.2) else (laws_FnExactWalSync.j2 k bt300.1 true x291000 bt300.2))))) else (some false)))))
def laws_FnExactWalSync.j2 : Nat → Int → Bool → Int → List (S69) → Option (Bool)
 | 0, _, _, _, _ => none
 | k + 1, x10, x87, x291000, x291001 => if x87 = true then (some false) else ((laws_heldDisk.f k x291000 x291001 1).bind fun t314 => (if t314 < 0 then (some false) else (if t314 = x10 then (some true) else (some false))))
end
def laws_FnExactWalSync.f (k : Nat) (a0_0 : Int) (l0_1 : List (S67)) : Option (Bool) := (laws_szDisk.f k a0_0 l0_1 1048576).bind fun t269 => (if t269 < 0 then (some true) else ((laws_toDisk.f k a0_0 l0_1).bind fun bt270 => ((spec_WalSync.f k bt270.1 bt270.2).bind fun bt274 => ((laws_toDisk.f k a0_0 l0_1).bind fun bt280 => ((impl_WalSync.f k bt280.1 bt280.2).bind fun bt285 => ((laws_eqDisk.f k bt285.1 bt285.2.1 bt274.1 bt274.2.1).bind fun t291 => (if t291 = true then (laws_FnExactWalSync.j0 k bt274.2.2 bt285.2.2 (bt285.2.2 != bt274.2.2) a0_0 l0_1 bt274.1 bt274.2.1 bt280.1 bt280.2 bt285.1 bt285.2.1) else (laws_FnExactWalSync.j0 k bt274.2.2 bt285.2.2 true a0_0 l0_1 bt274.1 bt274.2.1 bt280.1 bt280.2 bt285.1 bt285.2.1))))))))
theorem laws_FnExactWalSync.mono_l : ∀ k, (∀ y0 y1 y2 y3 y4 y5 y6 y7 y8 y9 y10, LeO (laws_FnExactWalSync.j0 k y0 y1 y2 y3 y4 y5 y6 y7 y8 y9 y10) (laws_FnExactWalSync.j0 (k + 1) y0 y1 y2 y3 y4 y5 y6 y7 y8 y9 y10)) ∧ (∀ y0 y1 y2 y3 y4 y5 y6 y7, LeO (laws_FnExactWalSync.j1 k y0 y1 y2 y3 y4 y5 y6 y7) (laws_FnExactWalSync.j1 (k + 1) y0 y1 y2 y3 y4 y5 y6 y7)) ∧ (∀ y0 y1 y2 y3, LeO (laws_FnExactWalSync.j2 k y0 y1 y2 y3) (laws_FnExactWalSync.j2 (k + 1) y0 y1 y2 y3))
 | 0 => ⟨fun _ _ _ _ _ _ _ _ _ _ _ r h => by simp [laws_FnExactWalSync.j0] at h, fun _ _ _ _ _ _ _ _ r h => by simp [laws_FnExactWalSync.j1] at h, fun _ _ _ _ r h => by simp [laws_FnExactWalSync.j2] at h⟩
 | k + 1 => by
  obtain ⟨ih0, ih1, ih2⟩ := laws_FnExactWalSync.mono_l k
  refine ⟨?_, ?_, ?_⟩
  ·intro y0 y1 y2 y3 y4 y5 y6 y7 y8 y9 y10
   unfold laws_FnExactWalSync.j0
   repeat' first
   | (with_reducible exact ih0 _ _ _ _ _ _ _ _ _ _ _)
   | (with_reducible exact ih1 _ _ _ _ _ _ _ _)
   | (with_reducible exact ih2 _ _ _ _)
   | (with_reducible exact impl_WalSync.mono _ _ _)
   | (with_reducible exact laws_eqDisk.mono _ _ _ _ _)
   | (with_reducible exact laws_heldDisk.mono _ _ _ _)
   | (with_reducible exact laws_markDisk.mono _ _ _ _)
   | (with_reducible exact laws_szDisk.mono _ _ _ _)
   | (with_reducible exact laws_toDisk.mono _ _ _)
   | (with_reducible exact spec_WalSync.mono _ _ _)
   | (with_reducible exact LeO.refl _)
   | (with_reducible exact LeO.none _)
   | (with_reducible refine LeO.ite ?_ ?_)
   | (with_reducible refine LeO.bind ?_ (fun _ => ?_))
   | exact ih0 _ _ _ _ _ _ _ _ _ _ _
   | exact ih1 _ _ _ _ _ _ _ _
   | exact ih2 _ _ _ _
   | exact impl_WalSync.mono _ _ _
   | exact laws_eqDisk.mono _ _ _ _ _
   | exact laws_heldDisk.mono _ _ _ _
   | exact laws_markDisk.mono _ _ _ _
   | exact laws_szDisk.mono _ _ _ _
   | exact laws_toDisk.mono _ _ _
   | exact spec_WalSync.mono _ _ _
   | exact LeO.none _
   | refine LeO.ite ?_ ?_
   | refine LeO.bind ?_ (fun _ => ?_)
  ·intro y0 y1 y2 y3 y4 y5 y6 y7
   unfold laws_FnExactWalSync.j1
   repeat' first
   | (with_reducible exact ih0 _ _ _ _ _ _ _ _ _ _ _)
   | (with_reducible exact ih1 _ _ _ _ _ _ _ _)
   | (with_reducible exact ih2 _ _ _ _)
   | (with_reducible exact impl_WalSync.mono _ _ _)
   | (with_reducible exact laws_eqDisk.mono _ _ _ _ _)
   | (with_reducible exact laws_heldDisk.mono _ _ _ _)
   | (with_reducible exact laws_markDisk.mono _ _ _ _)
   | (with_reducible exact laws_szDisk.mono _ _ _ _)
   | (with_reducible exact laws_toDisk.mono _ _ _)
   | (with_reducible exact spec_WalSync.mono _ _ _)
   | (with_reducible exact LeO.refl _)
   | (with_reducible exact LeO.none _)
   | (with_reducible refine LeO.ite ?_ ?_)
   | (with_reducible refine LeO.bind ?_ (fun _ => ?_))
   | exact ih0 _ _ _ _ _ _ _ _ _ _ _
   | exact ih1 _ _ _ _ _ _ _ _
   | exact ih2 _ _ _ _
   | exact impl_WalSync.mono _ _ _
   | exact laws_eqDisk.mono _ _ _ _ _
   | exact laws_heldDisk.mono _ _ _ _
   | exact laws_markDisk.mono _ _ _ _
   | exact laws_szDisk.mono _ _ _ _
   | exact laws_toDisk.mono _ _ _
   | exact spec_WalSync.mono _ _ _
   | exact LeO.none _
   | refine LeO.ite ?_ ?_
   | refine LeO.bind ?_ (fun _ => ?_)
  ·intro y0 y1 y2 y3
   unfold laws_FnExactWalSync.j2
   repeat' first
   | (with_reducible exact ih0 _ _ _ _ _ _ _ _ _ _ _)
   | (with_reducible exact ih1 _ _ _ _ _ _ _ _)
   | (with_reducible exact ih2 _ _ _ _)
   | (with_reducible exact impl_WalSync.mono _ _ _)
   | (with_reducible exact laws_eqDisk.mono _ _ _ _ _)
   | (with_reducible exact laws_heldDisk.mono _ _ _ _)
   | (with_reducible exact laws_markDisk.mono _ _ _ _)
   | (with_reducible exact laws_szDisk.mono _ _ _ _)
   | (with_reducible exact laws_toDisk.mono _ _ _)
   | (with_reducible exact spec_WalSync.mono _ _ _)
   | (with_reducible exact LeO.refl _)
   | (with_reducible exact LeO.none _)
   | (with_reducible refine LeO.ite ?_ ?_)
   | (with_reducible refine LeO.bind ?_ (fun _ => ?_))
   | exact ih0 _ _ _ _ _ _ _ _ _ _ _
   | exact ih1 _ _ _ _ _ _ _ _
   | exact ih2 _ _ _ _
   | exact impl_WalSync.mono _ _ _
   | exact laws_eqDisk.mono _ _ _ _ _
   | exact laws_heldDisk.mono _ _ _ _
   | exact laws_markDisk.mono _ _ _ _
   | exact laws_szDisk.mono _ _ _ _
   | exact laws_toDisk.mono _ _ _
   | exact spec_WalSync.mono _ _ _
   | exact LeO.none _
   | refine LeO.ite ?_ ?_
   | refine LeO.bind ?_ (fun _ => ?_)
theorem laws_FnExactWalSync.mono : ∀ a0 a1 k, LeO (laws_FnExactWalSync.f k a0 a1) (laws_FnExactWalSync.f (k + 1) a0 a1) := by
 intro a0 a1 k
 obtain ⟨ih0, ih1, ih2⟩ := laws_FnExactWalSync.mono_l k
 unfold laws_FnExactWalSync.f
 repeat' first
   | (with_reducible exact ih0 _ _ _ _ _ _ _ _ _ _ _)
   | (with_reducible exact ih1 _ _ _ _ _ _ _ _)
   | (with_reducible exact ih2 _ _ _ _)
   | (with_reducible exact impl_WalSync.mono _ _ _)
   | (with_reducible exact laws_eqDisk.mono _ _ _ _ _)
   | (with_reducible exact laws_heldDisk.mono _ _ _ _)
   | (with_reducible exact laws_markDisk.mono _ _ _ _)
   | (with_reducible exact laws_szDisk.mono _ _ _ _)
   | (with_reducible exact laws_toDisk.mono _ _ _)
   | (with_reducible exact spec_WalSync.mono _ _ _)
   | (with_reducible exact LeO.refl _)
   | (with_reducible exact LeO.none _)
   | (with_reducible refine LeO.ite ?_ ?_)
   | (with_reducible refine LeO.bind ?_ (fun _ => ?_))
   | exact ih0 _ _ _ _ _ _ _ _ _ _ _
   | exact ih1 _ _ _ _ _ _ _ _
   | exact ih2 _ _ _ _
   | exact impl_WalSync.mono _ _ _
   | exact laws_eqDisk.mono _ _ _ _ _
   | exact laws_heldDisk.mono _ _ _ _
   | exact laws_markDisk.mono _ _ _ _
   | exact laws_szDisk.mono _ _ _ _
   | exact laws_toDisk.mono _ _ _
   | exact spec_WalSync.mono _ _ _
   | exact LeO.none _
   | refine LeO.ite ?_ ?_
   | refine LeO.bind ?_ (fun _ => ?_)
set_option maxHeartbeats 8000000 in
set_option maxRecDepth 100000 in
theorem laws_FnExactWalSync.calls (k : Nat) (a0_0 : Int) (A0_1 : Option Addr) (c0_1 : Nat) (l0_1 : List (S67)) (r : Bool) (w : World) (hr0_1 : Kd.C k67 w A0_1 l0_1.length l0_1) (hc0_1 : l0_1.length ≤ c0_1) (h : laws_FnExactWalSync.f k a0_0 l0_1 = some r) :
  Calls Tryd.prog 5 #[.agg #[.int .i64 a0_0, .slice A0_1 l0_1.length c0_1]] w fun e w' => e = .returned (.bool r) ∧ Below w.heap.size w w' := by
 have hu24 := Tryd.underlying24
 have hu33 := Tryd.underlying33
 have HR0_1 := aM hr0_1
 have HC0_1 := aM hc0_1
 clear hr0_1 hc0_1
 have HB := aM (Below.refl w.heap.size w)
 have H : ((laws_szDisk.f k a0_0 l0_1 1048576).bind fun t269 => (if t269 < 0 then (some true) else ((laws_toDisk.f k a0_0 l0_1).bind fun bt270 => ((spec_WalSync.f k bt270.1 bt270.2).bind fun bt274 => ((laws_toDisk.f k a0_0 l0_1).bind fun bt280 => ((impl_WalSync.f k bt280.1 bt280.2).bind fun bt285 => ((laws_eqDisk.f k bt285.1 bt285.2.1 bt274.1 bt274.2.1).bind fun t291 => (if t291 = true then (laws_FnExactWalSync.j0 k bt274.2.2 bt285.2.2 (bt285.2.2 != bt274.2.2) a0_0 l0_1 bt274.1 bt274.2.1 bt280.1 bt280.2 bt285.1 bt285.2.1) else (laws_FnExactWalSync.j0 k bt274.2.2 bt285.2.2 true a0_0 l0_1 bt274.1 bt274.2.1 bt280.1 bt280.2 bt285.1 bt285.2.1))))))))) = some r := h
 clear h
 replace H := Option.bind_eq_some_iff.mp H
 obtain ⟨t269, A20, H⟩ := H
 replace H : (if t269 < 0 then (some true) else ((laws_toDisk.f k a0_0 l0_1).bind fun bt270 => ((spec_WalSync.f k bt270.1 bt270.2).bind fun bt274 => ((laws_toDisk.f k a0_0 l0_1).bind fun bt280 => ((impl_WalSync.f k bt280.1 bt280.2).bind fun bt285 => ((laws_eqDisk.f k bt285.1 bt285.2.1 bt274.1 bt274.2.1).bind fun t291 => (if t291 = true then (laws_FnExactWalSync.j0 k bt274.2.2 bt285.2.2 (bt285.2.2 != bt274.2.2) a0_0 l0_1 bt274.1 bt274.2.1 bt280.1 bt280.2 bt285.1 bt285.2.1) else (laws_FnExactWalSync.j0 k bt274.2.2 bt285.2.2 true a0_0 l0_1 bt274.1 bt274.2.1 bt280.1 bt280.2 bt285.1 bt285.2.1)))))))) = some r := H
 have A2 := aM A20
 clear A20
 by_cases c3 : t269 < 0
 ·rw [if_pos c3] at H
  have c3b0 : decide (t269 < 0) = true := decide_eq_true c3
  clear c3
  obtain rfl := Option.some.inj H
  go_enter Tryd.func5, Tryd.ntmps5
  go_wp2_with (first | ((with_reducible refine gate_dst (N := 1) rfl ?_); refine box_event ?hg (N := 1) ?hd (cs := #[.int .i64 a0_0, .slice A0_1 l0_1.length c0_1]) (t := 24) ?hr ?_; (case hd => rfl); (case hg => rfl); (case hr => first | (go_simp; done) | (go_simp; rfl)); intro gb268 hg w4 hbox hb; have n0_ := aM (below_step (by repeat (first | (with_reducible first | exact HB.out | apply bA | apply bN | apply bD) | exact HB.out)) hb); have n1_ := aM (hbox); have n2_ := aM ((by rw [hg]; exact (below_size (by repeat (first | (with_reducible first | exact HB.out | apply bA | apply bN | apply bD) | exact HB.out))) : w.heap.size ≤ gb268)); have n3_ := aM ((by rw [hg]; exact (below_size (by repeat (first | (with_reducible first | exact HB.out | apply bA | apply bN | apply bD) | exact HB.out))) : w.heap.size ≤ gb268)); clear HB; have HB := n0_; have BK268 := n1_; have GW268 := n2_; have GE268 := n3_; clear n0_ n1_ n2_ n3_; clear hb hbox hg; have hcz5_0 : w4.cell? ⟨gb268, 0, none⟩ = some (.int .i64 a0_0) := (kC BK268.out 0).trans rfl; have hcz5_1 : w4.cell? ⟨gb268, 1, none⟩ = some (.slice A0_1 l0_1.length c0_1) := (kC BK268.out 1).trans rfl; have hfz5_0 := kF BK268.out 0; have hfz5_1 := kF BK268.out 1) | ((with_reducible refine gate_callee (f := 6) rfl ?_); refine goesL_ (some 16) rfl rfl Tryd.func6 (by kernel_rfl) rfl #[.agg #[.int .i64 a0_0, .slice A0_1 l0_1.length c0_1], .int .i64 1048576] rfl (by (try simp only [List.map_toArray, List.map_cons, List.map_nil]); first | done | rfl | (simp only [List.length_drop, List.length_take]; rfl)) ?_; (with_reducible refine (laws_szDisk.calls k a0_0 _ _ l0_1 1048576 t269 _ ?side1 ?side2 A2.out).mono ?_); (case side1 => repeat (first | exact (Kd.C_below HR0_1.out HB.out) | (with_reducible refine Kd.C_alloc ?_ _) | (with_reducible refine Kd.C_drewN ?_ _) | (with_reducible refine Kd.C_drew ?_))); (case side2 => exact HC0_1.out); rintro e w6 ⟨rfl, hb⟩; refine ⟨_, rfl, ?_⟩; have n0_ := aM (blk_below (g := gb268) (o := .cells #[.int .i64 a0_0, .slice A0_1 l0_1.length c0_1] 24 (0, 0)) (by (with_reducible repeat (first | refine kN ?_ _ | refine kD ?_ | refine kA ?_ _)); exact BK268.out) hb); have n1_ := aM (below_step (by repeat (first | (with_reducible first | exact HB.out | apply bA | apply bN | apply bD | refine bS ?_ GE268.out) | exact HB.out)) hb); clear BK268; clear HB; have BK268 := n0_; have HB := n1_; clear n0_ n1_; (try clear hb); (try clear hb2); (try clear hk); (try clear hi)))
  go_ret
  exact ⟨by first | rfl | (simp [errW_none, errW_some] <;> rfl) | (simp [*, errW_none, errW_some] <;> rfl), by repeat (first | (with_reducible first | exact HB.out | apply bA | apply bN | apply bD | refine bS ?_ GE268.out) | exact HB.out)⟩
 ·rw [if_neg c3] at H
  have c3b0 : decide (t269 < 0) = false := decide_eq_false c3
  clear c3
  replace H := Option.bind_eq_some_iff.mp H
  obtain ⟨⟨t270, t271⟩, A70, H⟩ := H
  replace H : ((spec_WalSync.f k t270 t271).bind fun bt274 => ((laws_toDisk.f k a0_0 l0_1).bind fun bt280 => ((impl_WalSync.f k bt280.1 bt280.2).bind fun bt285 => ((laws_eqDisk.f k bt285.1 bt285.2.1 bt274.1 bt274.2.1).bind fun t291 => (if t291 = true then (laws_FnExactWalSync.j0 k bt274.2.2 bt285.2.2 (bt285.2.2 != bt274.2.2) a0_0 l0_1 bt274.1 bt274.2.1 bt280.1 bt280.2 bt285.1 bt285.2.1) else (laws_FnExactWalSync.j0 k bt274.2.2 bt285.2.2 true a0_0 l0_1 bt274.1 bt274.2.1 bt280.1 bt280.2 bt285.1 bt285.2.1)))))) = some r := H
  have A7 := aM A70
  clear A70
  replace H := Option.bind_eq_some_iff.mp H
  obtain ⟨⟨t274, t275, t278⟩, A80, H⟩ := H
  replace H : ((laws_toDisk.f k a0_0 l0_1).bind fun bt280 => ((impl_WalSync.f k bt280.1 bt280.2).bind fun bt285 => ((laws_eqDisk.f k bt285.1 bt285.2.1 t274 t275).bind fun t291 => (if t291 = true then (laws_FnExactWalSync.j0 k t278 bt285.2.2 (bt285.2.2 != t278) a0_0 l0_1 t274 t275 bt280.1 bt280.2 bt285.1 bt285.2.1) else (laws_FnExactWalSync.j0 k t278 bt285.2.2 true a0_0 l0_1 t274 t275 bt280.1 bt280.2 bt285.1 bt285.2.1))))) = some r := H
  have A8 := aM A80
  clear A80
  replace H := Option.bind_eq_some_iff.mp H
  obtain ⟨⟨t280, t281⟩, A90, H⟩ := H
  replace H : ((impl_WalSync.f k t280 t281).bind fun bt285 => ((laws_eqDisk.f k bt285.1 bt285.2.1 t274 t275).bind fun t291 => (if t291 = true then (laws_FnExactWalSync.j0 k t278 bt285.2.2 (bt285.2.2 != t278) a0_0 l0_1 t274 t275 t280 t281 bt285.1 bt285.2.1) else (laws_FnExactWalSync.j0 k t278 bt285.2.2 true a0_0 l0_1 t274 t275 t280 t281 bt285.1 bt285.2.1)))) = some r := H
  have A9 := aM A90
  clear A90
  replace H := Option.bind_eq_some_iff.mp H
  obtain ⟨⟨t285, t286, t289⟩, A100, H⟩ := H
  replace H : ((laws_eqDisk.f k t285 t286 t274 t275).bind fun t291 => (if t291 = true then (laws_FnExactWalSync.j0 k t278 t289 (t289 != t278) a0_0 l0_1 t274 t275 t280 t281 t285 t286) else (laws_FnExactWalSync.j0 k t278 t289 true a0_0 l0_1 t274 t275 t280 t281 t285 t286))) = some r := H
  have A10 := aM A100
  clear A100
  have HC11 := aM H
  clear H
  go_enter Tryd.func5, Tryd.ntmps5
  go_upto_region 8 with (first | ((with_reducible refine gate_dst (N := 1) rfl ?_); refine box_event ?hg (N := 1) ?hd (cs := #[.int .i64 a0_0, .slice A0_1 l0_1.length c0_1]) (t := 24) ?hr ?_; (case hd => rfl); (case hg => rfl); (case hr => first | (go_simp; done) | (go_simp; rfl)); intro gb268 hg w12 hbox hb; have n0_ := aM (below_step (by repeat (first | (with_reducible first | exact HB.out | apply bA | apply bN | apply bD) | exact HB.out)) hb); have n1_ := aM (hbox); have n2_ := aM ((by rw [hg]; exact (below_size (by repeat (first | (with_reducible first | exact HB.out | apply bA | apply bN | apply bD) | exact HB.out))) : w.heap.size ≤ gb268)); have n3_ := aM ((by rw [hg]; exact (below_size (by repeat (first | (with_reducible first | exact HB.out | apply bA | apply bN | apply bD) | exact HB.out))) : w.heap.size ≤ gb268)); clear HB; have HB := n0_; have BK268 := n1_; have GW268 := n2_; have GE268 := n3_; clear n0_ n1_ n2_ n3_; clear hb hbox hg; have hcz13_0 : w12.cell? ⟨gb268, 0, none⟩ = some (.int .i64 a0_0) := (kC BK268.out 0).trans rfl; have hcz13_1 : w12.cell? ⟨gb268, 1, none⟩ = some (.slice A0_1 l0_1.length c0_1) := (kC BK268.out 1).trans rfl; have hfz13_0 := kF BK268.out 0; have hfz13_1 := kF BK268.out 1) | ((with_reducible refine gate_callee (f := 6) rfl ?_); refine goesL_ (some 16) rfl rfl Tryd.func6 (by kernel_rfl) rfl #[.agg #[.int .i64 a0_0, .slice A0_1 l0_1.length c0_1], .int .i64 1048576] rfl (by (try simp only [List.map_toArray, List.map_cons, List.map_nil]); first | done | rfl | (simp only [List.length_drop, List.length_take]; rfl)) ?_; (with_reducible refine (laws_szDisk.calls k a0_0 _ _ l0_1 1048576 t269 _ ?side1 ?side2 A2.out).mono ?_); (case side1 => repeat (first | exact (Kd.C_below HR0_1.out HB.out) | (with_reducible refine Kd.C_alloc ?_ _) | (with_reducible refine Kd.C_drewN ?_ _) | (with_reducible refine Kd.C_drew ?_))); (case side2 => exact HC0_1.out); rintro e w14 ⟨rfl, hb⟩; refine ⟨_, rfl, ?_⟩; have n0_ := aM (blk_below (g := gb268) (o := .cells #[.int .i64 a0_0, .slice A0_1 l0_1.length c0_1] 24 (0, 0)) (by (with_reducible repeat (first | refine kN ?_ _ | refine kD ?_ | refine kA ?_ _)); exact BK268.out) hb); have n1_ := aM (below_step (by repeat (first | (with_reducible first | exact HB.out | apply bA | apply bN | apply bD | refine bS ?_ GE268.out) | exact HB.out)) hb); clear BK268; clear HB; have BK268 := n0_; have HB := n1_; clear n0_ n1_; (try clear hb); (try clear hb2); (try clear hk); (try clear hi); have hcz15_0 : w14.cell? ⟨gb268, 0, none⟩ = some (.int .i64 a0_0) := (kC BK268.out 0).trans rfl; have hcz15_1 : w14.cell? ⟨gb268, 1, none⟩ = some (.slice A0_1 l0_1.length c0_1) := (kC BK268.out 1).trans rfl; have hfz15_0 := kF BK268.out 0; have hfz15_1 := kF BK268.out 1) | ((with_reducible refine gate_callee (f := 8) rfl ?_); refine goesL_ (some 21) rfl rfl Tryd.func8 (by kernel_rfl) rfl #[.agg #[.int .i64 a0_0, .slice A0_1 l0_1.length c0_1]] rfl (by (try simp only [List.map_toArray, List.map_cons, List.map_nil]); first | done | rfl | (simp only [List.length_drop, List.length_take]; rfl)) ?_; (with_reducible refine (laws_toDisk.calls k a0_0 _ _ l0_1 t270 t271 _ ?side1 ?side2 A7.out).mono ?_); (case side1 => repeat (first | exact (Kd.C_below HR0_1.out HB.out) | (with_reducible refine Kd.C_alloc ?_ _) | (with_reducible refine Kd.C_drewN ?_ _) | (with_reducible refine Kd.C_drew ?_))); (case side2 => exact HC0_1.out); rintro e w16 ⟨v272, rfl, ho0, hb⟩; refine ⟨_, rfl, ?_⟩; have n0_ := aM (Kd.R_lower ho0 (below_size (by repeat (first | (with_reducible first | exact HB.out | apply bA | apply bN | apply bD | refine bS ?_ GE268.out) | exact HB.out)))); have n1_ := aM (blk_below (g := gb268) (o := .cells #[.int .i64 a0_0, .slice A0_1 l0_1.length c0_1] 24 (0, 0)) (by (with_reducible repeat (first | refine kN ?_ _ | refine kD ?_ | refine kA ?_ _)); exact BK268.out) hb); have n2_ := aM (below_step (by repeat (first | (with_reducible first | exact HB.out | apply bA | apply bN | apply bD | refine bS ?_ GE268.out) | exact HB.out)) hb); clear BK268; clear HB; have HO273 := n0_; have BK268 := n1_; have HB := n2_; clear n0_ n1_ n2_; (try clear hb); (try clear hb2); (try clear hk); (try clear hi); (try clear ho0); obtain ⟨Ao17, co17, eo17⟩ := Kd.R_slice HO273.out; subst eo17) | ((with_reducible refine gate_callee (f := 20) rfl ?_); refine goesL_ (some 22) rfl rfl Tryd.func20 (by kernel_rfl) rfl #[.agg #[.int .i64 t270, .slice Ao17 t271.length co17]] rfl (by (try simp only [List.map_toArray, List.map_cons, List.map_nil]); first | done | rfl | (simp only [List.length_drop, List.length_take]; rfl)) ?_; (with_reducible refine (spec_WalSync.calls k t270 (fun k_ => some k_ = (.slice Ao17 t271.length co17 : Value).ownBlock) (.slice Ao17 t271.length co17) t271 t274 t275 t278 w _ ?side1 ?side2 A8.out).mono ?_); (case side1 => repeat (first | (with_reducible first | exact HB.out | apply bA | apply bN | apply bD | refine bS ?_ GE268.out) | exact HB.out)); (case side2 => exact Kd.R_tight rfl HO273.out); rintro e w18 ⟨v276, rfl, ho0, hb, hkp⟩; refine ⟨_, rfl, ?_⟩; have n0_ := aM (blk_kept (by (with_reducible repeat (first | refine kN ?_ _ | refine kD ?_ | refine kA ?_ _)); exact BK268.out) hkp (fun hs_ => (fun e_ => (Kd.R_ne HO273.out BK268.out (by decide)) e_) hs_)); have n1_ := aM (Kd.R_mono (ok' := fun k_ => True) ho0 (fun k_ hk_ => trivial)); have n2_ := aM (hb); clear BK268; clear HB; clear HO273; have BK268 := n0_; have HO277 := n1_; have HB := n2_; clear n0_ n1_ n2_; (try clear hb); (try clear hkp); (try clear ho0)) | ((with_reducible refine gate_dst (N := 4) rfl ?_); refine box_event ?hg (N := 4) ?hd (cs := #[.int .i64 0, .slice none 0 0]) (t := 33) ?hr ?_; (case hd => rfl); (case hg => rfl); (case hr => first | (go_simp; done) | (go_simp; rfl)); intro gb279 hg w19 hbox hb; have n0_ := aM (Kd.R_below (by (with_reducible repeat (first | apply Kd.R_alloc | apply Kd.R_drewN | apply Kd.R_drew)); exact HO277.out) hb); have n1_ := aM (blk_below (g := gb268) (o := .cells #[.int .i64 a0_0, .slice A0_1 l0_1.length c0_1] 24 (0, 0)) (by (with_reducible repeat (first | refine kN ?_ _ | refine kD ?_ | refine kA ?_ _)); exact BK268.out) hb); have n2_ := aM (below_step (by repeat (first | (with_reducible first | exact HB.out | apply bA | apply bN | apply bD | refine bS ?_ GE268.out) | exact HB.out)) hb); have n3_ := aM (hbox); have n4_ := aM ((by rw [hg]; exact (below_size (by repeat (first | (with_reducible first | exact HB.out | apply bA | apply bN | apply bD | refine bS ?_ GE268.out) | exact HB.out))) : w.heap.size ≤ gb279)); have n5_ := aM ((by rw [hg]; exact (below_size (by repeat (first | (with_reducible first | exact HB.out | apply bA | apply bN | apply bD | refine bS ?_ GE268.out) | exact HB.out))) : w.heap.size ≤ gb279)); have n6_ := aM ((by rw [hg]; exact Nat.ne_of_lt (blk_lt (g := gb268) (o := .cells #[.int .i64 a0_0, .slice A0_1 l0_1.length c0_1] 24 (0, 0)) (by (with_reducible repeat (first | refine kN ?_ _ | refine kD ?_ | refine kA ?_ _)); exact BK268.out)) : gb268 ≠ gb279)); have n7_ := aM ((by rw [hg]; exact Nat.ne_of_gt (blk_lt (g := gb268) (o := .cells #[.int .i64 a0_0, .slice A0_1 l0_1.length c0_1] 24 (0, 0)) (by (with_reducible repeat (first | refine kN ?_ _ | refine kD ?_ | refine kA ?_ _)); exact BK268.out)) : gb279 ≠ gb268)); clear HO277; clear BK268; clear HB; have HO277 := n0_; have BK268 := n1_; have HB := n2_; have BK279 := n3_; have GW279 := n4_; have GE279 := n5_; have NB268_279 := n6_; have NB279_268 := n7_; clear n0_ n1_ n2_ n3_ n4_ n5_ n6_ n7_; clear hb hbox hg; have hnb20 := NB279_268.out; have hnc20 := NB268_279.out; have hcz21_0 : w19.cell? ⟨gb279, 0, none⟩ = some (.int .i64 0) := (kC BK279.out 0).trans rfl; have hcz21_1 : w19.cell? ⟨gb279, 1, none⟩ = some (.slice none 0 0) := (kC BK279.out 1).trans rfl; have hfz21_0 := kF BK279.out 0; have hfz21_1 := kF BK279.out 1; obtain ⟨Ao22, co22, eo22⟩ := Kd.R_slice HO277.out; subst eo22; have hcz23_0 : w19.cell? ⟨gb268, 0, none⟩ = some (.int .i64 a0_0) := (kC BK268.out 0).trans rfl; have hcz23_1 : w19.cell? ⟨gb268, 1, none⟩ = some (.slice A0_1 l0_1.length c0_1) := (kC BK268.out 1).trans rfl; have hfz23_0 := kF BK268.out 0; have hfz23_1 := kF BK268.out 1) | ((with_reducible refine gate_callee (f := 8) rfl ?_); refine goesL_ (some 26) rfl rfl Tryd.func8 (by kernel_rfl) rfl #[.agg #[.int .i64 a0_0, .slice A0_1 l0_1.length c0_1]] rfl (by (try simp only [List.map_toArray, List.map_cons, List.map_nil]); first | done | rfl | (simp only [List.length_drop, List.length_take]; rfl)) ?_; (with_reducible refine (laws_toDisk.calls k a0_0 _ _ l0_1 t280 t281 _ ?side1 ?side2 A9.out).mono ?_); (case side1 => exact Kd.C_below HR0_1.out (by repeat (first | (with_reducible first | exact HB.out | apply bA | apply bN | apply bD | refine bS ?_ GE268.out | refine bS ?_ GE279.out) | exact HB.out))); (case side2 => exact HC0_1.out); rintro e w24 ⟨v282, rfl, ho0, hb⟩; refine ⟨_, rfl, ?_⟩; have n0_ := aM (Kd.R_elder' (by (with_reducible repeat (first | apply Kd.R_alloc | apply Kd.R_drewN | apply Kd.R_drew)); exact (Kd.R_mono (Kd.R_far (p := ⟨gb279, 1, none⟩) (Kd.R_far (p := ⟨gb279, 0, none⟩) (Kd.R_types HO277.out BK279.out (by decide)) (fun _ hk => hk.2) (.int .i64 t274)) (fun _ hk => hk.2) (.slice Ao22 t275.length co22)) (fun _ h_ => h_.1))) (Kd.R_base ho0) hb); have n1_ := aM (Kd.R_lower (Kd.R_new' ho0 (Kd.R_lt (by (with_reducible repeat (first | apply Kd.R_alloc | apply Kd.R_drewN | apply Kd.R_drew)); exact (Kd.R_mono (Kd.R_far (p := ⟨gb279, 1, none⟩) (Kd.R_far (p := ⟨gb279, 0, none⟩) (Kd.R_types HO277.out BK279.out (by decide)) (fun _ hk => hk.2) (.int .i64 t274)) (fun _ hk => hk.2) (.slice Ao22 t275.length co22)) (fun _ h_ => h_.1))))) (below_size (by repeat (first | (with_reducible first | exact HB.out | apply bA | apply bN | apply bD | refine bS ?_ GE268.out | refine bS ?_ GE279.out) | exact HB.out)))); have n2_ := aM (blk_below (g := gb268) (o := .cells #[.int .i64 a0_0, .slice A0_1 l0_1.length c0_1] 24 (0, 0)) (by (with_reducible repeat (first | refine kN ?_ _ | refine kD ?_ | refine kA ?_ _)); refine blk_far ?_ NB268_279.out _; (with_reducible repeat (first | refine kN ?_ _ | refine kD ?_ | refine kA ?_ _)); refine blk_far ?_ NB268_279.out _; (with_reducible repeat (first | refine kN ?_ _ | refine kD ?_ | refine kA ?_ _)); exact BK268.out) hb); have n3_ := aM (blk_below (g := gb279) (o := .cells #[.int .i64 t274, .slice Ao22 t275.length co22] 33 (0, 0)) (by (with_reducible repeat (first | refine kN ?_ _ | refine kD ?_ | refine kA ?_ _)); refine blk_put (cs := #[.int .i64 t274, .slice none 0 0]) ?_ 1 _ rfl; (with_reducible repeat (first | refine kN ?_ _ | refine kD ?_ | refine kA ?_ _)); refine blk_put (cs := #[.int .i64 0, .slice none 0 0]) ?_ 0 _ rfl; (with_reducible repeat (first | refine kN ?_ _ | refine kD ?_ | refine kA ?_ _)); exact BK279.out) hb); have n4_ := aM (below_step (by repeat (first | (with_reducible first | exact HB.out | apply bA | apply bN | apply bD | refine bS ?_ GE268.out | refine bS ?_ GE279.out) | exact HB.out)) hb); clear HO277; clear BK268; clear BK279; clear HB; have HO277 := n0_; have HO283 := n1_; have BK268 := n2_; have BK279 := n3_; have HB := n4_; clear n0_ n1_ n2_ n3_ n4_; (try clear hb); (try clear hb2); (try clear hk); (try clear hi); (try clear ho0)) | ((with_reducible refine gate_dst (N := 6) rfl ?_); refine box_event ?hg (N := 6) ?hd (cs := #[.int .i64 0, .slice none 0 0]) (t := 33) ?hr ?_; (case hd => rfl); (case hg => rfl); (case hr => first | (go_simp; done) | (go_simp; rfl)); intro gb284 hg w25 hbox hb; have n0_ := aM (Kd.R_below (by (with_reducible repeat (first | apply Kd.R_alloc | apply Kd.R_drewN | apply Kd.R_drew)); exact HO277.out) hb); have n1_ := aM (Kd.R_below (by (with_reducible repeat (first | apply Kd.R_alloc | apply Kd.R_drewN | apply Kd.R_drew)); exact HO283.out) hb); have n2_ := aM (blk_below (g := gb268) (o := .cells #[.int .i64 a0_0, .slice A0_1 l0_1.length c0_1] 24 (0, 0)) (by (with_reducible repeat (first | refine kN ?_ _ | refine kD ?_ | refine kA ?_ _)); exact BK268.out) hb); have n3_ := aM (blk_below (g := gb279) (o := .cells #[.int .i64 t274, .slice Ao22 t275.length co22] 33 (0, 0)) (by (with_reducible repeat (first | refine kN ?_ _ | refine kD ?_ | refine kA ?_ _)); exact BK279.out) hb); have n4_ := aM (below_step (by repeat (first | (with_reducible first | exact HB.out | apply bA | apply bN | apply bD | refine bS ?_ GE268.out | refine bS ?_ GE279.out) | exact HB.out)) hb); have n5_ := aM (hbox); have n6_ := aM ((by rw [hg]; exact (below_size (by repeat (first | (with_reducible first | exact HB.out | apply bA | apply bN | apply bD | refine bS ?_ GE268.out | refine bS ?_ GE279.out) | exact HB.out))) : w.heap.size ≤ gb284)); have n7_ := aM ((by rw [hg]; exact (below_size (by repeat (first | (with_reducible first | exact HB.out | apply bA | apply bN | apply bD | refine bS ?_ GE268.out | refine bS ?_ GE279.out) | exact HB.out))) : w.heap.size ≤ gb284)); have n8_ := aM ((by rw [hg]; exact Nat.ne_of_lt (blk_lt (g := gb268) (o := .cells #[.int .i64 a0_0, .slice A0_1 l0_1.length c0_1] 24 (0, 0)) (by (with_reducible repeat (first | refine kN ?_ _ | refine kD ?_ | refine kA ?_ _)); exact BK268.out)) : gb268 ≠ gb284)); have n9_ := aM ((by rw [hg]; exact Nat.ne_of_gt (blk_lt (g := gb268) (o := .cells #[.int .i64 a0_0, .slice A0_1 l0_1.length c0_1] 24 (0, 0)) (by (with_reducible repeat (first | refine kN ?_ _ | refine kD ?_ | refine kA ?_ _)); exact BK268.out)) : gb284 ≠ gb268)); have n10_ := aM ((by rw [hg]; exact Nat.ne_of_lt (blk_lt (g := gb279) (o := .cells #[.int .i64 t274, .slice Ao22 t275.length co22] 33 (0, 0)) (by (with_reducible repeat (first | refine kN ?_ _ | refine kD ?_ | refine kA ?_ _)); exact BK279.out)) : gb279 ≠ gb284)); have n11_ := aM ((by rw [hg]; exact Nat.ne_of_gt (blk_lt (g := gb279) (o := .cells #[.int .i64 t274, .slice Ao22 t275.length co22] 33 (0, 0)) (by (with_reducible repeat (first | refine kN ?_ _ | refine kD ?_ | refine kA ?_ _)); exact BK279.out)) : gb284 ≠ gb279)); clear HO277; clear HO283; clear BK268; clear BK279; clear HB; have HO277 := n0_; have HO283 := n1_; have BK268 := n2_; have BK279 := n3_; have HB := n4_; have BK284 := n5_; have GW284 := n6_; have GE284 := n7_; have NB268_284 := n8_; have NB284_268 := n9_; have NB279_284 := n10_; have NB284_279 := n11_; clear n0_ n1_ n2_ n3_ n4_ n5_ n6_ n7_ n8_ n9_ n10_ n11_; clear hb hbox hg; have hnb26 := NB284_268.out; have hnc26 := NB268_284.out; have hnb27 := NB284_279.out; have hnc27 := NB279_284.out; have hcz28_0 : w25.cell? ⟨gb284, 0, none⟩ = some (.int .i64 0) := (kC BK284.out 0).trans rfl; have hcz28_1 : w25.cell? ⟨gb284, 1, none⟩ = some (.slice none 0 0) := (kC BK284.out 1).trans rfl; have hfz28_0 := kF BK284.out 0; have hfz28_1 := kF BK284.out 1; obtain ⟨Ao29, co29, eo29⟩ := Kd.R_slice HO283.out; subst eo29) | ((with_reducible refine gate_callee (f := 21) rfl ?_); refine goesL_ (some 29) rfl rfl Tryd.func21 (by kernel_rfl) rfl #[.agg #[.int .i64 t280, .slice Ao29 t281.length co29]] rfl (by (try simp only [List.map_toArray, List.map_cons, List.map_nil]); first | done | rfl | (simp only [List.length_drop, List.length_take]; rfl)) ?_; (with_reducible refine (impl_WalSync.calls k t280 _ _ t281 t285 t286 t289 _ ?side1 ?side2 A10.out).mono ?_); (case side1 => refine (Kd.R_reads' (e := 69) (base := w.heap.size) (ok := fun k_ => (True ∧ some k_ ≠ (.slice Ao22 t275.length co22 : Value).ownBlock)) (n := t281.length) (c := co29) ?_).2.2; exact (by (with_reducible repeat (first | apply Kd.R_alloc | apply Kd.R_drewN | apply Kd.R_drew)); exact (Kd.R_mono (Kd.R_far (p := ⟨gb284, 1, none⟩) (Kd.R_far (p := ⟨gb284, 0, none⟩) (Kd.R_types HO283.out BK284.out (by decide)) (fun _ hk => hk.2) (.int .i64 t280)) (fun _ hk => hk.2) (.slice Ao29 t281.length co29)) (fun _ h_ => h_.1)))); (case side2 => exact (Kd.R_reads' HO283.out).2.1); rintro e w30 ⟨v287, rfl, ho0, hb⟩; refine ⟨_, rfl, ?_⟩; have n0_ := aM (Kd.R_elder' (by (with_reducible repeat (first | apply Kd.R_alloc | apply Kd.R_drewN | apply Kd.R_drew)); exact (Kd.R_mono (Kd.R_far (p := ⟨gb284, 1, none⟩) (Kd.R_far (p := ⟨gb284, 0, none⟩) (Kd.R_types HO277.out BK284.out (by decide)) (fun _ hk => hk.2) (.int .i64 t280)) (fun _ hk => hk.2) (.slice Ao29 t281.length co29)) (fun _ h_ => h_.1))) (Kd.R_base ho0) hb); have n1_ := aM (Kd.R_elder' (by (with_reducible repeat (first | apply Kd.R_alloc | apply Kd.R_drewN | apply Kd.R_drew)); exact (Kd.R_mono (Kd.R_far (p := ⟨gb284, 1, none⟩) (Kd.R_far (p := ⟨gb284, 0, none⟩) (Kd.R_types HO283.out BK284.out (by decide)) (fun _ hk => hk.2) (.int .i64 t280)) (fun _ hk => hk.2) (.slice Ao29 t281.length co29)) (fun _ h_ => h_.1))) (Kd.R_base ho0) hb); have n2_ := aM (Kd.R_lower (Kd.R_new' (Kd.R_new' ho0 (Kd.R_lt (by (with_reducible repeat (first | apply Kd.R_alloc | apply Kd.R_drewN | apply Kd.R_drew)); exact (Kd.R_mono (Kd.R_far (p := ⟨gb284, 1, none⟩) (Kd.R_far (p := ⟨gb284, 0, none⟩) (Kd.R_types HO277.out BK284.out (by decide)) (fun _ hk => hk.2) (.int .i64 t280)) (fun _ hk => hk.2) (.slice Ao29 t281.length co29)) (fun _ h_ => h_.1))))) (Kd.R_lt (by (with_reducible repeat (first | apply Kd.R_alloc | apply Kd.R_drewN | apply Kd.R_drew)); exact (Kd.R_mono (Kd.R_far (p := ⟨gb284, 1, none⟩) (Kd.R_far (p := ⟨gb284, 0, none⟩) (Kd.R_types HO283.out BK284.out (by decide)) (fun _ hk => hk.2) (.int .i64 t280)) (fun _ hk => hk.2) (.slice Ao29 t281.length co29)) (fun _ h_ => h_.1))))) (below_size (by repeat (first | (with_reducible first | exact HB.out | apply bA | apply bN | apply bD | refine bS ?_ GE268.out | refine bS ?_ GE279.out | refine bS ?_ GE284.out) | exact HB.out)))); have n3_ := aM (blk_below (g := gb268) (o := .cells #[.int .i64 a0_0, .slice A0_1 l0_1.length c0_1] 24 (0, 0)) (by (with_reducible repeat (first | refine kN ?_ _ | refine kD ?_ | refine kA ?_ _)); refine blk_far ?_ NB268_284.out _; (with_reducible repeat (first | refine kN ?_ _ | refine kD ?_ | refine kA ?_ _)); refine blk_far ?_ NB268_284.out _; (with_reducible repeat (first | refine kN ?_ _ | refine kD ?_ | refine kA ?_ _)); exact BK268.out) hb); have n4_ := aM (blk_below (g := gb279) (o := .cells #[.int .i64 t274, .slice Ao22 t275.length co22] 33 (0, 0)) (by (with_reducible repeat (first | refine kN ?_ _ | refine kD ?_ | refine kA ?_ _)); refine blk_far ?_ NB279_284.out _; (with_reducible repeat (first | refine kN ?_ _ | refine kD ?_ | refine kA ?_ _)); refine blk_far ?_ NB279_284.out _; (with_reducible repeat (first | refine kN ?_ _ | refine kD ?_ | refine kA ?_ _)); exact BK279.out) hb); have n5_ := aM (blk_below (g := gb284) (o := .cells #[.int .i64 t280, .slice Ao29 t281.length co29] 33 (0, 0)) (by (with_reducible repeat (first | refine kN ?_ _ | refine kD ?_ | refine kA ?_ _)); refine blk_put (cs := #[.int .i64 t280, .slice none 0 0]) ?_ 1 _ rfl; (with_reducible repeat (first | refine kN ?_ _ | refine kD ?_ | refine kA ?_ _)); refine blk_put (cs := #[.int .i64 0, .slice none 0 0]) ?_ 0 _ rfl; (with_reducible repeat (first | refine kN ?_ _ | refine kD ?_ | refine kA ?_ _)); exact BK284.out) hb); have n6_ := aM (below_step (by repeat (first | (with_reducible first | exact HB.out | apply bA | apply bN | apply bD | refine bS ?_ GE268.out | refine bS ?_ GE279.out | refine bS ?_ GE284.out) | exact HB.out)) hb); clear HO277; clear HO283; clear BK268; clear BK279; clear BK284; clear HB; have HO277 := n0_; have HO283 := n1_; have HO288 := n2_; have BK268 := n3_; have BK279 := n4_; have BK284 := n5_; have HB := n6_; clear n0_ n1_ n2_ n3_ n4_ n5_ n6_; (try clear hb); (try clear hb2); (try clear hk); (try clear hi); (try clear ho0)) | ((with_reducible refine gate_dst (N := 7) rfl ?_); refine box_event ?hg (N := 7) ?hd (cs := #[.int .i64 0, .slice none 0 0]) (t := 33) ?hr ?_; (case hd => rfl); (case hg => rfl); (case hr => first | (go_simp; done) | (go_simp; rfl)); intro gb290 hg w31 hbox hb; have n0_ := aM (Kd.R_below (by (with_reducible repeat (first | apply Kd.R_alloc | apply Kd.R_drewN | apply Kd.R_drew)); exact HO277.out) hb); have n1_ := aM (Kd.R_below (by (with_reducible repeat (first | apply Kd.R_alloc | apply Kd.R_drewN | apply Kd.R_drew)); exact HO283.out) hb); have n2_ := aM (Kd.R_below (by (with_reducible repeat (first | apply Kd.R_alloc | apply Kd.R_drewN | apply Kd.R_drew)); exact HO288.out) hb); have n3_ := aM (blk_below (g := gb268) (o := .cells #[.int .i64 a0_0, .slice A0_1 l0_1.length c0_1] 24 (0, 0)) (by (with_reducible repeat (first | refine kN ?_ _ | refine kD ?_ | refine kA ?_ _)); exact BK268.out) hb); have n4_ := aM (blk_below (g := gb279) (o := .cells #[.int .i64 t274, .slice Ao22 t275.length co22] 33 (0, 0)) (by (with_reducible repeat (first | refine kN ?_ _ | refine kD ?_ | refine kA ?_ _)); exact BK279.out) hb); have n5_ := aM (blk_below (g := gb284) (o := .cells #[.int .i64 t280, .slice Ao29 t281.length co29] 33 (0, 0)) (by (with_reducible repeat (first | refine kN ?_ _ | refine kD ?_ | refine kA ?_ _)); exact BK284.out) hb); have n6_ := aM (below_step (by repeat (first | (with_reducible first | exact HB.out | apply bA | apply bN | apply bD | refine bS ?_ GE268.out | refine bS ?_ GE279.out | refine bS ?_ GE284.out) | exact HB.out)) hb); have n7_ := aM (hbox); have n8_ := aM ((by rw [hg]; exact (below_size (by repeat (first | (with_reducible first | exact HB.out | apply bA | apply bN | apply bD | refine bS ?_ GE268.out | refine bS ?_ GE279.out | refine bS ?_ GE284.out) | exact HB.out))) : w.heap.size ≤ gb290)); have n9_ := aM ((by rw [hg]; exact (below_size (by repeat (first | (with_reducible first | exact HB.out | apply bA | apply bN | apply bD | refine bS ?_ GE268.out | refine bS ?_ GE279.out | refine bS ?_ GE284.out) | exact HB.out))) : w.heap.size ≤ gb290)); have n10_ := aM ((by rw [hg]; exact Nat.ne_of_lt (blk_lt (g := gb268) (o := .cells #[.int .i64 a0_0, .slice A0_1 l0_1.length c0_1] 24 (0, 0)) (by (with_reducible repeat (first | refine kN ?_ _ | refine kD ?_ | refine kA ?_ _)); exact BK268.out)) : gb268 ≠ gb290)); have n11_ := aM ((by rw [hg]; exact Nat.ne_of_gt (blk_lt (g := gb268) (o := .cells #[.int .i64 a0_0, .slice A0_1 l0_1.length c0_1] 24 (0, 0)) (by (with_reducible repeat (first | refine kN ?_ _ | refine kD ?_ | refine kA ?_ _)); exact BK268.out)) : gb290 ≠ gb268)); have n12_ := aM ((by rw [hg]; exact Nat.ne_of_lt (blk_lt (g := gb279) (o := .cells #[.int .i64 t274, .slice Ao22 t275.length co22] 33 (0, 0)) (by (with_reducible repeat (first | refine kN ?_ _ | refine kD ?_ | refine kA ?_ _)); exact BK279.out)) : gb279 ≠ gb290)); have n13_ := aM ((by rw [hg]; exact Nat.ne_of_gt (blk_lt (g := gb279) (o := .cells #[.int .i64 t274, .slice Ao22 t275.length co22] 33 (0, 0)) (by (with_reducible repeat (first | refine kN ?_ _ | refine kD ?_ | refine kA ?_ _)); exact BK279.out)) : gb290 ≠ gb279)); have n14_ := aM ((by rw [hg]; exact Nat.ne_of_lt (blk_lt (g := gb284) (o := .cells #[.int .i64 t280, .slice Ao29 t281.length co29] 33 (0, 0)) (by (with_reducible repeat (first | refine kN ?_ _ | refine kD ?_ | refine kA ?_ _)); exact BK284.out)) : gb284 ≠ gb290)); have n15_ := aM ((by rw [hg]; exact Nat.ne_of_gt (blk_lt (g := gb284) (o := .cells #[.int .i64 t280, .slice Ao29 t281.length co29] 33 (0, 0)) (by (with_reducible repeat (first | refine kN ?_ _ | refine kD ?_ | refine kA ?_ _)); exact BK284.out)) : gb290 ≠ gb284)); clear HO277; clear HO283; clear HO288; clear BK268; clear BK279; clear BK284; clear HB; have HO277 := n0_; have HO283 := n1_; have HO288 := n2_; have BK268 := n3_; have BK279 := n4_; have BK284 := n5_; have HB := n6_; have BK290 := n7_; have GW290 := n8_; have GE290 := n9_; have NB268_290 := n10_; have NB290_268 := n11_; have NB279_290 := n12_; have NB290_279 := n13_; have NB284_290 := n14_; have NB290_284 := n15_; clear n0_ n1_ n2_ n3_ n4_ n5_ n6_ n7_ n8_ n9_ n10_ n11_ n12_ n13_ n14_ n15_; clear hb hbox hg; have hnb32 := NB290_268.out; have hnc32 := NB268_290.out; have hnb33 := NB290_279.out; have hnc33 := NB279_290.out; have hnb34 := NB290_284.out; have hnc34 := NB284_290.out; have hcz35_0 : w31.cell? ⟨gb290, 0, none⟩ = some (.int .i64 0) := (kC BK290.out 0).trans rfl; have hcz35_1 : w31.cell? ⟨gb290, 1, none⟩ = some (.slice none 0 0) := (kC BK290.out 1).trans rfl; have hfz35_0 := kF BK290.out 0; have hfz35_1 := kF BK290.out 1; obtain ⟨Ao36, co36, eo36⟩ := Kd.R_slice HO288.out; subst eo36))
  (try simp only [Act.put, s1, s2, s3])
  go_cut [40] (fun v40 wc => ∃ (kq : Nat) (x40_10 : Bool), v40 = .bool x40_10 ∧ Aside0 (laws_FnExactWalSync.j0 kq t278 t289 x40_10 a0_0 l0_1 t274 t275 t280 t281 t285 t286 = some r) ∧ Aside0 (kq ≤ k) ∧ Aside0 (Kd.R k69 69 wc w.heap.size (fun k_ => some k_ ≠ ((.slice Ao29 t281.length co29) : Value).ownBlock ∧ some k_ ≠ ((.slice Ao36 t286.length co36) : Value).ownBlock) (.slice Ao22 t275.length co22) t275) ∧ Aside0 (Kd.R k69 69 wc w.heap.size (fun k_ => some k_ ≠ ((.slice Ao22 t275.length co22) : Value).ownBlock ∧ some k_ ≠ ((.slice Ao36 t286.length co36) : Value).ownBlock) (.slice Ao29 t281.length co29) t281) ∧ Aside0 (Kd.R k69 69 wc w.heap.size (fun k_ => some k_ ≠ ((.slice Ao22 t275.length co22) : Value).ownBlock ∧ some k_ ≠ ((.slice Ao29 t281.length co29) : Value).ownBlock) (.slice Ao36 t286.length co36) t286) ∧ Aside0 (wc.heap[gb268]? = some (.cells #[.int .i64 a0_0, (.slice A0_1 l0_1.length c0_1)] 24 (0, 0))) ∧ Aside0 (wc.heap[gb279]? = some (.cells #[.int .i64 t274, (.slice Ao22 t275.length co22)] 33 (0, 0))) ∧ Aside0 (wc.heap[gb284]? = some (.cells #[.int .i64 t280, (.slice Ao29 t281.length co29)] 33 (0, 0))) ∧ Aside0 (wc.heap[gb290]? = some (.cells #[.int .i64 t285, (.slice Ao36 t286.length co36)] 33 (0, 0))) ∧ Aside0 (Below w.heap.size w wc))
  case first =>
   have H := HC11.out
   clear HC11
   replace H := Option.bind_eq_some_iff.mp H
   obtain ⟨t291, A370, H⟩ := H
   replace H : (if t291 = true then (laws_FnExactWalSync.j0 k t278 t289 (t289 != t278) a0_0 l0_1 t274 t275 t280 t281 t285 t286) else (laws_FnExactWalSync.j0 k t278 t289 true a0_0 l0_1 t274 t275 t280 t281 t285 t286)) = some r := H
   have A37 := aM A370
   clear A370
   by_cases c38 : t291 = true
   ·subst c38
    have H1 : (laws_FnExactWalSync.j0 k t278 t289 (t289 != t278) a0_0 l0_1 t274 t275 t280 t281 t285 t286) = some r := by rw [if_pos rfl] at H; exact H
    clear H
    have H := H1
    clear H1
    have H' := aM H
    clear H
    have hnb39 := NB290_268.out
    have hnc39 := NB268_290.out
    have hnb40 := NB290_279.out
    have hnc40 := NB279_290.out
    have hnb41 := NB290_284.out
    have hnc41 := NB284_290.out
    have hcz42_0 : w31.cell? ⟨gb290, 0, none⟩ = some (.int .i64 0) := (kC BK290.out 0).trans rfl
    have hcz42_1 : w31.cell? ⟨gb290, 1, none⟩ = some (.slice none 0 0) := (kC BK290.out 1).trans rfl
    have hfz42_0 := kF BK290.out 0
    have hfz42_1 := kF BK290.out 1
    have hnb43 := NB279_268.out
    have hnc43 := NB268_279.out
    have hnb44 := NB279_284.out
    have hnc44 := NB284_279.out
    have hcz45_0 : w31.cell? ⟨gb279, 0, none⟩ = some (.int .i64 t274) := (kC BK279.out 0).trans rfl
    have hcz45_1 : w31.cell? ⟨gb279, 1, none⟩ = some (.slice Ao22 t275.length co22) := (kC BK279.out 1).trans rfl
    have hfz45_0 := kF BK279.out 0
    have hfz45_1 := kF BK279.out 1
    go_wp2_with (first | ((with_reducible refine gate_callee (f := 11) rfl ?_); refine goesL_ (some 34) rfl rfl Tryd.func11 (by kernel_rfl) rfl #[.agg #[.int .i64 t285, .slice Ao36 t286.length co36], .agg #[.int .i64 t274, .slice Ao22 t275.length co22]] rfl (by (try simp only [List.map_toArray, List.map_cons, List.map_nil]); first | done | rfl | (simp only [List.length_drop, List.length_take]; rfl)) ?_; (with_reducible refine (laws_eqDisk.calls k t285 _ _ t286 t274 _ _ t275 true _ ?side1 ?side2 ?side3 ?side4 A37.out).mono ?_); (case side1 => refine (Kd.R_reads' (e := 69) (base := w.heap.size) (ok := fun k_ => ((True ∧ some k_ ≠ (.slice Ao22 t275.length co22 : Value).ownBlock) ∧ some k_ ≠ (.slice Ao29 t281.length co29 : Value).ownBlock)) (n := t286.length) (c := co36) ?_).2.2; exact (by (with_reducible repeat (first | apply Kd.R_alloc | apply Kd.R_drewN | apply Kd.R_drew)); exact (Kd.R_mono (Kd.R_far (p := ⟨gb290, 1, none⟩) (Kd.R_far (p := ⟨gb290, 0, none⟩) (Kd.R_types HO288.out BK290.out (by decide)) (fun _ hk => hk.2) (.int .i64 t285)) (fun _ hk => hk.2) (.slice Ao36 t286.length co36)) (fun _ h_ => h_.1)))); (case side2 => exact (Kd.R_reads' HO288.out).2.1); (case side3 => refine (Kd.R_reads' (e := 69) (base := w.heap.size) (ok := fun k_ => ((True ∧ some k_ ≠ (.slice Ao29 t281.length co29 : Value).ownBlock) ∧ some k_ ≠ (.slice Ao36 t286.length co36 : Value).ownBlock)) (n := t275.length) (c := co22) ?_).2.2; exact (by (with_reducible repeat (first | apply Kd.R_alloc | apply Kd.R_drewN | apply Kd.R_drew)); exact (Kd.R_mono (Kd.R_far (p := ⟨gb290, 1, none⟩) (Kd.R_far (p := ⟨gb290, 0, none⟩) (Kd.R_types HO277.out BK290.out (by decide)) (fun _ hk => hk.2) (.int .i64 t285)) (fun _ hk => hk.2) (.slice Ao36 t286.length co36)) (fun _ h_ => h_.1)))); (case side4 => exact (Kd.R_reads' HO277.out).2.1); rintro e w46 ⟨rfl, hb⟩; refine ⟨_, rfl, ?_⟩; have n0_ := aM (Kd.R_below (by (with_reducible repeat (first | apply Kd.R_alloc | apply Kd.R_drewN | apply Kd.R_drew)); exact (Kd.R_mono (Kd.R_far (p := ⟨gb290, 1, none⟩) (Kd.R_far (p := ⟨gb290, 0, none⟩) (Kd.R_types HO277.out BK290.out (by decide)) (fun _ hk => hk.2) (.int .i64 t285)) (fun _ hk => hk.2) (.slice Ao36 t286.length co36)) (fun _ h_ => h_.1))) hb); have n1_ := aM (Kd.R_below (by (with_reducible repeat (first | apply Kd.R_alloc | apply Kd.R_drewN | apply Kd.R_drew)); exact (Kd.R_mono (Kd.R_far (p := ⟨gb290, 1, none⟩) (Kd.R_far (p := ⟨gb290, 0, none⟩) (Kd.R_types HO283.out BK290.out (by decide)) (fun _ hk => hk.2) (.int .i64 t285)) (fun _ hk => hk.2) (.slice Ao36 t286.length co36)) (fun _ h_ => h_.1))) hb); have n2_ := aM (Kd.R_below (by (with_reducible repeat (first | apply Kd.R_alloc | apply Kd.R_drewN | apply Kd.R_drew)); exact (Kd.R_mono (Kd.R_far (p := ⟨gb290, 1, none⟩) (Kd.R_far (p := ⟨gb290, 0, none⟩) (Kd.R_types HO288.out BK290.out (by decide)) (fun _ hk => hk.2) (.int .i64 t285)) (fun _ hk => hk.2) (.slice Ao36 t286.length co36)) (fun _ h_ => h_.1))) hb); have n3_ := aM (blk_below (g := gb268) (o := .cells #[.int .i64 a0_0, .slice A0_1 l0_1.length c0_1] 24 (0, 0)) (by (with_reducible repeat (first | refine kN ?_ _ | refine kD ?_ | refine kA ?_ _)); refine blk_far ?_ NB268_290.out _; (with_reducible repeat (first | refine kN ?_ _ | refine kD ?_ | refine kA ?_ _)); refine blk_far ?_ NB268_290.out _; (with_reducible repeat (first | refine kN ?_ _ | refine kD ?_ | refine kA ?_ _)); exact BK268.out) hb); have n4_ := aM (blk_below (g := gb279) (o := .cells #[.int .i64 t274, .slice Ao22 t275.length co22] 33 (0, 0)) (by (with_reducible repeat (first | refine kN ?_ _ | refine kD ?_ | refine kA ?_ _)); refine blk_far ?_ NB279_290.out _; (with_reducible repeat (first | refine kN ?_ _ | refine kD ?_ | refine kA ?_ _)); refine blk_far ?_ NB279_290.out _; (with_reducible repeat (first | refine kN ?_ _ | refine kD ?_ | refine kA ?_ _)); exact BK279.out) hb); have n5_ := aM (blk_below (g := gb284) (o := .cells #[.int .i64 t280, .slice Ao29 t281.length co29] 33 (0, 0)) (by (with_reducible repeat (first | refine kN ?_ _ | refine kD ?_ | refine kA ?_ _)); refine blk_far ?_ NB284_290.out _; (with_reducible repeat (first | refine kN ?_ _ | refine kD ?_ | refine kA ?_ _)); refine blk_far ?_ NB284_290.out _; (with_reducible repeat (first | refine kN ?_ _ | refine kD ?_ | refine kA ?_ _)); exact BK284.out) hb); have n6_ := aM (blk_below (g := gb290) (o := .cells #[.int .i64 t285, .slice Ao36 t286.length co36] 33 (0, 0)) (by (with_reducible repeat (first | refine kN ?_ _ | refine kD ?_ | refine kA ?_ _)); refine blk_put (cs := #[.int .i64 t285, .slice none 0 0]) ?_ 1 _ rfl; (with_reducible repeat (first | refine kN ?_ _ | refine kD ?_ | refine kA ?_ _)); refine blk_put (cs := #[.int .i64 0, .slice none 0 0]) ?_ 0 _ rfl; (with_reducible repeat (first | refine kN ?_ _ | refine kD ?_ | refine kA ?_ _)); exact BK290.out) hb); have n7_ := aM (below_step (by repeat (first | (with_reducible first | exact HB.out | apply bA | apply bN | apply bD | refine bS ?_ GE268.out | refine bS ?_ GE279.out | refine bS ?_ GE284.out | refine bS ?_ GE290.out) | exact HB.out)) hb); clear HO277; clear HO283; clear HO288; clear BK268; clear BK279; clear BK284; clear BK290; clear HB; have HO277 := n0_; have HO283 := n1_; have HO288 := n2_; have BK268 := n3_; have BK279 := n4_; have BK284 := n5_; have BK290 := n6_; have HB := n7_; clear n0_ n1_ n2_ n3_ n4_ n5_ n6_ n7_; (try clear hb); (try clear hb2); (try clear hk); (try clear hi)))
    go_meet
    case rel => exact ⟨_, ((t289 != t278)), (by first | rfl | (simp; done) | (simp [*]; done)), H', ⟨by first | omega | exact Nat.le_refl _⟩, ⟨by (with_reducible repeat (first | apply Kd.R_alloc | apply Kd.R_drewN | apply Kd.R_drew)); exact Kd.R_mono HO277.out (fun _ hk => ⟨hk.1.2, hk.2⟩)⟩, ⟨by (with_reducible repeat (first | apply Kd.R_alloc | apply Kd.R_drewN | apply Kd.R_drew)); exact Kd.R_mono HO283.out (fun _ hk => ⟨hk.1.2, hk.2⟩)⟩, ⟨by (with_reducible repeat (first | apply Kd.R_alloc | apply Kd.R_drewN | apply Kd.R_drew)); exact Kd.R_mono HO288.out (fun _ hk => ⟨hk.1.2, hk.2⟩)⟩, ⟨by (with_reducible repeat (first | refine kN ?_ _ | refine kD ?_ | refine kA ?_ _)); exact BK268.out⟩, ⟨by (with_reducible repeat (first | refine kN ?_ _ | refine kD ?_ | refine kA ?_ _)); exact BK279.out⟩, ⟨by (with_reducible repeat (first | refine kN ?_ _ | refine kD ?_ | refine kA ?_ _)); exact BK284.out⟩, ⟨by (with_reducible repeat (first | refine kN ?_ _ | refine kD ?_ | refine kA ?_ _)); exact BK290.out⟩, ⟨by repeat (first | (with_reducible first | exact HB.out | apply bA | apply bN | apply bD | refine bS ?_ GE268.out | refine bS ?_ GE279.out | refine bS ?_ GE284.out | refine bS ?_ GE290.out) | exact HB.out)⟩⟩
   ·replace c38 := Bool.eq_false_iff.mpr c38
    subst c38
    have H1 : (laws_FnExactWalSync.j0 k t278 t289 true a0_0 l0_1 t274 t275 t280 t281 t285 t286) = some r := by rw [if_neg (show ¬ (false = true) by decide)] at H; exact H
    clear H
    have H := H1
    clear H1
    have H' := aM H
    clear H
    have hnb47 := NB290_268.out
    have hnc47 := NB268_290.out
    have hnb48 := NB290_279.out
    have hnc48 := NB279_290.out
    have hnb49 := NB290_284.out
    have hnc49 := NB284_290.out
    have hcz50_0 : w31.cell? ⟨gb290, 0, none⟩ = some (.int .i64 0) := (kC BK290.out 0).trans rfl
    have hcz50_1 : w31.cell? ⟨gb290, 1, none⟩ = some (.slice none 0 0) := (kC BK290.out 1).trans rfl
    have hfz50_0 := kF BK290.out 0
    have hfz50_1 := kF BK290.out 1
    have hnb51 := NB279_268.out
    have hnc51 := NB268_279.out
    have hnb52 := NB279_284.out
    have hnc52 := NB284_279.out
    have hcz53_0 : w31.cell? ⟨gb279, 0, none⟩ = some (.int .i64 t274) := (kC BK279.out 0).trans rfl
    have hcz53_1 : w31.cell? ⟨gb279, 1, none⟩ = some (.slice Ao22 t275.length co22) := (kC BK279.out 1).trans rfl
    have hfz53_0 := kF BK279.out 0
    have hfz53_1 := kF BK279.out 1
    go_wp2_with (first | ((with_reducible refine gate_callee (f := 11) rfl ?_); refine goesL_ (some 34) rfl rfl Tryd.func11 (by kernel_rfl) rfl #[.agg #[.int .i64 t285, .slice Ao36 t286.length co36], .agg #[.int .i64 t274, .slice Ao22 t275.length co22]] rfl (by (try simp only [List.map_toArray, List.map_cons, List.map_nil]); first | done | rfl | (simp only [List.length_drop, List.length_take]; rfl)) ?_; (with_reducible refine (laws_eqDisk.calls k t285 _ _ t286 t274 _ _ t275 false _ ?side1 ?side2 ?side3 ?side4 A37.out).mono ?_); (case side1 => refine (Kd.R_reads' (e := 69) (base := w.heap.size) (ok := fun k_ => ((True ∧ some k_ ≠ (.slice Ao22 t275.length co22 : Value).ownBlock) ∧ some k_ ≠ (.slice Ao29 t281.length co29 : Value).ownBlock)) (n := t286.length) (c := co36) ?_).2.2; exact (by (with_reducible repeat (first | apply Kd.R_alloc | apply Kd.R_drewN | apply Kd.R_drew)); exact (Kd.R_mono (Kd.R_far (p := ⟨gb290, 1, none⟩) (Kd.R_far (p := ⟨gb290, 0, none⟩) (Kd.R_types HO288.out BK290.out (by decide)) (fun _ hk => hk.2) (.int .i64 t285)) (fun _ hk => hk.2) (.slice Ao36 t286.length co36)) (fun _ h_ => h_.1)))); (case side2 => exact (Kd.R_reads' HO288.out).2.1); (case side3 => refine (Kd.R_reads' (e := 69) (base := w.heap.size) (ok := fun k_ => ((True ∧ some k_ ≠ (.slice Ao29 t281.length co29 : Value).ownBlock) ∧ some k_ ≠ (.slice Ao36 t286.length co36 : Value).ownBlock)) (n := t275.length) (c := co22) ?_).2.2; exact (by (with_reducible repeat (first | apply Kd.R_alloc | apply Kd.R_drewN | apply Kd.R_drew)); exact (Kd.R_mono (Kd.R_far (p := ⟨gb290, 1, none⟩) (Kd.R_far (p := ⟨gb290, 0, none⟩) (Kd.R_types HO277.out BK290.out (by decide)) (fun _ hk => hk.2) (.int .i64 t285)) (fun _ hk => hk.2) (.slice Ao36 t286.length co36)) (fun _ h_ => h_.1)))); (case side4 => exact (Kd.R_reads' HO277.out).2.1); rintro e w54 ⟨rfl, hb⟩; refine ⟨_, rfl, ?_⟩; have n0_ := aM (Kd.R_below (by (with_reducible repeat (first | apply Kd.R_alloc | apply Kd.R_drewN | apply Kd.R_drew)); exact (Kd.R_mono (Kd.R_far (p := ⟨gb290, 1, none⟩) (Kd.R_far (p := ⟨gb290, 0, none⟩) (Kd.R_types HO277.out BK290.out (by decide)) (fun _ hk => hk.2) (.int .i64 t285)) (fun _ hk => hk.2) (.slice Ao36 t286.length co36)) (fun _ h_ => h_.1))) hb); have n1_ := aM (Kd.R_below (by (with_reducible repeat (first | apply Kd.R_alloc | apply Kd.R_drewN | apply Kd.R_drew)); exact (Kd.R_mono (Kd.R_far (p := ⟨gb290, 1, none⟩) (Kd.R_far (p := ⟨gb290, 0, none⟩) (Kd.R_types HO283.out BK290.out (by decide)) (fun _ hk => hk.2) (.int .i64 t285)) (fun _ hk => hk.2) (.slice Ao36 t286.length co36)) (fun _ h_ => h_.1))) hb); have n2_ := aM (Kd.R_below (by (with_reducible repeat (first | apply Kd.R_alloc | apply Kd.R_drewN | apply Kd.R_drew)); exact (Kd.R_mono (Kd.R_far (p := ⟨gb290, 1, none⟩) (Kd.R_far (p := ⟨gb290, 0, none⟩) (Kd.R_types HO288.out BK290.out (by decide)) (fun _ hk => hk.2) (.int .i64 t285)) (fun _ hk => hk.2) (.slice Ao36 t286.length co36)) (fun _ h_ => h_.1))) hb); have n3_ := aM (blk_below (g := gb268) (o := .cells #[.int .i64 a0_0, .slice A0_1 l0_1.length c0_1] 24 (0, 0)) (by (with_reducible repeat (first | refine kN ?_ _ | refine kD ?_ | refine kA ?_ _)); refine blk_far ?_ NB268_290.out _; (with_reducible repeat (first | refine kN ?_ _ | refine kD ?_ | refine kA ?_ _)); refine blk_far ?_ NB268_290.out _; (with_reducible repeat (first | refine kN ?_ _ | refine kD ?_ | refine kA ?_ _)); exact BK268.out) hb); have n4_ := aM (blk_below (g := gb279) (o := .cells #[.int .i64 t274, .slice Ao22 t275.length co22] 33 (0, 0)) (by (with_reducible repeat (first | refine kN ?_ _ | refine kD ?_ | refine kA ?_ _)); refine blk_far ?_ NB279_290.out _; (with_reducible repeat (first | refine kN ?_ _ | refine kD ?_ | refine kA ?_ _)); refine blk_far ?_ NB279_290.out _; (with_reducible repeat (first | refine kN ?_ _ | refine kD ?_ | refine kA ?_ _)); exact BK279.out) hb); have n5_ := aM (blk_below (g := gb284) (o := .cells #[.int .i64 t280, .slice Ao29 t281.length co29] 33 (0, 0)) (by (with_reducible repeat (first | refine kN ?_ _ | refine kD ?_ | refine kA ?_ _)); refine blk_far ?_ NB284_290.out _; (with_reducible repeat (first | refine kN ?_ _ | refine kD ?_ | refine kA ?_ _)); refine blk_far ?_ NB284_290.out _; (with_reducible repeat (first | refine kN ?_ _ | refine kD ?_ | refine kA ?_ _)); exact BK284.out) hb); have n6_ := aM (blk_below (g := gb290) (o := .cells #[.int .i64 t285, .slice Ao36 t286.length co36] 33 (0, 0)) (by (with_reducible repeat (first | refine kN ?_ _ | refine kD ?_ | refine kA ?_ _)); refine blk_put (cs := #[.int .i64 t285, .slice none 0 0]) ?_ 1 _ rfl; (with_reducible repeat (first | refine kN ?_ _ | refine kD ?_ | refine kA ?_ _)); refine blk_put (cs := #[.int .i64 0, .slice none 0 0]) ?_ 0 _ rfl; (with_reducible repeat (first | refine kN ?_ _ | refine kD ?_ | refine kA ?_ _)); exact BK290.out) hb); have n7_ := aM (below_step (by repeat (first | (with_reducible first | exact HB.out | apply bA | apply bN | apply bD | refine bS ?_ GE268.out | refine bS ?_ GE279.out | refine bS ?_ GE284.out | refine bS ?_ GE290.out) | exact HB.out)) hb); clear HO277; clear HO283; clear HO288; clear BK268; clear BK279; clear BK284; clear BK290; clear HB; have HO277 := n0_; have HO283 := n1_; have HO288 := n2_; have BK268 := n3_; have BK279 := n4_; have BK284 := n5_; have BK290 := n6_; have HB := n7_; clear n0_ n1_ n2_ n3_ n4_ n5_ n6_ n7_; (try clear hb); (try clear hb2); (try clear hk); (try clear hi)))
    go_meet
    case rel => exact ⟨_, (true), (by first | rfl | (simp; done) | (simp [*]; done)), H', ⟨by first | omega | exact Nat.le_refl _⟩, ⟨by (with_reducible repeat (first | apply Kd.R_alloc | apply Kd.R_drewN | apply Kd.R_drew)); exact Kd.R_mono HO277.out (fun _ hk => ⟨hk.1.2, hk.2⟩)⟩, ⟨by (with_reducible repeat (first | apply Kd.R_alloc | apply Kd.R_drewN | apply Kd.R_drew)); exact Kd.R_mono HO283.out (fun _ hk => ⟨hk.1.2, hk.2⟩)⟩, ⟨by (with_reducible repeat (first | apply Kd.R_alloc | apply Kd.R_drewN | apply Kd.R_drew)); exact Kd.R_mono HO288.out (fun _ hk => ⟨hk.1.2, hk.2⟩)⟩, ⟨by (with_reducible repeat (first | refine kN ?_ _ | refine kD ?_ | refine kA ?_ _)); exact BK268.out⟩, ⟨by (with_reducible repeat (first | refine kN ?_ _ | refine kD ?_ | refine kA ?_ _)); exact BK279.out⟩, ⟨by (with_reducible repeat (first | refine kN ?_ _ | refine kD ?_ | refine kA ?_ _)); exact BK284.out⟩, ⟨by (with_reducible repeat (first | refine kN ?_ _ | refine kD ?_ | refine kA ?_ _)); exact BK290.out⟩, ⟨by repeat (first | (with_reducible first | exact HB.out | apply bA | apply bN | apply bD | refine bS ?_ GE268.out | refine bS ?_ GE279.out | refine bS ?_ GE284.out | refine bS ?_ GE290.out) | exact HB.out)⟩⟩
  case rest =>
   clear HC11
   obtain ⟨kq, x40_10, rfl, HA, HJ10, HO_280001, HO_285001, HO_291001, BK268, BK279, BK284, BK290, HB⟩ := hcut
   cases kq with
   | zero => exact absurd HA.out (by simp [laws_FnExactWalSync.j0])
   | succ kj10 =>
    have H := HA.out
    clear HA
    simp only [laws_FnExactWalSync.j0] at H
    by_cases c55 : x40_10 = true
    ·subst c55
     have H1 : (some false) = some r := by rw [if_pos rfl] at H; exact H
     clear H
     have H := H1
     clear H1
     obtain rfl := Option.some.inj H
     go_wp2
     go_ret
     exact ⟨by first | rfl | (simp [errW_none, errW_some] <;> rfl) | (simp [*, errW_none, errW_some] <;> rfl), by repeat (first | (with_reducible first | exact HB.out | apply bA | apply bN | apply bD | refine bS ?_ GE268.out | refine bS ?_ GE279.out | refine bS ?_ GE284.out | refine bS ?_ GE290.out) | exact HB.out)⟩
    ·replace c55 := Bool.eq_false_iff.mpr c55
     subst c55
     have H1 : ((laws_toDisk.f kj10 a0_0 l0_1).bind fun bt292 => ((laws_eqDisk.f kj10 t280 t281 bt292.1 bt292.2).bind fun t296 => (if t296 = true then ((laws_markDisk.f kj10 t280 t281 1).bind fun bt297 => (if bt297.1 < 0 then (laws_FnExactWalSync.j1 kj10 t278 true a0_0 l0_1 t274 t275 t285 t286) else ((laws_eqDisk.f kj10 t285 t286 t274 t275).bind fun t299 => (if t299 = true then (laws_FnExactWalSync.j1 kj10 t278 (t289 != t278) a0_0 l0_1 t274 t275 t285 t286) else (laws_FnExactWalSync.j1 kj10 t278 true a0_0 l0_1 t274 t275 t285 t286))))) else (some false)))) = some r := by rw [if_neg (show ¬ (false = true) by decide)] at H; exact H
     clear H
     have H := H1
     clear H1
     replace H := Option.bind_eq_some_iff.mp H
     obtain ⟨⟨t292, t293⟩, A560, H⟩ := H
     replace H : ((laws_eqDisk.f kj10 t280 t281 t292 t293).bind fun t296 => (if t296 = true then ((laws_markDisk.f kj10 t280 t281 1).bind fun bt297 => (if bt297.1 < 0 then (laws_FnExactWalSync.j1 kj10 t278 true a0_0 l0_1 t274 t275 t285 t286) else ((laws_eqDisk.f kj10 t285 t286 t274 t275).bind fun t299 => (if t299 = true then (laws_FnExactWalSync.j1 kj10 t278 (t289 != t278) a0_0 l0_1 t274 t275 t285 t286) else (laws_FnExactWalSync.j1 kj10 t278 true a0_0 l0_1 t274 t275 t285 t286))))) else (some false))) = some r := H
     have A56 := aM A560
     clear A560
     replace H := Option.bind_eq_some_iff.mp H
     obtain ⟨t296, A570, H⟩ := H
     replace H : (if t296 = true then ((laws_markDisk.f kj10 t280 t281 1).bind fun bt297 => (if bt297.1 < 0 then (laws_FnExactWalSync.j1 kj10 t278 true a0_0 l0_1 t274 t275 t285 t286) else ((laws_eqDisk.f kj10 t285 t286 t274 t275).bind fun t299 => (if t299 = true then (laws_FnExactWalSync.j1 kj10 t278 (t289 != t278) a0_0 l0_1 t274 t275 t285 t286) else (laws_FnExactWalSync.j1 kj10 t278 true a0_0 l0_1 t274 t275 t285 t286))))) else (some false)) = some r := H
     have A57 := aM A570
     clear A570
     by_cases c58 : t296 = true
     ·subst c58
      have H1 : ((laws_markDisk.f kj10 t280 t281 1).bind fun bt297 => (if bt297.1 < 0 then (laws_FnExactWalSync.j1 kj10 t278 true a0_0 l0_1 t274 t275 t285 t286) else ((laws_eqDisk.f kj10 t285 t286 t274 t275).bind fun t299 => (if t299 = true then (laws_FnExactWalSync.j1 kj10 t278 (t289 != t278) a0_0 l0_1 t274 t275 t285 t286) else (laws_FnExactWalSync.j1 kj10 t278 true a0_0 l0_1 t274 t275 t285 t286))))) = some r := by rw [if_pos rfl] at H; exact H
      clear H
      have H := H1
      clear H1
      replace H := Option.bind_eq_some_iff.mp H
      obtain ⟨⟨t297, t298⟩, A590, H⟩ := H
      replace H : (if t297 < 0 then (laws_FnExactWalSync.j1 kj10 t278 true a0_0 l0_1 t274 t275 t285 t286) else ((laws_eqDisk.f kj10 t285 t286 t274 t275).bind fun t299 => (if t299 = true then (laws_FnExactWalSync.j1 kj10 t278 (t289 != t278) a0_0 l0_1 t274 t275 t285 t286) else (laws_FnExactWalSync.j1 kj10 t278 true a0_0 l0_1 t274 t275 t285 t286)))) = some r := H
      have A59 := aM A590
      clear A590
      have HC60 := aM H
      clear H
      try go_wp2
      have n0_ := aM (Kd.R_drew HO_280001.out)
      have n1_ := aM (Kd.R_drew HO_285001.out)
      have n2_ := aM (Kd.R_drew HO_291001.out)
      have n3_ := aM (kD BK268.out)
      have n4_ := aM (kD BK279.out)
      have n5_ := aM (kD BK284.out)
      have n6_ := aM (kD BK290.out)
      have n7_ := aM (bD HB.out)
      clear HO_280001
      clear HO_285001
      clear HO_291001
      clear BK268
      clear BK279
      clear BK284
      clear BK290
      clear HB
      have HO_280001 := n0_
      have HO_285001 := n1_
      have HO_291001 := n2_
      have BK268 := n3_
      have BK279 := n4_
      have BK284 := n5_
      have BK290 := n6_
      have HB := n7_
      clear n0_ n1_ n2_ n3_ n4_ n5_ n6_ n7_
      refine start_ (n := 5) (S := fun w' => w'.cell? ⟨gb284, 0, none⟩ = some (.int .i64 t280) ∧ w'.cell? ⟨gb284, 1, none⟩ = some (.slice Ao29 t281.length co29) ∧ w'.cell? ⟨gb268, 0, none⟩ = some (.int .i64 a0_0) ∧ w'.cell? ⟨gb268, 1, none⟩ = some (.slice A0_1 l0_1.length c0_1)) (ds := []) #[F,F,F,F,F] (by kernel_rfl) rfl rfl ⟨(kC BK284.out 0).trans rfl, (kC BK284.out 1).trans rfl, (kC BK268.out 0).trans rfl, (kC BK268.out 1).trans rfl⟩ (fun hHeld => ?_)
      generalize wc.drew = w61 at HO_280001 HO_285001 HO_291001 BK268 BK279 BK284 BK290 HB hHeld ⊢
      refine take_ (i := 0) (N := some 41) (v := ?_) (a' := ?_) #[T,F,F,F,F] rfl rfl (by kernel_rfl) (fun _ _ _ h => h) (Or.inl ⟨by rfl, ?_⟩) hHeld ?_ ?_
      rotate_left
      ·rintro w' ⟨s0, s1, s2, s3⟩
       go_simp
       with_reducible rfl
      rotate_left
      ·simp only [Act.put, s1, s2, s3, i64_w, i32_w]
       rfl
      refine take_ (i := 1) (N := some 42) (v := ?_) (a' := ?_) #[T,T,F,F,F] rfl rfl (by kernel_rfl) (fun _ _ _ h => h) (Or.inl ⟨by rfl, ?_⟩) hHeld ?_ ?_
      rotate_left
      ·rintro w' ⟨s0, s1, s2, s3⟩
       go_simp
       with_reducible rfl
      rotate_left
      ·simp only [Act.put, s1, s2, s3, i64_w, i32_w]
       rfl
      refine one_ (i := 2) (N := some 43) #[T,T,T,F,F] rfl rfl (by kernel_rfl) (by decide) (fun K hK => ?_)
      refine goes_ Tryd.func8 (by kernel_rfl) rfl #[.agg #[.int .i64 a0_0, .slice A0_1 l0_1.length c0_1]] (by rfl) rfl rfl (by (try simp only [List.map_toArray, List.map_cons, List.map_nil]); first | done | rfl | (simp only [List.length_drop, List.length_take]; rfl)) ?_
      with_reducible refine (laws_toDisk.calls kj10 a0_0 _ _ l0_1 t292 t293 _ ?side1 ?side2 A56.out).mono ?_
      (case side1 => repeat (first | exact (Kd.C_below HR0_1.out HB.out) | (with_reducible refine Kd.C_alloc ?_ _) | (with_reducible refine Kd.C_drewN ?_ _) | (with_reducible refine Kd.C_drew ?_)))
      (case side2 => exact HC0_1.out)
      rintro e w62 ⟨v294, rfl, ho0, hb⟩
      refine ⟨_, rfl, ?_⟩
      have n0_ := aM (Kd.R_elder' (by (with_reducible repeat (first | apply Kd.R_alloc | apply Kd.R_drewN | apply Kd.R_drew)); exact HO_280001.out) (Kd.R_base ho0) hb)
      have n1_ := aM (Kd.R_elder' (by (with_reducible repeat (first | apply Kd.R_alloc | apply Kd.R_drewN | apply Kd.R_drew)); exact HO_285001.out) (Kd.R_base ho0) hb)
      have n2_ := aM (Kd.R_elder' (by (with_reducible repeat (first | apply Kd.R_alloc | apply Kd.R_drewN | apply Kd.R_drew)); exact HO_291001.out) (Kd.R_base ho0) hb)
      have n3_ := aM (Kd.R_lower (Kd.R_new' (Kd.R_new' (Kd.R_new' ho0 (Kd.R_lt (by (with_reducible repeat (first | apply Kd.R_alloc | apply Kd.R_drewN | apply Kd.R_drew)); exact HO_280001.out))) (Kd.R_lt (by (with_reducible repeat (first | apply Kd.R_alloc | apply Kd.R_drewN | apply Kd.R_drew)); exact HO_285001.out))) (Kd.R_lt (by (with_reducible repeat (first | apply Kd.R_alloc | apply Kd.R_drewN | apply Kd.R_drew)); exact HO_291001.out))) (below_size (by repeat (first | (with_reducible first | exact HB.out | apply bA | apply bN | apply bD | refine bS ?_ GE268.out | refine bS ?_ GE279.out | refine bS ?_ GE284.out | refine bS ?_ GE290.out) | exact HB.out))))
      have n4_ := aM (blk_below (g := gb268) (o := .cells #[.int .i64 a0_0, .slice A0_1 l0_1.length c0_1] 24 (0, 0)) (by (with_reducible repeat (first | refine kN ?_ _ | refine kD ?_ | refine kA ?_ _)); exact BK268.out) hb)
      have n5_ := aM (blk_below (g := gb279) (o := .cells #[.int .i64 t274, .slice Ao22 t275.length co22] 33 (0, 0)) (by (with_reducible repeat (first | refine kN ?_ _ | refine kD ?_ | refine kA ?_ _)); exact BK279.out) hb)
      have n6_ := aM (blk_below (g := gb284) (o := .cells #[.int .i64 t280, .slice Ao29 t281.length co29] 33 (0, 0)) (by (with_reducible repeat (first | refine kN ?_ _ | refine kD ?_ | refine kA ?_ _)); exact BK284.out) hb)
      have n7_ := aM (blk_below (g := gb290) (o := .cells #[.int .i64 t285, .slice Ao36 t286.length co36] 33 (0, 0)) (by (with_reducible repeat (first | refine kN ?_ _ | refine kD ?_ | refine kA ?_ _)); exact BK290.out) hb)
      have n8_ := aM (below_step (by repeat (first | (with_reducible first | exact HB.out | apply bA | apply bN | apply bD | refine bS ?_ GE268.out | refine bS ?_ GE279.out | refine bS ?_ GE284.out | refine bS ?_ GE290.out) | exact HB.out)) hb)
      clear HO_280001
      clear HO_285001
      clear HO_291001
      clear BK268
      clear BK279
      clear BK284
      clear BK290
      clear HB
      have HO_280001 := n0_
      have HO_285001 := n1_
      have HO_291001 := n2_
      have HO295 := n3_
      have BK268 := n4_
      have BK279 := n5_
      have BK284 := n6_
      have BK290 := n7_
      have HB := n8_
      clear n0_ n1_ n2_ n3_ n4_ n5_ n6_ n7_ n8_
      (try clear hb)
      (try clear hb2)
      (try clear hk)
      (try clear hi)
      (try clear ho0)
      obtain ⟨Ao63, co63, eo63⟩ := Kd.R_slice HO295.out
      (first | subst eo63 | (injection eo63 with f1_ f2_ f3_; have f4_ := f1_.symm; have f5_ := f3_.symm; clear f1_ f2_ f3_; subst f4_; subst f5_))
      refine hK.out _ _ ⟨(kC BK284.out 0).trans rfl, (kC BK284.out 1).trans rfl, (kC BK268.out 0).trans rfl, (kC BK268.out 1).trans rfl⟩ (fun hHeld => ?_)
      clear hK K
      refine norm_ (a' := ?_) ?_ ?_
      rotate_left
      ·show Act.put _ (some 43) _ = _
       simp only [Act.put, s1, s2, s3, i64_w, i32_w]
       rfl
      refine one_ (i := 3) (N := some 44) #[T,T,T,T,F] rfl rfl (by kernel_rfl) (by decide) (fun K hK => ?_)
      refine goes_ Tryd.func11 (by kernel_rfl) rfl #[.agg #[.int .i64 t280, .slice Ao29 t281.length co29], .agg #[.int .i64 t292, .slice Ao63 t293.length co63]] (by rfl) rfl rfl (by (try simp only [List.map_toArray, List.map_cons, List.map_nil]); first | done | rfl | (simp only [List.length_drop, List.length_take]; rfl)) ?_
      with_reducible refine (laws_eqDisk.calls kj10 t280 _ _ t281 t292 _ _ t293 true _ ?side1 ?side2 ?side3 ?side4 A57.out).mono ?_
      (case side1 => repeat (first | exact (Kd.R_reads' HO_285001.out).2.2 | (with_reducible refine Kd.C_alloc ?_ _) | (with_reducible refine Kd.C_drewN ?_ _) | (with_reducible refine Kd.C_drew ?_)))
      (case side2 => exact (Kd.R_reads' HO_285001.out).2.1)
      (case side3 => repeat (first | exact (Kd.R_reads' HO295.out).2.2 | (with_reducible refine Kd.C_alloc ?_ _) | (with_reducible refine Kd.C_drewN ?_ _) | (with_reducible refine Kd.C_drew ?_)))
      (case side4 => exact (Kd.R_reads' HO295.out).2.1)
      rintro e w64 ⟨rfl, hb⟩
      refine ⟨_, rfl, ?_⟩
      have n0_ := aM (Kd.R_below (by (with_reducible repeat (first | apply Kd.R_alloc | apply Kd.R_drewN | apply Kd.R_drew)); exact HO_280001.out) hb)
      have n1_ := aM (Kd.R_below (by (with_reducible repeat (first | apply Kd.R_alloc | apply Kd.R_drewN | apply Kd.R_drew)); exact HO_285001.out) hb)
      have n2_ := aM (Kd.R_below (by (with_reducible repeat (first | apply Kd.R_alloc | apply Kd.R_drewN | apply Kd.R_drew)); exact HO_291001.out) hb)
      have n3_ := aM (Kd.R_below (by (with_reducible repeat (first | apply Kd.R_alloc | apply Kd.R_drewN | apply Kd.R_drew)); exact HO295.out) hb)
      have n4_ := aM (blk_below (g := gb268) (o := .cells #[.int .i64 a0_0, .slice A0_1 l0_1.length c0_1] 24 (0, 0)) (by (with_reducible repeat (first | refine kN ?_ _ | refine kD ?_ | refine kA ?_ _)); exact BK268.out) hb)
      have n5_ := aM (blk_below (g := gb279) (o := .cells #[.int .i64 t274, .slice Ao22 t275.length co22] 33 (0, 0)) (by (with_reducible repeat (first | refine kN ?_ _ | refine kD ?_ | refine kA ?_ _)); exact BK279.out) hb)
      have n6_ := aM (blk_below (g := gb284) (o := .cells #[.int .i64 t280, .slice Ao29 t281.length co29] 33 (0, 0)) (by (with_reducible repeat (first | refine kN ?_ _ | refine kD ?_ | refine kA ?_ _)); exact BK284.out) hb)
      have n7_ := aM (blk_below (g := gb290) (o := .cells #[.int .i64 t285, .slice Ao36 t286.length co36] 33 (0, 0)) (by (with_reducible repeat (first | refine kN ?_ _ | refine kD ?_ | refine kA ?_ _)); exact BK290.out) hb)
      have n8_ := aM (below_step (by repeat (first | (with_reducible first | exact HB.out | apply bA | apply bN | apply bD | refine bS ?_ GE268.out | refine bS ?_ GE279.out | refine bS ?_ GE284.out | refine bS ?_ GE290.out) | exact HB.out)) hb)
      clear HO_280001
      clear HO_285001
      clear HO_291001
      clear HO295
      clear BK268
      clear BK279
      clear BK284
      clear BK290
      clear HB
      have HO_280001 := n0_
      have HO_285001 := n1_
      have HO_291001 := n2_
      have HO295 := n3_
      have BK268 := n4_
      have BK279 := n5_
      have BK284 := n6_
      have BK290 := n7_
      have HB := n8_
      clear n0_ n1_ n2_ n3_ n4_ n5_ n6_ n7_ n8_
      (try clear hb)
      (try clear hb2)
      (try clear hk)
      (try clear hi)
      refine hK.out _ _ ⟨(kC BK284.out 0).trans rfl, (kC BK284.out 1).trans rfl, (kC BK268.out 0).trans rfl, (kC BK268.out 1).trans rfl⟩ (fun hHeld => ?_)
      clear hK K
      refine norm_ (a' := ?_) ?_ ?_
      rotate_left
      ·show Act.put _ (some 44) _ = _
       simp only [Act.put, s1, s2, s3, i64_w, i32_w]
       rfl
      refine pure_ (i := 4) (N := some 45) (v := ?_) (a' := ?_) #[T,T,T,T,T] rfl rfl (by kernel_rfl) (fun _ _ _ h => h) (Or.inl ⟨by rfl, ?_⟩) ?_ ?_
      rotate_left
      ·intro w'
       go_simp
       with_reducible rfl
      rotate_left
      ·simp only [Act.put, s1, s2, s3, i64_w, i32_w]
       rfl
      refine done_ (by kernel_rfl) ?_
      have hnb65 := NB284_268.out
      have hnc65 := NB268_284.out
      have hnb66 := NB284_279.out
      have hnc66 := NB279_284.out
      have hnb67 := NB284_290.out
      have hnc67 := NB290_284.out
      have hcz68_0 : w64.cell? ⟨gb284, 0, none⟩ = some (.int .i64 t280) := (kC BK284.out 0).trans rfl
      have hcz68_1 : w64.cell? ⟨gb284, 1, none⟩ = some (.slice Ao29 t281.length co29) := (kC BK284.out 1).trans rfl
      have hfz68_0 := kF BK284.out 0
      have hfz68_1 := kF BK284.out 1
      go_upto_region 14 with (first | ((with_reducible refine gate_callee (f := 12) rfl ?_); refine goesL_ (some 48) rfl rfl Tryd.func12 (by kernel_rfl) rfl #[.agg #[.int .i64 t280, .slice Ao29 t281.length co29], .int .i64 1] rfl (by (try simp only [List.map_toArray, List.map_cons, List.map_nil]); first | done | rfl | (simp only [List.length_drop, List.length_take]; rfl)) ?_; (with_reducible refine (laws_markDisk.calls kj10 t280 (fun k_ => some k_ = (.slice Ao29 t281.length co29 : Value).ownBlock) (.slice Ao29 t281.length co29) t281 1 t297 t298 w _ ?side1 ?side2 A59.out).mono ?_); (case side1 => repeat (first | (with_reducible first | exact HB.out | apply bA | apply bN | apply bD | refine bS ?_ GE268.out | refine bS ?_ GE279.out | refine bS ?_ GE284.out | refine bS ?_ GE290.out) | exact HB.out)); (case side2 => exact Kd.R_tight rfl HO_285001.out); rintro e w69 ⟨rfl, hy0, hb, hkp⟩; refine ⟨_, rfl, ?_⟩; have n0_ := aM (Kd.R_mono (ok' := fun k_ => some k_ ≠ (.slice Ao29 t281.length co29 : Value).ownBlock ∧ some k_ ≠ (.slice Ao36 t286.length co36 : Value).ownBlock ∧ some k_ ≠ (.slice Ao63 t293.length co63 : Value).ownBlock) (Kd.R_keptB (HO_280001.out) hkp (fun k_ hk_ hs_ => (hk_.1.1) hs_)) (fun k_ hk_ => ⟨hk_.1.1.1, hk_.1.1.2, hk_.1.2⟩)); have n1_ := aM (Kd.R_reok rfl hy0 (fun k_ e_ => HO_285001.out.1 k_ e_)); have n2_ := aM (Kd.R_mono (ok' := fun k_ => some k_ ≠ (.slice Ao22 t275.length co22 : Value).ownBlock ∧ some k_ ≠ (.slice Ao29 t281.length co29 : Value).ownBlock ∧ some k_ ≠ (.slice Ao63 t293.length co63 : Value).ownBlock) (Kd.R_keptB (HO_291001.out) hkp (fun k_ hk_ hs_ => (hk_.1.2) hs_)) (fun k_ hk_ => ⟨hk_.1.1.1, hk_.1.1.2, hk_.1.2⟩)); have n3_ := aM (blk_kept (by (with_reducible repeat (first | refine kN ?_ _ | refine kD ?_ | refine kA ?_ _)); exact BK268.out) hkp (fun hs_ => (fun e_ => (Kd.R_ne HO_285001.out BK268.out (by decide)) e_) hs_)); have n4_ := aM (blk_kept (by (with_reducible repeat (first | refine kN ?_ _ | refine kD ?_ | refine kA ?_ _)); exact BK279.out) hkp (fun hs_ => (fun e_ => (Kd.R_ne HO_285001.out BK279.out (by decide)) e_) hs_)); have n5_ := aM (blk_kept (by (with_reducible repeat (first | refine kN ?_ _ | refine kD ?_ | refine kA ?_ _)); exact BK284.out) hkp (fun hs_ => (fun e_ => (Kd.R_ne HO_285001.out BK284.out (by decide)) e_) hs_)); have n6_ := aM (blk_kept (by (with_reducible repeat (first | refine kN ?_ _ | refine kD ?_ | refine kA ?_ _)); exact BK290.out) hkp (fun hs_ => (fun e_ => (Kd.R_ne HO_285001.out BK290.out (by decide)) e_) hs_)); have n7_ := aM (Kd.R_mono (ok' := fun k_ => some k_ ≠ (.slice Ao22 t275.length co22 : Value).ownBlock ∧ some k_ ≠ (.slice Ao29 t281.length co29 : Value).ownBlock ∧ some k_ ≠ (.slice Ao36 t286.length co36 : Value).ownBlock) (Kd.R_keptB (HO295.out) hkp (fun k_ hk_ hs_ => (hk_.1.2) hs_)) (fun k_ hk_ => ⟨hk_.1.1.1.2, hk_.1.1.2, hk_.1.2⟩)); have n8_ := aM (hb); clear HO_280001; clear HO_285001; clear HO_291001; clear BK268; clear BK279; clear BK284; clear BK290; clear HO295; clear HB; have HO_280001 := n0_; have HO_285001 := n1_; have HO_291001 := n2_; have BK268 := n3_; have BK279 := n4_; have BK284 := n5_; have BK290 := n6_; have HO295 := n7_; have HB := n8_; clear n0_ n1_ n2_ n3_ n4_ n5_ n6_ n7_ n8_; (try clear hb); (try clear hkp); (try clear hy0)))
      (try simp only [Act.put, s1, s2, s3])
      go_cut [61] (fun v61 wc => ∃ (kq : Nat) (x61_59 : Bool), v61 = .bool x61_59 ∧ Aside0 (laws_FnExactWalSync.j1 kq t278 x61_59 a0_0 l0_1 t274 t275 t285 t286 = some r) ∧ Aside0 (kq ≤ kj10) ∧ Aside0 (Kd.R k69 69 wc w.heap.size (fun k_ => some k_ ≠ ((.slice Ao29 t281.length co29) : Value).ownBlock ∧ some k_ ≠ ((.slice Ao36 t286.length co36) : Value).ownBlock) (.slice Ao22 t275.length co22) t275) ∧ Aside0 (Kd.R k69 69 wc w.heap.size (fun k_ => some k_ ≠ ((.slice Ao22 t275.length co22) : Value).ownBlock ∧ some k_ ≠ ((.slice Ao36 t286.length co36) : Value).ownBlock) (.slice Ao29 t281.length co29) t298) ∧ Aside0 (Kd.R k69 69 wc w.heap.size (fun k_ => some k_ ≠ ((.slice Ao22 t275.length co22) : Value).ownBlock ∧ some k_ ≠ ((.slice Ao29 t281.length co29) : Value).ownBlock) (.slice Ao36 t286.length co36) t286) ∧ Aside0 (wc.heap[gb268]? = some (.cells #[.int .i64 a0_0, (.slice A0_1 l0_1.length c0_1)] 24 (0, 0))) ∧ Aside0 (wc.heap[gb279]? = some (.cells #[.int .i64 t274, (.slice Ao22 t275.length co22)] 33 (0, 0))) ∧ Aside0 (wc.heap[gb284]? = some (.cells #[.int .i64 t280, (.slice Ao29 t281.length co29)] 33 (0, 0))) ∧ Aside0 (wc.heap[gb290]? = some (.cells #[.int .i64 t285, (.slice Ao36 t286.length co36)] 33 (0, 0))) ∧ Aside0 (Below w.heap.size w wc))
      case first =>
       have H := HC60.out
       clear HC60
       by_cases c70 : t297 < 0
       ·rw [if_pos c70] at H
        have c70b0 : decide (t297 < 0) = true := decide_eq_true c70
        clear c70
        (first | rw [c70b0] | (simp only [i64_w, i32_w]; rw [c70b0]) | skip)
        have H' := aM H
        clear H
        go_wp2
        go_meet
        case rel => exact ⟨_, (true), (by first | rfl | (simp; done) | (simp [*]; done)), H', ⟨by have := HJ10.out; first | omega | exact Nat.le_refl _⟩, ⟨by (with_reducible repeat (first | apply Kd.R_alloc | apply Kd.R_drewN | apply Kd.R_drew)); exact Kd.R_mono HO_280001.out (fun _ hk => ⟨hk.1, hk.2.1⟩)⟩, ⟨by (with_reducible repeat (first | apply Kd.R_alloc | apply Kd.R_drewN | apply Kd.R_drew)); exact Kd.R_mono HO_285001.out (fun _ hk => ⟨hk.1.1, hk.1.2⟩)⟩, ⟨by (with_reducible repeat (first | apply Kd.R_alloc | apply Kd.R_drewN | apply Kd.R_drew)); exact Kd.R_mono HO_291001.out (fun _ hk => ⟨hk.1, hk.2.1⟩)⟩, ⟨by (with_reducible repeat (first | refine kN ?_ _ | refine kD ?_ | refine kA ?_ _)); exact BK268.out⟩, ⟨by (with_reducible repeat (first | refine kN ?_ _ | refine kD ?_ | refine kA ?_ _)); exact BK279.out⟩, ⟨by (with_reducible repeat (first | refine kN ?_ _ | refine kD ?_ | refine kA ?_ _)); exact BK284.out⟩, ⟨by (with_reducible repeat (first | refine kN ?_ _ | refine kD ?_ | refine kA ?_ _)); exact BK290.out⟩, ⟨by repeat (first | (with_reducible first | exact HB.out | apply bA | apply bN | apply bD | refine bS ?_ GE268.out | refine bS ?_ GE279.out | refine bS ?_ GE284.out | refine bS ?_ GE290.out) | exact HB.out)⟩⟩
       ·rw [if_neg c70] at H
        have c70b0 : decide (t297 < 0) = false := decide_eq_false c70
        clear c70
        (first | rw [c70b0] | (simp only [i64_w, i32_w]; rw [c70b0]) | skip)
        replace H := Option.bind_eq_some_iff.mp H
        obtain ⟨t299, A710, H⟩ := H
        replace H : (if t299 = true then (laws_FnExactWalSync.j1 kj10 t278 (t289 != t278) a0_0 l0_1 t274 t275 t285 t286) else (laws_FnExactWalSync.j1 kj10 t278 true a0_0 l0_1 t274 t275 t285 t286)) = some r := H
        have A71 := aM A710
        clear A710
        by_cases c72 : t299 = true
        ·subst c72
         have H1 : (laws_FnExactWalSync.j1 kj10 t278 (t289 != t278) a0_0 l0_1 t274 t275 t285 t286) = some r := by rw [if_pos rfl] at H; exact H
         clear H
         have H := H1
         clear H1
         have H' := aM H
         clear H
         have hnb73 := NB290_268.out
         have hnc73 := NB268_290.out
         have hnb74 := NB290_279.out
         have hnc74 := NB279_290.out
         have hnb75 := NB290_284.out
         have hnc75 := NB284_290.out
         have hcz76_0 : w69.cell? ⟨gb290, 0, none⟩ = some (.int .i64 t285) := (kC BK290.out 0).trans rfl
         have hcz76_1 : w69.cell? ⟨gb290, 1, none⟩ = some (.slice Ao36 t286.length co36) := (kC BK290.out 1).trans rfl
         have hfz76_0 := kF BK290.out 0
         have hfz76_1 := kF BK290.out 1
         have hnb77 := NB279_268.out
         have hnc77 := NB268_279.out
         have hnb78 := NB279_284.out
         have hnc78 := NB284_279.out
         have hcz79_0 : w69.cell? ⟨gb279, 0, none⟩ = some (.int .i64 t274) := (kC BK279.out 0).trans rfl
         have hcz79_1 : w69.cell? ⟨gb279, 1, none⟩ = some (.slice Ao22 t275.length co22) := (kC BK279.out 1).trans rfl
         have hfz79_0 := kF BK279.out 0
         have hfz79_1 := kF BK279.out 1
         go_wp2_with (first | (go_at_call 11; (with_reducible refine (laws_eqDisk.calls kj10 t285 _ _ t286 t274 _ _ t275 true _ ?side1 ?side2 ?side3 ?side4 A71.out).mono ?_); (case side1 => repeat (first | exact (Kd.R_reads' HO_291001.out).2.2 | (with_reducible refine Kd.C_alloc ?_ _) | (with_reducible refine Kd.C_drewN ?_ _) | (with_reducible refine Kd.C_drew ?_))); (case side2 => exact (Kd.R_reads' HO_291001.out).2.1); (case side3 => repeat (first | exact (Kd.R_reads' HO_280001.out).2.2 | (with_reducible refine Kd.C_alloc ?_ _) | (with_reducible refine Kd.C_drewN ?_ _) | (with_reducible refine Kd.C_drew ?_))); (case side4 => exact (Kd.R_reads' HO_280001.out).2.1); rintro e w80 ⟨rfl, hb⟩; have n0_ := aM (Kd.R_below (by (with_reducible repeat (first | apply Kd.R_alloc | apply Kd.R_drewN | apply Kd.R_drew)); exact HO_280001.out) hb); have n1_ := aM (Kd.R_below (by (with_reducible repeat (first | apply Kd.R_alloc | apply Kd.R_drewN | apply Kd.R_drew)); exact HO_285001.out) hb); have n2_ := aM (Kd.R_below (by (with_reducible repeat (first | apply Kd.R_alloc | apply Kd.R_drewN | apply Kd.R_drew)); exact HO_291001.out) hb); have n3_ := aM (Kd.R_below (by (with_reducible repeat (first | apply Kd.R_alloc | apply Kd.R_drewN | apply Kd.R_drew)); exact HO295.out) hb); have n4_ := aM (blk_below (g := gb268) (o := .cells #[.int .i64 a0_0, .slice A0_1 l0_1.length c0_1] 24 (0, 0)) (by (with_reducible repeat (first | refine kN ?_ _ | refine kD ?_ | refine kA ?_ _)); exact BK268.out) hb); have n5_ := aM (blk_below (g := gb279) (o := .cells #[.int .i64 t274, .slice Ao22 t275.length co22] 33 (0, 0)) (by (with_reducible repeat (first | refine kN ?_ _ | refine kD ?_ | refine kA ?_ _)); exact BK279.out) hb); have n6_ := aM (blk_below (g := gb284) (o := .cells #[.int .i64 t280, .slice Ao29 t281.length co29] 33 (0, 0)) (by (with_reducible repeat (first | refine kN ?_ _ | refine kD ?_ | refine kA ?_ _)); exact BK284.out) hb); have n7_ := aM (blk_below (g := gb290) (o := .cells #[.int .i64 t285, .slice Ao36 t286.length co36] 33 (0, 0)) (by (with_reducible repeat (first | refine kN ?_ _ | refine kD ?_ | refine kA ?_ _)); exact BK290.out) hb); have n8_ := aM (below_step (by repeat (first | (with_reducible first | exact HB.out | apply bA | apply bN | apply bD | refine bS ?_ GE268.out | refine bS ?_ GE279.out | refine bS ?_ GE284.out | refine bS ?_ GE290.out) | exact HB.out)) hb); clear HO_280001; clear HO_285001; clear HO_291001; clear HO295; clear BK268; clear BK279; clear BK284; clear BK290; clear HB; have HO_280001 := n0_; have HO_285001 := n1_; have HO_291001 := n2_; have HO295 := n3_; have BK268 := n4_; have BK279 := n5_; have BK284 := n6_; have BK290 := n7_; have HB := n8_; clear n0_ n1_ n2_ n3_ n4_ n5_ n6_ n7_ n8_; (try clear hb); (try clear hb2); (try clear hk); (try clear hi)))
         go_meet
         case rel => exact ⟨_, ((t289 != t278)), (by first | rfl | (simp; done) | (simp [*]; done)), H', ⟨by have := HJ10.out; first | omega | exact Nat.le_refl _⟩, ⟨by (with_reducible repeat (first | apply Kd.R_alloc | apply Kd.R_drewN | apply Kd.R_drew)); exact Kd.R_mono HO_280001.out (fun _ hk => ⟨hk.1, hk.2.1⟩)⟩, ⟨by (with_reducible repeat (first | apply Kd.R_alloc | apply Kd.R_drewN | apply Kd.R_drew)); exact Kd.R_mono HO_285001.out (fun _ hk => ⟨hk.1.1, hk.1.2⟩)⟩, ⟨by (with_reducible repeat (first | apply Kd.R_alloc | apply Kd.R_drewN | apply Kd.R_drew)); exact Kd.R_mono HO_291001.out (fun _ hk => ⟨hk.1, hk.2.1⟩)⟩, ⟨by (with_reducible repeat (first | refine kN ?_ _ | refine kD ?_ | refine kA ?_ _)); exact BK268.out⟩, ⟨by (with_reducible repeat (first | refine kN ?_ _ | refine kD ?_ | refine kA ?_ _)); exact BK279.out⟩, ⟨by (with_reducible repeat (first | refine kN ?_ _ | refine kD ?_ | refine kA ?_ _)); exact BK284.out⟩, ⟨by (with_reducible repeat (first | refine kN ?_ _ | refine kD ?_ | refine kA ?_ _)); exact BK290.out⟩, ⟨by repeat (first | (with_reducible first | exact HB.out | apply bA | apply bN | apply bD | refine bS ?_ GE268.out | refine bS ?_ GE279.out | refine bS ?_ GE284.out | refine bS ?_ GE290.out) | exact HB.out)⟩⟩
        ·replace c72 := Bool.eq_false_iff.mpr c72
         subst c72
         have H1 : (laws_FnExactWalSync.j1 kj10 t278 true a0_0 l0_1 t274 t275 t285 t286) = some r := by rw [if_neg (show ¬ (false = true) by decide)] at H; exact H
         clear H
         have H := H1
         clear H1
         have H' := aM H
         clear H
         have hnb81 := NB290_268.out
         have hnc81 := NB268_290.out
         have hnb82 := NB290_279.out
         have hnc82 := NB279_290.out
         have hnb83 := NB290_284.out
         have hnc83 := NB284_290.out
         have hcz84_0 : w69.cell? ⟨gb290, 0, none⟩ = some (.int .i64 t285) := (kC BK290.out 0).trans rfl
         have hcz84_1 : w69.cell? ⟨gb290, 1, none⟩ = some (.slice Ao36 t286.length co36) := (kC BK290.out 1).trans rfl
         have hfz84_0 := kF BK290.out 0
         have hfz84_1 := kF BK290.out 1
         have hnb85 := NB279_268.out
         have hnc85 := NB268_279.out
         have hnb86 := NB279_284.out
         have hnc86 := NB284_279.out
         have hcz87_0 : w69.cell? ⟨gb279, 0, none⟩ = some (.int .i64 t274) := (kC BK279.out 0).trans rfl
         have hcz87_1 : w69.cell? ⟨gb279, 1, none⟩ = some (.slice Ao22 t275.length co22) := (kC BK279.out 1).trans rfl
         have hfz87_0 := kF BK279.out 0
         have hfz87_1 := kF BK279.out 1
         go_wp2_with (first | (go_at_call 11; (with_reducible refine (laws_eqDisk.calls kj10 t285 _ _ t286 t274 _ _ t275 false _ ?side1 ?side2 ?side3 ?side4 A71.out).mono ?_); (case side1 => repeat (first | exact (Kd.R_reads' HO_291001.out).2.2 | (with_reducible refine Kd.C_alloc ?_ _) | (with_reducible refine Kd.C_drewN ?_ _) | (with_reducible refine Kd.C_drew ?_))); (case side2 => exact (Kd.R_reads' HO_291001.out).2.1); (case side3 => repeat (first | exact (Kd.R_reads' HO_280001.out).2.2 | (with_reducible refine Kd.C_alloc ?_ _) | (with_reducible refine Kd.C_drewN ?_ _) | (with_reducible refine Kd.C_drew ?_))); (case side4 => exact (Kd.R_reads' HO_280001.out).2.1); rintro e w88 ⟨rfl, hb⟩; have n0_ := aM (Kd.R_below (by (with_reducible repeat (first | apply Kd.R_alloc | apply Kd.R_drewN | apply Kd.R_drew)); exact HO_280001.out) hb); have n1_ := aM (Kd.R_below (by (with_reducible repeat (first | apply Kd.R_alloc | apply Kd.R_drewN | apply Kd.R_drew)); exact HO_285001.out) hb); have n2_ := aM (Kd.R_below (by (with_reducible repeat (first | apply Kd.R_alloc | apply Kd.R_drewN | apply Kd.R_drew)); exact HO_291001.out) hb); have n3_ := aM (Kd.R_below (by (with_reducible repeat (first | apply Kd.R_alloc | apply Kd.R_drewN | apply Kd.R_drew)); exact HO295.out) hb); have n4_ := aM (blk_below (g := gb268) (o := .cells #[.int .i64 a0_0, .slice A0_1 l0_1.length c0_1] 24 (0, 0)) (by (with_reducible repeat (first | refine kN ?_ _ | refine kD ?_ | refine kA ?_ _)); exact BK268.out) hb); have n5_ := aM (blk_below (g := gb279) (o := .cells #[.int .i64 t274, .slice Ao22 t275.length co22] 33 (0, 0)) (by (with_reducible repeat (first | refine kN ?_ _ | refine kD ?_ | refine kA ?_ _)); exact BK279.out) hb); have n6_ := aM (blk_below (g := gb284) (o := .cells #[.int .i64 t280, .slice Ao29 t281.length co29] 33 (0, 0)) (by (with_reducible repeat (first | refine kN ?_ _ | refine kD ?_ | refine kA ?_ _)); exact BK284.out) hb); have n7_ := aM (blk_below (g := gb290) (o := .cells #[.int .i64 t285, .slice Ao36 t286.length co36] 33 (0, 0)) (by (with_reducible repeat (first | refine kN ?_ _ | refine kD ?_ | refine kA ?_ _)); exact BK290.out) hb); have n8_ := aM (below_step (by repeat (first | (with_reducible first | exact HB.out | apply bA | apply bN | apply bD | refine bS ?_ GE268.out | refine bS ?_ GE279.out | refine bS ?_ GE284.out | refine bS ?_ GE290.out) | exact HB.out)) hb); clear HO_280001; clear HO_285001; clear HO_291001; clear HO295; clear BK268; clear BK279; clear BK284; clear BK290; clear HB; have HO_280001 := n0_; have HO_285001 := n1_; have HO_291001 := n2_; have HO295 := n3_; have BK268 := n4_; have BK279 := n5_; have BK284 := n6_; have BK290 := n7_; have HB := n8_; clear n0_ n1_ n2_ n3_ n4_ n5_ n6_ n7_ n8_; (try clear hb); (try clear hb2); (try clear hk); (try clear hi)))
         go_meet
         case rel => exact ⟨_, (true), (by first | rfl | (simp; done) | (simp [*]; done)), H', ⟨by have := HJ10.out; first | omega | exact Nat.le_refl _⟩, ⟨by (with_reducible repeat (first | apply Kd.R_alloc | apply Kd.R_drewN | apply Kd.R_drew)); exact Kd.R_mono HO_280001.out (fun _ hk => ⟨hk.1, hk.2.1⟩)⟩, ⟨by (with_reducible repeat (first | apply Kd.R_alloc | apply Kd.R_drewN | apply Kd.R_drew)); exact Kd.R_mono HO_285001.out (fun _ hk => ⟨hk.1.1, hk.1.2⟩)⟩, ⟨by (with_reducible repeat (first | apply Kd.R_alloc | apply Kd.R_drewN | apply Kd.R_drew)); exact Kd.R_mono HO_291001.out (fun _ hk => ⟨hk.1, hk.2.1⟩)⟩, ⟨by (with_reducible repeat (first | refine kN ?_ _ | refine kD ?_ | refine kA ?_ _)); exact BK268.out⟩, ⟨by (with_reducible repeat (first | refine kN ?_ _ | refine kD ?_ | refine kA ?_ _)); exact BK279.out⟩, ⟨by (with_reducible repeat (first | refine kN ?_ _ | refine kD ?_ | refine kA ?_ _)); exact BK284.out⟩, ⟨by (with_reducible repeat (first | refine kN ?_ _ | refine kD ?_ | refine kA ?_ _)); exact BK290.out⟩, ⟨by repeat (first | (with_reducible first | exact HB.out | apply bA | apply bN | apply bD | refine bS ?_ GE268.out | refine bS ?_ GE279.out | refine bS ?_ GE284.out | refine bS ?_ GE290.out) | exact HB.out)⟩⟩
      case rest =>
       clear HC60
       obtain ⟨kq, x61_59, rfl, HA, HJ59, HO_280001, HO_285001, HO_291001, BK268, BK279, BK284, BK290, HB⟩ := hcut
       have hl285001_59 := (Kd.R_reads' HO_285001.out).1
       rw [hl285001_59] at HO_285001
       (try simp only [hl285001_59])
       (try simp only [hl285001_59] at BK268)
       (try simp only [hl285001_59] at BK279)
       (try simp only [hl285001_59] at BK284)
       (try simp only [hl285001_59] at BK290)
       (try simp only [hl285001_59] at HO_280001)
       (try simp only [hl285001_59] at HO_291001)
       cases kq with
       | zero => exact absurd HA.out (by simp [laws_FnExactWalSync.j1])
       | succ kj59 =>
        have H := HA.out
        clear HA
        simp only [laws_FnExactWalSync.j1] at H
        by_cases c89 : x61_59 = true
        ·subst c89
         have H1 : (some false) = some r := by rw [if_pos rfl] at H; exact H
         clear H
         have H := H1
         clear H1
         obtain rfl := Option.some.inj H
         go_wp2
         go_ret
         exact ⟨by first | rfl | (simp [errW_none, errW_some] <;> rfl) | (simp [*, errW_none, errW_some] <;> rfl), by repeat (first | (with_reducible first | exact HB.out | apply bA | apply bN | apply bD | refine bS ?_ GE268.out | refine bS ?_ GE279.out | refine bS ?_ GE284.out | refine bS ?_ GE290.out) | exact HB.out)⟩
        ·replace c89 := Bool.eq_false_iff.mpr c89
         subst c89
         have H1 : ((laws_markDisk.f kj59 t285 t286 1).bind fun bt300 => ((laws_heldDisk.f kj59 t285 bt300.2 1).bind fun t302 => (if t302 < 0 then (some false) else (if t302 = bt300.1 then ((laws_toDisk.f kj59 a0_0 l0_1).bind fun bt303 => ((impl_WalSync.f kj59 bt303.1 bt303.2).bind fun bt307 => ((laws_eqDisk.f kj59 bt307.1 bt307.2.1 t274 t275).bind fun t313 => (if t313 = true then (laws_FnExactWalSync.j2 kj59 bt300.1 (bt307.2.2 != t278) t285 bt300.2) else (laws_FnExactWalSync.j2 kj59 bt300.1 true t285 bt300.2))))) else (some false))))) = some r := by rw [if_neg (show ¬ (false = true) by decide)] at H; exact H
         clear H
         have H := H1
         clear H1
         replace H := Option.bind_eq_some_iff.mp H
         obtain ⟨⟨t300, t301⟩, A900, H⟩ := H
         replace H : ((laws_heldDisk.f kj59 t285 t301 1).bind fun t302 => (if t302 < 0 then (some false) else (if t302 = t300 then ((laws_toDisk.f kj59 a0_0 l0_1).bind fun bt303 => ((impl_WalSync.f kj59 bt303.1 bt303.2).bind fun bt307 => ((laws_eqDisk.f kj59 bt307.1 bt307.2.1 t274 t275).bind fun t313 => (if t313 = true then (laws_FnExactWalSync.j2 kj59 t300 (bt307.2.2 != t278) t285 t301) else (laws_FnExactWalSync.j2 kj59 t300 true t285 t301))))) else (some false)))) = some r := H
         have A90 := aM A900
         clear A900
         replace H := Option.bind_eq_some_iff.mp H
         obtain ⟨t302, A910, H⟩ := H
         replace H : (if t302 < 0 then (some false) else (if t302 = t300 then ((laws_toDisk.f kj59 a0_0 l0_1).bind fun bt303 => ((impl_WalSync.f kj59 bt303.1 bt303.2).bind fun bt307 => ((laws_eqDisk.f kj59 bt307.1 bt307.2.1 t274 t275).bind fun t313 => (if t313 = true then (laws_FnExactWalSync.j2 kj59 t300 (bt307.2.2 != t278) t285 t301) else (laws_FnExactWalSync.j2 kj59 t300 true t285 t301))))) else (some false))) = some r := H
         have A91 := aM A910
         clear A910
         by_cases c92 : t302 < 0
         ·rw [if_pos c92] at H
          have c92b0 : decide (t302 < 0) = true := decide_eq_true c92
          clear c92
          obtain rfl := Option.some.inj H
          have hnb93 := NB290_268.out
          have hnc93 := NB268_290.out
          have hnb94 := NB290_279.out
          have hnc94 := NB279_290.out
          have hnb95 := NB290_284.out
          have hnc95 := NB284_290.out
          have hcz96_0 : wc.cell? ⟨gb290, 0, none⟩ = some (.int .i64 t285) := (kC BK290.out 0).trans rfl
          have hcz96_1 : wc.cell? ⟨gb290, 1, none⟩ = some (.slice Ao36 t286.length co36) := (kC BK290.out 1).trans rfl
          have hfz96_0 := kF BK290.out 0
          have hfz96_1 := kF BK290.out 1
          go_wp2_with (first | ((with_reducible refine gate_callee (f := 12) rfl ?_); refine goesL_ (some 64) rfl rfl Tryd.func12 (by kernel_rfl) rfl #[.agg #[.int .i64 t285, .slice Ao36 t286.length co36], .int .i64 1] rfl (by (try simp only [List.map_toArray, List.map_cons, List.map_nil]); first | done | rfl | (simp only [List.length_drop, List.length_take]; rfl)) ?_; (with_reducible refine (laws_markDisk.calls kj59 t285 (fun k_ => some k_ = (.slice Ao36 t286.length co36 : Value).ownBlock) (.slice Ao36 t286.length co36) t286 1 t300 t301 w _ ?side1 ?side2 A90.out).mono ?_); (case side1 => repeat (first | (with_reducible first | exact HB.out | apply bA | apply bN | apply bD | refine bS ?_ GE268.out | refine bS ?_ GE279.out | refine bS ?_ GE284.out | refine bS ?_ GE290.out) | exact HB.out)); (case side2 => exact Kd.R_tight rfl HO_291001.out); rintro e w97 ⟨rfl, hy0, hb, hkp⟩; refine ⟨_, rfl, ?_⟩; have n0_ := aM (Kd.R_mono (ok' := fun k_ => some k_ ≠ (.slice Ao29 t298.length co29 : Value).ownBlock ∧ some k_ ≠ (.slice Ao36 t286.length co36 : Value).ownBlock) (Kd.R_keptB (HO_280001.out) hkp (fun k_ hk_ hs_ => (hk_.2) hs_)) (fun k_ hk_ => ⟨hk_.1.1, hk_.1.2⟩)); have n1_ := aM (Kd.R_mono (ok' := fun k_ => some k_ ≠ (.slice Ao22 t275.length co22 : Value).ownBlock ∧ some k_ ≠ (.slice Ao36 t286.length co36 : Value).ownBlock) (Kd.R_keptB (HO_285001.out) hkp (fun k_ hk_ hs_ => (hk_.2) hs_)) (fun k_ hk_ => ⟨hk_.1.1, hk_.1.2⟩)); have n2_ := aM (Kd.R_reok rfl hy0 (fun k_ e_ => HO_291001.out.1 k_ e_)); have n3_ := aM (blk_kept (by (with_reducible repeat (first | refine kN ?_ _ | refine kD ?_ | refine kA ?_ _)); exact BK268.out) hkp (fun hs_ => (fun e_ => (Kd.R_ne HO_291001.out BK268.out (by decide)) e_) hs_)); have n4_ := aM (blk_kept (by (with_reducible repeat (first | refine kN ?_ _ | refine kD ?_ | refine kA ?_ _)); exact BK279.out) hkp (fun hs_ => (fun e_ => (Kd.R_ne HO_291001.out BK279.out (by decide)) e_) hs_)); have n5_ := aM (blk_kept (by (with_reducible repeat (first | refine kN ?_ _ | refine kD ?_ | refine kA ?_ _)); exact BK284.out) hkp (fun hs_ => (fun e_ => (Kd.R_ne HO_291001.out BK284.out (by decide)) e_) hs_)); have n6_ := aM (blk_kept (by (with_reducible repeat (first | refine kN ?_ _ | refine kD ?_ | refine kA ?_ _)); exact BK290.out) hkp (fun hs_ => (fun e_ => (Kd.R_ne HO_291001.out BK290.out (by decide)) e_) hs_)); have n7_ := aM (hb); clear HO_280001; clear HO_285001; clear HO_291001; clear BK268; clear BK279; clear BK284; clear BK290; clear HB; have HO_280001 := n0_; have HO_285001 := n1_; have HO_291001 := n2_; have BK268 := n3_; have BK279 := n4_; have BK284 := n5_; have BK290 := n6_; have HB := n7_; clear n0_ n1_ n2_ n3_ n4_ n5_ n6_ n7_; (try clear hb); (try clear hkp); (try clear hy0); have hcz98_0 : w97.cell? ⟨gb290, 0, none⟩ = some (.int .i64 t285) := (kC BK290.out 0).trans rfl; have hcz98_1 : w97.cell? ⟨gb290, 1, none⟩ = some (.slice Ao36 t286.length co36) := (kC BK290.out 1).trans rfl; have hfz98_0 := kF BK290.out 0; have hfz98_1 := kF BK290.out 1) | ((with_reducible refine gate_callee (f := 22) rfl ?_); refine goesL_ (some 67) rfl rfl Tryd.func22 (by kernel_rfl) rfl #[.agg #[.int .i64 t285, .slice Ao36 t301.length co36], .int .i64 1] rfl (by (try simp only [List.map_toArray, List.map_cons, List.map_nil]); first | done | (rw [show t301.length = t286.length from (Kd.R_reads' HO_291001.out).1.symm] <;> rfl) | rfl | (simp only [List.length_drop, List.length_take]; rfl)) ?_; (with_reducible refine (laws_heldDisk.calls kj59 t285 _ _ t301 1 t302 _ ?side1 ?side2 A91.out).mono ?_); (case side1 => repeat (first | exact (Kd.R_reads' HO_291001.out).2.2 | (with_reducible refine Kd.C_alloc ?_ _) | (with_reducible refine Kd.C_drewN ?_ _) | (with_reducible refine Kd.C_drew ?_))); (case side2 => rw [show t301.length = t286.length from (Kd.R_reads' HO_291001.out).1.symm]; exact (Kd.R_reads' HO_291001.out).2.1); rintro e w99 ⟨rfl, hb⟩; refine ⟨_, rfl, ?_⟩; have n0_ := aM (Kd.R_below (by (with_reducible repeat (first | apply Kd.R_alloc | apply Kd.R_drewN | apply Kd.R_drew)); exact HO_280001.out) hb); have n1_ := aM (Kd.R_below (by (with_reducible repeat (first | apply Kd.R_alloc | apply Kd.R_drewN | apply Kd.R_drew)); exact HO_285001.out) hb); have n2_ := aM (Kd.R_below (by (with_reducible repeat (first | apply Kd.R_alloc | apply Kd.R_drewN | apply Kd.R_drew)); exact HO_291001.out) hb); have n3_ := aM (blk_below (g := gb268) (o := .cells #[.int .i64 a0_0, .slice A0_1 l0_1.length c0_1] 24 (0, 0)) (by (with_reducible repeat (first | refine kN ?_ _ | refine kD ?_ | refine kA ?_ _)); exact BK268.out) hb); have n4_ := aM (blk_below (g := gb279) (o := .cells #[.int .i64 t274, .slice Ao22 t275.length co22] 33 (0, 0)) (by (with_reducible repeat (first | refine kN ?_ _ | refine kD ?_ | refine kA ?_ _)); exact BK279.out) hb); have n5_ := aM (blk_below (g := gb284) (o := .cells #[.int .i64 t280, .slice Ao29 t298.length co29] 33 (0, 0)) (by (with_reducible repeat (first | refine kN ?_ _ | refine kD ?_ | refine kA ?_ _)); exact BK284.out) hb); have n6_ := aM (blk_below (g := gb290) (o := .cells #[.int .i64 t285, .slice Ao36 t286.length co36] 33 (0, 0)) (by (with_reducible repeat (first | refine kN ?_ _ | refine kD ?_ | refine kA ?_ _)); exact BK290.out) hb); have n7_ := aM (below_step (by repeat (first | (with_reducible first | exact HB.out | apply bA | apply bN | apply bD | refine bS ?_ GE268.out | refine bS ?_ GE279.out | refine bS ?_ GE284.out | refine bS ?_ GE290.out) | exact HB.out)) hb); clear HO_280001; clear HO_285001; clear HO_291001; clear BK268; clear BK279; clear BK284; clear BK290; clear HB; have HO_280001 := n0_; have HO_285001 := n1_; have HO_291001 := n2_; have BK268 := n3_; have BK279 := n4_; have BK284 := n5_; have BK290 := n6_; have HB := n7_; clear n0_ n1_ n2_ n3_ n4_ n5_ n6_ n7_; (try clear hb); (try clear hb2); (try clear hk); (try clear hi)))
          go_ret
          exact ⟨by first | rfl | (simp [errW_none, errW_some] <;> rfl) | (simp [*, errW_none, errW_some] <;> rfl), by repeat (first | (with_reducible first | exact HB.out | apply bA | apply bN | apply bD | refine bS ?_ GE268.out | refine bS ?_ GE279.out | refine bS ?_ GE284.out | refine bS ?_ GE290.out) | exact HB.out)⟩
         ·rw [if_neg c92] at H
          have c92b0 : decide (t302 < 0) = false := decide_eq_false c92
          clear c92
          by_cases c100 : t302 = t300
          ·rw [if_pos c100] at H
           have c100b0 : (t302 == t300) = true := beq_iff_eq.mpr c100
           have c100b1 : (t302 != t300) = false := bne_eq_false_iff_eq.mpr c100
           clear c100
           replace H := Option.bind_eq_some_iff.mp H
           obtain ⟨⟨t303, t304⟩, A1010, H⟩ := H
           replace H : ((impl_WalSync.f kj59 t303 t304).bind fun bt307 => ((laws_eqDisk.f kj59 bt307.1 bt307.2.1 t274 t275).bind fun t313 => (if t313 = true then (laws_FnExactWalSync.j2 kj59 t300 (bt307.2.2 != t278) t285 t301) else (laws_FnExactWalSync.j2 kj59 t300 true t285 t301)))) = some r := H
           have A101 := aM A1010
           clear A1010
           replace H := Option.bind_eq_some_iff.mp H
           obtain ⟨⟨t307, t308, t311⟩, A1020, H⟩ := H
           replace H : ((laws_eqDisk.f kj59 t307 t308 t274 t275).bind fun t313 => (if t313 = true then (laws_FnExactWalSync.j2 kj59 t300 (t311 != t278) t285 t301) else (laws_FnExactWalSync.j2 kj59 t300 true t285 t301))) = some r := H
           have A102 := aM A1020
           clear A1020
           have HC103 := aM H
           clear H
           have hnb104 := NB290_268.out
           have hnc104 := NB268_290.out
           have hnb105 := NB290_279.out
           have hnc105 := NB279_290.out
           have hnb106 := NB290_284.out
           have hnc106 := NB284_290.out
           have hcz107_0 : wc.cell? ⟨gb290, 0, none⟩ = some (.int .i64 t285) := (kC BK290.out 0).trans rfl
           have hcz107_1 : wc.cell? ⟨gb290, 1, none⟩ = some (.slice Ao36 t286.length co36) := (kC BK290.out 1).trans rfl
           have hfz107_0 := kF BK290.out 0
           have hfz107_1 := kF BK290.out 1
           go_upto_region 25 with (first | ((with_reducible refine gate_callee (f := 12) rfl ?_); refine goesL_ (some 64) rfl rfl Tryd.func12 (by kernel_rfl) rfl #[.agg #[.int .i64 t285, .slice Ao36 t286.length co36], .int .i64 1] rfl (by (try simp only [List.map_toArray, List.map_cons, List.map_nil]); first | done | rfl | (simp only [List.length_drop, List.length_take]; rfl)) ?_; (with_reducible refine (laws_markDisk.calls kj59 t285 (fun k_ => some k_ = (.slice Ao36 t286.length co36 : Value).ownBlock) (.slice Ao36 t286.length co36) t286 1 t300 t301 w _ ?side1 ?side2 A90.out).mono ?_); (case side1 => repeat (first | (with_reducible first | exact HB.out | apply bA | apply bN | apply bD | refine bS ?_ GE268.out | refine bS ?_ GE279.out | refine bS ?_ GE284.out | refine bS ?_ GE290.out) | exact HB.out)); (case side2 => exact Kd.R_tight rfl HO_291001.out); rintro e w108 ⟨rfl, hy0, hb, hkp⟩; refine ⟨_, rfl, ?_⟩; have n0_ := aM (Kd.R_mono (ok' := fun k_ => some k_ ≠ (.slice Ao29 t298.length co29 : Value).ownBlock ∧ some k_ ≠ (.slice Ao36 t286.length co36 : Value).ownBlock) (Kd.R_keptB (HO_280001.out) hkp (fun k_ hk_ hs_ => (hk_.2) hs_)) (fun k_ hk_ => ⟨hk_.1.1, hk_.1.2⟩)); have n1_ := aM (Kd.R_mono (ok' := fun k_ => some k_ ≠ (.slice Ao22 t275.length co22 : Value).ownBlock ∧ some k_ ≠ (.slice Ao36 t286.length co36 : Value).ownBlock) (Kd.R_keptB (HO_285001.out) hkp (fun k_ hk_ hs_ => (hk_.2) hs_)) (fun k_ hk_ => ⟨hk_.1.1, hk_.1.2⟩)); have n2_ := aM (Kd.R_reok rfl hy0 (fun k_ e_ => HO_291001.out.1 k_ e_)); have n3_ := aM (blk_kept (by (with_reducible repeat (first | refine kN ?_ _ | refine kD ?_ | refine kA ?_ _)); exact BK268.out) hkp (fun hs_ => (fun e_ => (Kd.R_ne HO_291001.out BK268.out (by decide)) e_) hs_)); have n4_ := aM (blk_kept (by (with_reducible repeat (first | refine kN ?_ _ | refine kD ?_ | refine kA ?_ _)); exact BK279.out) hkp (fun hs_ => (fun e_ => (Kd.R_ne HO_291001.out BK279.out (by decide)) e_) hs_)); have n5_ := aM (blk_kept (by (with_reducible repeat (first | refine kN ?_ _ | refine kD ?_ | refine kA ?_ _)); exact BK284.out) hkp (fun hs_ => (fun e_ => (Kd.R_ne HO_291001.out BK284.out (by decide)) e_) hs_)); have n6_ := aM (blk_kept (by (with_reducible repeat (first | refine kN ?_ _ | refine kD ?_ | refine kA ?_ _)); exact BK290.out) hkp (fun hs_ => (fun e_ => (Kd.R_ne HO_291001.out BK290.out (by decide)) e_) hs_)); have n7_ := aM (hb); clear HO_280001; clear HO_285001; clear HO_291001; clear BK268; clear BK279; clear BK284; clear BK290; clear HB; have HO_280001 := n0_; have HO_285001 := n1_; have HO_291001 := n2_; have BK268 := n3_; have BK279 := n4_; have BK284 := n5_; have BK290 := n6_; have HB := n7_; clear n0_ n1_ n2_ n3_ n4_ n5_ n6_ n7_; (try clear hb); (try clear hkp); (try clear hy0); have hcz109_0 : w108.cell? ⟨gb290, 0, none⟩ = some (.int .i64 t285) := (kC BK290.out 0).trans rfl; have hcz109_1 : w108.cell? ⟨gb290, 1, none⟩ = some (.slice Ao36 t286.length co36) := (kC BK290.out 1).trans rfl; have hfz109_0 := kF BK290.out 0; have hfz109_1 := kF BK290.out 1) | ((with_reducible refine gate_callee (f := 22) rfl ?_); refine goesL_ (some 67) rfl rfl Tryd.func22 (by kernel_rfl) rfl #[.agg #[.int .i64 t285, .slice Ao36 t301.length co36], .int .i64 1] rfl (by (try simp only [List.map_toArray, List.map_cons, List.map_nil]); first | done | (rw [show t301.length = t286.length from (Kd.R_reads' HO_291001.out).1.symm] <;> rfl) | rfl | (simp only [List.length_drop, List.length_take]; rfl)) ?_; (with_reducible refine (laws_heldDisk.calls kj59 t285 _ _ t301 1 t302 _ ?side1 ?side2 A91.out).mono ?_); (case side1 => repeat (first | exact (Kd.R_reads' HO_291001.out).2.2 | (with_reducible refine Kd.C_alloc ?_ _) | (with_reducible refine Kd.C_drewN ?_ _) | (with_reducible refine Kd.C_drew ?_))); (case side2 => rw [show t301.length = t286.length from (Kd.R_reads' HO_291001.out).1.symm]; exact (Kd.R_reads' HO_291001.out).2.1); rintro e w110 ⟨rfl, hb⟩; refine ⟨_, rfl, ?_⟩; have n0_ := aM (Kd.R_below (by (with_reducible repeat (first | apply Kd.R_alloc | apply Kd.R_drewN | apply Kd.R_drew)); exact HO_280001.out) hb); have n1_ := aM (Kd.R_below (by (with_reducible repeat (first | apply Kd.R_alloc | apply Kd.R_drewN | apply Kd.R_drew)); exact HO_285001.out) hb); have n2_ := aM (Kd.R_below (by (with_reducible repeat (first | apply Kd.R_alloc | apply Kd.R_drewN | apply Kd.R_drew)); exact HO_291001.out) hb); have n3_ := aM (blk_below (g := gb268) (o := .cells #[.int .i64 a0_0, .slice A0_1 l0_1.length c0_1] 24 (0, 0)) (by (with_reducible repeat (first | refine kN ?_ _ | refine kD ?_ | refine kA ?_ _)); exact BK268.out) hb); have n4_ := aM (blk_below (g := gb279) (o := .cells #[.int .i64 t274, .slice Ao22 t275.length co22] 33 (0, 0)) (by (with_reducible repeat (first | refine kN ?_ _ | refine kD ?_ | refine kA ?_ _)); exact BK279.out) hb); have n5_ := aM (blk_below (g := gb284) (o := .cells #[.int .i64 t280, .slice Ao29 t298.length co29] 33 (0, 0)) (by (with_reducible repeat (first | refine kN ?_ _ | refine kD ?_ | refine kA ?_ _)); exact BK284.out) hb); have n6_ := aM (blk_below (g := gb290) (o := .cells #[.int .i64 t285, .slice Ao36 t286.length co36] 33 (0, 0)) (by (with_reducible repeat (first | refine kN ?_ _ | refine kD ?_ | refine kA ?_ _)); exact BK290.out) hb); have n7_ := aM (below_step (by repeat (first | (with_reducible first | exact HB.out | apply bA | apply bN | apply bD | refine bS ?_ GE268.out | refine bS ?_ GE279.out | refine bS ?_ GE284.out | refine bS ?_ GE290.out) | exact HB.out)) hb); clear HO_280001; clear HO_285001; clear HO_291001; clear BK268; clear BK279; clear BK284; clear BK290; clear HB; have HO_280001 := n0_; have HO_285001 := n1_; have HO_291001 := n2_; have BK268 := n3_; have BK279 := n4_; have BK284 := n5_; have BK290 := n6_; have HB := n7_; clear n0_ n1_ n2_ n3_ n4_ n5_ n6_ n7_; (try clear hb); (try clear hb2); (try clear hk); (try clear hi); have hnb111 := NB268_279.out; have hnc111 := NB279_268.out; have hnb112 := NB268_284.out; have hnc112 := NB284_268.out; have hcz113_0 : w110.cell? ⟨gb268, 0, none⟩ = some (.int .i64 a0_0) := (kC BK268.out 0).trans rfl; have hcz113_1 : w110.cell? ⟨gb268, 1, none⟩ = some (.slice A0_1 l0_1.length c0_1) := (kC BK268.out 1).trans rfl; have hfz113_0 := kF BK268.out 0; have hfz113_1 := kF BK268.out 1) | ((with_reducible refine gate_callee (f := 8) rfl ?_); refine goesL_ (some 75) rfl rfl Tryd.func8 (by kernel_rfl) rfl #[.agg #[.int .i64 a0_0, .slice A0_1 l0_1.length c0_1]] rfl (by (try simp only [List.map_toArray, List.map_cons, List.map_nil]); first | done | rfl | (simp only [List.length_drop, List.length_take]; rfl)) ?_; (with_reducible refine (laws_toDisk.calls kj59 a0_0 _ _ l0_1 t303 t304 _ ?side1 ?side2 A101.out).mono ?_); (case side1 => repeat (first | exact (Kd.C_below HR0_1.out HB.out) | (with_reducible refine Kd.C_alloc ?_ _) | (with_reducible refine Kd.C_drewN ?_ _) | (with_reducible refine Kd.C_drew ?_))); (case side2 => exact HC0_1.out); rintro e w114 ⟨v305, rfl, ho0, hb⟩; refine ⟨_, rfl, ?_⟩; have n0_ := aM (Kd.R_elder' (by (with_reducible repeat (first | apply Kd.R_alloc | apply Kd.R_drewN | apply Kd.R_drew)); exact HO_280001.out) (Kd.R_base ho0) hb); have n1_ := aM (Kd.R_elder' (by (with_reducible repeat (first | apply Kd.R_alloc | apply Kd.R_drewN | apply Kd.R_drew)); exact HO_285001.out) (Kd.R_base ho0) hb); have n2_ := aM (Kd.R_elder' (by (with_reducible repeat (first | apply Kd.R_alloc | apply Kd.R_drewN | apply Kd.R_drew)); exact HO_291001.out) (Kd.R_base ho0) hb); have n3_ := aM (Kd.R_lower (Kd.R_new' (Kd.R_new' (Kd.R_new' ho0 (Kd.R_lt (by (with_reducible repeat (first | apply Kd.R_alloc | apply Kd.R_drewN | apply Kd.R_drew)); exact HO_280001.out))) (Kd.R_lt (by (with_reducible repeat (first | apply Kd.R_alloc | apply Kd.R_drewN | apply Kd.R_drew)); exact HO_285001.out))) (Kd.R_lt (by (with_reducible repeat (first | apply Kd.R_alloc | apply Kd.R_drewN | apply Kd.R_drew)); exact HO_291001.out))) (below_size (by repeat (first | (with_reducible first | exact HB.out | apply bA | apply bN | apply bD | refine bS ?_ GE268.out | refine bS ?_ GE279.out | refine bS ?_ GE284.out | refine bS ?_ GE290.out) | exact HB.out)))); have n4_ := aM (blk_below (g := gb268) (o := .cells #[.int .i64 a0_0, .slice A0_1 l0_1.length c0_1] 24 (0, 0)) (by (with_reducible repeat (first | refine kN ?_ _ | refine kD ?_ | refine kA ?_ _)); exact BK268.out) hb); have n5_ := aM (blk_below (g := gb279) (o := .cells #[.int .i64 t274, .slice Ao22 t275.length co22] 33 (0, 0)) (by (with_reducible repeat (first | refine kN ?_ _ | refine kD ?_ | refine kA ?_ _)); exact BK279.out) hb); have n6_ := aM (blk_below (g := gb284) (o := .cells #[.int .i64 t280, .slice Ao29 t298.length co29] 33 (0, 0)) (by (with_reducible repeat (first | refine kN ?_ _ | refine kD ?_ | refine kA ?_ _)); exact BK284.out) hb); have n7_ := aM (blk_below (g := gb290) (o := .cells #[.int .i64 t285, .slice Ao36 t286.length co36] 33 (0, 0)) (by (with_reducible repeat (first | refine kN ?_ _ | refine kD ?_ | refine kA ?_ _)); exact BK290.out) hb); have n8_ := aM (below_step (by repeat (first | (with_reducible first | exact HB.out | apply bA | apply bN | apply bD | refine bS ?_ GE268.out | refine bS ?_ GE279.out | refine bS ?_ GE284.out | refine bS ?_ GE290.out) | exact HB.out)) hb); clear HO_280001; clear HO_285001; clear HO_291001; clear BK268; clear BK279; clear BK284; clear BK290; clear HB; have HO_280001 := n0_; have HO_285001 := n1_; have HO_291001 := n2_; have HO306 := n3_; have BK268 := n4_; have BK279 := n5_; have BK284 := n6_; have BK290 := n7_; have HB := n8_; clear n0_ n1_ n2_ n3_ n4_ n5_ n6_ n7_ n8_; (try clear hb); (try clear hb2); (try clear hk); (try clear hi); (try clear ho0); obtain ⟨Ao115, co115, eo115⟩ := Kd.R_slice HO306.out; subst eo115) | ((with_reducible refine gate_callee (f := 21) rfl ?_); refine goesL_ (some 76) rfl rfl Tryd.func21 (by kernel_rfl) rfl #[.agg #[.int .i64 t303, .slice Ao115 t304.length co115]] rfl (by (try simp only [List.map_toArray, List.map_cons, List.map_nil]); first | done | rfl | (simp only [List.length_drop, List.length_take]; rfl)) ?_; (with_reducible refine (impl_WalSync.calls kj59 t303 _ _ t304 t307 t308 t311 _ ?side1 ?side2 A102.out).mono ?_); (case side1 => repeat (first | exact (Kd.R_reads' HO306.out).2.2 | (with_reducible refine Kd.C_alloc ?_ _) | (with_reducible refine Kd.C_drewN ?_ _) | (with_reducible refine Kd.C_drew ?_))); (case side2 => exact (Kd.R_reads' HO306.out).2.1); rintro e w116 ⟨v309, rfl, ho0, hb⟩; refine ⟨_, rfl, ?_⟩; have n0_ := aM (Kd.R_elder' (by (with_reducible repeat (first | apply Kd.R_alloc | apply Kd.R_drewN | apply Kd.R_drew)); exact HO_280001.out) (Kd.R_base ho0) hb); have n1_ := aM (Kd.R_elder' (by (with_reducible repeat (first | apply Kd.R_alloc | apply Kd.R_drewN | apply Kd.R_drew)); exact HO_285001.out) (Kd.R_base ho0) hb); have n2_ := aM (Kd.R_elder' (by (with_reducible repeat (first | apply Kd.R_alloc | apply Kd.R_drewN | apply Kd.R_drew)); exact HO_291001.out) (Kd.R_base ho0) hb); have n3_ := aM (Kd.R_elder' (by (with_reducible repeat (first | apply Kd.R_alloc | apply Kd.R_drewN | apply Kd.R_drew)); exact HO306.out) (Kd.R_base ho0) hb); have n4_ := aM (Kd.R_lower (Kd.R_new' (Kd.R_new' (Kd.R_new' (Kd.R_new' ho0 (Kd.R_lt (by (with_reducible repeat (first | apply Kd.R_alloc | apply Kd.R_drewN | apply Kd.R_drew)); exact HO_280001.out))) (Kd.R_lt (by (with_reducible repeat (first | apply Kd.R_alloc | apply Kd.R_drewN | apply Kd.R_drew)); exact HO_285001.out))) (Kd.R_lt (by (with_reducible repeat (first | apply Kd.R_alloc | apply Kd.R_drewN | apply Kd.R_drew)); exact HO_291001.out))) (Kd.R_lt (by (with_reducible repeat (first | apply Kd.R_alloc | apply Kd.R_drewN | apply Kd.R_drew)); exact HO306.out))) (below_size (by repeat (first | (with_reducible first | exact HB.out | apply bA | apply bN | apply bD | refine bS ?_ GE268.out | refine bS ?_ GE279.out | refine bS ?_ GE284.out | refine bS ?_ GE290.out) | exact HB.out)))); have n5_ := aM (blk_below (g := gb268) (o := .cells #[.int .i64 a0_0, .slice A0_1 l0_1.length c0_1] 24 (0, 0)) (by (with_reducible repeat (first | refine kN ?_ _ | refine kD ?_ | refine kA ?_ _)); exact BK268.out) hb); have n6_ := aM (blk_below (g := gb279) (o := .cells #[.int .i64 t274, .slice Ao22 t275.length co22] 33 (0, 0)) (by (with_reducible repeat (first | refine kN ?_ _ | refine kD ?_ | refine kA ?_ _)); exact BK279.out) hb); have n7_ := aM (blk_below (g := gb284) (o := .cells #[.int .i64 t280, .slice Ao29 t298.length co29] 33 (0, 0)) (by (with_reducible repeat (first | refine kN ?_ _ | refine kD ?_ | refine kA ?_ _)); exact BK284.out) hb); have n8_ := aM (blk_below (g := gb290) (o := .cells #[.int .i64 t285, .slice Ao36 t286.length co36] 33 (0, 0)) (by (with_reducible repeat (first | refine kN ?_ _ | refine kD ?_ | refine kA ?_ _)); exact BK290.out) hb); have n9_ := aM (below_step (by repeat (first | (with_reducible first | exact HB.out | apply bA | apply bN | apply bD | refine bS ?_ GE268.out | refine bS ?_ GE279.out | refine bS ?_ GE284.out | refine bS ?_ GE290.out) | exact HB.out)) hb); clear HO_280001; clear HO_285001; clear HO_291001; clear HO306; clear BK268; clear BK279; clear BK284; clear BK290; clear HB; have HO_280001 := n0_; have HO_285001 := n1_; have HO_291001 := n2_; have HO306 := n3_; have HO310 := n4_; have BK268 := n5_; have BK279 := n6_; have BK284 := n7_; have BK290 := n8_; have HB := n9_; clear n0_ n1_ n2_ n3_ n4_ n5_ n6_ n7_ n8_ n9_; (try clear hb); (try clear hb2); (try clear hk); (try clear hi); (try clear ho0)) | ((with_reducible refine gate_dst (N := 12) rfl ?_); refine box_event ?hg (N := 12) ?hd (cs := #[.int .i64 0, .slice none 0 0]) (t := 33) ?hr ?_; (case hd => rfl); (case hg => rfl); (case hr => first | (go_simp; done) | (go_simp; rfl)); intro gb312 hg w117 hbox hb; have n0_ := aM (Kd.R_below (by (with_reducible repeat (first | apply Kd.R_alloc | apply Kd.R_drewN | apply Kd.R_drew)); exact HO_280001.out) hb); have n1_ := aM (Kd.R_below (by (with_reducible repeat (first | apply Kd.R_alloc | apply Kd.R_drewN | apply Kd.R_drew)); exact HO_285001.out) hb); have n2_ := aM (Kd.R_below (by (with_reducible repeat (first | apply Kd.R_alloc | apply Kd.R_drewN | apply Kd.R_drew)); exact HO_291001.out) hb); have n3_ := aM (Kd.R_below (by (with_reducible repeat (first | apply Kd.R_alloc | apply Kd.R_drewN | apply Kd.R_drew)); exact HO306.out) hb); have n4_ := aM (Kd.R_below (by (with_reducible repeat (first | apply Kd.R_alloc | apply Kd.R_drewN | apply Kd.R_drew)); exact HO310.out) hb); have n5_ := aM (blk_below (g := gb268) (o := .cells #[.int .i64 a0_0, .slice A0_1 l0_1.length c0_1] 24 (0, 0)) (by (with_reducible repeat (first | refine kN ?_ _ | refine kD ?_ | refine kA ?_ _)); exact BK268.out) hb); have n6_ := aM (blk_below (g := gb279) (o := .cells #[.int .i64 t274, .slice Ao22 t275.length co22] 33 (0, 0)) (by (with_reducible repeat (first | refine kN ?_ _ | refine kD ?_ | refine kA ?_ _)); exact BK279.out) hb); have n7_ := aM (blk_below (g := gb284) (o := .cells #[.int .i64 t280, .slice Ao29 t298.length co29] 33 (0, 0)) (by (with_reducible repeat (first | refine kN ?_ _ | refine kD ?_ | refine kA ?_ _)); exact BK284.out) hb); have n8_ := aM (blk_below (g := gb290) (o := .cells #[.int .i64 t285, .slice Ao36 t286.length co36] 33 (0, 0)) (by (with_reducible repeat (first | refine kN ?_ _ | refine kD ?_ | refine kA ?_ _)); exact BK290.out) hb); have n9_ := aM (below_step (by repeat (first | (with_reducible first | exact HB.out | apply bA | apply bN | apply bD | refine bS ?_ GE268.out | refine bS ?_ GE279.out | refine bS ?_ GE284.out | refine bS ?_ GE290.out) | exact HB.out)) hb); have n10_ := aM (hbox); have n11_ := aM ((by rw [hg]; exact (below_size (by repeat (first | (with_reducible first | exact HB.out | apply bA | apply bN | apply bD | refine bS ?_ GE268.out | refine bS ?_ GE279.out | refine bS ?_ GE284.out | refine bS ?_ GE290.out) | exact HB.out))) : w.heap.size ≤ gb312)); have n12_ := aM ((by rw [hg]; exact (below_size (by repeat (first | (with_reducible first | exact HB.out | apply bA | apply bN | apply bD | refine bS ?_ GE268.out | refine bS ?_ GE279.out | refine bS ?_ GE284.out | refine bS ?_ GE290.out) | exact HB.out))) : w.heap.size ≤ gb312)); have n13_ := aM ((by rw [hg]; exact Nat.ne_of_lt (blk_lt (g := gb268) (o := .cells #[.int .i64 a0_0, .slice A0_1 l0_1.length c0_1] 24 (0, 0)) (by (with_reducible repeat (first | refine kN ?_ _ | refine kD ?_ | refine kA ?_ _)); exact BK268.out)) : gb268 ≠ gb312)); have n14_ := aM ((by rw [hg]; exact Nat.ne_of_gt (blk_lt (g := gb268) (o := .cells #[.int .i64 a0_0, .slice A0_1 l0_1.length c0_1] 24 (0, 0)) (by (with_reducible repeat (first | refine kN ?_ _ | refine kD ?_ | refine kA ?_ _)); exact BK268.out)) : gb312 ≠ gb268)); have n15_ := aM ((by rw [hg]; exact Nat.ne_of_lt (blk_lt (g := gb279) (o := .cells #[.int .i64 t274, .slice Ao22 t275.length co22] 33 (0, 0)) (by (with_reducible repeat (first | refine kN ?_ _ | refine kD ?_ | refine kA ?_ _)); exact BK279.out)) : gb279 ≠ gb312)); have n16_ := aM ((by rw [hg]; exact Nat.ne_of_gt (blk_lt (g := gb279) (o := .cells #[.int .i64 t274, .slice Ao22 t275.length co22] 33 (0, 0)) (by (with_reducible repeat (first | refine kN ?_ _ | refine kD ?_ | refine kA ?_ _)); exact BK279.out)) : gb312 ≠ gb279)); have n17_ := aM ((by rw [hg]; exact Nat.ne_of_lt (blk_lt (g := gb284) (o := .cells #[.int .i64 t280, .slice Ao29 t298.length co29] 33 (0, 0)) (by (with_reducible repeat (first | refine kN ?_ _ | refine kD ?_ | refine kA ?_ _)); exact BK284.out)) : gb284 ≠ gb312)); have n18_ := aM ((by rw [hg]; exact Nat.ne_of_gt (blk_lt (g := gb284) (o := .cells #[.int .i64 t280, .slice Ao29 t298.length co29] 33 (0, 0)) (by (with_reducible repeat (first | refine kN ?_ _ | refine kD ?_ | refine kA ?_ _)); exact BK284.out)) : gb312 ≠ gb284)); have n19_ := aM ((by rw [hg]; exact Nat.ne_of_lt (blk_lt (g := gb290) (o := .cells #[.int .i64 t285, .slice Ao36 t286.length co36] 33 (0, 0)) (by (with_reducible repeat (first | refine kN ?_ _ | refine kD ?_ | refine kA ?_ _)); exact BK290.out)) : gb290 ≠ gb312)); have n20_ := aM ((by rw [hg]; exact Nat.ne_of_gt (blk_lt (g := gb290) (o := .cells #[.int .i64 t285, .slice Ao36 t286.length co36] 33 (0, 0)) (by (with_reducible repeat (first | refine kN ?_ _ | refine kD ?_ | refine kA ?_ _)); exact BK290.out)) : gb312 ≠ gb290)); clear HO_280001; clear HO_285001; clear HO_291001; clear HO306; clear HO310; clear BK268; clear BK279; clear BK284; clear BK290; clear HB; have HO_280001 := n0_; have HO_285001 := n1_; have HO_291001 := n2_; have HO306 := n3_; have HO310 := n4_; have BK268 := n5_; have BK279 := n6_; have BK284 := n7_; have BK290 := n8_; have HB := n9_; have BK312 := n10_; have GW312 := n11_; have GE312 := n12_; have NB268_312 := n13_; have NB312_268 := n14_; have NB279_312 := n15_; have NB312_279 := n16_; have NB284_312 := n17_; have NB312_284 := n18_; have NB290_312 := n19_; have NB312_290 := n20_; clear n0_ n1_ n2_ n3_ n4_ n5_ n6_ n7_ n8_ n9_ n10_ n11_ n12_ n13_ n14_ n15_ n16_ n17_ n18_ n19_ n20_; clear hb hbox hg; have hnb118 := NB312_268.out; have hnc118 := NB268_312.out; have hnb119 := NB312_279.out; have hnc119 := NB279_312.out; have hnb120 := NB312_284.out; have hnc120 := NB284_312.out; have hnb121 := NB312_290.out; have hnc121 := NB290_312.out; have hcz122_0 : w117.cell? ⟨gb312, 0, none⟩ = some (.int .i64 0) := (kC BK312.out 0).trans rfl; have hcz122_1 : w117.cell? ⟨gb312, 1, none⟩ = some (.slice none 0 0) := (kC BK312.out 1).trans rfl; have hfz122_0 := kF BK312.out 0; have hfz122_1 := kF BK312.out 1; obtain ⟨Ao123, co123, eo123⟩ := Kd.R_slice HO310.out; subst eo123))
           (try simp only [Act.put, s1, s2, s3])
           go_cut [87] (fun v87 wc => ∃ (kq : Nat) (x87_102 : Bool), v87 = .bool x87_102 ∧ Aside0 (laws_FnExactWalSync.j2 kq t300 x87_102 t285 t301 = some r) ∧ Aside0 (kq ≤ kj59) ∧ Aside0 (Kd.R k69 69 wc w.heap.size (fun k_ => some k_ ≠ ((.slice Ao29 t298.length co29) : Value).ownBlock ∧ some k_ ≠ ((.slice Ao36 t286.length co36) : Value).ownBlock ∧ some k_ ≠ ((.slice Ao123 t308.length co123) : Value).ownBlock) (.slice Ao22 t275.length co22) t275) ∧ Aside0 (Kd.R k69 69 wc w.heap.size (fun k_ => some k_ ≠ ((.slice Ao22 t275.length co22) : Value).ownBlock ∧ some k_ ≠ ((.slice Ao36 t286.length co36) : Value).ownBlock ∧ some k_ ≠ ((.slice Ao123 t308.length co123) : Value).ownBlock) (.slice Ao29 t298.length co29) t298) ∧ Aside0 (Kd.R k69 69 wc w.heap.size (fun k_ => some k_ ≠ ((.slice Ao22 t275.length co22) : Value).ownBlock ∧ some k_ ≠ ((.slice Ao29 t298.length co29) : Value).ownBlock ∧ some k_ ≠ ((.slice Ao123 t308.length co123) : Value).ownBlock) (.slice Ao36 t286.length co36) t301) ∧ Aside0 (Kd.R k69 69 wc w.heap.size (fun k_ => some k_ ≠ ((.slice Ao22 t275.length co22) : Value).ownBlock ∧ some k_ ≠ ((.slice Ao29 t298.length co29) : Value).ownBlock ∧ some k_ ≠ ((.slice Ao36 t286.length co36) : Value).ownBlock) (.slice Ao123 t308.length co123) t308) ∧ Aside0 (wc.heap[gb268]? = some (.cells #[.int .i64 a0_0, (.slice A0_1 l0_1.length c0_1)] 24 (0, 0))) ∧ Aside0 (wc.heap[gb279]? = some (.cells #[.int .i64 t274, (.slice Ao22 t275.length co22)] 33 (0, 0))) ∧ Aside0 (wc.heap[gb284]? = some (.cells #[.int .i64 t280, (.slice Ao29 t298.length co29)] 33 (0, 0))) ∧ Aside0 (wc.heap[gb290]? = some (.cells #[.int .i64 t285, (.slice Ao36 t286.length co36)] 33 (0, 0))) ∧ Aside0 (wc.heap[gb312]? = some (.cells #[.int .i64 t307, (.slice Ao123 t308.length co123)] 33 (0, 0))) ∧ Aside0 (Below w.heap.size w wc))
           case first =>
            have H := HC103.out
            clear HC103
            replace H := Option.bind_eq_some_iff.mp H
            obtain ⟨t313, A1240, H⟩ := H
            replace H : (if t313 = true then (laws_FnExactWalSync.j2 kj59 t300 (t311 != t278) t285 t301) else (laws_FnExactWalSync.j2 kj59 t300 true t285 t301)) = some r := H
            have A124 := aM A1240
            clear A1240
            by_cases c125 : t313 = true
            ·subst c125
             have H1 : (laws_FnExactWalSync.j2 kj59 t300 (t311 != t278) t285 t301) = some r := by rw [if_pos rfl] at H; exact H
             clear H
             have H := H1
             clear H1
             have H' := aM H
             clear H
             have hnb126 := NB312_268.out
             have hnc126 := NB268_312.out
             have hnb127 := NB312_279.out
             have hnc127 := NB279_312.out
             have hnb128 := NB312_284.out
             have hnc128 := NB284_312.out
             have hnb129 := NB312_290.out
             have hnc129 := NB290_312.out
             have hcz130_0 : w117.cell? ⟨gb312, 0, none⟩ = some (.int .i64 0) := (kC BK312.out 0).trans rfl
             have hcz130_1 : w117.cell? ⟨gb312, 1, none⟩ = some (.slice none 0 0) := (kC BK312.out 1).trans rfl
             have hfz130_0 := kF BK312.out 0
             have hfz130_1 := kF BK312.out 1
             have hnb131 := NB279_268.out
             have hnc131 := NB268_279.out
             have hnb132 := NB279_284.out
             have hnc132 := NB284_279.out
             have hnb133 := NB279_290.out
             have hnc133 := NB290_279.out
             have hcz134_0 : w117.cell? ⟨gb279, 0, none⟩ = some (.int .i64 t274) := (kC BK279.out 0).trans rfl
             have hcz134_1 : w117.cell? ⟨gb279, 1, none⟩ = some (.slice Ao22 t275.length co22) := (kC BK279.out 1).trans rfl
             have hfz134_0 := kF BK279.out 0
             have hfz134_1 := kF BK279.out 1
             go_wp2_with (first | ((with_reducible refine gate_callee (f := 11) rfl ?_); refine goesL_ (some 81) rfl rfl Tryd.func11 (by kernel_rfl) rfl #[.agg #[.int .i64 t307, .slice Ao123 t308.length co123], .agg #[.int .i64 t274, .slice Ao22 t275.length co22]] rfl (by (try simp only [List.map_toArray, List.map_cons, List.map_nil]); first | done | rfl | (simp only [List.length_drop, List.length_take]; rfl)) ?_; (with_reducible refine (laws_eqDisk.calls kj59 t307 _ _ t308 t274 _ _ t275 true _ ?side1 ?side2 ?side3 ?side4 A124.out).mono ?_); (case side1 => refine (Kd.R_reads' (e := 69) (base := w.heap.size) (ok := fun k_ => ((((True ∧ some k_ ≠ (.slice Ao22 t275.length co22 : Value).ownBlock) ∧ some k_ ≠ (.slice Ao29 t298.length co29 : Value).ownBlock) ∧ some k_ ≠ (.slice Ao36 t286.length co36 : Value).ownBlock) ∧ some k_ ≠ (.slice Ao115 t304.length co115 : Value).ownBlock)) (n := t308.length) (c := co123) ?_).2.2; exact (by (with_reducible repeat (first | apply Kd.R_alloc | apply Kd.R_drewN | apply Kd.R_drew)); exact (Kd.R_mono (Kd.R_far (p := ⟨gb312, 1, none⟩) (Kd.R_far (p := ⟨gb312, 0, none⟩) (Kd.R_types HO310.out BK312.out (by decide)) (fun _ hk => hk.2) (.int .i64 t307)) (fun _ hk => hk.2) (.slice Ao123 t308.length co123)) (fun _ h_ => h_.1)))); (case side2 => exact (Kd.R_reads' HO310.out).2.1); (case side3 => refine (Kd.R_reads' (e := 69) (base := w.heap.size) (ok := fun k_ => (((some k_ ≠ (.slice Ao29 t298.length co29 : Value).ownBlock ∧ some k_ ≠ (.slice Ao36 t286.length co36 : Value).ownBlock) ∧ some k_ ≠ (.slice Ao115 t304.length co115 : Value).ownBlock) ∧ some k_ ≠ (.slice Ao123 t308.length co123 : Value).ownBlock)) (n := t275.length) (c := co22) ?_).2.2; exact (by (with_reducible repeat (first | apply Kd.R_alloc | apply Kd.R_drewN | apply Kd.R_drew)); exact (Kd.R_mono (Kd.R_far (p := ⟨gb312, 1, none⟩) (Kd.R_far (p := ⟨gb312, 0, none⟩) (Kd.R_types HO_280001.out BK312.out (by decide)) (fun _ hk => hk.2) (.int .i64 t307)) (fun _ hk => hk.2) (.slice Ao123 t308.length co123)) (fun _ h_ => h_.1)))); (case side4 => exact (Kd.R_reads' HO_280001.out).2.1); rintro e w135 ⟨rfl, hb⟩; refine ⟨_, rfl, ?_⟩; have n0_ := aM (Kd.R_below (by (with_reducible repeat (first | apply Kd.R_alloc | apply Kd.R_drewN | apply Kd.R_drew)); exact (Kd.R_mono (Kd.R_far (p := ⟨gb312, 1, none⟩) (Kd.R_far (p := ⟨gb312, 0, none⟩) (Kd.R_types HO_280001.out BK312.out (by decide)) (fun _ hk => hk.2) (.int .i64 t307)) (fun _ hk => hk.2) (.slice Ao123 t308.length co123)) (fun _ h_ => h_.1))) hb); have n1_ := aM (Kd.R_below (by (with_reducible repeat (first | apply Kd.R_alloc | apply Kd.R_drewN | apply Kd.R_drew)); exact (Kd.R_mono (Kd.R_far (p := ⟨gb312, 1, none⟩) (Kd.R_far (p := ⟨gb312, 0, none⟩) (Kd.R_types HO_285001.out BK312.out (by decide)) (fun _ hk => hk.2) (.int .i64 t307)) (fun _ hk => hk.2) (.slice Ao123 t308.length co123)) (fun _ h_ => h_.1))) hb); have n2_ := aM (Kd.R_below (by (with_reducible repeat (first | apply Kd.R_alloc | apply Kd.R_drewN | apply Kd.R_drew)); exact (Kd.R_mono (Kd.R_far (p := ⟨gb312, 1, none⟩) (Kd.R_far (p := ⟨gb312, 0, none⟩) (Kd.R_types HO_291001.out BK312.out (by decide)) (fun _ hk => hk.2) (.int .i64 t307)) (fun _ hk => hk.2) (.slice Ao123 t308.length co123)) (fun _ h_ => h_.1))) hb); have n3_ := aM (Kd.R_below (by (with_reducible repeat (first | apply Kd.R_alloc | apply Kd.R_drewN | apply Kd.R_drew)); exact (Kd.R_mono (Kd.R_far (p := ⟨gb312, 1, none⟩) (Kd.R_far (p := ⟨gb312, 0, none⟩) (Kd.R_types HO306.out BK312.out (by decide)) (fun _ hk => hk.2) (.int .i64 t307)) (fun _ hk => hk.2) (.slice Ao123 t308.length co123)) (fun _ h_ => h_.1))) hb); have n4_ := aM (Kd.R_below (by (with_reducible repeat (first | apply Kd.R_alloc | apply Kd.R_drewN | apply Kd.R_drew)); exact (Kd.R_mono (Kd.R_far (p := ⟨gb312, 1, none⟩) (Kd.R_far (p := ⟨gb312, 0, none⟩) (Kd.R_types HO310.out BK312.out (by decide)) (fun _ hk => hk.2) (.int .i64 t307)) (fun _ hk => hk.2) (.slice Ao123 t308.length co123)) (fun _ h_ => h_.1))) hb); have n5_ := aM (blk_below (g := gb268) (o := .cells #[.int .i64 a0_0, .slice A0_1 l0_1.length c0_1] 24 (0, 0)) (by (with_reducible repeat (first | refine kN ?_ _ | refine kD ?_ | refine kA ?_ _)); refine blk_far ?_ NB268_312.out _; (with_reducible repeat (first | refine kN ?_ _ | refine kD ?_ | refine kA ?_ _)); refine blk_far ?_ NB268_312.out _; (with_reducible repeat (first | refine kN ?_ _ | refine kD ?_ | refine kA ?_ _)); exact BK268.out) hb); have n6_ := aM (blk_below (g := gb279) (o := .cells #[.int .i64 t274, .slice Ao22 t275.length co22] 33 (0, 0)) (by (with_reducible repeat (first | refine kN ?_ _ | refine kD ?_ | refine kA ?_ _)); refine blk_far ?_ NB279_312.out _; (with_reducible repeat (first | refine kN ?_ _ | refine kD ?_ | refine kA ?_ _)); refine blk_far ?_ NB279_312.out _; (with_reducible repeat (first | refine kN ?_ _ | refine kD ?_ | refine kA ?_ _)); exact BK279.out) hb); have n7_ := aM (blk_below (g := gb284) (o := .cells #[.int .i64 t280, .slice Ao29 t298.length co29] 33 (0, 0)) (by (with_reducible repeat (first | refine kN ?_ _ | refine kD ?_ | refine kA ?_ _)); refine blk_far ?_ NB284_312.out _; (with_reducible repeat (first | refine kN ?_ _ | refine kD ?_ | refine kA ?_ _)); refine blk_far ?_ NB284_312.out _; (with_reducible repeat (first | refine kN ?_ _ | refine kD ?_ | refine kA ?_ _)); exact BK284.out) hb); have n8_ := aM (blk_below (g := gb290) (o := .cells #[.int .i64 t285, .slice Ao36 t286.length co36] 33 (0, 0)) (by (with_reducible repeat (first | refine kN ?_ _ | refine kD ?_ | refine kA ?_ _)); refine blk_far ?_ NB290_312.out _; (with_reducible repeat (first | refine kN ?_ _ | refine kD ?_ | refine kA ?_ _)); refine blk_far ?_ NB290_312.out _; (with_reducible repeat (first | refine kN ?_ _ | refine kD ?_ | refine kA ?_ _)); exact BK290.out) hb); have n9_ := aM (blk_below (g := gb312) (o := .cells #[.int .i64 t307, .slice Ao123 t308.length co123] 33 (0, 0)) (by (with_reducible repeat (first | refine kN ?_ _ | refine kD ?_ | refine kA ?_ _)); refine blk_put (cs := #[.int .i64 t307, .slice none 0 0]) ?_ 1 _ rfl; (with_reducible repeat (first | refine kN ?_ _ | refine kD ?_ | refine kA ?_ _)); refine blk_put (cs := #[.int .i64 0, .slice none 0 0]) ?_ 0 _ rfl; (with_reducible repeat (first | refine kN ?_ _ | refine kD ?_ | refine kA ?_ _)); exact BK312.out) hb); have n10_ := aM (below_step (by repeat (first | (with_reducible first | exact HB.out | apply bA | apply bN | apply bD | refine bS ?_ GE268.out | refine bS ?_ GE279.out | refine bS ?_ GE284.out | refine bS ?_ GE290.out | refine bS ?_ GE312.out) | exact HB.out)) hb); clear HO_280001; clear HO_285001; clear HO_291001; clear HO306; clear HO310; clear BK268; clear BK279; clear BK284; clear BK290; clear BK312; clear HB; have HO_280001 := n0_; have HO_285001 := n1_; have HO_291001 := n2_; have HO306 := n3_; have HO310 := n4_; have BK268 := n5_; have BK279 := n6_; have BK284 := n7_; have BK290 := n8_; have BK312 := n9_; have HB := n10_; clear n0_ n1_ n2_ n3_ n4_ n5_ n6_ n7_ n8_ n9_ n10_; (try clear hb); (try clear hb2); (try clear hk); (try clear hi)))
             go_meet
             case rel => exact ⟨_, ((t311 != t278)), (by first | rfl | (simp; done) | (simp [*]; done)), H', ⟨by have := HJ10.out; have := HJ59.out; first | omega | exact Nat.le_refl _⟩, ⟨by (try simp only [hl285001_59]); (with_reducible repeat (first | apply Kd.R_alloc | apply Kd.R_drewN | apply Kd.R_drew)); exact Kd.R_mono HO_280001.out (fun _ hk => ⟨hk.1.1.1, ⟨hk.1.1.2, hk.2⟩⟩)⟩, ⟨by (try simp only [hl285001_59]); (with_reducible repeat (first | apply Kd.R_alloc | apply Kd.R_drewN | apply Kd.R_drew)); exact Kd.R_mono HO_285001.out (fun _ hk => ⟨hk.1.1.1, ⟨hk.1.1.2, hk.2⟩⟩)⟩, ⟨by (try simp only [hl285001_59]); (with_reducible repeat (first | apply Kd.R_alloc | apply Kd.R_drewN | apply Kd.R_drew)); exact Kd.R_mono HO_291001.out (fun _ hk => ⟨hk.1.1.1, ⟨hk.1.1.2, hk.2⟩⟩)⟩, ⟨by (try simp only [hl285001_59]); (with_reducible repeat (first | apply Kd.R_alloc | apply Kd.R_drewN | apply Kd.R_drew)); exact Kd.R_mono HO310.out (fun _ hk => ⟨hk.1.1.1.2, ⟨hk.1.1.2, hk.1.2⟩⟩)⟩, ⟨by (try simp only [hl285001_59]); (with_reducible repeat (first | refine kN ?_ _ | refine kD ?_ | refine kA ?_ _)); exact BK268.out⟩, ⟨by (try simp only [hl285001_59]); (with_reducible repeat (first | refine kN ?_ _ | refine kD ?_ | refine kA ?_ _)); exact BK279.out⟩, ⟨by (try simp only [hl285001_59]); (with_reducible repeat (first | refine kN ?_ _ | refine kD ?_ | refine kA ?_ _)); exact BK284.out⟩, ⟨by (try simp only [hl285001_59]); (with_reducible repeat (first | refine kN ?_ _ | refine kD ?_ | refine kA ?_ _)); exact BK290.out⟩, ⟨by (try simp only [hl285001_59]); (with_reducible repeat (first | refine kN ?_ _ | refine kD ?_ | refine kA ?_ _)); exact BK312.out⟩, ⟨by repeat (first | (with_reducible first | exact HB.out | apply bA | apply bN | apply bD | refine bS ?_ GE268.out | refine bS ?_ GE279.out | refine bS ?_ GE284.out | refine bS ?_ GE290.out | refine bS ?_ GE312.out) | exact HB.out)⟩⟩
            ·replace c125 := Bool.eq_false_iff.mpr c125
             subst c125
             have H1 : (laws_FnExactWalSync.j2 kj59 t300 true t285 t301) = some r := by rw [if_neg (show ¬ (false = true) by decide)] at H; exact H
             clear H
             have H := H1
             clear H1
             have H' := aM H
             clear H
             have hnb136 := NB312_268.out
             have hnc136 := NB268_312.out
             have hnb137 := NB312_279.out
             have hnc137 := NB279_312.out
             have hnb138 := NB312_284.out
             have hnc138 := NB284_312.out
             have hnb139 := NB312_290.out
             have hnc139 := NB290_312.out
             have hcz140_0 : w117.cell? ⟨gb312, 0, none⟩ = some (.int .i64 0) := (kC BK312.out 0).trans rfl
             have hcz140_1 : w117.cell? ⟨gb312, 1, none⟩ = some (.slice none 0 0) := (kC BK312.out 1).trans rfl
             have hfz140_0 := kF BK312.out 0
             have hfz140_1 := kF BK312.out 1
             have hnb141 := NB279_268.out
             have hnc141 := NB268_279.out
             have hnb142 := NB279_284.out
             have hnc142 := NB284_279.out
             have hnb143 := NB279_290.out
             have hnc143 := NB290_279.out
             have hcz144_0 : w117.cell? ⟨gb279, 0, none⟩ = some (.int .i64 t274) := (kC BK279.out 0).trans rfl
             have hcz144_1 : w117.cell? ⟨gb279, 1, none⟩ = some (.slice Ao22 t275.length co22) := (kC BK279.out 1).trans rfl
             have hfz144_0 := kF BK279.out 0
             have hfz144_1 := kF BK279.out 1
             go_wp2_with (first | ((with_reducible refine gate_callee (f := 11) rfl ?_); refine goesL_ (some 81) rfl rfl Tryd.func11 (by kernel_rfl) rfl #[.agg #[.int .i64 t307, .slice Ao123 t308.length co123], .agg #[.int .i64 t274, .slice Ao22 t275.length co22]] rfl (by (try simp only [List.map_toArray, List.map_cons, List.map_nil]); first | done | rfl | (simp only [List.length_drop, List.length_take]; rfl)) ?_; (with_reducible refine (laws_eqDisk.calls kj59 t307 _ _ t308 t274 _ _ t275 false _ ?side1 ?side2 ?side3 ?side4 A124.out).mono ?_); (case side1 => refine (Kd.R_reads' (e := 69) (base := w.heap.size) (ok := fun k_ => ((((True ∧ some k_ ≠ (.slice Ao22 t275.length co22 : Value).ownBlock) ∧ some k_ ≠ (.slice Ao29 t298.length co29 : Value).ownBlock) ∧ some k_ ≠ (.slice Ao36 t286.length co36 : Value).ownBlock) ∧ some k_ ≠ (.slice Ao115 t304.length co115 : Value).ownBlock)) (n := t308.length) (c := co123) ?_).2.2; exact (by (with_reducible repeat (first | apply Kd.R_alloc | apply Kd.R_drewN | apply Kd.R_drew)); exact (Kd.R_mono (Kd.R_far (p := ⟨gb312, 1, none⟩) (Kd.R_far (p := ⟨gb312, 0, none⟩) (Kd.R_types HO310.out BK312.out (by decide)) (fun _ hk => hk.2) (.int .i64 t307)) (fun _ hk => hk.2) (.slice Ao123 t308.length co123)) (fun _ h_ => h_.1)))); (case side2 => exact (Kd.R_reads' HO310.out).2.1); (case side3 => refine (Kd.R_reads' (e := 69) (base := w.heap.size) (ok := fun k_ => (((some k_ ≠ (.slice Ao29 t298.length co29 : Value).ownBlock ∧ some k_ ≠ (.slice Ao36 t286.length co36 : Value).ownBlock) ∧ some k_ ≠ (.slice Ao115 t304.length co115 : Value).ownBlock) ∧ some k_ ≠ (.slice Ao123 t308.length co123 : Value).ownBlock)) (n := t275.length) (c := co22) ?_).2.2; exact (by (with_reducible repeat (first | apply Kd.R_alloc | apply Kd.R_drewN | apply Kd.R_drew)); exact (Kd.R_mono (Kd.R_far (p := ⟨gb312, 1, none⟩) (Kd.R_far (p := ⟨gb312, 0, none⟩) (Kd.R_types HO_280001.out BK312.out (by decide)) (fun _ hk => hk.2) (.int .i64 t307)) (fun _ hk => hk.2) (.slice Ao123 t308.length co123)) (fun _ h_ => h_.1)))); (case side4 => exact (Kd.R_reads' HO_280001.out).2.1); rintro e w145 ⟨rfl, hb⟩; refine ⟨_, rfl, ?_⟩; have n0_ := aM (Kd.R_below (by (with_reducible repeat (first | apply Kd.R_alloc | apply Kd.R_drewN | apply Kd.R_drew)); exact (Kd.R_mono (Kd.R_far (p := ⟨gb312, 1, none⟩) (Kd.R_far (p := ⟨gb312, 0, none⟩) (Kd.R_types HO_280001.out BK312.out (by decide)) (fun _ hk => hk.2) (.int .i64 t307)) (fun _ hk => hk.2) (.slice Ao123 t308.length co123)) (fun _ h_ => h_.1))) hb); have n1_ := aM (Kd.R_below (by (with_reducible repeat (first | apply Kd.R_alloc | apply Kd.R_drewN | apply Kd.R_drew)); exact (Kd.R_mono (Kd.R_far (p := ⟨gb312, 1, none⟩) (Kd.R_far (p := ⟨gb312, 0, none⟩) (Kd.R_types HO_285001.out BK312.out (by decide)) (fun _ hk => hk.2) (.int .i64 t307)) (fun _ hk => hk.2) (.slice Ao123 t308.length co123)) (fun _ h_ => h_.1))) hb); have n2_ := aM (Kd.R_below (by (with_reducible repeat (first | apply Kd.R_alloc | apply Kd.R_drewN | apply Kd.R_drew)); exact (Kd.R_mono (Kd.R_far (p := ⟨gb312, 1, none⟩) (Kd.R_far (p := ⟨gb312, 0, none⟩) (Kd.R_types HO_291001.out BK312.out (by decide)) (fun _ hk => hk.2) (.int .i64 t307)) (fun _ hk => hk.2) (.slice Ao123 t308.length co123)) (fun _ h_ => h_.1))) hb); have n3_ := aM (Kd.R_below (by (with_reducible repeat (first | apply Kd.R_alloc | apply Kd.R_drewN | apply Kd.R_drew)); exact (Kd.R_mono (Kd.R_far (p := ⟨gb312, 1, none⟩) (Kd.R_far (p := ⟨gb312, 0, none⟩) (Kd.R_types HO306.out BK312.out (by decide)) (fun _ hk => hk.2) (.int .i64 t307)) (fun _ hk => hk.2) (.slice Ao123 t308.length co123)) (fun _ h_ => h_.1))) hb); have n4_ := aM (Kd.R_below (by (with_reducible repeat (first | apply Kd.R_alloc | apply Kd.R_drewN | apply Kd.R_drew)); exact (Kd.R_mono (Kd.R_far (p := ⟨gb312, 1, none⟩) (Kd.R_far (p := ⟨gb312, 0, none⟩) (Kd.R_types HO310.out BK312.out (by decide)) (fun _ hk => hk.2) (.int .i64 t307)) (fun _ hk => hk.2) (.slice Ao123 t308.length co123)) (fun _ h_ => h_.1))) hb); have n5_ := aM (blk_below (g := gb268) (o := .cells #[.int .i64 a0_0, .slice A0_1 l0_1.length c0_1] 24 (0, 0)) (by (with_reducible repeat (first | refine kN ?_ _ | refine kD ?_ | refine kA ?_ _)); refine blk_far ?_ NB268_312.out _; (with_reducible repeat (first | refine kN ?_ _ | refine kD ?_ | refine kA ?_ _)); refine blk_far ?_ NB268_312.out _; (with_reducible repeat (first | refine kN ?_ _ | refine kD ?_ | refine kA ?_ _)); exact BK268.out) hb); have n6_ := aM (blk_below (g := gb279) (o := .cells #[.int .i64 t274, .slice Ao22 t275.length co22] 33 (0, 0)) (by (with_reducible repeat (first | refine kN ?_ _ | refine kD ?_ | refine kA ?_ _)); refine blk_far ?_ NB279_312.out _; (with_reducible repeat (first | refine kN ?_ _ | refine kD ?_ | refine kA ?_ _)); refine blk_far ?_ NB279_312.out _; (with_reducible repeat (first | refine kN ?_ _ | refine kD ?_ | refine kA ?_ _)); exact BK279.out) hb); have n7_ := aM (blk_below (g := gb284) (o := .cells #[.int .i64 t280, .slice Ao29 t298.length co29] 33 (0, 0)) (by (with_reducible repeat (first | refine kN ?_ _ | refine kD ?_ | refine kA ?_ _)); refine blk_far ?_ NB284_312.out _; (with_reducible repeat (first | refine kN ?_ _ | refine kD ?_ | refine kA ?_ _)); refine blk_far ?_ NB284_312.out _; (with_reducible repeat (first | refine kN ?_ _ | refine kD ?_ | refine kA ?_ _)); exact BK284.out) hb); have n8_ := aM (blk_below (g := gb290) (o := .cells #[.int .i64 t285, .slice Ao36 t286.length co36] 33 (0, 0)) (by (with_reducible repeat (first | refine kN ?_ _ | refine kD ?_ | refine kA ?_ _)); refine blk_far ?_ NB290_312.out _; (with_reducible repeat (first | refine kN ?_ _ | refine kD ?_ | refine kA ?_ _)); refine blk_far ?_ NB290_312.out _; (with_reducible repeat (first | refine kN ?_ _ | refine kD ?_ | refine kA ?_ _)); exact BK290.out) hb); have n9_ := aM (blk_below (g := gb312) (o := .cells #[.int .i64 t307, .slice Ao123 t308.length co123] 33 (0, 0)) (by (with_reducible repeat (first | refine kN ?_ _ | refine kD ?_ | refine kA ?_ _)); refine blk_put (cs := #[.int .i64 t307, .slice none 0 0]) ?_ 1 _ rfl; (with_reducible repeat (first | refine kN ?_ _ | refine kD ?_ | refine kA ?_ _)); refine blk_put (cs := #[.int .i64 0, .slice none 0 0]) ?_ 0 _ rfl; (with_reducible repeat (first | refine kN ?_ _ | refine kD ?_ | refine kA ?_ _)); exact BK312.out) hb); have n10_ := aM (below_step (by repeat (first | (with_reducible first | exact HB.out | apply bA | apply bN | apply bD | refine bS ?_ GE268.out | refine bS ?_ GE279.out | refine bS ?_ GE284.out | refine bS ?_ GE290.out | refine bS ?_ GE312.out) | exact HB.out)) hb); clear HO_280001; clear HO_285001; clear HO_291001; clear HO306; clear HO310; clear BK268; clear BK279; clear BK284; clear BK290; clear BK312; clear HB; have HO_280001 := n0_; have HO_285001 := n1_; have HO_291001 := n2_; have HO306 := n3_; have HO310 := n4_; have BK268 := n5_; have BK279 := n6_; have BK284 := n7_; have BK290 := n8_; have BK312 := n9_; have HB := n10_; clear n0_ n1_ n2_ n3_ n4_ n5_ n6_ n7_ n8_ n9_ n10_; (try clear hb); (try clear hb2); (try clear hk); (try clear hi)))
             go_meet
             case rel => exact ⟨_, (true), (by first | rfl | (simp; done) | (simp [*]; done)), H', ⟨by have := HJ10.out; have := HJ59.out; first | omega | exact Nat.le_refl _⟩, ⟨by (try simp only [hl285001_59]); (with_reducible repeat (first | apply Kd.R_alloc | apply Kd.R_drewN | apply Kd.R_drew)); exact Kd.R_mono HO_280001.out (fun _ hk => ⟨hk.1.1.1, ⟨hk.1.1.2, hk.2⟩⟩)⟩, ⟨by (try simp only [hl285001_59]); (with_reducible repeat (first | apply Kd.R_alloc | apply Kd.R_drewN | apply Kd.R_drew)); exact Kd.R_mono HO_285001.out (fun _ hk => ⟨hk.1.1.1, ⟨hk.1.1.2, hk.2⟩⟩)⟩, ⟨by (try simp only [hl285001_59]); (with_reducible repeat (first | apply Kd.R_alloc | apply Kd.R_drewN | apply Kd.R_drew)); exact Kd.R_mono HO_291001.out (fun _ hk => ⟨hk.1.1.1, ⟨hk.1.1.2, hk.2⟩⟩)⟩, ⟨by (try simp only [hl285001_59]); (with_reducible repeat (first | apply Kd.R_alloc | apply Kd.R_drewN | apply Kd.R_drew)); exact Kd.R_mono HO310.out (fun _ hk => ⟨hk.1.1.1.2, ⟨hk.1.1.2, hk.1.2⟩⟩)⟩, ⟨by (try simp only [hl285001_59]); (with_reducible repeat (first | refine kN ?_ _ | refine kD ?_ | refine kA ?_ _)); exact BK268.out⟩, ⟨by (try simp only [hl285001_59]); (with_reducible repeat (first | refine kN ?_ _ | refine kD ?_ | refine kA ?_ _)); exact BK279.out⟩, ⟨by (try simp only [hl285001_59]); (with_reducible repeat (first | refine kN ?_ _ | refine kD ?_ | refine kA ?_ _)); exact BK284.out⟩, ⟨by (try simp only [hl285001_59]); (with_reducible repeat (first | refine kN ?_ _ | refine kD ?_ | refine kA ?_ _)); exact BK290.out⟩, ⟨by (try simp only [hl285001_59]); (with_reducible repeat (first | refine kN ?_ _ | refine kD ?_ | refine kA ?_ _)); exact BK312.out⟩, ⟨by repeat (first | (with_reducible first | exact HB.out | apply bA | apply bN | apply bD | refine bS ?_ GE268.out | refine bS ?_ GE279.out | refine bS ?_ GE284.out | refine bS ?_ GE290.out | refine bS ?_ GE312.out) | exact HB.out)⟩⟩
           case rest =>
            clear HC103
            obtain ⟨kq, x87_102, rfl, HA, HJ102, HO_280001, HO_285001, HO_291001, HO_313001, BK268, BK279, BK284, BK290, BK312, HB⟩ := hcut
            have hl291001_102 := (Kd.R_reads' HO_291001.out).1
            rw [hl291001_102] at HO_291001
            (try simp only [hl291001_102])
            (try simp only [hl291001_102] at BK268)
            (try simp only [hl291001_102] at BK279)
            (try simp only [hl291001_102] at BK284)
            (try simp only [hl291001_102] at BK290)
            (try simp only [hl291001_102] at BK312)
            (try simp only [hl291001_102] at HO_280001)
            (try simp only [hl291001_102] at HO_285001)
            (try simp only [hl291001_102] at HO_313001)
            cases kq with
            | zero => exact absurd HA.out (by simp [laws_FnExactWalSync.j2])
            | succ kj102 =>
             have H := HA.out
             clear HA
             simp only [laws_FnExactWalSync.j2] at H
             by_cases c146 : x87_102 = true
             ·subst c146
              have H1 : (some false) = some r := by rw [if_pos rfl] at H; exact H
              clear H
              have H := H1
              clear H1
              obtain rfl := Option.some.inj H
              go_wp2
              go_ret
              exact ⟨by first | rfl | (simp [errW_none, errW_some] <;> rfl) | (simp [*, errW_none, errW_some] <;> rfl), by repeat (first | (with_reducible first | exact HB.out | apply bA | apply bN | apply bD | refine bS ?_ GE268.out | refine bS ?_ GE279.out | refine bS ?_ GE284.out | refine bS ?_ GE290.out | refine bS ?_ GE312.out) | exact HB.out)⟩
             ·replace c146 := Bool.eq_false_iff.mpr c146
              subst c146
              have H1 : ((laws_heldDisk.f kj102 t285 t301 1).bind fun t314 => (if t314 < 0 then (some false) else (if t314 = t300 then (some true) else (some false)))) = some r := by rw [if_neg (show ¬ (false = true) by decide)] at H; exact H
              clear H
              have H := H1
              clear H1
              replace H := Option.bind_eq_some_iff.mp H
              obtain ⟨t314, A1470, H⟩ := H
              replace H : (if t314 < 0 then (some false) else (if t314 = t300 then (some true) else (some false))) = some r := H
              have A147 := aM A1470
              clear A1470
              by_cases c148 : t314 < 0
              ·rw [if_pos c148] at H
               have c148b0 : decide (t314 < 0) = true := decide_eq_true c148
               clear c148
               obtain rfl := Option.some.inj H
               have hnb149 := NB290_268.out
               have hnc149 := NB268_290.out
               have hnb150 := NB290_279.out
               have hnc150 := NB279_290.out
               have hnb151 := NB290_284.out
               have hnc151 := NB284_290.out
               have hnb152 := NB290_312.out
               have hnc152 := NB312_290.out
               have hcz153_0 : wc.cell? ⟨gb290, 0, none⟩ = some (.int .i64 t285) := (kC BK290.out 0).trans rfl
               have hcz153_1 : wc.cell? ⟨gb290, 1, none⟩ = some (.slice Ao36 t301.length co36) := (kC BK290.out 1).trans rfl
               have hfz153_0 := kF BK290.out 0
               have hfz153_1 := kF BK290.out 1
               go_wp2_with (first | ((with_reducible refine gate_callee (f := 22) rfl ?_); refine goesL_ (some 90) rfl rfl Tryd.func22 (by kernel_rfl) rfl #[.agg #[.int .i64 t285, .slice Ao36 t301.length co36], .int .i64 1] rfl (by (try simp only [List.map_toArray, List.map_cons, List.map_nil]); first | done | rfl | (simp only [List.length_drop, List.length_take]; rfl)) ?_; (with_reducible refine (laws_heldDisk.calls kj102 t285 _ _ t301 1 t314 _ ?side1 ?side2 A147.out).mono ?_); (case side1 => repeat (first | exact (Kd.R_reads' HO_291001.out).2.2 | (with_reducible refine Kd.C_alloc ?_ _) | (with_reducible refine Kd.C_drewN ?_ _) | (with_reducible refine Kd.C_drew ?_))); (case side2 => exact (Kd.R_reads' HO_291001.out).2.1); rintro e w154 ⟨rfl, hb⟩; refine ⟨_, rfl, ?_⟩; have n0_ := aM (Kd.R_below (by (with_reducible repeat (first | apply Kd.R_alloc | apply Kd.R_drewN | apply Kd.R_drew)); exact HO_280001.out) hb); have n1_ := aM (Kd.R_below (by (with_reducible repeat (first | apply Kd.R_alloc | apply Kd.R_drewN | apply Kd.R_drew)); exact HO_285001.out) hb); have n2_ := aM (Kd.R_below (by (with_reducible repeat (first | apply Kd.R_alloc | apply Kd.R_drewN | apply Kd.R_drew)); exact HO_291001.out) hb); have n3_ := aM (Kd.R_below (by (with_reducible repeat (first | apply Kd.R_alloc | apply Kd.R_drewN | apply Kd.R_drew)); exact HO_313001.out) hb); have n4_ := aM (blk_below (g := gb268) (o := .cells #[.int .i64 a0_0, .slice A0_1 l0_1.length c0_1] 24 (0, 0)) (by (with_reducible repeat (first | refine kN ?_ _ | refine kD ?_ | refine kA ?_ _)); exact BK268.out) hb); have n5_ := aM (blk_below (g := gb279) (o := .cells #[.int .i64 t274, .slice Ao22 t275.length co22] 33 (0, 0)) (by (with_reducible repeat (first | refine kN ?_ _ | refine kD ?_ | refine kA ?_ _)); exact BK279.out) hb); have n6_ := aM (blk_below (g := gb284) (o := .cells #[.int .i64 t280, .slice Ao29 t298.length co29] 33 (0, 0)) (by (with_reducible repeat (first | refine kN ?_ _ | refine kD ?_ | refine kA ?_ _)); exact BK284.out) hb); have n7_ := aM (blk_below (g := gb290) (o := .cells #[.int .i64 t285, .slice Ao36 t301.length co36] 33 (0, 0)) (by (with_reducible repeat (first | refine kN ?_ _ | refine kD ?_ | refine kA ?_ _)); exact BK290.out) hb); have n8_ := aM (blk_below (g := gb312) (o := .cells #[.int .i64 t307, .slice Ao123 t308.length co123] 33 (0, 0)) (by (with_reducible repeat (first | refine kN ?_ _ | refine kD ?_ | refine kA ?_ _)); exact BK312.out) hb); have n9_ := aM (below_step (by repeat (first | (with_reducible first | exact HB.out | apply bA | apply bN | apply bD | refine bS ?_ GE268.out | refine bS ?_ GE279.out | refine bS ?_ GE284.out | refine bS ?_ GE290.out | refine bS ?_ GE312.out) | exact HB.out)) hb); clear HO_280001; clear HO_285001; clear HO_291001; clear HO_313001; clear BK268; clear BK279; clear BK284; clear BK290; clear BK312; clear HB; have HO_280001 := n0_; have HO_285001 := n1_; have HO_291001 := n2_; have HO_313001 := n3_; have BK268 := n4_; have BK279 := n5_; have BK284 := n6_; have BK290 := n7_; have BK312 := n8_; have HB := n9_; clear n0_ n1_ n2_ n3_ n4_ n5_ n6_ n7_ n8_ n9_; (try clear hb); (try clear hb2); (try clear hk); (try clear hi)))
               go_ret
               exact ⟨by first | rfl | (simp [errW_none, errW_some] <;> rfl) | (simp [*, errW_none, errW_some] <;> rfl), by repeat (first | (with_reducible first | exact HB.out | apply bA | apply bN | apply bD | refine bS ?_ GE268.out | refine bS ?_ GE279.out | refine bS ?_ GE284.out | refine bS ?_ GE290.out | refine bS ?_ GE312.out) | exact HB.out)⟩
              ·rw [if_neg c148] at H
               have c148b0 : decide (t314 < 0) = false := decide_eq_false c148
               clear c148
               by_cases c155 : t314 = t300
               ·rw [if_pos c155] at H
                have c155b0 : (t314 == t300) = true := beq_iff_eq.mpr c155
                have c155b1 : (t314 != t300) = false := bne_eq_false_iff_eq.mpr c155
                clear c155
                obtain rfl := Option.some.inj H
                have hnb156 := NB290_268.out
                have hnc156 := NB268_290.out
                have hnb157 := NB290_279.out
                have hnc157 := NB279_290.out
                have hnb158 := NB290_284.out
                have hnc158 := NB284_290.out
                have hnb159 := NB290_312.out
                have hnc159 := NB312_290.out
                have hcz160_0 : wc.cell? ⟨gb290, 0, none⟩ = some (.int .i64 t285) := (kC BK290.out 0).trans rfl
                have hcz160_1 : wc.cell? ⟨gb290, 1, none⟩ = some (.slice Ao36 t301.length co36) := (kC BK290.out 1).trans rfl
                have hfz160_0 := kF BK290.out 0
                have hfz160_1 := kF BK290.out 1
                go_wp2_with (first | ((with_reducible refine gate_callee (f := 22) rfl ?_); refine goesL_ (some 90) rfl rfl Tryd.func22 (by kernel_rfl) rfl #[.agg #[.int .i64 t285, .slice Ao36 t301.length co36], .int .i64 1] rfl (by (try simp only [List.map_toArray, List.map_cons, List.map_nil]); first | done | rfl | (simp only [List.length_drop, List.length_take]; rfl)) ?_; (with_reducible refine (laws_heldDisk.calls kj102 t285 _ _ t301 1 t314 _ ?side1 ?side2 A147.out).mono ?_); (case side1 => repeat (first | exact (Kd.R_reads' HO_291001.out).2.2 | (with_reducible refine Kd.C_alloc ?_ _) | (with_reducible refine Kd.C_drewN ?_ _) | (with_reducible refine Kd.C_drew ?_))); (case side2 => exact (Kd.R_reads' HO_291001.out).2.1); rintro e w161 ⟨rfl, hb⟩; refine ⟨_, rfl, ?_⟩; have n0_ := aM (Kd.R_below (by (with_reducible repeat (first | apply Kd.R_alloc | apply Kd.R_drewN | apply Kd.R_drew)); exact HO_280001.out) hb); have n1_ := aM (Kd.R_below (by (with_reducible repeat (first | apply Kd.R_alloc | apply Kd.R_drewN | apply Kd.R_drew)); exact HO_285001.out) hb); have n2_ := aM (Kd.R_below (by (with_reducible repeat (first | apply Kd.R_alloc | apply Kd.R_drewN | apply Kd.R_drew)); exact HO_291001.out) hb); have n3_ := aM (Kd.R_below (by (with_reducible repeat (first | apply Kd.R_alloc | apply Kd.R_drewN | apply Kd.R_drew)); exact HO_313001.out) hb); have n4_ := aM (blk_below (g := gb268) (o := .cells #[.int .i64 a0_0, .slice A0_1 l0_1.length c0_1] 24 (0, 0)) (by (with_reducible repeat (first | refine kN ?_ _ | refine kD ?_ | refine kA ?_ _)); exact BK268.out) hb); have n5_ := aM (blk_below (g := gb279) (o := .cells #[.int .i64 t274, .slice Ao22 t275.length co22] 33 (0, 0)) (by (with_reducible repeat (first | refine kN ?_ _ | refine kD ?_ | refine kA ?_ _)); exact BK279.out) hb); have n6_ := aM (blk_below (g := gb284) (o := .cells #[.int .i64 t280, .slice Ao29 t298.length co29] 33 (0, 0)) (by (with_reducible repeat (first | refine kN ?_ _ | refine kD ?_ | refine kA ?_ _)); exact BK284.out) hb); have n7_ := aM (blk_below (g := gb290) (o := .cells #[.int .i64 t285, .slice Ao36 t301.length co36] 33 (0, 0)) (by (with_reducible repeat (first | refine kN ?_ _ | refine kD ?_ | refine kA ?_ _)); exact BK290.out) hb); have n8_ := aM (blk_below (g := gb312) (o := .cells #[.int .i64 t307, .slice Ao123 t308.length co123] 33 (0, 0)) (by (with_reducible repeat (first | refine kN ?_ _ | refine kD ?_ | refine kA ?_ _)); exact BK312.out) hb); have n9_ := aM (below_step (by repeat (first | (with_reducible first | exact HB.out | apply bA | apply bN | apply bD | refine bS ?_ GE268.out | refine bS ?_ GE279.out | refine bS ?_ GE284.out | refine bS ?_ GE290.out | refine bS ?_ GE312.out) | exact HB.out)) hb); clear HO_280001; clear HO_285001; clear HO_291001; clear HO_313001; clear BK268; clear BK279; clear BK284; clear BK290; clear BK312; clear HB; have HO_280001 := n0_; have HO_285001 := n1_; have HO_291001 := n2_; have HO_313001 := n3_; have BK268 := n4_; have BK279 := n5_; have BK284 := n6_; have BK290 := n7_; have BK312 := n8_; have HB := n9_; clear n0_ n1_ n2_ n3_ n4_ n5_ n6_ n7_ n8_ n9_; (try clear hb); (try clear hb2); (try clear hk); (try clear hi)))
                go_ret
                exact ⟨by first | rfl | (simp [errW_none, errW_some] <;> rfl) | (simp [*, errW_none, errW_some] <;> rfl), by repeat (first | (with_reducible first | exact HB.out | apply bA | apply bN | apply bD | refine bS ?_ GE268.out | refine bS ?_ GE279.out | refine bS ?_ GE284.out | refine bS ?_ GE290.out | refine bS ?_ GE312.out) | exact HB.out)⟩
               ·rw [if_neg c155] at H
                have c155b0 : (t314 == t300) = false := beq_eq_false_iff_ne.mpr c155
                have c155b1 : (t314 != t300) = true := bne_iff_ne.mpr c155
                obtain rfl := Option.some.inj H
                have hnb162 := NB290_268.out
                have hnc162 := NB268_290.out
                have hnb163 := NB290_279.out
                have hnc163 := NB279_290.out
                have hnb164 := NB290_284.out
                have hnc164 := NB284_290.out
                have hnb165 := NB290_312.out
                have hnc165 := NB312_290.out
                have hcz166_0 : wc.cell? ⟨gb290, 0, none⟩ = some (.int .i64 t285) := (kC BK290.out 0).trans rfl
                have hcz166_1 : wc.cell? ⟨gb290, 1, none⟩ = some (.slice Ao36 t301.length co36) := (kC BK290.out 1).trans rfl
                have hfz166_0 := kF BK290.out 0
                have hfz166_1 := kF BK290.out 1
                go_wp2_with (first | ((with_reducible refine gate_callee (f := 22) rfl ?_); refine goesL_ (some 90) rfl rfl Tryd.func22 (by kernel_rfl) rfl #[.agg #[.int .i64 t285, .slice Ao36 t301.length co36], .int .i64 1] rfl (by (try simp only [List.map_toArray, List.map_cons, List.map_nil]); first | done | rfl | (simp only [List.length_drop, List.length_take]; rfl)) ?_; (with_reducible refine (laws_heldDisk.calls kj102 t285 _ _ t301 1 t314 _ ?side1 ?side2 A147.out).mono ?_); (case side1 => repeat (first | exact (Kd.R_reads' HO_291001.out).2.2 | (with_reducible refine Kd.C_alloc ?_ _) | (with_reducible refine Kd.C_drewN ?_ _) | (with_reducible refine Kd.C_drew ?_))); (case side2 => exact (Kd.R_reads' HO_291001.out).2.1); rintro e w167 ⟨rfl, hb⟩; refine ⟨_, rfl, ?_⟩; have n0_ := aM (Kd.R_below (by (with_reducible repeat (first | apply Kd.R_alloc | apply Kd.R_drewN | apply Kd.R_drew)); exact HO_280001.out) hb); have n1_ := aM (Kd.R_below (by (with_reducible repeat (first | apply Kd.R_alloc | apply Kd.R_drewN | apply Kd.R_drew)); exact HO_285001.out) hb); have n2_ := aM (Kd.R_below (by (with_reducible repeat (first | apply Kd.R_alloc | apply Kd.R_drewN | apply Kd.R_drew)); exact HO_291001.out) hb); have n3_ := aM (Kd.R_below (by (with_reducible repeat (first | apply Kd.R_alloc | apply Kd.R_drewN | apply Kd.R_drew)); exact HO_313001.out) hb); have n4_ := aM (blk_below (g := gb268) (o := .cells #[.int .i64 a0_0, .slice A0_1 l0_1.length c0_1] 24 (0, 0)) (by (with_reducible repeat (first | refine kN ?_ _ | refine kD ?_ | refine kA ?_ _)); exact BK268.out) hb); have n5_ := aM (blk_below (g := gb279) (o := .cells #[.int .i64 t274, .slice Ao22 t275.length co22] 33 (0, 0)) (by (with_reducible repeat (first | refine kN ?_ _ | refine kD ?_ | refine kA ?_ _)); exact BK279.out) hb); have n6_ := aM (blk_below (g := gb284) (o := .cells #[.int .i64 t280, .slice Ao29 t298.length co29] 33 (0, 0)) (by (with_reducible repeat (first | refine kN ?_ _ | refine kD ?_ | refine kA ?_ _)); exact BK284.out) hb); have n7_ := aM (blk_below (g := gb290) (o := .cells #[.int .i64 t285, .slice Ao36 t301.length co36] 33 (0, 0)) (by (with_reducible repeat (first | refine kN ?_ _ | refine kD ?_ | refine kA ?_ _)); exact BK290.out) hb); have n8_ := aM (blk_below (g := gb312) (o := .cells #[.int .i64 t307, .slice Ao123 t308.length co123] 33 (0, 0)) (by (with_reducible repeat (first | refine kN ?_ _ | refine kD ?_ | refine kA ?_ _)); exact BK312.out) hb); have n9_ := aM (below_step (by repeat (first | (with_reducible first | exact HB.out | apply bA | apply bN | apply bD | refine bS ?_ GE268.out | refine bS ?_ GE279.out | refine bS ?_ GE284.out | refine bS ?_ GE290.out | refine bS ?_ GE312.out) | exact HB.out)) hb); clear HO_280001; clear HO_285001; clear HO_291001; clear HO_313001; clear BK268; clear BK279; clear BK284; clear BK290; clear BK312; clear HB; have HO_280001 := n0_; have HO_285001 := n1_; have HO_291001 := n2_; have HO_313001 := n3_; have BK268 := n4_; have BK279 := n5_; have BK284 := n6_; have BK290 := n7_; have BK312 := n8_; have HB := n9_; clear n0_ n1_ n2_ n3_ n4_ n5_ n6_ n7_ n8_ n9_; (try clear hb); (try clear hb2); (try clear hk); (try clear hi)))
                go_ret
                exact ⟨by first | rfl | (simp [errW_none, errW_some] <;> rfl) | (simp [*, errW_none, errW_some] <;> rfl), by repeat (first | (with_reducible first | exact HB.out | apply bA | apply bN | apply bD | refine bS ?_ GE268.out | refine bS ?_ GE279.out | refine bS ?_ GE284.out | refine bS ?_ GE290.out | refine bS ?_ GE312.out) | exact HB.out)⟩
          ·rw [if_neg c100] at H
           have c100b0 : (t302 == t300) = false := beq_eq_false_iff_ne.mpr c100
           have c100b1 : (t302 != t300) = true := bne_iff_ne.mpr c100
           obtain rfl := Option.some.inj H
           have hnb168 := NB290_268.out
           have hnc168 := NB268_290.out
           have hnb169 := NB290_279.out
           have hnc169 := NB279_290.out
           have hnb170 := NB290_284.out
           have hnc170 := NB284_290.out
           have hcz171_0 : wc.cell? ⟨gb290, 0, none⟩ = some (.int .i64 t285) := (kC BK290.out 0).trans rfl
           have hcz171_1 : wc.cell? ⟨gb290, 1, none⟩ = some (.slice Ao36 t286.length co36) := (kC BK290.out 1).trans rfl
           have hfz171_0 := kF BK290.out 0
           have hfz171_1 := kF BK290.out 1
           go_wp2_with (first | ((with_reducible refine gate_callee (f := 12) rfl ?_); refine goesL_ (some 64) rfl rfl Tryd.func12 (by kernel_rfl) rfl #[.agg #[.int .i64 t285, .slice Ao36 t286.length co36], .int .i64 1] rfl (by (try simp only [List.map_toArray, List.map_cons, List.map_nil]); first | done | rfl | (simp only [List.length_drop, List.length_take]; rfl)) ?_; (with_reducible refine (laws_markDisk.calls kj59 t285 (fun k_ => some k_ = (.slice Ao36 t286.length co36 : Value).ownBlock) (.slice Ao36 t286.length co36) t286 1 t300 t301 w _ ?side1 ?side2 A90.out).mono ?_); (case side1 => repeat (first | (with_reducible first | exact HB.out | apply bA | apply bN | apply bD | refine bS ?_ GE268.out | refine bS ?_ GE279.out | refine bS ?_ GE284.out | refine bS ?_ GE290.out) | exact HB.out)); (case side2 => exact Kd.R_tight rfl HO_291001.out); rintro e w172 ⟨rfl, hy0, hb, hkp⟩; refine ⟨_, rfl, ?_⟩; have n0_ := aM (Kd.R_mono (ok' := fun k_ => some k_ ≠ (.slice Ao29 t298.length co29 : Value).ownBlock ∧ some k_ ≠ (.slice Ao36 t286.length co36 : Value).ownBlock) (Kd.R_keptB (HO_280001.out) hkp (fun k_ hk_ hs_ => (hk_.2) hs_)) (fun k_ hk_ => ⟨hk_.1.1, hk_.1.2⟩)); have n1_ := aM (Kd.R_mono (ok' := fun k_ => some k_ ≠ (.slice Ao22 t275.length co22 : Value).ownBlock ∧ some k_ ≠ (.slice Ao36 t286.length co36 : Value).ownBlock) (Kd.R_keptB (HO_285001.out) hkp (fun k_ hk_ hs_ => (hk_.2) hs_)) (fun k_ hk_ => ⟨hk_.1.1, hk_.1.2⟩)); have n2_ := aM (Kd.R_reok rfl hy0 (fun k_ e_ => HO_291001.out.1 k_ e_)); have n3_ := aM (blk_kept (by (with_reducible repeat (first | refine kN ?_ _ | refine kD ?_ | refine kA ?_ _)); exact BK268.out) hkp (fun hs_ => (fun e_ => (Kd.R_ne HO_291001.out BK268.out (by decide)) e_) hs_)); have n4_ := aM (blk_kept (by (with_reducible repeat (first | refine kN ?_ _ | refine kD ?_ | refine kA ?_ _)); exact BK279.out) hkp (fun hs_ => (fun e_ => (Kd.R_ne HO_291001.out BK279.out (by decide)) e_) hs_)); have n5_ := aM (blk_kept (by (with_reducible repeat (first | refine kN ?_ _ | refine kD ?_ | refine kA ?_ _)); exact BK284.out) hkp (fun hs_ => (fun e_ => (Kd.R_ne HO_291001.out BK284.out (by decide)) e_) hs_)); have n6_ := aM (blk_kept (by (with_reducible repeat (first | refine kN ?_ _ | refine kD ?_ | refine kA ?_ _)); exact BK290.out) hkp (fun hs_ => (fun e_ => (Kd.R_ne HO_291001.out BK290.out (by decide)) e_) hs_)); have n7_ := aM (hb); clear HO_280001; clear HO_285001; clear HO_291001; clear BK268; clear BK279; clear BK284; clear BK290; clear HB; have HO_280001 := n0_; have HO_285001 := n1_; have HO_291001 := n2_; have BK268 := n3_; have BK279 := n4_; have BK284 := n5_; have BK290 := n6_; have HB := n7_; clear n0_ n1_ n2_ n3_ n4_ n5_ n6_ n7_; (try clear hb); (try clear hkp); (try clear hy0); have hcz173_0 : w172.cell? ⟨gb290, 0, none⟩ = some (.int .i64 t285) := (kC BK290.out 0).trans rfl; have hcz173_1 : w172.cell? ⟨gb290, 1, none⟩ = some (.slice Ao36 t286.length co36) := (kC BK290.out 1).trans rfl; have hfz173_0 := kF BK290.out 0; have hfz173_1 := kF BK290.out 1) | ((with_reducible refine gate_callee (f := 22) rfl ?_); refine goesL_ (some 67) rfl rfl Tryd.func22 (by kernel_rfl) rfl #[.agg #[.int .i64 t285, .slice Ao36 t301.length co36], .int .i64 1] rfl (by (try simp only [List.map_toArray, List.map_cons, List.map_nil]); first | done | (rw [show t301.length = t286.length from (Kd.R_reads' HO_291001.out).1.symm] <;> rfl) | rfl | (simp only [List.length_drop, List.length_take]; rfl)) ?_; (with_reducible refine (laws_heldDisk.calls kj59 t285 _ _ t301 1 t302 _ ?side1 ?side2 A91.out).mono ?_); (case side1 => repeat (first | exact (Kd.R_reads' HO_291001.out).2.2 | (with_reducible refine Kd.C_alloc ?_ _) | (with_reducible refine Kd.C_drewN ?_ _) | (with_reducible refine Kd.C_drew ?_))); (case side2 => rw [show t301.length = t286.length from (Kd.R_reads' HO_291001.out).1.symm]; exact (Kd.R_reads' HO_291001.out).2.1); rintro e w174 ⟨rfl, hb⟩; refine ⟨_, rfl, ?_⟩; have n0_ := aM (Kd.R_below (by (with_reducible repeat (first | apply Kd.R_alloc | apply Kd.R_drewN | apply Kd.R_drew)); exact HO_280001.out) hb); have n1_ := aM (Kd.R_below (by (with_reducible repeat (first | apply Kd.R_alloc | apply Kd.R_drewN | apply Kd.R_drew)); exact HO_285001.out) hb); have n2_ := aM (Kd.R_below (by (with_reducible repeat (first | apply Kd.R_alloc | apply Kd.R_drewN | apply Kd.R_drew)); exact HO_291001.out) hb); have n3_ := aM (blk_below (g := gb268) (o := .cells #[.int .i64 a0_0, .slice A0_1 l0_1.length c0_1] 24 (0, 0)) (by (with_reducible repeat (first | refine kN ?_ _ | refine kD ?_ | refine kA ?_ _)); exact BK268.out) hb); have n4_ := aM (blk_below (g := gb279) (o := .cells #[.int .i64 t274, .slice Ao22 t275.length co22] 33 (0, 0)) (by (with_reducible repeat (first | refine kN ?_ _ | refine kD ?_ | refine kA ?_ _)); exact BK279.out) hb); have n5_ := aM (blk_below (g := gb284) (o := .cells #[.int .i64 t280, .slice Ao29 t298.length co29] 33 (0, 0)) (by (with_reducible repeat (first | refine kN ?_ _ | refine kD ?_ | refine kA ?_ _)); exact BK284.out) hb); have n6_ := aM (blk_below (g := gb290) (o := .cells #[.int .i64 t285, .slice Ao36 t286.length co36] 33 (0, 0)) (by (with_reducible repeat (first | refine kN ?_ _ | refine kD ?_ | refine kA ?_ _)); exact BK290.out) hb); have n7_ := aM (below_step (by repeat (first | (with_reducible first | exact HB.out | apply bA | apply bN | apply bD | refine bS ?_ GE268.out | refine bS ?_ GE279.out | refine bS ?_ GE284.out | refine bS ?_ GE290.out) | exact HB.out)) hb); clear HO_280001; clear HO_285001; clear HO_291001; clear BK268; clear BK279; clear BK284; clear BK290; clear HB; have HO_280001 := n0_; have HO_285001 := n1_; have HO_291001 := n2_; have BK268 := n3_; have BK279 := n4_; have BK284 := n5_; have BK290 := n6_; have HB := n7_; clear n0_ n1_ n2_ n3_ n4_ n5_ n6_ n7_; (try clear hb); (try clear hb2); (try clear hk); (try clear hi)))
           go_ret
           exact ⟨by first | rfl | (simp [errW_none, errW_some] <;> rfl) | (simp [*, errW_none, errW_some] <;> rfl), by repeat (first | (with_reducible first | exact HB.out | apply bA | apply bN | apply bD | refine bS ?_ GE268.out | refine bS ?_ GE279.out | refine bS ?_ GE284.out | refine bS ?_ GE290.out) | exact HB.out)⟩
     ·replace c58 := Bool.eq_false_iff.mpr c58
      subst c58
      have H1 : (some false) = some r := by rw [if_neg (show ¬ (false = true) by decide)] at H; exact H
      clear H
      have H := H1
      clear H1
      obtain rfl := Option.some.inj H
      try go_wp2
      have n0_ := aM (Kd.R_drew HO_280001.out)
      have n1_ := aM (Kd.R_drew HO_285001.out)
      have n2_ := aM (Kd.R_drew HO_291001.out)
      have n3_ := aM (kD BK268.out)
      have n4_ := aM (kD BK279.out)
      have n5_ := aM (kD BK284.out)
      have n6_ := aM (kD BK290.out)
      have n7_ := aM (bD HB.out)
      clear HO_280001
      clear HO_285001
      clear HO_291001
      clear BK268
      clear BK279
      clear BK284
      clear BK290
      clear HB
      have HO_280001 := n0_
      have HO_285001 := n1_
      have HO_291001 := n2_
      have BK268 := n3_
      have BK279 := n4_
      have BK284 := n5_
      have BK290 := n6_
      have HB := n7_
      clear n0_ n1_ n2_ n3_ n4_ n5_ n6_ n7_
      refine start_ (n := 5) (S := fun w' => w'.cell? ⟨gb284, 0, none⟩ = some (.int .i64 t280) ∧ w'.cell? ⟨gb284, 1, none⟩ = some (.slice Ao29 t281.length co29) ∧ w'.cell? ⟨gb268, 0, none⟩ = some (.int .i64 a0_0) ∧ w'.cell? ⟨gb268, 1, none⟩ = some (.slice A0_1 l0_1.length c0_1)) (ds := []) #[F,F,F,F,F] (by kernel_rfl) rfl rfl ⟨(kC BK284.out 0).trans rfl, (kC BK284.out 1).trans rfl, (kC BK268.out 0).trans rfl, (kC BK268.out 1).trans rfl⟩ (fun hHeld => ?_)
      generalize wc.drew = w175 at HO_280001 HO_285001 HO_291001 BK268 BK279 BK284 BK290 HB hHeld ⊢
      refine take_ (i := 0) (N := some 41) (v := ?_) (a' := ?_) #[T,F,F,F,F] rfl rfl (by kernel_rfl) (fun _ _ _ h => h) (Or.inl ⟨by rfl, ?_⟩) hHeld ?_ ?_
      rotate_left
      ·rintro w' ⟨s0, s1, s2, s3⟩
       go_simp
       with_reducible rfl
      rotate_left
      ·simp only [Act.put, s1, s2, s3, i64_w, i32_w]
       rfl
      refine take_ (i := 1) (N := some 42) (v := ?_) (a' := ?_) #[T,T,F,F,F] rfl rfl (by kernel_rfl) (fun _ _ _ h => h) (Or.inl ⟨by rfl, ?_⟩) hHeld ?_ ?_
      rotate_left
      ·rintro w' ⟨s0, s1, s2, s3⟩
       go_simp
       with_reducible rfl
      rotate_left
      ·simp only [Act.put, s1, s2, s3, i64_w, i32_w]
       rfl
      refine one_ (i := 2) (N := some 43) #[T,T,T,F,F] rfl rfl (by kernel_rfl) (by decide) (fun K hK => ?_)
      refine goes_ Tryd.func8 (by kernel_rfl) rfl #[.agg #[.int .i64 a0_0, .slice A0_1 l0_1.length c0_1]] (by rfl) rfl rfl (by (try simp only [List.map_toArray, List.map_cons, List.map_nil]); first | done | rfl | (simp only [List.length_drop, List.length_take]; rfl)) ?_
      with_reducible refine (laws_toDisk.calls kj10 a0_0 _ _ l0_1 t292 t293 _ ?side1 ?side2 A56.out).mono ?_
      (case side1 => repeat (first | exact (Kd.C_below HR0_1.out HB.out) | (with_reducible refine Kd.C_alloc ?_ _) | (with_reducible refine Kd.C_drewN ?_ _) | (with_reducible refine Kd.C_drew ?_)))
      (case side2 => exact HC0_1.out)
      rintro e w176 ⟨v294, rfl, ho0, hb⟩
      refine ⟨_, rfl, ?_⟩
      have n0_ := aM (Kd.R_elder' (by (with_reducible repeat (first | apply Kd.R_alloc | apply Kd.R_drewN | apply Kd.R_drew)); exact HO_280001.out) (Kd.R_base ho0) hb)
      have n1_ := aM (Kd.R_elder' (by (with_reducible repeat (first | apply Kd.R_alloc | apply Kd.R_drewN | apply Kd.R_drew)); exact HO_285001.out) (Kd.R_base ho0) hb)
      have n2_ := aM (Kd.R_elder' (by (with_reducible repeat (first | apply Kd.R_alloc | apply Kd.R_drewN | apply Kd.R_drew)); exact HO_291001.out) (Kd.R_base ho0) hb)
      have n3_ := aM (Kd.R_lower (Kd.R_new' (Kd.R_new' (Kd.R_new' ho0 (Kd.R_lt (by (with_reducible repeat (first | apply Kd.R_alloc | apply Kd.R_drewN | apply Kd.R_drew)); exact HO_280001.out))) (Kd.R_lt (by (with_reducible repeat (first | apply Kd.R_alloc | apply Kd.R_drewN | apply Kd.R_drew)); exact HO_285001.out))) (Kd.R_lt (by (with_reducible repeat (first | apply Kd.R_alloc | apply Kd.R_drewN | apply Kd.R_drew)); exact HO_291001.out))) (below_size (by repeat (first | (with_reducible first | exact HB.out | apply bA | apply bN | apply bD | refine bS ?_ GE268.out | refine bS ?_ GE279.out | refine bS ?_ GE284.out | refine bS ?_ GE290.out) | exact HB.out))))
      have n4_ := aM (blk_below (g := gb268) (o := .cells #[.int .i64 a0_0, .slice A0_1 l0_1.length c0_1] 24 (0, 0)) (by (with_reducible repeat (first | refine kN ?_ _ | refine kD ?_ | refine kA ?_ _)); exact BK268.out) hb)
      have n5_ := aM (blk_below (g := gb279) (o := .cells #[.int .i64 t274, .slice Ao22 t275.length co22] 33 (0, 0)) (by (with_reducible repeat (first | refine kN ?_ _ | refine kD ?_ | refine kA ?_ _)); exact BK279.out) hb)
      have n6_ := aM (blk_below (g := gb284) (o := .cells #[.int .i64 t280, .slice Ao29 t281.length co29] 33 (0, 0)) (by (with_reducible repeat (first | refine kN ?_ _ | refine kD ?_ | refine kA ?_ _)); exact BK284.out) hb)
      have n7_ := aM (blk_below (g := gb290) (o := .cells #[.int .i64 t285, .slice Ao36 t286.length co36] 33 (0, 0)) (by (with_reducible repeat (first | refine kN ?_ _ | refine kD ?_ | refine kA ?_ _)); exact BK290.out) hb)
      have n8_ := aM (below_step (by repeat (first | (with_reducible first | exact HB.out | apply bA | apply bN | apply bD | refine bS ?_ GE268.out | refine bS ?_ GE279.out | refine bS ?_ GE284.out | refine bS ?_ GE290.out) | exact HB.out)) hb)
      clear HO_280001
      clear HO_285001
      clear HO_291001
      clear BK268
      clear BK279
      clear BK284
      clear BK290
      clear HB
      have HO_280001 := n0_
      have HO_285001 := n1_
      have HO_291001 := n2_
      have HO295 := n3_
      have BK268 := n4_
      have BK279 := n5_
      have BK284 := n6_
      have BK290 := n7_
      have HB := n8_
      clear n0_ n1_ n2_ n3_ n4_ n5_ n6_ n7_ n8_
      (try clear hb)
      (try clear hb2)
      (try clear hk)
      (try clear hi)
      (try clear ho0)
      obtain ⟨Ao177, co177, eo177⟩ := Kd.R_slice HO295.out
      (first | subst eo177 | (injection eo177 with f1_ f2_ f3_; have f4_ := f1_.symm; have f5_ := f3_.symm; clear f1_ f2_ f3_; subst f4_; subst f5_))
      refine hK.out _ _ ⟨(kC BK284.out 0).trans rfl, (kC BK284.out 1).trans rfl, (kC BK268.out 0).trans rfl, (kC BK268.out 1).trans rfl⟩ (fun hHeld => ?_)
      clear hK K
      refine norm_ (a' := ?_) ?_ ?_
      rotate_left
      ·show Act.put _ (some 43) _ = _
       simp only [Act.put, s1, s2, s3, i64_w, i32_w]
       rfl
      refine one_ (i := 3) (N := some 44) #[T,T,T,T,F] rfl rfl (by kernel_rfl) (by decide) (fun K hK => ?_)
      refine goes_ Tryd.func11 (by kernel_rfl) rfl #[.agg #[.int .i64 t280, .slice Ao29 t281.length co29], .agg #[.int .i64 t292, .slice Ao177 t293.length co177]] (by rfl) rfl rfl (by (try simp only [List.map_toArray, List.map_cons, List.map_nil]); first | done | rfl | (simp only [List.length_drop, List.length_take]; rfl)) ?_
      with_reducible refine (laws_eqDisk.calls kj10 t280 _ _ t281 t292 _ _ t293 false _ ?side1 ?side2 ?side3 ?side4 A57.out).mono ?_
      (case side1 => repeat (first | exact (Kd.R_reads' HO_285001.out).2.2 | (with_reducible refine Kd.C_alloc ?_ _) | (with_reducible refine Kd.C_drewN ?_ _) | (with_reducible refine Kd.C_drew ?_)))
      (case side2 => exact (Kd.R_reads' HO_285001.out).2.1)
      (case side3 => repeat (first | exact (Kd.R_reads' HO295.out).2.2 | (with_reducible refine Kd.C_alloc ?_ _) | (with_reducible refine Kd.C_drewN ?_ _) | (with_reducible refine Kd.C_drew ?_)))
      (case side4 => exact (Kd.R_reads' HO295.out).2.1)
      rintro e w178 ⟨rfl, hb⟩
      refine ⟨_, rfl, ?_⟩
      have n0_ := aM (Kd.R_below (by (with_reducible repeat (first | apply Kd.R_alloc | apply Kd.R_drewN | apply Kd.R_drew)); exact HO_280001.out) hb)
      have n1_ := aM (Kd.R_below (by (with_reducible repeat (first | apply Kd.R_alloc | apply Kd.R_drewN | apply Kd.R_drew)); exact HO_285001.out) hb)
      have n2_ := aM (Kd.R_below (by (with_reducible repeat (first | apply Kd.R_alloc | apply Kd.R_drewN | apply Kd.R_drew)); exact HO_291001.out) hb)
      have n3_ := aM (Kd.R_below (by (with_reducible repeat (first | apply Kd.R_alloc | apply Kd.R_drewN | apply Kd.R_drew)); exact HO295.out) hb)
      have n4_ := aM (blk_below (g := gb268) (o := .cells #[.int .i64 a0_0, .slice A0_1 l0_1.length c0_1] 24 (0, 0)) (by (with_reducible repeat (first | refine kN ?_ _ | refine kD ?_ | refine kA ?_ _)); exact BK268.out) hb)
      have n5_ := aM (blk_below (g := gb279) (o := .cells #[.int .i64 t274, .slice Ao22 t275.length co22] 33 (0, 0)) (by (with_reducible repeat (first | refine kN ?_ _ | refine kD ?_ | refine kA ?_ _)); exact BK279.out) hb)
      have n6_ := aM (blk_below (g := gb284) (o := .cells #[.int .i64 t280, .slice Ao29 t281.length co29] 33 (0, 0)) (by (with_reducible repeat (first | refine kN ?_ _ | refine kD ?_ | refine kA ?_ _)); exact BK284.out) hb)
      have n7_ := aM (blk_below (g := gb290) (o := .cells #[.int .i64 t285, .slice Ao36 t286.length co36] 33 (0, 0)) (by (with_reducible repeat (first | refine kN ?_ _ | refine kD ?_ | refine kA ?_ _)); exact BK290.out) hb)
      have n8_ := aM (below_step (by repeat (first | (with_reducible first | exact HB.out | apply bA | apply bN | apply bD | refine bS ?_ GE268.out | refine bS ?_ GE279.out | refine bS ?_ GE284.out | refine bS ?_ GE290.out) | exact HB.out)) hb)
      clear HO_280001
      clear HO_285001
      clear HO_291001
      clear HO295
      clear BK268
      clear BK279
      clear BK284
      clear BK290
      clear HB
      have HO_280001 := n0_
      have HO_285001 := n1_
      have HO_291001 := n2_
      have HO295 := n3_
      have BK268 := n4_
      have BK279 := n5_
      have BK284 := n6_
      have BK290 := n7_
      have HB := n8_
      clear n0_ n1_ n2_ n3_ n4_ n5_ n6_ n7_ n8_
      (try clear hb)
      (try clear hb2)
      (try clear hk)
      (try clear hi)
      refine hK.out _ _ ⟨(kC BK284.out 0).trans rfl, (kC BK284.out 1).trans rfl, (kC BK268.out 0).trans rfl, (kC BK268.out 1).trans rfl⟩ (fun hHeld => ?_)
      clear hK K
      refine norm_ (a' := ?_) ?_ ?_
      rotate_left
      ·show Act.put _ (some 44) _ = _
       simp only [Act.put, s1, s2, s3, i64_w, i32_w]
       rfl
      refine pure_ (i := 4) (N := some 45) (v := ?_) (a' := ?_) #[T,T,T,T,T] rfl rfl (by kernel_rfl) (fun _ _ _ h => h) (Or.inl ⟨by rfl, ?_⟩) ?_ ?_
      rotate_left
      ·intro w'
       go_simp
       with_reducible rfl
      rotate_left
      ·simp only [Act.put, s1, s2, s3, i64_w, i32_w]
       rfl
      refine done_ (by kernel_rfl) ?_
      try go_wp2
      go_ret
      exact ⟨by first | rfl | (simp [errW_none, errW_some] <;> rfl) | (simp [*, errW_none, errW_some] <;> rfl), by repeat (first | (with_reducible first | exact HB.out | apply bA | apply bN | apply bD | refine bS ?_ GE268.out | refine bS ?_ GE279.out | refine bS ?_ GE284.out | refine bS ?_ GE290.out) | exact HB.out)⟩

end Go.Proofs.YtpdhfoegbannkaaDoor.PFnExactWalSync
