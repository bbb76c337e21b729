import Derived.Test.YtpdhfoegbannkaaDoorMFnExactWalPlanPx0
import Derived.Test.YtpdhfoegbannkaaDoorMFnExactWalPlanPx13
import Derived.Test.YtpdhfoegbannkaaDoorMFnExactWalPlanPx14
namespace Go.Proofs.YtpdhfoegbannkaaDoor.PFnExactWalPlan
open Go.RowKit Go.Proofs.YtpdhfoegbannkaaDoorW.PrintWords Go.Proofs.YtpdhfoegbannkaaDoorW.PrintLast Go.Proofs.YtpdhfoegbannkaaDoorW.PrintMore
attribute [local go_sem] max2_int min2_int max_two min_two max_three min_three max_four min_four
set_option linter.unusedVariables false
set_option linter.unusedSimpArgs false
structure impl_walRead.St where
 first : Int
 recs : List ByteArray
 names : List ByteArray
 torn : Int
 last : Int
def impl_walRead.seg (k : Nat) (s : impl_walRead.St) (x : S69) (b : Bool) : Option (impl_walRead.St × Int) :=
 (impl_readFrames.f k x.f1).bind fun fr => (impl_segmentOf.f x.f0).bind fun n =>
  if fr.2.2 ≠ 0 ∧ ¬ (b = true ∧ fr.2.2 = 16) then some (s, 8)
  else if (s.last > 0 ∧ n ≠ wrap64 (s.last + 1)) ∨ (fr.1.length = 0 ∧ b = false) then some (s, 3)
  else if s.names.length < 1000000 then
   (if fr.1.length = 0 then some (⟨s.first, s.recs, s.names ++ [x.f0], wrap64 ((x.f1.size : Int) - fr.2.1), n⟩, 0)
   else (impl_numberOf.f k (rdOf ByteArray.empty fr.1 0)).bind fun q =>
    if (rdOf ByteArray.empty fr.1 0).size ≠ 4 ∨ (s.names.length > 0 ∧ q ≠ wrap64 (s.first + (s.recs.length : Int))) then some (⟨s.first, s.recs, s.names ++ [x.f0], wrap64 ((x.f1.size : Int) - fr.2.1), n⟩, 3)
    else if s.recs.length + fr.1.length < 1000000 then some (⟨if s.names.length = 0 then q else s.first, s.recs ++ fr.1.drop 1, s.names ++ [x.f0], wrap64 ((x.f1.size : Int) - fr.2.1), n⟩, 0) else none)
  else none
structure impl_walRead.PS (w0 w : World) (g : Nat) (s : impl_walRead.St) : Prop where
 ex : ∃ vR vN, w.heap[g]? = some (.cells #[.int .i64 s.first, vR, vN, .int .i64 s.torn, .int .i64 s.last] 86 (0, 0)) ∧ w0.heap.size ≤ g ∧ Kd.R Kd.string 9 w w0.heap.size (fun k => True ∧ some k ≠ (vN : Value).ownBlock) vR s.recs ∧ Kd.R Kd.string 9 w w0.heap.size (fun k => True ∧ some k ≠ (vR : Value).ownBlock) vN s.names
 low : Below w0.heap.size w0 w
set_option maxHeartbeats 8000000 in
set_option maxRecDepth 100000 in
theorem impl_walRead.segment (k : Nat) (w0 w : World) (g : Nat) (s s' : impl_walRead.St) (x : S69) (b : Bool) (code : Int) (hp : impl_walRead.PS w0 w g s) (h : impl_walRead.seg k s x b = some (s', code)) :
  Calls Tryd.prog 60 #[.pointer (some ⟨g, 0, none⟩), .agg #[.string x.f0, .string x.f1, .int .i64 x.f2], .bool b] w fun e w' => e = .returned (.int .i64 code) ∧ impl_walRead.PS w0 w' g s' := by
 have hu69 := Tryd.underlying69;have hu86 := Tryd.underlying86;have hu28 := Tryd.underlying28
 unfold impl_walRead.seg at h
 replace h := Option.bind_eq_some_iff.mp h;obtain ⟨⟨fr, used, fcode⟩, hfr, h⟩ := h;replace h := Option.bind_eq_some_iff.mp h;obtain ⟨n, hn, h⟩ := h;simp only at h;obtain ⟨⟨vR, vN, hg, hge, hR, hN⟩, hB⟩ := hp;obtain ⟨AR, cR, eR⟩ := Kd.R_slice hR;subst eR;obtain ⟨AN, cN, eN⟩ := Kd.R_slice hN;subst eN;have HFR := aM hfr;have HNU := aM hn;have H := aM h;have BG := aM hg;have GE := aM hge;have HR := aM hR;have HN := aM hN;have HB := aM hB;clear hfr hn h hg hge hR hN hB
 go_enter Tryd.func60, Tryd.ntmps60
 go_upto_region 3 with (first
  | ((with_reducible refine gate_dst (N := 4) rfl ?_); refine box_event ?hg (N := 4) ?hd (cs := #[.string x.f0, .string x.f1, .int .i64 x.f2]) (t := 69) ?hr ?_; (case hd => rfl); (case hg => rfl); (case hr => first | (go_simp; done) | (go_simp; rfl)); intro g4 hg4 w1 hbox hb; have HX4 := aM hbox; have HNE : Aside0 (g ≠ g4) := ⟨by (have := blk_lt BG.o; omega)⟩; have BG1 := aM (blk_below BG.o hb); have HR1 := aM (Kd.R_below HR.o hb); have HN1 := aM (Kd.R_below HN.o hb); have HB1 := aM (below_step HB.o hb); have hx41 := (kC HX4.o 1).trans (show _ = some (Value.string x.f1) from rfl); clear hbox hb hg4 BG HR HN HB)
  | (go_at_call 77; refine (impl_readFrames.calls k x.f1 fr used fcode _ HFR.o).mono ?_; rintro e w2 ⟨vF, rfl, ho, hb⟩; clear hx41; have HO := aM (Kd.R_lower (Kd.R_new' (Kd.R_new' ho (Kd.R_lt HR1.o)) (Kd.R_lt HN1.o)) HB1.o.size); have HX42 := aM (blk_below HX4.o hb); have BG2 := aM (blk_below BG1.o hb); have HR2 := aM (Kd.R_below HR1.o hb); have HN2 := aM (Kd.R_below HN1.o hb); have HB2 := aM (below_step HB1.o hb); have hx40 := (kC HX42.o 0).trans (show _ = some (Value.string x.f0) from rfl); clear ho hb HX4 BG1 HR1 HN1 HB1; obtain ⟨AF, cF, eF⟩ := Kd.R_slice HO.o; subst eF)
  | (go_at_call 59; refine (impl_segmentOf.calls x.f0 n _ HNU.o).mono ?_; rintro e w3 ⟨rfl, hb⟩; clear hx40; have HX43 := aM (blk_below HX42.o hb); have BG3 := aM (blk_below BG2.o hb); have HO3 := aM (Kd.R_below HO.o hb); have HR3 := aM (Kd.R_below HR2.o hb); have HN3 := aM (Kd.R_below HN2.o hb); have HB3 := aM (below_step HB2.o hb); clear hb HX42 BG2 HO HR2 HN2 HB2))
 (try simp only [Act.put, s1, s2, s3])
 go_cut [22] (fun v22 wc => v22 = .bool (decide (fcode ≠ 0 ∧ ¬ (b = true ∧ fcode = 16))) ∧ Aside0 (wc.heap[g4]? = some (.cells #[.string x.f0, .string x.f1, .int .i64 x.f2] 69 (0, 0))) ∧ Aside0 (wc.heap[g]? = some (.cells #[.int .i64 s.first, .slice AR s.recs.length cR, .slice AN s.names.length cN, .int .i64 s.torn, .int .i64 s.last] 86 (0, 0))) ∧ Aside0 (Kd.R Kd.string 9 wc w0.heap.size (fun k => (True ∧ some k ≠ (Value.slice AR s.recs.length cR).ownBlock) ∧ some k ≠ (Value.slice AN s.names.length cN).ownBlock) (.slice AF fr.length cF) fr) ∧ Aside0 (Kd.R Kd.string 9 wc w0.heap.size (fun k => True ∧ some k ≠ (Value.slice AN s.names.length cN).ownBlock) (.slice AR s.recs.length cR) s.recs) ∧ Aside0 (Kd.R Kd.string 9 wc w0.heap.size (fun k => True ∧ some k ≠ (Value.slice AR s.recs.length cR).ownBlock) (.slice AN s.names.length cN) s.names) ∧ Aside0 (Below w0.heap.size w0 wc))
 case first =>
  by_cases c1 : fcode = 0
  ·have t1 : (fcode != 0) = false := bne_eq_false_iff_eq.mpr c1;have r1 : decide (fcode ≠ 0 ∧ ¬ (b = true ∧ fcode = 16)) = false := decide_eq_false (fun h => h.1 c1)
   go_wp2
   go_meet
   case rel => exact ⟨by rw [r1], HX43, BG3, HO3, HR3, HN3, HB3⟩
  ·have t1 : (fcode != 0) = true := bne_iff_ne.mpr c1
   cases b with
   | false =>
    have r1 : decide (fcode ≠ 0 ∧ ¬ (false = true ∧ fcode = 16)) = true := decide_eq_true ⟨c1, fun h => by cases h.1⟩
    go_wp2
    go_meet
    case rel => exact ⟨by rw [r1], HX43, BG3, HO3, HR3, HN3, HB3⟩
   | true =>
    by_cases c2 : fcode = 16
    ·subst c2;clear t1 c1
     have r1 : decide ((16 : Int) ≠ 0 ∧ ¬ (true = true ∧ (16 : Int) = 16)) = false := by decide
     go_wp2
     go_meet
     case rel => exact ⟨by rw [r1], HX43, BG3, HO3, HR3, HN3, HB3⟩
    ·have t2 : (fcode == 16) = false := beq_eq_false_iff_ne.mpr c2;have r1 : decide (fcode ≠ 0 ∧ ¬ (true = true ∧ fcode = 16)) = true := decide_eq_true ⟨c1, fun h => c2 h.2⟩
     go_wp2
     go_meet
     case rel => exact ⟨by rw [r1], HX43, BG3, HO3, HR3, HN3, HB3⟩
 case rest => as_aux_lemma =>
  clear HX43 BG3 HO3 HR3 HN3 HB3;obtain ⟨rfl, HX4, BG, HO, HR, HN, HB⟩ := hcut
  by_cases c1 : fcode ≠ 0 ∧ ¬ (b = true ∧ fcode = 16)
  ·have r1 := decide_eq_true c1;have hs := H.o;rw [if_pos c1] at hs;simp only [Option.some.injEq, Prod.mk.injEq] at hs;obtain ⟨rfl, rfl⟩ := hs;rw [r1];clear c1
   go_wp2
   go_ret
   exact ⟨rfl, ⟨_, _, BG.o, GE.o, HR.o, HN.o⟩, HB.o⟩
  ·have r1 := decide_eq_false c1;have hs := H.o;rw [if_neg c1] at hs;have H2 := aM hs;clear hs H c1;rw [r1];have hgl : wc.cell? ⟨g, 4, none⟩ = some (.int .i64 s.last) := (kC BG.o 4).trans rfl
   go_upto_region 5 with (fail)
   (try simp only [Act.put, s1, s2, s3])
   go_cut [33] (fun v33 wd => v33 = .bool (decide ((s.last > 0 ∧ n ≠ wrap64 (s.last + 1)) ∨ (fr.length = 0 ∧ b = false))) ∧ Aside0 (wd.heap[g4]? = some (.cells #[.string x.f0, .string x.f1, .int .i64 x.f2] 69 (0, 0))) ∧ Aside0 (wd.heap[g]? = some (.cells #[.int .i64 s.first, .slice AR s.recs.length cR, .slice AN s.names.length cN, .int .i64 s.torn, .int .i64 s.last] 86 (0, 0))) ∧ Aside0 (Kd.R Kd.string 9 wd w0.heap.size (fun k => (True ∧ some k ≠ (Value.slice AR s.recs.length cR).ownBlock) ∧ some k ≠ (Value.slice AN s.names.length cN).ownBlock) (.slice AF fr.length cF) fr) ∧ Aside0 (Kd.R Kd.string 9 wd w0.heap.size (fun k => True ∧ some k ≠ (Value.slice AN s.names.length cN).ownBlock) (.slice AR s.recs.length cR) s.recs) ∧ Aside0 (Kd.R Kd.string 9 wd w0.heap.size (fun k => True ∧ some k ≠ (Value.slice AR s.recs.length cR).ownBlock) (.slice AN s.names.length cN) s.names) ∧ Aside0 (Below w0.heap.size w0 wd))
   case first =>
    have hfl : ((fr.length : Int) == 0) = decide (fr.length = 0) := by
     rw [Bool.eq_iff_iff, beq_iff_eq, decide_eq_true_iff]
     omega
    by_cases c2 : s.last > 0 ∧ n ≠ wrap64 (s.last + 1)
    ·have t2 : decide (s.last > 0) = true := decide_eq_true c2.1;have t3 : (n != wrap64 (s.last + 1)) = true := bne_iff_ne.mpr c2.2;have r2 : decide ((s.last > 0 ∧ n ≠ wrap64 (s.last + 1)) ∨ (fr.length = 0 ∧ b = false)) = true := decide_eq_true (Or.inl c2);clear c2 hfl
     go_wp2
     go_meet
     case rel => exact ⟨by rw [r2], HX4, BG, HO, HR, HN, HB⟩
    ·by_cases c3 : fr.length = 0
     ·rw [decide_eq_true c3] at hfl
      cases b with
      | false =>
       have r2 : decide ((s.last > 0 ∧ n ≠ wrap64 (s.last + 1)) ∨ (fr.length = 0 ∧ false = false)) = true := decide_eq_true (Or.inr ⟨c3, rfl⟩)
       by_cases c4 : s.last > 0
       ·have t2 : decide (s.last > 0) = true := decide_eq_true c4;have t3 : (n != wrap64 (s.last + 1)) = false := bne_eq_false_iff_eq.mpr (Classical.byContradiction fun hh => c2 ⟨c4, hh⟩);clear c2 c3 c4
        go_wp2
        go_meet
        case rel => exact ⟨by rw [r2], HX4, BG, HO, HR, HN, HB⟩
       ·have t2 : decide (s.last > 0) = false := decide_eq_false c4;clear c2 c3 c4
        go_wp2
        go_meet
        case rel => exact ⟨by rw [r2], HX4, BG, HO, HR, HN, HB⟩
      | true =>
       have r2 : decide ((s.last > 0 ∧ n ≠ wrap64 (s.last + 1)) ∨ (fr.length = 0 ∧ true = false)) = false := decide_eq_false (fun h => h.elim c2 (fun h => by cases h.2))
       by_cases c4 : s.last > 0
       ·have t2 : decide (s.last > 0) = true := decide_eq_true c4;have t3 : (n != wrap64 (s.last + 1)) = false := bne_eq_false_iff_eq.mpr (Classical.byContradiction fun hh => c2 ⟨c4, hh⟩);clear c2 c3 c4
        go_wp2
        go_meet
        case rel => exact ⟨by rw [r2], HX4, BG, HO, HR, HN, HB⟩
       ·have t2 : decide (s.last > 0) = false := decide_eq_false c4;clear c2 c3 c4
        go_wp2
        go_meet
        case rel => exact ⟨by rw [r2], HX4, BG, HO, HR, HN, HB⟩
     ·rw [decide_eq_false c3] at hfl;have r2 : decide ((s.last > 0 ∧ n ≠ wrap64 (s.last + 1)) ∨ (fr.length = 0 ∧ b = false)) = false := decide_eq_false (fun h => h.elim c2 (fun h => c3 h.1))
      by_cases c4 : s.last > 0
      ·have t2 : decide (s.last > 0) = true := decide_eq_true c4;have t3 : (n != wrap64 (s.last + 1)) = false := bne_eq_false_iff_eq.mpr (Classical.byContradiction fun hh => c2 ⟨c4, hh⟩);clear c2 c3 c4
       go_wp2
       go_meet
       case rel => exact ⟨by rw [r2], HX4, BG, HO, HR, HN, HB⟩
      ·have t2 : decide (s.last > 0) = false := decide_eq_false c4;clear c2 c3 c4
       go_wp2
       go_meet
       case rel => exact ⟨by rw [r2], HX4, BG, HO, HR, HN, HB⟩
   case rest => as_aux_lemma =>
    clear HX4 BG HO HR HN HB hgl;obtain ⟨rfl, HX4, BG, HO, HR, HN, HB⟩ := hcut
    by_cases c2 : (s.last > 0 ∧ n ≠ wrap64 (s.last + 1)) ∨ (fr.length = 0 ∧ b = false)
    ·have r2 := decide_eq_true c2;have hs := H2.o;rw [if_pos c2] at hs;simp only [Option.some.injEq, Prod.mk.injEq] at hs;obtain ⟨rfl, rfl⟩ := hs;rw [r2];clear c2
     go_wp2
     go_ret
     exact ⟨rfl, ⟨_, _, BG.o, GE.o, HR.o, HN.o⟩, HB.o⟩
    ·have r2 := decide_eq_false c2;have hs := H2.o;rw [if_neg c2] at hs;rw [r2];clear c2 H2
     by_cases c3 : s.names.length < 1000000
     ·rw [if_pos c3] at hs;have H3 := aM hs;have HL := aM c3;clear hs c3
      go_upto_region 7 with (fail)
      (try simp only [Act.put, s1, s2, s3])
      have HX4' := aM (kD HX4.o);have BG' := aM (kD BG.o);have HO' := aM (Kd.R_drew HO.o);have HR' := aM (Kd.R_drew HR.o);have HN' := aM (Kd.R_drew HN.o);have HB' := aM (bD HB.o);clear HX4 BG HO HR HN HB;refine start_ (n := 29) (S := fun w' => w'.cell? ⟨g4, 0, none⟩ = some (.string x.f0) ∧ w'.cell? ⟨g4, 1, none⟩ = some (.string x.f1)) (ds := []) (fT 0 29) (by kernel_rfl) rfl rfl ⟨(kC HX4'.o 0).trans rfl, (kC HX4'.o 1).trans rfl⟩ (fun hHeld => ?_);generalize wc.drew = we at HX4' BG' HO' HR' HN' HB' hHeld ⊢;refine pD 0 57 (fT 1 29) ?_;refine pD 1 58 (fT 2 29) ?_;refine pD 2 59 (fT 3 29) ?_;refine pD 3 60 (fT 4 29) ?_;refine pD 12 69 #[T,T,T,T,F,F,F,F,F,F,F,F,T,F,F,F,F,F,F,F,F,F,F,F,F,F,F,F,F] ?_;refine pD 16 73 #[T,T,T,T,F,F,F,F,F,F,F,F,T,F,F,F,T,F,F,F,F,F,F,F,F,F,F,F,F] ?_;refine pD 4 61 #[T,T,T,T,T,F,F,F,F,F,F,F,T,F,F,F,T,F,F,F,F,F,F,F,F,F,F,F,F] ?_;refine pD 5 62 #[T,T,T,T,T,T,F,F,F,F,F,F,T,F,F,F,T,F,F,F,F,F,F,F,F,F,F,F,F] ?_;refine pD 6 63 #[T,T,T,T,T,T,T,F,F,F,F,F,T,F,F,F,T,F,F,F,F,F,F,F,F,F,F,F,F] ?_;refine pD 8 65 #[T,T,T,T,T,T,T,F,T,F,F,F,T,F,F,F,T,F,F,F,F,F,F,F,F,F,F,F,F] ?_;refine pD 13 70 #[T,T,T,T,T,T,T,F,T,F,F,F,T,T,F,F,T,F,F,F,F,F,F,F,F,F,F,F,F] ?_;refine tB 9 (some 66) ?_ #[T,T,T,T,T,T,T,F,T,T,F,F,T,T,F,F,T,F,F,F,F,F,F,F,F,F,F,F,F] rfl rfl (by kernel_rfl) (Or.inl ⟨by rfl, ?_⟩) hHeld ?_ ?_ ?_;rotate_left
      ·rintro w' ⟨s0, s1⟩
       go_simp
       with_reducible rfl
      rotate_left;(·simp only [zA];rfl);refine tB 14 (some 71) ?_ #[T,T,T,T,T,T,T,F,T,T,F,F,T,T,T,F,T,F,F,F,F,F,F,F,F,F,F,F,F] rfl rfl (by kernel_rfl) (Or.inl ⟨by rfl, ?_⟩) hHeld ?_ ?_ ?_;rotate_left
      ·rintro w' ⟨s0, s1⟩
       go_simp
       with_reducible rfl
      rotate_left;(·simp only [zA];rfl);refine pD 15 72 #[T,T,T,T,T,T,T,F,T,T,F,F,T,T,T,T,T,F,F,F,F,F,F,F,F,F,F,F,F] ?_;refine pD 17 74 #[T,T,T,T,T,T,T,F,T,T,F,F,T,T,T,T,T,T,F,F,F,F,F,F,F,F,F,F,F] ?_;have hgn := cL2 BG'.o;have hgn2 : (we.alloc (.cells #[.string x.f0] 9)).cell? ⟨g, 2, none⟩ = some (.slice AN s.names.length cN) := (kC (kA BG'.o _) 2).trans rfl;refine join_ (σ := Unit) 12 #[T,T,T,T,T,T,T,T,T,T,T,F,T,T,T,T,T,T,F,F,F,F,F,F,F,F,F,F,F] (fun _ => [(64, (.slice AN s.names.length cN)), (67, .slice (some ⟨we.heap.size, 0, none⟩) 1 1)]) (fun _ w' => w' = we.alloc (.cells #[.string x.f0] 9)) ?_ ?_;rotate_left
      ·intro hCont;refine two_ (i := 7) (j := 10) (Ni := some 64) (Nj := some 67) #[T,T,T,T,T,T,T,T,T,T,F,F,T,T,T,T,T,T,F,F,F,F,F,F,F,F,F,F,F] #[T,T,T,T,T,T,T,F,T,T,T,F,T,T,T,T,T,T,F,F,F,F,F,F,F,F,F,F,F] rfl rfl rfl rfl (by kernel_rfl) (by decide) (by decide) (fun K hK => ?_) (fun K hK => ?_)
       ·skip
        refine value_ (w1 := ?_) (v := ?_) (by rfl) rfl ?_ ?_;rotate_left 2
        ·go_simp
         constructor
         ·rfl
         ·rfl
        refine hK.out _ _ hHeld (fun hHeld => ?_);clear hK K;refine norm_ (a' := ?_) ?_ ?_;rotate_left
        ·show Act.put _ (some 64) _ = _
         simp only [zA]
         rfl
        refine one_ (i := 10) (N := some 67) #[T,T,T,T,T,T,T,T,T,T,T,F,T,T,T,T,T,T,F,F,F,F,F,F,F,F,F,F,F] rfl rfl (by kernel_rfl) (by decide) (fun K hK => ?_);refine value_ (w1 := ?_) (v := ?_) (by rfl) rfl ?_ ?_;rotate_left 2
        ·go_simp
         constructor
         ·rfl
         ·rfl
        refine hK.out _ _ ⟨(World.cell?_alloc_lt _ _ _ (lC _ _ hHeld.1)).trans hHeld.1, (World.cell?_alloc_lt _ _ _ (lC _ _ hHeld.2)).trans hHeld.2⟩ (fun hHeld => ?_);clear hK K;refine norm_ (a' := ?_) ?_ ?_;rotate_left
        ·show Act.put _ (some 67) _ = _
         simp only [zA]
         rfl
        exact norm_ (by simp only [putAll, Act.put, s1, s2, s3]) (hCont () _ rfl)
       ·skip
        refine value_ (w1 := ?_) (v := ?_) (by rfl) rfl ?_ ?_;rotate_left 2
        ·go_simp
         constructor
         ·rfl
         ·rfl
        refine hK.out _ _ ⟨(World.cell?_alloc_lt _ _ _ (lC _ _ hHeld.1)).trans hHeld.1, (World.cell?_alloc_lt _ _ _ (lC _ _ hHeld.2)).trans hHeld.2⟩ (fun hHeld => ?_);clear hK K;refine norm_ (a' := ?_) ?_ ?_;rotate_left
        ·show Act.put _ (some 67) _ = _
         simp only [zA]
         rfl
        refine one_ (i := 7) (N := some 64) #[T,T,T,T,T,T,T,T,T,T,T,F,T,T,T,T,T,T,F,F,F,F,F,F,F,F,F,F,F] rfl rfl (by kernel_rfl) (by decide) (fun K hK => ?_);refine value_ (w1 := ?_) (v := ?_) (by rfl) rfl ?_ ?_;rotate_left 2
        ·go_simp
         constructor
         ·rfl
         ·rfl
        refine hK.out _ _ hHeld (fun hHeld => ?_);clear hK K;refine norm_ (a' := ?_) ?_ ?_;rotate_left
        ·show Act.put _ (some 64) _ = _
         simp only [zA]
         rfl
        exact norm_ (by simp only [putAll, Act.put, s1, s2, s3]) (hCont () _ rfl)
      rintro _ _ rfl
      clear hgn hgn2;refine norm_ (a' := ?_) ?_ ?_;rotate_left;(·simp only [putAll, Act.put, s1, s2, s3];rfl);refine one_ (i := 11) (N := some 68) (fT 18 29) rfl rfl (by kernel_rfl) (by decide) (fun K hK => ?_);refine Kd.R_append_step Kd.string (w0 := w0) w0.heap.size (by rfl) (.tmp 64) (.tmp 67) 26 9 (.string ⟨#[]⟩) 16 rfl Tryd.underlying26 info9 rfl (by decide) (by omega) (.slice AN s.names.length cN) s.names x.f0 [.string x.f0] (fun k => True ∧ some k ≠ (Value.slice AR s.recs.length cR).ownBlock) (fun _ => False) rfl rfl ?aP (fun _ hk => hk.elim) ?aF ?aO ?aB ?aS ?aL ?_
      (case aP => exact rfl)
      (case aB => exact HB'.o)
      (case aF => exact (fun k hk => ⟨trivial, Kd.fresh' (Kd.R_lt HR'.o) k hk⟩))
      (case aO => exact HN'.o)
      (case aS => exact HB'.o.size)
      (case aL => have := HL.o; omega)
      intro v1 w1 ho hb hg hat;obtain ⟨nm, hnm⟩ : ∃ y : List ByteArray, y = s.names ++ [x.f0] := ⟨_, rfl⟩;rw [← hnm] at ho;have HNM := aM hnm;clear hnm;have HX4 := aM (blk_grown HX4'.o hg (Kd.R_ne HN'.o HX4'.o (by decide)));have BG := aM (blk_grown BG'.o hg (Kd.R_ne HN'.o BG'.o (by decide)));have HO := aM (Kd.R_after (ok := fun k => True ∧ some k ≠ (Value.slice AR s.recs.length cR).ownBlock) HO'.o hg hat);have HR := aM (Kd.R_after (ok := fun _ => True) HR'.o hg hat);have HN := aM ho;have HB := aM hb;clear HX4' BG' HO' HR' HN' HB' ho hb hg hat;obtain ⟨AN1, cN1, eN1⟩ := Kd.R_slice HN.o;subst eN1;refine hK.out _ _ ⟨(kC HX4.o 0).trans rfl, (kC HX4.o 1).trans rfl⟩ (fun hHeld => ?_);clear hK K;refine norm_ (a' := ?_) ?_ ?_;rotate_left
      ·show Act.put _ (some 68) _ = _
       simp only [zA]
       rfl
      refine pD 18 75 (fT 19 29) ?_;refine pD 19 76 (fT 20 29) ?_;refine pD 20 77 (fT 21 29) ?_;refine one_ (i := 21) (N := none) (fT 22 29) rfl rfl (by kernel_rfl) (by decide) (fun K hK => ?_);have hs21 := cL2 BG.o;have hf21 := kF BG.o 2;refine skip_ (w1 := ?_) (by rfl) rfl ?_ ?_;rotate_left
      ·go_simp
       rfl
      have BG' : Aside0 ((w1.setCell ⟨g, 2, none⟩ (.slice AN1 nm.length cN1)).heap[g]? = some (.cells #[.int .i64 s.first, .slice AR s.recs.length cR, .slice AN1 nm.length cN1, .int .i64 s.torn, .int .i64 s.last] 86 (0, 0))) := ⟨blk_put BG.o 2 _ rfl⟩;have HX4' := aM (blk_far (p := ⟨g, 2, none⟩) HX4.o (Ne.symm HNE.o) (.slice AN1 nm.length cN1));have HO' := aM (Kd.R_mono (Kd.R_far (p := ⟨g, 2, none⟩) (Kd.R_types HO.o BG.o (by decide)) (fun _ hk => hk.2) (.slice AN1 nm.length cN1)) (fun _ hk => hk.1));have HR' := aM (Kd.R_mono (Kd.R_far (p := ⟨g, 2, none⟩) (Kd.R_types HR.o BG.o (by decide)) (fun _ hk => hk.2) (.slice AN1 nm.length cN1)) (fun _ hk => hk.1));have HN' := aM (Kd.R_mono (Kd.R_far (p := ⟨g, 2, none⟩) (Kd.R_types HN.o BG.o (by decide)) (fun _ hk => hk.2) (.slice AN1 nm.length cN1)) (fun _ hk => hk.1));have HB' := aM (HB.o.setCell (p := ⟨g, 2, none⟩) GE.o (.slice AN1 nm.length cN1));clear hs21 hf21 HX4 BG HO HR HN HB;refine hK.out _ _ ⟨(kC HX4'.o 0).trans rfl, (kC HX4'.o 1).trans rfl⟩ (fun hHeld => ?_);clear hK K hHeld;generalize w1.setCell ⟨g, 2, none⟩ (.slice AN1 nm.length cN1) = w2 at HX4' BG' HO' HR' HN' HB' ⊢;have HX4 := HX4';have BG := BG';have HO := HO';have HR := HR';have HN := HN';have HB := HB';clear HX4' BG' HO' HR' HN' HB';refine pD 22 78 (fT 23 29) ?_;refine pD 23 79 (fT 24 29) ?_;refine one_ (i := 24) (N := none) (fT 25 29) rfl rfl (by kernel_rfl) (by decide) (fun K hK => ?_);have hs24 : w2.cell? ⟨g, 4, none⟩ = some (.int .i64 s.last) := (kC BG.o 4).trans rfl;have hf24 := kF BG.o 4;refine skip_ (w1 := ?_) (by rfl) rfl ?_ ?_;rotate_left
      ·go_simp
       rfl
      have BG' : Aside0 ((w2.setCell ⟨g, 4, none⟩ (.int .i64 n)).heap[g]? = some (.cells #[.int .i64 s.first, .slice AR s.recs.length cR, .slice AN1 nm.length cN1, .int .i64 s.torn, .int .i64 n] 86 (0, 0))) := ⟨blk_put BG.o 4 _ rfl⟩;have HX4' := aM (blk_far (p := ⟨g, 4, none⟩) HX4.o (Ne.symm HNE.o) (.int .i64 n));have HO' := aM (Kd.R_mono (Kd.R_far (p := ⟨g, 4, none⟩) (Kd.R_types HO.o BG.o (by decide)) (fun _ hk => hk.2) (.int .i64 n)) (fun _ hk => hk.1));have HR' := aM (Kd.R_mono (Kd.R_far (p := ⟨g, 4, none⟩) (Kd.R_types HR.o BG.o (by decide)) (fun _ hk => hk.2) (.int .i64 n)) (fun _ hk => hk.1));have HN' := aM (Kd.R_mono (Kd.R_far (p := ⟨g, 4, none⟩) (Kd.R_types HN.o BG.o (by decide)) (fun _ hk => hk.2) (.int .i64 n)) (fun _ hk => hk.1));have HB' := aM (HB.o.setCell (p := ⟨g, 4, none⟩) GE.o (.int .i64 n));clear hs24 hf24 HX4 BG HO HR HN HB;refine hK.out _ _ ⟨(kC HX4'.o 0).trans rfl, (kC HX4'.o 1).trans rfl⟩ (fun hHeld => ?_);clear hK K hHeld;generalize w2.setCell ⟨g, 4, none⟩ (.int .i64 n) = w3 at HX4' BG' HO' HR' HN' HB' ⊢;have HX4 := HX4';have BG := BG';have HO := HO';have HR := HR';have HN := HN';have HB := HB';clear HX4' BG' HO' HR' HN' HB';refine pD 25 80 (fT 26 29) ?_;refine pD 26 81 (fT 27 29) ?_;refine pD 27 82 (fT 28 29) ?_;refine one_ (i := 28) (N := none) (fT 29 29) rfl rfl (by kernel_rfl) (by decide) (fun K hK => ?_);have hs28 := cL3 BG.o;have hf28 := kF BG.o 3;refine skip_ (w1 := ?_) (by rfl) rfl ?_ ?_;rotate_left
      ·go_simp
       rfl
      have BG' : Aside0 ((w3.setCell ⟨g, 3, none⟩ (.int .i64 (wrap64 ((x.f1.size : Int) - used)))).heap[g]? = some (.cells #[.int .i64 s.first, .slice AR s.recs.length cR, .slice AN1 nm.length cN1, .int .i64 (wrap64 ((x.f1.size : Int) - used)), .int .i64 n] 86 (0, 0))) := ⟨blk_put BG.o 3 _ rfl⟩;have HX4' := aM (blk_far (p := ⟨g, 3, none⟩) HX4.o (Ne.symm HNE.o) (.int .i64 (wrap64 ((x.f1.size : Int) - used))));have HO' := aM (Kd.R_mono (Kd.R_far (p := ⟨g, 3, none⟩) (Kd.R_types HO.o BG.o (by decide)) (fun _ hk => hk.2) (.int .i64 (wrap64 ((x.f1.size : Int) - used)))) (fun _ hk => hk.1));have HR' := aM (Kd.R_mono (Kd.R_far (p := ⟨g, 3, none⟩) (Kd.R_types HR.o BG.o (by decide)) (fun _ hk => hk.2) (.int .i64 (wrap64 ((x.f1.size : Int) - used)))) (fun _ hk => hk.1));have HN' := aM (Kd.R_mono (Kd.R_far (p := ⟨g, 3, none⟩) (Kd.R_types HN.o BG.o (by decide)) (fun _ hk => hk.2) (.int .i64 (wrap64 ((x.f1.size : Int) - used)))) (fun _ hk => hk.1));have HB' := aM (HB.o.setCell (p := ⟨g, 3, none⟩) GE.o (.int .i64 (wrap64 ((x.f1.size : Int) - used))));clear hs28 hf28 HX4 BG HO HR HN HB;refine hK.out _ _ ⟨(kC HX4'.o 0).trans rfl, (kC HX4'.o 1).trans rfl⟩ (fun hHeld => ?_);clear hK K hHeld;generalize w3.setCell ⟨g, 3, none⟩ (.int .i64 (wrap64 ((x.f1.size : Int) - used))) = w4 at HX4' BG' HO' HR' HN' HB' ⊢;have HX4 := HX4';have BG := BG';have HO := HO';have HR := HR';have HN := HN';have HB := HB';clear HX4' BG' HO' HR' HN' HB';refine done_ (by kernel_rfl) ?_;clear hHeld
      by_cases c5 : fr.length = 0
      ·have t5 : ((fr.length : Int) == 0) = true := beq_iff_eq.mpr (by omega);have hs := H3.o;rw [if_pos c5] at hs;simp only [Option.some.injEq, Prod.mk.injEq] at hs;obtain ⟨rfl, rfl⟩ := hs;have hnm := HNM.o;subst hnm;clear c5
       go_wp2
       go_ret
       exact ⟨rfl, ⟨_, _, BG.o, GE.o, HR.o, HN.o⟩, HB.o⟩
      ·have t5 : ((fr.length : Int) == 0) = false := beq_eq_false_iff_ne.mpr (by omega);have hs := H3.o;rw [if_neg c5] at hs;replace hs := Option.bind_eq_some_iff.mp hs;obtain ⟨q, hq, hs⟩ := hs;have HQ := aM hq;have H4 := aM hs;have HF0 := aM (show 0 < fr.length by omega);clear hs hq H3;obtain ⟨ad, e0, hx0⟩ := Kd.at_string (Kd.R_reads' HO.o).2.2 0 (by omega) (by omega)
       cases e0
       have q0 : (0 < fr.length) = True := eq_true (by omega);rw [show ((0 : Int)).toNat = 0 from rfl] at hx0
       (try rw [Addr.add_zero'] at hx0)
       clear c5
       go_upto_region 11 with (first
        | (go_at_call 78; refine (impl_numberOf.calls k (rdOf ByteArray.empty fr 0) q _ HQ.o).mono ?_; rintro e w5 ⟨rfl, hd⟩; have hb := hd.below; clear hd; have hx1 := (hb.cell (lC _ _ hx0)).trans hx0; have BG5 := aM (blk_below BG.o hb); have HO5 := aM (Kd.R_below HO.o hb); have HR5 := aM (Kd.R_below HR.o hb); have HN5 := aM (Kd.R_below HN.o hb); have HB5 := aM (below_step HB.o hb); clear hb hx0 BG HO HR HN HB HX4))
       (try simp only [Act.put, s1, s2, s3])
       go_cut [112] (fun v112 wd => v112 = .bool (decide ((rdOf ByteArray.empty fr 0).size ≠ 4 ∨ (s.names.length > 0 ∧ q ≠ wrap64 (s.first + (s.recs.length : Int))))) ∧ Aside0 (wd.heap[g]? = some (.cells #[.int .i64 s.first, .slice AR s.recs.length cR, .slice AN1 nm.length cN1, .int .i64 (wrap64 ((x.f1.size : Int) - used)), .int .i64 n] 86 (0, 0))) ∧ Aside0 (Kd.R Kd.string 9 wd w0.heap.size (fun k => (True ∧ some k ≠ (Value.slice AR s.recs.length cR).ownBlock) ∧ some k ≠ (Value.slice AN1 nm.length cN1).ownBlock) (.slice (some ad) fr.length cF) fr) ∧ Aside0 (Kd.R Kd.string 9 wd w0.heap.size (fun k => True ∧ some k ≠ (Value.slice AN1 nm.length cN1).ownBlock) (.slice AR s.recs.length cR) s.recs) ∧ Aside0 (Kd.R Kd.string 9 wd w0.heap.size (fun k => True ∧ some k ≠ (Value.slice AR s.recs.length cR).ownBlock) (.slice AN1 nm.length cN1) nm) ∧ Aside0 (Below w0.heap.size w0 wd))
       case first =>
        have hnl : nm.length = s.names.length + 1 := by rw [HNM.o, List.length_append]; rfl
        by_cases c6 : (rdOf ByteArray.empty fr 0).size = 4
        ·have t6 : (((rdOf ByteArray.empty fr 0).size : Int) != 4) = false := bne_eq_false_iff_eq.mpr (by omega);have hg2 := (kC BG5.o 2).trans (show _ = some (Value.slice AN1 nm.length cN1) from rfl)
         by_cases c7 : s.names.length > 0
         ·have t7 : decide ((nm.length : Int) > 1) = true := decide_eq_true (by omega);have hg0 := (kC BG5.o 0).trans (show _ = some (Value.int .i64 s.first) from rfl);have hg1 := (kC BG5.o 1).trans (show _ = some (Value.slice AR s.recs.length cR) from rfl);have hg3 := (kC BG5.o 3).trans (show _ = some (Value.int .i64 (wrap64 ((x.f1.size : Int) - used))) from rfl)
          by_cases c8 : q = wrap64 (s.first + (s.recs.length : Int))
          ·have t8 : (q != wrap64 (s.first + (s.recs.length : Int))) = false := bne_eq_false_iff_eq.mpr c8;have r3 : decide ((rdOf ByteArray.empty fr 0).size ≠ 4 ∨ (s.names.length > 0 ∧ q ≠ wrap64 (s.first + (s.recs.length : Int)))) = false := decide_eq_false (fun h => h.elim (fun h => h c6) (fun h => h.2 c8));clear c6 c7 c8 hnl
           go_wp2_with (go_at_call 79; refine (impl_Wal_next.calls s.first AR cR s.recs AN1 cN1 nm (wrap64 ((x.f1.size : Int) - used)) _ _ (Kd.R_reads' HR5.o).2.2 (Kd.R_reads' HR5.o).2.1 (Kd.R_reads' HN5.o).2.2 (Kd.R_reads' HN5.o).2.1 rfl).mono ?_; rintro e w6 ⟨rfl, hb⟩; clear hg0 hg1 hg2 hg3; have BG6 := aM (blk_below BG5.o hb); have HO6 := aM (Kd.R_below HO5.o hb); have HR6 := aM (Kd.R_below HR5.o hb); have HN6 := aM (Kd.R_below HN5.o hb); have HB6 := aM (below_step HB5.o hb); clear hb)
           go_meet
           case rel => exact ⟨by rw [r3], BG6, HO6, HR6, HN6, HB6⟩
          ·have t8 : (q != wrap64 (s.first + (s.recs.length : Int))) = true := bne_iff_ne.mpr c8;have r3 : decide ((rdOf ByteArray.empty fr 0).size ≠ 4 ∨ (s.names.length > 0 ∧ q ≠ wrap64 (s.first + (s.recs.length : Int)))) = true := decide_eq_true (Or.inr ⟨c7, c8⟩);clear c6 c7 c8 hnl
           go_wp2_with (go_at_call 79; refine (impl_Wal_next.calls s.first AR cR s.recs AN1 cN1 nm (wrap64 ((x.f1.size : Int) - used)) _ _ (Kd.R_reads' HR5.o).2.2 (Kd.R_reads' HR5.o).2.1 (Kd.R_reads' HN5.o).2.2 (Kd.R_reads' HN5.o).2.1 rfl).mono ?_; rintro e w6 ⟨rfl, hb⟩; clear hg0 hg1 hg2 hg3; have BG6 := aM (blk_below BG5.o hb); have HO6 := aM (Kd.R_below HO5.o hb); have HR6 := aM (Kd.R_below HR5.o hb); have HN6 := aM (Kd.R_below HN5.o hb); have HB6 := aM (below_step HB5.o hb); clear hb)
           go_meet
           case rel => exact ⟨by rw [r3], BG6, HO6, HR6, HN6, HB6⟩
         ·have t7 : decide ((nm.length : Int) > 1) = false := decide_eq_false (by omega);have r3 : decide ((rdOf ByteArray.empty fr 0).size ≠ 4 ∨ (s.names.length > 0 ∧ q ≠ wrap64 (s.first + (s.recs.length : Int)))) = false := decide_eq_false (fun h => h.elim (fun h => h c6) (fun h => c7 h.1));clear c6 c7 hnl
          go_wp2
          go_meet
          case rel => exact ⟨by rw [r3], BG5, HO5, HR5, HN5, HB5⟩
        ·have t6 : (((rdOf ByteArray.empty fr 0).size : Int) != 4) = true := bne_iff_ne.mpr (by omega);have r3 : decide ((rdOf ByteArray.empty fr 0).size ≠ 4 ∨ (s.names.length > 0 ∧ q ≠ wrap64 (s.first + (s.recs.length : Int)))) = true := decide_eq_true (Or.inl c6);clear c6 hnl
         go_wp2
         go_meet
         case rel => exact ⟨by rw [r3], BG5, HO5, HR5, HN5, HB5⟩
       case rest => as_aux_lemma =>
        clear BG5 HO5 HR5 HN5 HB5 hx1;obtain ⟨rfl, BG, HO, HR, HN, HB⟩ := hcut
        by_cases c6 : (rdOf ByteArray.empty fr 0).size ≠ 4 ∨ (s.names.length > 0 ∧ q ≠ wrap64 (s.first + (s.recs.length : Int)))
        ·have r3 := decide_eq_true c6;have hs := H4.o;rw [if_pos c6] at hs;simp only [Option.some.injEq, Prod.mk.injEq] at hs;obtain ⟨rfl, rfl⟩ := hs;have hnm := HNM.o;subst hnm;rw [r3];clear c6
         go_wp2
         go_ret
         exact ⟨rfl, ⟨_, _, BG.o, GE.o, HR.o, HN.o⟩, HB.o⟩
        ·have r3 := decide_eq_false c6;have hs := H4.o;rw [if_neg c6] at hs;rw [r3];clear c6 H4
         by_cases c7 : s.recs.length + fr.length < 1000000
         ·rw [if_pos c7] at hs;have HRL := aM c7;clear c7;have hg2 := (kC BG.o 2).trans (show _ = some (Value.slice AN1 nm.length cN1) from rfl)
          have hnl : nm.length = s.names.length + 1 := by rw [HNM.o, List.length_append]; rfl
          by_cases c8 : s.names.length = 0
          ·have t8 : ((nm.length : Int) == 1) = true := beq_iff_eq.mpr (by omega);rw [if_pos c8] at hs;simp only [Option.some.injEq, Prod.mk.injEq] at hs;obtain ⟨hss, rfl⟩ := hs;have HSS := aM hss;clear hss;have hg0 := (kC BG.o 0).trans (show _ = some (Value.int .i64 s.first) from rfl);have hf0 := kF BG.o 0;clear c8 hnl
           go_upto_region 15 with (fail)
           (try simp only [Act.put, s1, s2, s3])
           have BG' : Aside0 ((wc.setCell ⟨g, 0, none⟩ (.int .i64 q)).heap[g]? = some (.cells #[.int .i64 q, .slice AR s.recs.length cR, .slice AN1 nm.length cN1, .int .i64 (wrap64 ((x.f1.size : Int) - used)), .int .i64 n] 86 (0, 0))) := ⟨blk_put BG.o 0 _ rfl⟩;have HO' := aM (Kd.R_mono (Kd.R_far (p := ⟨g, 0, none⟩) (Kd.R_types HO.o BG.o (by decide)) (fun _ hk => hk.2) (.int .i64 q)) (fun _ hk => hk.1));have HR' := aM (Kd.R_mono (Kd.R_far (p := ⟨g, 0, none⟩) (Kd.R_types HR.o BG.o (by decide)) (fun _ hk => hk.2) (.int .i64 q)) (fun _ hk => hk.1));have HN' := aM (Kd.R_mono (Kd.R_far (p := ⟨g, 0, none⟩) (Kd.R_types HN.o BG.o (by decide)) (fun _ hk => hk.2) (.int .i64 q)) (fun _ hk => hk.1));have HB' := aM (HB.o.setCell (p := ⟨g, 0, none⟩) GE.o (.int .i64 q));clear BG HO HR HN HB hg0 hf0 hg2;generalize wc.setCell ⟨g, 0, none⟩ (.int .i64 q) = w7 at BG' HO' HR' HN' HB' ⊢;have BG := BG';have HO := HO';have HR := HR';have HN := HN';have HB := HB';clear BG' HO' HR' HN' HB'
           have q1 : (1 : Int) ≤ (fr.length : Int) := by have := HF0.o; omega
           obtain ⟨i0, hi0, _, hsz, _⟩ := info_parts info9;have hroom : fr.length ≤ cF := (Kd.R_reads' HO.o).2.1;have hC : Kd.C Kd.string _ (some ad) fr.length fr := (Kd.R_reads' HO.o).2.2;have hcutr := cut_from (P := Tryd.prog) 26 9 .i64 Tryd.underlying26 hi0 1 hsz (some ad) fr.length cF 1 (by omega) q1;have hr := Kd.C_drop (m := (1 : Int).toNat) (c := cF) hC (by omega) hroom;obtain ⟨A1, hA1⟩ : ∃ A1, A1 = (if cF = (1 : Int).toNat then (some ad) else ((some ad) : Option Addr).map (·.add ((1 : Int).toNat * 1))) := ⟨_, rfl⟩;obtain ⟨c1, hc1⟩ : ∃ c1, c1 = cF - (1 : Int).toNat := ⟨_, rfl⟩;obtain ⟨y, hyy⟩ : ∃ y : List ByteArray, y = fr.drop 1 := ⟨_, rfl⟩;have hy : y.length = fr.length - (1 : Int).toNat := (by rw [hyy, List.length_drop] <;> omega);rw [show (fr).drop (1 : Int).toNat = y from hyy.symm] at hr;replace hr : Kd.C Kd.string _ A1 y.length y := (by rw [hA1]; exact hr);rw [← hy, ← hA1, ← hc1] at hcutr;have HRY := aM (Kd.C_drew hr);have HYL := aM (show y.length ≤ fr.length from by rw [hy]; omega);have HY := aM hyy;clear hr hC hroom hi0 hsz hc1 hA1 hy hyy;replace q1 := eq_true q1;have BG' := aM (kD BG.o);have HO' := aM (Kd.R_drew HO.o);have HR' := aM (Kd.R_drew HR.o);have HN' := aM (Kd.R_drew HN.o);have HB' := aM (bD HB.o);clear BG HO HR HN HB;refine start_ (n := 13) (S := fun w' => w'.cell? ⟨g, 0, none⟩ = some (.int .i64 q) ∧ w'.cell? ⟨g, 1, none⟩ = some (.slice AR s.recs.length cR)) (ds := [12]) (fT 0 13) (by kernel_rfl) rfl rfl ⟨(kC BG'.o 0).trans rfl, (kC BG'.o 1).trans rfl⟩ (fun hHeld => ?_);generalize w7.drew = w8 at BG' HO' HR' HN' HB' HRY hHeld ⊢;refine pD 0 125 (fT 1 13) ?_;refine pD 1 126 (fT 2 13) ?_;refine pD 6 131 #[T,T,F,F,F,F,T,F,F,F,F,F,F] ?_;refine pD 2 127 #[T,T,T,F,F,F,T,F,F,F,F,F,F] ?_;refine pD 3 128 #[T,T,T,T,F,F,T,F,F,F,F,F,F] ?_;refine pD 4 129 #[T,T,T,T,T,F,T,F,F,F,F,F,F] ?_;refine pD 7 132 #[T,T,T,T,T,F,T,T,F,F,F,F,F] ?_;refine tB 5 (some 130) ?_ (fT 8 13) rfl rfl (by kernel_rfl) (Or.inl ⟨by rfl, ?_⟩) hHeld ?_ ?_ ?_;rotate_left
           ·rintro w' ⟨s0, s1⟩
            go_simp
            with_reducible rfl
           rotate_left;(·simp only [zA];rfl);refine one_ (i := 8) (N := some 133) (fT 9 13) rfl rfl (by kernel_rfl) (by decide) (fun K hK => ?_);refine Kd.R_append_rows_step Kd.string (w0 := w0) w0.heap.size (by rfl) (.tmp 130) (.tmp 132) 26 9 (.string ⟨#[]⟩) 16 rfl Tryd.underlying26 info9 rfl (by decide) (by omega) (.slice AR s.recs.length cR) s.recs y _ _ _ (fun k => True ∧ some k ≠ (Value.slice AN1 nm.length cN1).ownBlock) (fun _ => False) rfl rfl ?aO ?aR (fun _ _ h => h) (fun _ h => h.elim) ?aF ?aB ?aS ?aL ?_
           (case aO => exact HR'.o)
           (case aR => exact HRY.o)
           (case aF => exact (fun k hk => ⟨trivial, Kd.fresh' (Kd.R_lt HN'.o) k hk⟩))
           (case aB => exact HB'.o)
           (case aS => exact HB'.o.size)
           (case aL => have := HRL.o; have := HYL.o; omega)
           intro v2 w9 ho hb hg hat;obtain ⟨rc, hrc⟩ : ∃ z : List ByteArray, z = s.recs ++ y := ⟨_, rfl⟩;rw [← hrc] at ho;have HRC := aM hrc;clear hrc;have BG := aM (blk_grown BG'.o hg (Kd.R_ne HR'.o BG'.o (by decide)));have HN := aM (Kd.R_after (ok := fun _ => True) (Kd.R_mono HN'.o (fun _ hk => ⟨trivial, hk.2⟩)) hg hat);have HR := aM ho;have HB := aM hb;clear BG' HO' HR' HN' HB' ho hb hg hat HRY;obtain ⟨AR1, cR1, eR1⟩ := Kd.R_slice HR.o;subst eR1;refine hK.out _ _ ⟨(kC BG.o 0).trans rfl, (kC BG.o 1).trans rfl⟩ (fun hHeld => ?_);clear hK K;refine norm_ (a' := ?_) ?_ ?_;rotate_left
           ·show Act.put _ (some 133) _ = _
            simp only [zA]
            rfl
           refine pD 9 134 (fT 10 13) ?_;refine pD 10 135 (fT 11 13) ?_;refine pD 11 136 (fT 12 13) ?_;refine last_ (i := 12) (N := none) (fT 13 13) rfl rfl (by kernel_rfl) (by decide) (fun K hK => ?_);have hs12 := cL1 BG.o;have hf12 := kF BG.o 1;refine skip_ (w1 := ?_) (by rfl) rfl ?_ ?_;rotate_left
           ·go_simp
            rfl
           have BG' : Aside0 ((w9.setCell ⟨g, 1, none⟩ (.slice AR1 rc.length cR1)).heap[g]? = some (.cells #[.int .i64 q, .slice AR1 rc.length cR1, .slice AN1 nm.length cN1, .int .i64 (wrap64 ((x.f1.size : Int) - used)), .int .i64 n] 86 (0, 0))) := ⟨blk_put BG.o 1 _ rfl⟩;have HR' := aM (Kd.R_mono (Kd.R_far (p := ⟨g, 1, none⟩) (Kd.R_types HR.o BG.o (by decide)) (fun _ hk => hk.2) (.slice AR1 rc.length cR1)) (fun _ hk => hk.1));have HN' := aM (Kd.R_mono (Kd.R_far (p := ⟨g, 1, none⟩) (Kd.R_types HN.o BG.o (by decide)) (fun _ hk => hk.2) (.slice AR1 rc.length cR1)) (fun _ hk => hk.1));have HB' := aM (HB.o.setCell (p := ⟨g, 1, none⟩) GE.o (.slice AR1 rc.length cR1));refine hK.out _ _ ?_;clear hK K;refine done_ (by kernel_rfl) ?_
           try go_wp2
           go_ret
           have hnm := HNM.o;have hrc := HRC.o;have hyy := HY.o;have hss := HSS.o;subst hnm;subst hyy;subst hrc;subst hss;exact ⟨rfl, ⟨_, _, BG'.o, GE.o, HR'.o, HN'.o⟩, HB'.o⟩
          ·have t8 : ((nm.length : Int) == 1) = false := beq_eq_false_iff_ne.mpr (by omega);rw [if_neg c8] at hs;simp only [Option.some.injEq, Prod.mk.injEq] at hs;obtain ⟨hss, rfl⟩ := hs;have HSS := aM hss;clear hss;clear c8 hnl
           go_upto_region 15 with (fail)
           (try simp only [Act.put, s1, s2, s3])
           clear hg2
           have q1 : (1 : Int) ≤ (fr.length : Int) := by have := HF0.o; omega
           obtain ⟨i0, hi0, _, hsz, _⟩ := info_parts info9;have hroom : fr.length ≤ cF := (Kd.R_reads' HO.o).2.1;have hC : Kd.C Kd.string _ (some ad) fr.length fr := (Kd.R_reads' HO.o).2.2;have hcutr := cut_from (P := Tryd.prog) 26 9 .i64 Tryd.underlying26 hi0 1 hsz (some ad) fr.length cF 1 (by omega) q1;have hr := Kd.C_drop (m := (1 : Int).toNat) (c := cF) hC (by omega) hroom;obtain ⟨A1, hA1⟩ : ∃ A1, A1 = (if cF = (1 : Int).toNat then (some ad) else ((some ad) : Option Addr).map (·.add ((1 : Int).toNat * 1))) := ⟨_, rfl⟩;obtain ⟨c1, hc1⟩ : ∃ c1, c1 = cF - (1 : Int).toNat := ⟨_, rfl⟩;obtain ⟨y, hyy⟩ : ∃ y : List ByteArray, y = fr.drop 1 := ⟨_, rfl⟩;have hy : y.length = fr.length - (1 : Int).toNat := (by rw [hyy, List.length_drop] <;> omega);rw [show (fr).drop (1 : Int).toNat = y from hyy.symm] at hr;replace hr : Kd.C Kd.string _ A1 y.length y := (by rw [hA1]; exact hr);rw [← hy, ← hA1, ← hc1] at hcutr;have HRY := aM (Kd.C_drew hr);have HYL := aM (show y.length ≤ fr.length from by rw [hy]; omega);have HY := aM hyy;clear hr hC hroom hi0 hsz hc1 hA1 hy hyy;replace q1 := eq_true q1;have BG' := aM (kD BG.o);have HO' := aM (Kd.R_drew HO.o);have HR' := aM (Kd.R_drew HR.o);have HN' := aM (Kd.R_drew HN.o);have HB' := aM (bD HB.o);clear BG HO HR HN HB;refine start_ (n := 13) (S := fun w' => w'.cell? ⟨g, 0, none⟩ = some (.int .i64 s.first) ∧ w'.cell? ⟨g, 1, none⟩ = some (.slice AR s.recs.length cR)) (ds := [12]) (fT 0 13) (by kernel_rfl) rfl rfl ⟨(kC BG'.o 0).trans rfl, (kC BG'.o 1).trans rfl⟩ (fun hHeld => ?_);generalize wc.drew = w8 at BG' HO' HR' HN' HB' HRY hHeld ⊢;refine pD 0 125 (fT 1 13) ?_;refine pD 1 126 (fT 2 13) ?_;refine pD 6 131 #[T,T,F,F,F,F,T,F,F,F,F,F,F] ?_;refine pD 2 127 #[T,T,T,F,F,F,T,F,F,F,F,F,F] ?_;refine pD 3 128 #[T,T,T,T,F,F,T,F,F,F,F,F,F] ?_;refine pD 4 129 #[T,T,T,T,T,F,T,F,F,F,F,F,F] ?_;refine pD 7 132 #[T,T,T,T,T,F,T,T,F,F,F,F,F] ?_;refine tB 5 (some 130) ?_ (fT 8 13) rfl rfl (by kernel_rfl) (Or.inl ⟨by rfl, ?_⟩) hHeld ?_ ?_ ?_;rotate_left
           ·rintro w' ⟨s0, s1⟩
            go_simp
            with_reducible rfl
           rotate_left;(·simp only [zA];rfl);refine one_ (i := 8) (N := some 133) (fT 9 13) rfl rfl (by kernel_rfl) (by decide) (fun K hK => ?_);refine Kd.R_append_rows_step Kd.string (w0 := w0) w0.heap.size (by rfl) (.tmp 130) (.tmp 132) 26 9 (.string ⟨#[]⟩) 16 rfl Tryd.underlying26 info9 rfl (by decide) (by omega) (.slice AR s.recs.length cR) s.recs y _ _ _ (fun k => True ∧ some k ≠ (Value.slice AN1 nm.length cN1).ownBlock) (fun _ => False) rfl rfl ?aO ?aR (fun _ _ h => h) (fun _ h => h.elim) ?aF ?aB ?aS ?aL ?_
           (case aO => exact HR'.o)
           (case aR => exact HRY.o)
           (case aF => exact (fun k hk => ⟨trivial, Kd.fresh' (Kd.R_lt HN'.o) k hk⟩))
           (case aB => exact HB'.o)
           (case aS => exact HB'.o.size)
           (case aL => have := HRL.o; have := HYL.o; omega)
           intro v2 w9 ho hb hg hat;obtain ⟨rc, hrc⟩ : ∃ z : List ByteArray, z = s.recs ++ y := ⟨_, rfl⟩;rw [← hrc] at ho;have HRC := aM hrc;clear hrc;have BG := aM (blk_grown BG'.o hg (Kd.R_ne HR'.o BG'.o (by decide)));have HN := aM (Kd.R_after (ok := fun _ => True) (Kd.R_mono HN'.o (fun _ hk => ⟨trivial, hk.2⟩)) hg hat);have HR := aM ho;have HB := aM hb;clear BG' HO' HR' HN' HB' ho hb hg hat HRY;obtain ⟨AR1, cR1, eR1⟩ := Kd.R_slice HR.o;subst eR1;refine hK.out _ _ ⟨(kC BG.o 0).trans rfl, (kC BG.o 1).trans rfl⟩ (fun hHeld => ?_);clear hK K;refine norm_ (a' := ?_) ?_ ?_;rotate_left
           ·show Act.put _ (some 133) _ = _
            simp only [zA]
            rfl
           refine pD 9 134 (fT 10 13) ?_;refine pD 10 135 (fT 11 13) ?_;refine pD 11 136 (fT 12 13) ?_;refine last_ (i := 12) (N := none) (fT 13 13) rfl rfl (by kernel_rfl) (by decide) (fun K hK => ?_);have hs12 := cL1 BG.o;have hf12 := kF BG.o 1;refine skip_ (w1 := ?_) (by rfl) rfl ?_ ?_;rotate_left
           ·go_simp
            rfl
           have BG' : Aside0 ((w9.setCell ⟨g, 1, none⟩ (.slice AR1 rc.length cR1)).heap[g]? = some (.cells #[.int .i64 s.first, .slice AR1 rc.length cR1, .slice AN1 nm.length cN1, .int .i64 (wrap64 ((x.f1.size : Int) - used)), .int .i64 n] 86 (0, 0))) := ⟨blk_put BG.o 1 _ rfl⟩;have HR' := aM (Kd.R_mono (Kd.R_far (p := ⟨g, 1, none⟩) (Kd.R_types HR.o BG.o (by decide)) (fun _ hk => hk.2) (.slice AR1 rc.length cR1)) (fun _ hk => hk.1));have HN' := aM (Kd.R_mono (Kd.R_far (p := ⟨g, 1, none⟩) (Kd.R_types HN.o BG.o (by decide)) (fun _ hk => hk.2) (.slice AR1 rc.length cR1)) (fun _ hk => hk.1));have HB' := aM (HB.o.setCell (p := ⟨g, 1, none⟩) GE.o (.slice AR1 rc.length cR1));refine hK.out _ _ ?_;clear hK K;refine done_ (by kernel_rfl) ?_
           try go_wp2
           go_ret
           have hnm := HNM.o;have hrc := HRC.o;have hyy := HY.o;have hss := HSS.o;subst hnm;subst hyy;subst hrc;subst hss;exact ⟨rfl, ⟨_, _, BG'.o, GE.o, HR'.o, HN'.o⟩, HB'.o⟩
         ·rw [if_neg c7] at hs
          cases hs
     ·rw [if_neg c3] at hs
      cases hs
def impl_walRead.segs (l : List S69) : Nat → Nat → List S69 → Option (List S69)
 | 0, _, acc => some acc
 | d + 1, i, acc => (impl_segmentOf.f (rd_T69 l (i : Int)).f0).bind fun n => impl_walRead.segs l d (i + 1) (if n > 0 then acc ++ [rd_T69 l (i : Int)] else acc)
theorem impl_walRead.segs_length (l : List S69) (d : Nat) : ∀ (i : Nat) (acc r : List S69), impl_walRead.segs l d i acc = some r → r.length ≤ acc.length + d := by
 induction d with
 | zero =>
  intro i acc r h;obtain rfl := Option.some.inj (show some acc = some r from h);exact Nat.le_refl _
 | succ d ih =>
  intro i acc r h;simp only [impl_walRead.segs] at h;replace h := Option.bind_eq_some_iff.mp h;obtain ⟨n, _, h⟩ := h;have := ih _ _ _ h
  split at this
  ·rw [List.length_append] at this;simp only [List.length_cons, List.length_nil] at this
   omega
  ·omega
def impl_walRead.run (k : Nat) (sl : List S69) : Nat → Nat → impl_walRead.St → Option (impl_walRead.St × Int)
 | 0, _, s => some (s, 0)
 | d + 1, i, s => (impl_walRead.seg k s (rd_T69 sl (i : Int)) (((i : Int) == wrap64 ((sl.length : Int) - 1)))).bind fun r => if r.2 = 0 then impl_walRead.run k sl d (i + 1) r.1 else some (s, r.2)
def impl_walRead.f (k : Nat) (a0_0 : Int) (l0_1 : List S69) : Option (Int × List ByteArray × List ByteArray × Int × Int) :=
 if l0_1.length ≤ 1000000 then (impl_walRead.segs l0_1 l0_1.length 0 []).bind fun sl => (impl_walRead.run k sl sl.length 0 ⟨0, [], [], 0, 0⟩).bind fun r => if r.2 = 0 then some (r.1.first, r.1.recs, r.1.names, r.1.torn, 0) else some (0, [], [], 0, r.2) else none
theorem impl_walRead.seg_mono (s : impl_walRead.St) (x : S69) (b : Bool) (k : Nat) : LeO (impl_walRead.seg k s x b) (impl_walRead.seg (k + 1) s x b) := by
 unfold impl_walRead.seg
 exact LeO.bind (impl_readFrames.mono _ _) (fun _ => LeO.bind (LeO.refl _) (fun _ => LeO.ite (LeO.refl _) (LeO.ite (LeO.refl _) (LeO.ite (LeO.ite (LeO.refl _) (LeO.bind (impl_numberOf.mono _ _) (fun _ => LeO.refl _))) (LeO.refl _)))))
theorem impl_walRead.run_mono (sl : List S69) (k : Nat) (d : Nat) : ∀ (i : Nat) (s : impl_walRead.St), LeO (impl_walRead.run k sl d i s) (impl_walRead.run (k + 1) sl d i s) := by
 induction d with
 | zero => intro i s; exact LeO.refl _
 | succ d ih =>
  intro i s;simp only [impl_walRead.run];exact LeO.bind (impl_walRead.seg_mono _ _ _ k) (fun r => LeO.ite (ih _ _) (LeO.refl _))
theorem impl_walRead.mono : ∀ a0 a1 k, LeO (impl_walRead.f k a0 a1) (impl_walRead.f (k + 1) a0 a1) := by
 intro a0 a1 k
 unfold impl_walRead.f
 exact LeO.ite (LeO.bind (LeO.refl _) (fun sl => LeO.bind (impl_walRead.run_mono sl k _ _ _) (fun _ => LeO.refl _))) (LeO.refl _)
theorem impl_walRead.PS.step {w0 w w' : World} {g : Nat} {s : impl_walRead.St} (h : impl_walRead.PS w0 w g s) (hb : Below w.heap.size w w') : impl_walRead.PS w0 w' g s := by
 obtain ⟨⟨vR, vN, h1, h2, h3, h4⟩, h5⟩ := h;exact ⟨⟨vR, vN, blk_below h1 hb, h2, Kd.R_below h3 hb, Kd.R_below h4 hb⟩, below_step h5 hb⟩
theorem impl_walRead.io (n : Int) : intOf (Value.int .i64 n) = n := rfl
theorem impl_walRead.less {l i : Nat} (h : i < l) (hl : l ≤ 1000000) : ((l : Int) - wrap64 ((i : Int) + 1)).toNat < ((l : Int) - (i : Int)).toNat := by
 rw [Go.Proofs.YtpdhfoegbannkaaDoor.U.wrap_in (by omega) (by omega)]
 omega
set_option maxHeartbeats 8000000 in
set_option maxRecDepth 100000 in
theorem impl_walRead.calls (k : Nat) (a0_0 : Int) (A0_1 : Option Addr) (c0_1 : Nat) (l0_1 : List S69) (r1 : Int) (r2 : List ByteArray) (r3 : List ByteArray) (r4 : Int) (r5 : Int) (w : World) (hr0_1 : Kd.C k69 w A0_1 l0_1.length l0_1) (hc0_1 : l0_1.length ≤ c0_1) (h : impl_walRead.f k a0_0 l0_1 = some (r1, r2, r3, r4, r5)) :
  Calls Tryd.prog 28 #[.agg #[.int .i64 a0_0, .slice A0_1 l0_1.length c0_1]] w fun e w' => ∃ v1_ v2_ : Value, e = .returned (.tuple #[.agg #[.int .i64 r1, v1_, v2_, .int .i64 r4], .int .i64 r5]) ∧ Kd.R Kd.string 9 w' w.heap.size (fun k_ => some k_ ≠ (v2_ : Value).ownBlock) v1_ r2 ∧ Kd.R Kd.string 9 w' w.heap.size (fun k_ => some k_ ≠ (v1_ : Value).ownBlock) v2_ r3 ∧ Below w.heap.size w w' := by
 have hu33 := Tryd.underlying33;have hu69 := Tryd.underlying69;have hu86 := Tryd.underlying86;have hu28 := Tryd.underlying28
 unfold impl_walRead.f at h
 split at h
 ·rename_i hs
  replace h := Option.bind_eq_some_iff.mp h;obtain ⟨sl, hsl, h⟩ := h;replace h := Option.bind_eq_some_iff.mp h;obtain ⟨⟨st, code⟩, hrun, h⟩ := h
  have HSLL := aM (show sl.length ≤ 1000000 from by
   have := impl_walRead.segs_length l0_1 l0_1.length 0 [] sl hsl;simp only [List.length_nil] at this
   omega)
  have HSL := aM hsl;have HRUN := aM hrun;have HFIN := aM h;have HS := aM hs;have HA0 := aM hr0_1;clear hsl hrun h hs hr0_1 hc0_1
  go_enter Tryd.func28, Tryd.ntmps28
  go_wp2_with (first
   | ((with_reducible refine gate_dst (N := 1) rfl ?_); refine box_event ?hg (N := 1) ?hd (cs := #[.int .i64 a0_0, .slice A0_1 l0_1.length c0_1]) (t := 33) ?hr ?_; (case hd => rfl); (case hg => rfl); (case hr => first | (go_simp; done) | (go_simp; rfl)); intro g1 hg1 w1 hbox1 hb1; have HX1 := aM hbox1; have HB1 := aM hb1; clear hbox1 hb1 hg1)
   | ((with_reducible refine gate_dst (N := 2) rfl ?_); refine box_event ?hg (N := 2) ?hd (cs := #[.int .i64 0, .slice none 0 0, .slice none 0 0, .int .i64 0]) (t := 28) ?hr ?_; (case hd => rfl); (case hg => rfl); (case hr => first | (go_simp; done) | (go_simp; rfl)); intro g2 hg2 w2 hbox2 hb2; have HG2 : Aside0 (w.heap.size ≤ g2) := ⟨by rw [hg2]; exact HB1.o.size⟩; have HX2 := aM hbox2; have HX1' := aM (blk_below HX1.o hb2); have HB2 := aM (HB1.o.trans (hb2.mono HB1.o.size)); clear hbox2 hb2 hg2 HB1 HX1)
   | ((with_reducible refine gate_dst (N := 11) rfl ?_); refine Kd.R_lit k69 _ 69 ?hg (N := 11) ?hd (xs := ([] : List S69)) (inner := []) (ok := fun _ => True) (okp := fun _ => True) ?hr ?hp (fun _ hk => hk) trivial (Below.refl _ _) (Nat.le_refl _) (by simp) ?_; (case hd => rfl); (case hg => rfl); (case hr => first | (go_simp; done) | (go_simp; rfl)); (case hp => exact (Reps.none _ _)); intro v4 w3 ho hb hg_ hnew_; clear hg_ hnew_; have HSG := aM (Kd.R_lower ho HB2.o.size); have hc11 := (kC (blk_below HX1'.o hb) 1).trans (show _ = some (Value.slice A0_1 l0_1.length c0_1) from rfl); have HX2' := aM (blk_below HX2.o hb); have HB3 := aM (HB2.o.trans (hb.mono HB2.o.size)); clear ho hb HX2 HX1' HB2))
  clear hc11
  go_loopw [4, 15] (fun v4 v15 wr => ∃ (i : Nat) (acc : List S69), i ≤ l0_1.length ∧ v15 = .int .i64 (i : Int) ∧ acc.length ≤ i ∧ Aside0 (impl_walRead.segs l0_1 (l0_1.length - i) i acc = some sl) ∧ Aside0 (wr.heap[g2]? = some (.cells #[.int .i64 0, .slice none 0 0, .slice none 0 0, .int .i64 0] 28 (0, 0))) ∧ Aside0 (Kd.R k69 69 wr w.heap.size (fun _ => True) v4 acc) ∧ Aside0 (Below w.heap.size w wr))
   (fun _ v15 _ => (l0_1.length - intOf v15).toNat)
  case atStart => exact ⟨0, [], by omega, rfl, Nat.le_refl _, HSL, HX2', HSG, HB3⟩
  case round =>
   clear HX2' HSG HB3;obtain ⟨i, acc, hi, rfl, hacc, HA, HX2, HSG, HB⟩ := hrel;obtain ⟨AS, cS, eS⟩ := Kd.R_slice HSG.o;subst eS
   by_cases hlt : i < l0_1.length
   ·have HA2 : Aside0 (((impl_segmentOf.f (rd_T69 l0_1 (i : Int)).f0).bind fun n => impl_walRead.segs l0_1 (l0_1.length - (i + 1)) (i + 1) (if n > 0 then acc ++ [rd_T69 l0_1 (i : Int)] else acc)) = some sl) := ⟨by
     have h := HA.o;obtain ⟨d, hd⟩ : ∃ d, l0_1.length - i = d + 1 := ⟨l0_1.length - i - 1, by omega⟩;rw [hd] at h;rw [show l0_1.length - (i + 1) = d by omega]
     exact h⟩
    obtain ⟨n, hn, hr⟩ := Option.bind_eq_some_iff.mp HA2.o;have HN1 := aM hn;have HR1 := aM hr;clear HA HA2 hn hr;obtain ⟨ad, e0, hx0, hx1, hx2⟩ := at_T69 HA0.o (i : Int) (by omega) (by omega);subst e0;replace hx0 := (HB.o.cell (lC w _ hx0)).trans hx0;replace hx1 := (HB.o.cell (lC w _ hx1)).trans hx1;replace hx2 := (HB.o.cell (lC w _ hx2)).trans hx2;rw [Int.toNat_natCast] at hx0 hx1 hx2
    have hi0 : (0 : Int) ≤ (i : Int) := by omega
    have hi1 : (i : Int) < (l0_1.length : Int) := by omega
    have HLT := aM hlt;have HAC := aM hacc
    have HW : Aside0 (Value.int .i64 (wrap64 ((i : Int) + 1)) = .int .i64 ((i + 1 : Nat) : Int)) := ⟨by
     have hs := HS.o;rw [Go.Proofs.YtpdhfoegbannkaaDoor.U.wrap_in (by omega) (by omega)]
     congr 1⟩
    clear hlt hi hacc
    by_cases hn0 : n > 0
    ·have tn : decide (n > 0) = true := decide_eq_true hn0;have tn2 : decide (0 < n) = true := decide_eq_true hn0;have HR2 : Aside0 (impl_walRead.segs l0_1 (l0_1.length - (i + 1)) (i + 1) (acc ++ [rd_T69 l0_1 (i : Int)]) = some sl) := ⟨by have h := HR1.o; rw [if_pos hn0] at h; exact h⟩;clear hn0 HR1
     go_wp2_with (first
      | ((with_reducible refine gate_dst (N := 6) rfl ?_); refine box_event ?hg (N := 6) ?hd (cs := #[.string ⟨#[]⟩, .string ⟨#[]⟩, .int .i64 0]) (t := 69) ?hr ?_; (case hd => rfl); (case hg => rfl); (case hr => first | (go_simp; done) | (go_simp; rfl)); intro g6 hg6 w6 hbox6 hb6; have HG6 : Aside0 (w.heap.size ≤ g6) := ⟨by rw [hg6]; exact HB.o.size⟩; have HN2 : Aside0 (g2 ≠ g6) := ⟨by have := blk_lt HX2.o; omega⟩; have HX6 := aM hbox6; have HX2' := aM (blk_below HX2.o hb6); have HO' := aM (Kd.R_below (Kd.R_elderB HSG.o g6 (by omega)) hb6); have HB' := aM (HB.o.trans (hb6.mono HB.o.size)); have hc6_0 := (kC hbox6 0).trans (show _ = some (Value.string ⟨#[]⟩) from rfl); have hc6_1 := (kC hbox6 1).trans (show _ = some (Value.string ⟨#[]⟩) from rfl); have hc6_2 := (kC hbox6 2).trans (show _ = some (Value.int .i64 0) from rfl); have hf6_0 := kF hbox6 0; have hf6_1 := kF hbox6 1; have hf6_2 := kF hbox6 2; clear hbox6 hb6 hg6 HX2 HSG HB hx0 hx1 hx2)
      | (go_at_call 59; refine (impl_segmentOf.calls _ n _ HN1.o).mono ?_; rintro e w7 ⟨rfl, hb7⟩; have HX6' : Aside0 (w7.heap[g6]? = some (.cells #[.string (rd_T69 l0_1 (i : Int)).f0, .string (rd_T69 l0_1 (i : Int)).f1, .int .i64 (rd_T69 l0_1 (i : Int)).f2] 69 (0, 0))) := ⟨blk_below (by (refine blk_put (cs := #[.string (rd_T69 l0_1 (i : Int)).f0, .string (rd_T69 l0_1 (i : Int)).f1, .int .i64 0]) ?_ 2 _ rfl; refine blk_put (cs := #[.string (rd_T69 l0_1 (i : Int)).f0, .string ⟨#[]⟩, .int .i64 0]) ?_ 1 _ rfl; refine blk_put (cs := #[.string ⟨#[]⟩, .string ⟨#[]⟩, .int .i64 0]) ?_ 0 _ rfl; exact HX6.o)) hb7⟩; have HX2'' := aM (blk_below (blk_far (blk_far (blk_far HX2'.o HN2.o _) HN2.o _) HN2.o _) hb7); have HO'' := aM (Kd.R_mono (Kd.R_below (Kd.R_far (p := ⟨g6, 2, none⟩) (Kd.R_far (p := ⟨g6, 1, none⟩) (Kd.R_far (p := ⟨g6, 0, none⟩) HO'.o (fun _ hk => hk.2) _) (fun _ hk => hk.2) _) (fun _ hk => hk.2) _) hb7) (fun _ _ => trivial)); have HB'' := aM (below_step (((HB'.o.setCell (p := ⟨g6, 0, none⟩) HG6.o _).setCell (p := ⟨g6, 1, none⟩) HG6.o _).setCell (p := ⟨g6, 2, none⟩) HG6.o _) hb7); clear hb7 hc6_0 hc6_1 hc6_2 hf6_0 hf6_1 hf6_2 HX2' HO' HB' HX6; have hd6_0 := (kC HX6'.o 0).trans (show _ = some (Value.string (rd_T69 l0_1 (i : Int)).f0) from rfl); have hd6_1 := (kC HX6'.o 1).trans (show _ = some (Value.string (rd_T69 l0_1 (i : Int)).f1) from rfl); have hd6_2 := (kC HX6'.o 2).trans (show _ = some (Value.int .i64 (rd_T69 l0_1 (i : Int)).f2) from rfl))
      | (at_builtin; refine Kd.R_append k69 (w0 := w) w.heap.size rfl (.tmp 23) (.tmp 25) 31 69 (.agg #[(.string ⟨#[]⟩), (.string ⟨#[]⟩), (.int .i64 0)]) 40 rfl Tryd.underlying31 info69 rfl (by decide) (by omega) (.slice AS acc.length cS) acc (rd_T69 l0_1 (i : Int)) [.string (rd_T69 l0_1 (i : Int)).f0, .string (rd_T69 l0_1 (i : Int)).f1, .int .i64 (rd_T69 l0_1 (i : Int)).f2] (fun _ => True) (fun _ => False) rfl rfl ?aP (fun _ hk => hk.elim) ?aF ?aO ?aB ?aS ?aL ?_; (case aP => exact k69_mkM _ _ _ (rd_T69 l0_1 (i : Int))); (case aB => exact HB''.o); (case aF => exact (fun _ _ => trivial)); (case aO => exact HO''.o); (case aS => exact HB''.o.size); (case aL => have := HAC.o; have := HLT.o; have := HS.o; omega); intro v8 w8 ho hb hg hat; have HO8 := aM ho; have HX8 := aM (blk_grown HX2''.o hg (Kd.R_ne HO''.o HX2''.o (by decide))); have HB8 := aM hb; clear ho hb hg hat))
     go_roundw
     case rel => exact ⟨i + 1, acc ++ [rd_T69 l0_1 (i : Int)], HLT.o, HW.o, by (have := HAC.o; rw [List.length_append]; exact Nat.succ_le_succ this), HR2, HX8, HO8, HB8⟩
     case measure => rw [impl_walRead.io, impl_walRead.io]; exact impl_walRead.less HLT.o HS.o
    ·have tn : decide (n > 0) = false := decide_eq_false hn0;have tn2 : decide (0 < n) = false := decide_eq_false hn0;have HR2 : Aside0 (impl_walRead.segs l0_1 (l0_1.length - (i + 1)) (i + 1) acc = some sl) := ⟨by have h := HR1.o; rw [if_neg hn0] at h; exact h⟩;clear hn0 HR1
     go_wp2_with (first
      | ((with_reducible refine gate_dst (N := 6) rfl ?_); refine box_event ?hg (N := 6) ?hd (cs := #[.string ⟨#[]⟩, .string ⟨#[]⟩, .int .i64 0]) (t := 69) ?hr ?_; (case hd => rfl); (case hg => rfl); (case hr => first | (go_simp; done) | (go_simp; rfl)); intro g6 hg6 w6 hbox6 hb6; have HG6 : Aside0 (w.heap.size ≤ g6) := ⟨by rw [hg6]; exact HB.o.size⟩; have HN2 : Aside0 (g2 ≠ g6) := ⟨by have := blk_lt HX2.o; omega⟩; have HX6 := aM hbox6; have HX2' := aM (blk_below HX2.o hb6); have HO' := aM (Kd.R_below (Kd.R_elderB HSG.o g6 (by omega)) hb6); have HB' := aM (HB.o.trans (hb6.mono HB.o.size)); have hc6_0 := (kC hbox6 0).trans (show _ = some (Value.string ⟨#[]⟩) from rfl); have hc6_1 := (kC hbox6 1).trans (show _ = some (Value.string ⟨#[]⟩) from rfl); have hc6_2 := (kC hbox6 2).trans (show _ = some (Value.int .i64 0) from rfl); have hf6_0 := kF hbox6 0; have hf6_1 := kF hbox6 1; have hf6_2 := kF hbox6 2; clear hbox6 hb6 hg6 HX2 HSG HB hx0 hx1 hx2)
      | (go_at_call 59; refine (impl_segmentOf.calls _ n _ HN1.o).mono ?_; rintro e w7 ⟨rfl, hb7⟩; have HX6' : Aside0 (w7.heap[g6]? = some (.cells #[.string (rd_T69 l0_1 (i : Int)).f0, .string (rd_T69 l0_1 (i : Int)).f1, .int .i64 (rd_T69 l0_1 (i : Int)).f2] 69 (0, 0))) := ⟨blk_below (by (refine blk_put (cs := #[.string (rd_T69 l0_1 (i : Int)).f0, .string (rd_T69 l0_1 (i : Int)).f1, .int .i64 0]) ?_ 2 _ rfl; refine blk_put (cs := #[.string (rd_T69 l0_1 (i : Int)).f0, .string ⟨#[]⟩, .int .i64 0]) ?_ 1 _ rfl; refine blk_put (cs := #[.string ⟨#[]⟩, .string ⟨#[]⟩, .int .i64 0]) ?_ 0 _ rfl; exact HX6.o)) hb7⟩; have HX2'' := aM (blk_below (blk_far (blk_far (blk_far HX2'.o HN2.o _) HN2.o _) HN2.o _) hb7); have HO'' := aM (Kd.R_mono (Kd.R_below (Kd.R_far (p := ⟨g6, 2, none⟩) (Kd.R_far (p := ⟨g6, 1, none⟩) (Kd.R_far (p := ⟨g6, 0, none⟩) HO'.o (fun _ hk => hk.2) _) (fun _ hk => hk.2) _) (fun _ hk => hk.2) _) hb7) (fun _ _ => trivial)); have HB'' := aM (below_step (((HB'.o.setCell (p := ⟨g6, 0, none⟩) HG6.o _).setCell (p := ⟨g6, 1, none⟩) HG6.o _).setCell (p := ⟨g6, 2, none⟩) HG6.o _) hb7); clear hb7 hc6_0 hc6_1 hc6_2 hf6_0 hf6_1 hf6_2 HX2' HO' HB' HX6; have hd6_0 := (kC HX6'.o 0).trans (show _ = some (Value.string (rd_T69 l0_1 (i : Int)).f0) from rfl); have hd6_1 := (kC HX6'.o 1).trans (show _ = some (Value.string (rd_T69 l0_1 (i : Int)).f1) from rfl); have hd6_2 := (kC HX6'.o 2).trans (show _ = some (Value.int .i64 (rd_T69 l0_1 (i : Int)).f2) from rfl)))
     go_roundw
     case rel => exact ⟨i + 1, acc, HLT.o, HW.o, by (have := HAC.o; omega), HR2, HX2'', HO'', HB''⟩
     case measure => rw [impl_walRead.io, impl_walRead.io]; exact impl_walRead.less HLT.o HS.o
   ·have hil : i = l0_1.length := by omega
    subst hil
    have hpq : acc = sl := by
     have h := HA.o;rw [Nat.sub_self] at h;exact Option.some.inj h
    subst hpq;clear HA hi hlt hacc;obtain ⟨wr0, hw0⟩ : ∃ x, x = wr := ⟨wr, rfl⟩;subst hw0;have tl : decide ((l0_1.length : Int) < (l0_1.length : Int)) = false := decide_eq_false (by omega)
    go_wp2_with (first
     | ((with_reducible refine gate_dst (N := 29) rfl ?_); refine box_event ?hg (N := 29) ?hd (cs := #[.int .i64 0, .slice none 0 0, .slice none 0 0, .int .i64 0, .int .i64 0]) (t := 86) ?hr ?_; (case hd => rfl); (case hg => rfl); (case hr => first | (go_simp; done) | (go_simp; rfl)); intro g7 hg7 w10 hbox7 hb7; have HPS : Aside0 (impl_walRead.PS wr0 w10 g7 ⟨0, [], [], 0, 0⟩) := ⟨⟨⟨.slice none 0 0, .slice none 0 0, hbox7, Nat.le_of_eq hg7.symm, Kd.R_nil _ _ _ _ _, Kd.R_nil _ _ _ _ _⟩, hb7⟩⟩; clear hbox7 hb7 hg7))
    clear HSL tl;have HSS := aM (Kd.R_reads' HSG.o).2.2
    go_loopw [32] (fun v32 wv => ∃ (i : Nat) (s : impl_walRead.St), i ≤ acc.length ∧ v32 = .int .i64 (i : Int) ∧ Aside0 (impl_walRead.run k acc (acc.length - i) i s = some (st, code)) ∧ Aside0 (impl_walRead.PS wr0 wv g7 s))
     (fun v32 _ => (acc.length - intOf v32).toNat)
    case atStart => exact ⟨0, ⟨0, [], [], 0, 0⟩, by omega, rfl, HRUN, HPS⟩
    case round =>
     clear HPS HRUN;obtain ⟨i, s, hi, rfl, HR, HP⟩ := hrel
     by_cases hlt : i < acc.length
     ·have HR2 : Aside0 (((impl_walRead.seg k s (rd_T69 acc (i : Int)) (((i : Int) == wrap64 ((acc.length : Int) - 1)))).bind fun r => if r.2 = 0 then impl_walRead.run k acc (acc.length - (i + 1)) (i + 1) r.1 else some (s, r.2)) = some (st, code)) := ⟨by
       have h := HR.o;obtain ⟨d, hd⟩ : ∃ d, acc.length - i = d + 1 := ⟨acc.length - i - 1, by omega⟩;rw [hd] at h;rw [show acc.length - (i + 1) = d by omega]
       exact h⟩
      obtain ⟨⟨s1, c1⟩, h1, h2⟩ := Option.bind_eq_some_iff.mp HR2.o;have HSEG := aM h1;have HNX := aM h2;clear HR HR2 h1 h2;obtain ⟨ad, e0, hx0, hx1, hx2⟩ := at_T69 HSS.o (i : Int) (by omega) (by omega);subst e0;replace hx0 := (HP.o.low.cell (lC wr0 _ hx0)).trans hx0;replace hx1 := (HP.o.low.cell (lC wr0 _ hx1)).trans hx1;replace hx2 := (HP.o.low.cell (lC wr0 _ hx2)).trans hx2;rw [Int.toNat_natCast] at hx0 hx1 hx2
      have hi0 : (0 : Int) ≤ (i : Int) := by omega
      have hi1 : (i : Int) < (acc.length : Int) := by omega
      have HLT := aM hlt
      have HW : Aside0 (Value.int .i64 (wrap64 ((i : Int) + 1)) = .int .i64 ((i + 1 : Nat) : Int)) := ⟨by
       have hs := HSLL.o;rw [Go.Proofs.YtpdhfoegbannkaaDoor.U.wrap_in (by omega) (by omega)]
       congr 1⟩
      clear hlt hi
      by_cases hc0 : c1 = 0
      ·have tc : (c1 != 0) = false := bne_eq_false_iff_eq.mpr hc0;have HNX2 : Aside0 (impl_walRead.run k acc (acc.length - (i + 1)) (i + 1) s1 = some (st, code)) := ⟨by have h := HNX.o; rw [if_pos hc0] at h; exact h⟩;clear hc0 HNX
       go_wp2_with (first
        | ((with_reducible refine gate_dst (N := 9) rfl ?_); refine box_event ?hg (N := 9) ?hd (cs := #[.string ⟨#[]⟩, .string ⟨#[]⟩, .int .i64 0]) (t := 69) ?hr ?_; (case hd => rfl); (case hg => rfl); (case hr => first | (go_simp; done) | (go_simp; rfl)); intro g9 hg9 w9 hbox9 hb9; have HG9 : Aside0 (wr.heap.size ≤ g9) := ⟨by omega⟩; have HX9 := aM hbox9; have HB9 := aM hb9; have hc9_0 := (kC hbox9 0).trans (show _ = some (Value.string ⟨#[]⟩) from rfl); have hc9_1 := (kC hbox9 1).trans (show _ = some (Value.string ⟨#[]⟩) from rfl); have hc9_2 := (kC hbox9 2).trans (show _ = some (Value.int .i64 0) from rfl); have hf9_0 := kF hbox9 0; have hf9_1 := kF hbox9 1; have hf9_2 := kF hbox9 2; clear hbox9 hb9 hg9 hx0 hx1 hx2)
        | (go_at_call 60; refine (impl_walRead.segment k wr0 _ g7 s s1 (rd_T69 acc (i : Int)) _ c1 (impl_walRead.PS.step HP.o ((((HB9.o.setCell (p := ⟨g9, 0, none⟩) HG9.o _).setCell (p := ⟨g9, 1, none⟩) HG9.o _).setCell (p := ⟨g9, 2, none⟩) HG9.o _))) HSEG.o).mono ?_; rintro e w10 ⟨rfl, hps⟩; have HP2 := aM hps; clear hps hc9_0 hc9_1 hc9_2 hf9_0 hf9_1 hf9_2))
       go_roundw
       case rel => exact ⟨i + 1, s1, HLT.o, HW.o, HNX2, HP2⟩
       case measure => rw [impl_walRead.io, impl_walRead.io]; exact impl_walRead.less HLT.o HSLL.o
      ·have tc : (c1 != 0) = true := bne_iff_ne.mpr hc0;have hfin := HNX.o;rw [if_neg hc0] at hfin;simp only [Option.some.injEq, Prod.mk.injEq] at hfin;obtain ⟨hst, hcd⟩ := hfin;have hfin := HFIN.o;rw [← hcd, if_neg hc0] at hfin;simp only [Option.some.injEq, Prod.mk.injEq] at hfin;obtain ⟨q1, q2, q3, q4, q5⟩ := hfin;have HQ := aM (And.intro q1 (And.intro q2 (And.intro q3 (And.intro q4 q5))));clear hc0 HNX hst hcd q1 q2 q3 q4 q5
       go_wp2_with (first
        | ((with_reducible refine gate_dst (N := 9) rfl ?_); refine box_event ?hg (N := 9) ?hd (cs := #[.string ⟨#[]⟩, .string ⟨#[]⟩, .int .i64 0]) (t := 69) ?hr ?_; (case hd => rfl); (case hg => rfl); (case hr => first | (go_simp; done) | (go_simp; rfl)); intro g9 hg9 w9 hbox9 hb9; have HG9 : Aside0 (wr.heap.size ≤ g9) := ⟨by omega⟩; have HX9 := aM hbox9; have HB9 := aM hb9; have hc9_0 := (kC hbox9 0).trans (show _ = some (Value.string ⟨#[]⟩) from rfl); have hc9_1 := (kC hbox9 1).trans (show _ = some (Value.string ⟨#[]⟩) from rfl); have hc9_2 := (kC hbox9 2).trans (show _ = some (Value.int .i64 0) from rfl); have hf9_0 := kF hbox9 0; have hf9_1 := kF hbox9 1; have hf9_2 := kF hbox9 2; clear hbox9 hb9 hg9 hx0 hx1 hx2)
        | (go_at_call 60; refine (impl_walRead.segment k wr0 _ g7 s s1 (rd_T69 acc (i : Int)) _ c1 (impl_walRead.PS.step HP.o ((((HB9.o.setCell (p := ⟨g9, 0, none⟩) HG9.o _).setCell (p := ⟨g9, 1, none⟩) HG9.o _).setCell (p := ⟨g9, 2, none⟩) HG9.o _))) HSEG.o).mono ?_; rintro e w10 ⟨rfl, hps⟩; have HX2' := aM (blk_below HX2.o hps.low); have HB' := aM (HB.o.trans (hps.low.mono HB.o.size)); clear hps hc9_0 hc9_1 hc9_2 hf9_0 hf9_1 hf9_2; have hcz_0 := (kC HX2'.o 0).trans (show _ = some (Value.int .i64 0) from rfl); have hcz_1 := (kC HX2'.o 1).trans (show _ = some (Value.slice none 0 0) from rfl); have hcz_2 := (kC HX2'.o 2).trans (show _ = some (Value.slice none 0 0) from rfl); have hcz_3 := (kC HX2'.o 3).trans (show _ = some (Value.int .i64 0) from rfl); have hfz_0 := kF HX2'.o 0; have hfz_1 := kF HX2'.o 1; have hfz_2 := kF HX2'.o 2; have hfz_3 := kF HX2'.o 3))
       obtain ⟨q1, q2, q3, q4, q5⟩ := HQ.o;subst q1 q2 q3 q4 q5;refine bodyPost_ret (results_ct rfl _ _ g2 28 #[.int .i64 0, .slice none 0 0, .slice none 0 0, .int .i64 0] (0, 0) _ rfl (by refine blk_put (cs := #[.int .i64 0, .slice none 0 0, .slice none 0 0, .int .i64 0]) ?_ 3 _ rfl; refine blk_put (cs := #[.int .i64 0, .slice none 0 0, .slice none 0 0, .int .i64 0]) ?_ 2 _ rfl; refine blk_put (cs := #[.int .i64 0, .slice none 0 0, .slice none 0 0, .int .i64 0]) ?_ 1 _ rfl; refine blk_put (cs := #[.int .i64 0, .slice none 0 0, .slice none 0 0, .int .i64 0]) ?_ 0 _ rfl; exact HX2'.o) Tryd.underlying28 rfl (by kernel_rfl)) rfl ?_;exact ⟨_, _, rfl, Kd.R_nil _ _ _ _ _, Kd.R_nil _ _ _ _ _, (((HB'.o.setCell (p := ⟨g2, 0, none⟩) HG2.o _).setCell (p := ⟨g2, 1, none⟩) HG2.o _).setCell (p := ⟨g2, 2, none⟩) HG2.o _).setCell (p := ⟨g2, 3, none⟩) HG2.o _⟩
     ·have hil : i = acc.length := by omega
      subst hil
      have hst : some (s, (0 : Int)) = some (st, code) := by
       have h := HR.o;rw [Nat.sub_self] at h;exact h
      simp only [Option.some.injEq, Prod.mk.injEq] at hst;obtain ⟨hst, hcd⟩ := hst;have hfin := HFIN.o;rw [← hcd, ← hst, if_pos rfl] at hfin;simp only [Option.some.injEq, Prod.mk.injEq] at hfin;obtain ⟨q1, q2, q3, q4, q5⟩ := hfin;have HQ := aM (And.intro q1 (And.intro q2 (And.intro q3 (And.intro q4 q5))));clear hst hcd q1 q2 q3 q4 q5 HR hlt hi;obtain ⟨⟨vR, vN, hg, hge, hR, hN⟩, hB⟩ := HP.o;clear HP;obtain ⟨AR, cR, eR⟩ := Kd.R_slice hR;subst eR;obtain ⟨AN, cN, eN⟩ := Kd.R_slice hN;subst eN;have HR := aM (Kd.R_lower hR HB.o.size);have HN := aM (Kd.R_lower hN HB.o.size);have HX2' := aM (blk_below HX2.o hB);have HB' := aM (HB.o.trans (hB.mono HB.o.size));have hx_0 := (kC hg 0).trans (show _ = some (Value.int .i64 s.first) from rfl);have hx_1 := (kC hg 1).trans (show _ = some (Value.slice AR s.recs.length cR) from rfl);have hx_2 := (kC hg 2).trans (show _ = some (Value.slice AN s.names.length cN) from rfl);have hx_3 := (kC hg 3).trans (show _ = some (Value.int .i64 s.torn) from rfl);have hcz_0 := (kC HX2'.o 0).trans (show _ = some (Value.int .i64 0) from rfl);have hcz_1 := (kC HX2'.o 1).trans (show _ = some (Value.slice none 0 0) from rfl);have hcz_2 := (kC HX2'.o 2).trans (show _ = some (Value.slice none 0 0) from rfl);have hcz_3 := (kC HX2'.o 3).trans (show _ = some (Value.int .i64 0) from rfl);have hfz_0 := kF HX2'.o 0;have hfz_1 := kF HX2'.o 1;have hfz_2 := kF HX2'.o 2;have hfz_3 := kF HX2'.o 3;have tl : decide ((acc.length : Int) < (acc.length : Int)) = false := decide_eq_false (by omega);clear hg hge hR hN hB
      go_wp2
      obtain ⟨q1, q2, q3, q4, q5⟩ := HQ.o;subst q1 q2 q3 q4 q5;refine bodyPost_ret (results_ct rfl _ _ g2 28 #[.int .i64 s.first, .slice AR s.recs.length cR, .slice AN s.names.length cN, .int .i64 s.torn] (0, 0) _ rfl (by refine blk_put (cs := #[.int .i64 s.first, .slice AR s.recs.length cR, .slice AN s.names.length cN, .int .i64 0]) ?_ 3 _ rfl; refine blk_put (cs := #[.int .i64 s.first, .slice AR s.recs.length cR, .slice none 0 0, .int .i64 0]) ?_ 2 _ rfl; refine blk_put (cs := #[.int .i64 s.first, .slice none 0 0, .slice none 0 0, .int .i64 0]) ?_ 1 _ rfl; refine blk_put (cs := #[.int .i64 0, .slice none 0 0, .slice none 0 0, .int .i64 0]) ?_ 0 _ rfl; exact HX2'.o) Tryd.underlying28 rfl (by kernel_rfl)) rfl ?_;exact ⟨_, _, rfl, Kd.R_mono (Kd.R_far (p := ⟨g2, 3, none⟩) (Kd.R_far (p := ⟨g2, 2, none⟩) (Kd.R_far (p := ⟨g2, 1, none⟩) (Kd.R_far (p := ⟨g2, 0, none⟩) (Kd.R_types HR.o HX2'.o (by decide)) (fun _ hk => hk.2) _) (fun _ hk => hk.2) _) (fun _ hk => hk.2) _) (fun _ hk => hk.2) _) (fun _ hk => hk.1.2), Kd.R_mono (Kd.R_far (p := ⟨g2, 3, none⟩) (Kd.R_far (p := ⟨g2, 2, none⟩) (Kd.R_far (p := ⟨g2, 1, none⟩) (Kd.R_far (p := ⟨g2, 0, none⟩) (Kd.R_types HN.o HX2'.o (by decide)) (fun _ hk => hk.2) _) (fun _ hk => hk.2) _) (fun _ hk => hk.2) _) (fun _ hk => hk.2) _) (fun _ hk => hk.1.2), (((HB'.o.setCell (p := ⟨g2, 0, none⟩) HG2.o _).setCell (p := ⟨g2, 1, none⟩) HG2.o _).setCell (p := ⟨g2, 2, none⟩) HG2.o _).setCell (p := ⟨g2, 3, none⟩) HG2.o _⟩
 ·cases h
end Go.Proofs.YtpdhfoegbannkaaDoor.PFnExactWalPlan
