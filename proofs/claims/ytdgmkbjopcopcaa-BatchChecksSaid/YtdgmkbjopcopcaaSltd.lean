/- Layer 18 (slot): Known, the light ones, the chapter's example. Own work. -/
import Derived.Test.YtdgmkbjopcopcaaSltc
set_option linter.unusedVariables false
set_option linter.unusedSimpArgs false
set_option maxRecDepth 100000
set_option maxHeartbeats 8000000
namespace Go.Proofs.Ytdgmkbjopcopcaa
open Go.RowKit
-- flat
-- zero 42 Sl0.cells
-- zero 50 Sl0.cells
-- zero 26 Bt0.cells
-- use zerSl zerSl
-- use zerRs zerRs
-- use zerBt zerBt
-- use zerDg zerDg
-- use zerIb zerIb
-- build 26 bldBt
-- build 30 bldVt
-- build 33 bldCt
-- build 38 bldHe
-- build 40 bldEn
-- build 124 bldIb


theorem kn_ok {w : World} {s : Sl} (h1 : BtOk w s.entry.b) (h2 : BtOk w s.batch) (h3 : BtOk w s.held.b) : ∀ x ∈ kns s, BtOk w x.b := by
  intro x hx
  simp only [kns, List.mem_cons, List.not_mem_nil, or_false] at hx
  rcases hx with rfl | rfl | rfl
  · exact h1
  · exact h2
  · exact h3
theorem kno_ok {w : World} : ∀ {l : List Ib} {d : Dg}, (∀ x ∈ l, BtOk w x.b) → BtOk w (knoL l d).1
  | [], _, _ => bt0_ok w
  | x :: l, d, h => by
    simp only [knoL]
    split
    · exact h x (by simp)
    · exact kno_ok fun y hy => h y (by simp [hy])
theorem knoL_step {l : List Ib} {i : Nat} {x : Ib} {d : Dg} (h : l[i]? = some x) : knoL (l.drop i) d = if x.is = true ∧ x.b.dig = d then (x.b, true) else knoL (l.drop (i + 1)) d := by
  have hlt := (List.getElem?_eq_some_iff.1 h).1
  have hg := (List.getElem?_eq_some_iff.1 h).2
  rw [List.drop_eq_getElem_cons hlt, hg]
  rfl
theorem c_Known (s : Sl) (d : Dg) (w : World) (h1 : BtOk w s.entry.b) (h2 : BtOk w s.batch) (h3 : BtOk w s.held.b) :
    Calls Try.prog 24 #[.agg s.cells.toArray, .agg (bvs d.1).toArray] w (RV w (.tuple #[.agg (kno s d).1.cells.toArray, .bool (kno s d).2])) := by
  have hk := kn_ok h1 h2 h3
  refine enter (N := 42) Try.func24 rfl Try.ntmps24 rfl (Has.nil _) ?_
  refine wc_seq ?_
  refine wc_region ?_
  (refine wl_ef rfl (ef_box rfl rfl rfl) ?_; rintro _ _ ⟨b2, rfl, rfl⟩)
  (refine wl_ef rfl (ef_box rfl rfl rfl) ?_; rintro _ _ ⟨b3, rfl, rfl⟩)
  (refine wl_ef rfl (ef_alloc rfl zerBt) ?_; rintro _ _ ⟨b4, rfl, rfl⟩)
  refine wl_val rfl rfl rfl (y_assign rfl) ?_
  refine wl_nil ?_
  refine q_then ?_
  refine wc_seq ?_
  refine wc_seq ?_
  refine wc_region ?_
  refine wl_val rfl rfl rfl (y_field0 fa42_6 rfl) ?_
  refine wl_val rfl rfl rfl (y_loadA one4 rfl) ?_
  refine wl_val rfl rfl rfl (y_field0 fa42_5 rfl) ?_
  first | refine wl_val rfl rfl rfl (y_field0 fa40_1 rfl) ?_ | refine wl_val rfl rfl rfl (y_fieldN fa40_1 rfl (by simp only [Nat.reduceAdd]; rfl)) ?_
  refine wl_val rfl rfl rfl (y_loadC agg26 rfl) ?_
  refine wl_val rfl rfl rfl (y_buildS bldIb rfl) ?_
  refine wl_val rfl rfl rfl (y_field0 fa42_2 rfl) ?_
  refine wl_val rfl rfl rfl (y_loadA one4 rfl) ?_
  refine wl_val rfl rfl rfl (y_field0 fa42_1 rfl) ?_
  refine wl_val rfl rfl rfl (y_loadC agg26 rfl) ?_
  refine wl_val rfl rfl rfl (y_buildS bldIb rfl) ?_
  refine wl_val rfl rfl rfl (y_field0 fa42_4 rfl) ?_
  refine wl_val rfl rfl rfl (y_loadA one4 rfl) ?_
  refine wl_val rfl rfl rfl (y_field0 fa42_3 rfl) ?_
  first | refine wl_val rfl rfl rfl (y_field0 fa38_0 rfl) ?_ | refine wl_val rfl rfl rfl (y_fieldN fa38_0 rfl (by simp only [Nat.reduceAdd]; rfl)) ?_
  refine wl_val rfl rfl rfl (y_loadC agg26 rfl) ?_
  refine wl_val rfl rfl rfl (y_buildS bldIb rfl) ?_
  refine wl_val rfl rfl rfl (y_buildc rfl (fun w => bld3Ib ⟨s.decided, s.entry.b⟩ ⟨s.is, s.batch⟩ ⟨s.holds, s.held.b⟩ w)) ?_
  refine wl_val rfl rfl rfl (y_move rfl) ?_
  refine wl_nil ?_
  refine q_then ?_
  refine wc_block ?_
  refine wc_loop (X := Nat) (fun i => [(3, .pointer (some ⟨b3, 0, none⟩)), (4, .pointer (some ⟨b4, 0, none⟩)), (25, .agg ((kns s).flatMap Ib.cells).toArray), (26, .int .i64 (i : Int))]) (fun i => [.blk b4 Bt0.cells 26 (0, 0), .blk b3 (bvs d.1) 28 (0, 0)]) (fun i => i ≤ 3 ∧ kno s d = knoL ((kns s).drop i) d) (fun i => 3 - i) (0) ?_ ?_ ?_ ?_
  · exact ⟨by omega, rfl⟩
  · repeat (first | exact SubE.nil | refine SubE.cons rfl ?_ | refine SubE.cons (lk_int rfl (by omega)) ?_ | refine SubE.cons (lk_int rfl (by simp [kns])) ?_ | refine SubE.cons (lk_eq rfl (by simp [kns])) ?_)
  · exact SubC.out
  · skip
    rintro i ⟨hi, hkn⟩
    refine wc_seq ?_
    refine wc_region ?_
    refine wl_val rfl rfl rfl (y_lss rfl rfl) ?_
    refine wl_nil ?_
    refine q_then ?_
    refine wc_seq ?_
    refine wc_cond rfl (fun hc0 => ?_) (fun hc0 => ?_)
    · first
      | ((try simp only [bsA, ne_eq] at hc0); exfalso; (first | with_reducible contradiction | omega | (simp at hc0; done)))
      | skip
        try simp only [bsA, ne_eq] at hc0
        obtain ⟨x, hx⟩ : ∃ x, (kns s)[i]? = some x := ⟨(kns s)[i]'(by simp [kns]; omega), List.getElem?_eq_getElem (by simp [kns]; omega)⟩
        have hxo := hk x (List.mem_of_getElem? hx)
        rw [knoL_step hx] at hkn
        refine wc_skip ?_
        refine q_then ?_
        refine wc_seq ?_
        refine wc_block ?_
        refine wc_seq ?_
        refine wc_region ?_
        refine wl_val rfl rfl rfl (y_indexVN (us := x.cells) Try.underlying125 agg124 rfl rfl (by omega) (flat_part (f := Ib.cells) (fun x _ => x.len) hx) x.len) ?_
        (refine wl_ef rfl (ef_alloc rfl zerIb) ?_; rintro _ _ ⟨b7, rfl, rfl⟩)
        (refine wl_ef rfl (ef_storeC siz124 rfl rfl rfl) ?_; rintro _ _ ⟨rfl, rfl⟩)
        refine wl_nil ?_
        refine q_then ?_
        refine wc_seq ?_
        refine wa_begin_all (n := 9) (b := #[false, false, false, false, false, false, false, false, false]) mixed rfl rfl ?_
        refine wa_t 0 (by kernel_rfl) rfl rfl rfl rfl (y_field0 fa124_0 rfl) ?_
        refine wa_t 1 (by kernel_rfl) rfl rfl rfl rfl (y_loadA one4 rfl) ?_
        refine wa_t 2 (by kernel_rfl) rfl rfl rfl rfl (y_move rfl) ?_
        first | apply wa_andp (d := 37) | apply wa_and (d := 37)
        case ht =>
          intro hg1 hK1
          first
            | (refine wa_dead ?_ hK1 rfl; first | with_reducible contradiction | omega | (simp at hg1; done))
            | skip
              try simp only [bsA, ne_eq] at hg1
              refine wa_gt 3 (by kernel_rfl) rfl rfl rfl rfl rfl rfl rfl rfl (y_field0 fa124_1 rfl) ?_
              refine wa_gt 4 (by kernel_rfl) rfl rfl rfl rfl rfl rfl rfl rfl (y_loadC agg26 rfl) ?_
              refine wa_gt 6 (by kernel_rfl) rfl rfl rfl rfl rfl rfl rfl rfl (y_loadC agg28 rfl) ?_
              (refine wa_ge 5 (by kernel_rfl) rfl rfl rfl rfl rfl rfl (ef_callv0 rfl fun53 rfl (fun _ hw => (c_dig _ _ (hxo.go hw)))) ?_; rintro _ _ ⟨rfl, rfl⟩; refine ⟨.inr SubC.out, ?_⟩)
              refine wa_gt 7 (by kernel_rfl) rfl rfl rfl rfl rfl rfl rfl rfl (y_eqlAgg Try.eqGuardType28 rfl rfl (eq_dg _ _) (by omega)) ?_
              refine wa_t 8 (by kernel_rfl) rfl rfl rfl rfl (y_pickt rfl rfl) ?_
              exact wa_leR hK1 (.cons rfl (by repeat (first | refine LeE.skip ?_ rfl | exact LeE.refl _)))
        case hf =>
          intro hg1 hK1
          first
            | (refine wa_dead ?_ hK1 rfl; first | with_reducible contradiction | omega | (simp at hg1; done))
            | skip
              try simp only [bsA, ne_eq] at hg1
              refine wa_gs 3 (by kernel_rfl) rfl rfl rfl rfl rfl rfl rfl rfl ?_
              refine wa_gs 4 (by kernel_rfl) rfl rfl rfl rfl rfl rfl rfl rfl ?_
              refine wa_gs 5 (by kernel_rfl) rfl rfl rfl rfl rfl rfl rfl rfl ?_
              refine wa_gs 6 (by kernel_rfl) rfl rfl rfl rfl rfl rfl rfl rfl ?_
              refine wa_gs 7 (by kernel_rfl) rfl rfl rfl rfl rfl rfl rfl rfl ?_
              first | refine wa_t 8 (by kernel_rfl) rfl rfl rfl rfl (y_pickt rfl rfl) ?_ | refine wa_t 8 (by kernel_rfl) rfl rfl rfl rfl (y_pickf rfl rfl) ?_
              exact wa_leR hK1 (.cons rfl (by repeat (first | refine LeE.skip ?_ rfl | exact LeE.refl _)))
        refine wa_done (by kernel_rfl) ?_
        refine q_then ?_
        first | refine wc_cond rfl (fun hc1 => ?_) (fun hc1 => ?_) | refine wc_condb rfl (fun hc1 => ?_) (fun hc1 => ?_)
        · first
          | ((try simp only [bsA, ne_eq] at hc1); exfalso; (first | with_reducible contradiction | omega | (simp at hc1; done)))
          | skip
            try simp only [bsA, ne_eq] at hc1
            refine wc_seq ?_
            refine wc_region ?_
            refine wl_val rfl rfl rfl (y_field0 fa124_1 rfl) ?_
            refine wl_val rfl rfl rfl (y_loadC agg26 rfl) ?_
            (refine wl_ef rfl (ef_storeC siz26 rfl rfl rfl) ?_; rintro _ _ ⟨rfl, rfl⟩)
            refine wl_val rfl rfl rfl (y_assign rfl) ?_
            refine wl_nil ?_
            refine q_then ?_
            refine wc_ret ?_
            refine q_blockRet ?_
            refine q_thenRet ?_
            refine q_thenRet ?_
            refine q_blockRet ?_
            refine q_thenRet ?_
            apply q_retg (rescC2 Try.results24 rfl rfl agg26) -- ret 0
            case hΨ =>
              exact ⟨by rw [hkn, if_pos hc1], rfl⟩
            case hs =>
              exact SubC.out
        · first
          | ((try simp only [bsA, ne_eq] at hc1); exfalso; (first | with_reducible contradiction | omega | (simp at hc1; done)))
          | skip
            try simp only [bsA, ne_eq] at hc1
            refine wc_skip ?_
            refine q_blockNormal ?_
            refine q_then ?_
            refine wc_region ?_
            refine wl_val rfl rfl rfl (y_addn rfl rfl (by omega)) ?_
            refine wl_val rfl rfl rfl (y_move rfl) ?_
            refine wl_nil ?_
            refine q_again (i + 1) ?_ ?_ ?_ ?_
            · exact ⟨by omega, by rw [hkn, if_neg (by grind)]⟩
            · first | omega | (simp; omega) | (simp only []; omega)
            · repeat (first | exact SubE.nil | refine SubE.cons rfl ?_ | refine SubE.cons (lk_int rfl (by omega)) ?_ | refine SubE.cons (lk_int rfl (by rfl)) ?_ | refine SubE.cons (lk_eq rfl (by rfl)) ?_)
            · exact SubC.out
    · first
      | ((try simp only [bsA, ne_eq] at hc0); exfalso; (first | with_reducible contradiction | omega | (simp at hc0; done)))
      | skip
        try simp only [bsA, ne_eq] at hc0
        refine wc_exit ?_
        refine q_thenExit ?_
        refine q_thenExit ?_
        refine q_blockExit ?_
        refine q_then ?_
        refine wc_seq ?_
        refine wc_region ?_
        refine wl_val rfl rfl rfl (y_buildc (cs := Bt0.cells) rfl (fun w => by kernel_rfl)) ?_
        (refine wl_ef rfl (ef_storeC siz26 rfl rfl rfl) ?_; rintro _ _ ⟨rfl, rfl⟩)
        refine wl_val rfl rfl rfl (y_assign rfl) ?_
        refine wl_nil ?_
        refine q_then ?_
        refine wc_ret ?_
        apply q_retg (rescC2 Try.results24 rfl rfl agg26) -- ret 1
        case hΨ =>
          exact ⟨by obtain rfl : i = 3 := (by omega); rw [hkn]; rfl, rfl⟩
        case hs =>
          exact SubC.out
theorem c_Of (s : Sl) (w : World) : Calls Try.prog 20 #[.agg s.cells.toArray] w (RV w (.agg s.cells.toArray)) := by
  refine enter (N := 4) Try.func20 rfl Try.ntmps20 rfl (Has.nil _) ?_
  refine wc_seq ?_
  refine wc_region ?_
  (refine wl_ef rfl (ef_box rfl rfl rfl) ?_; rintro _ _ ⟨b1, rfl, rfl⟩)
  (refine wl_ef rfl (ef_alloc rfl zerRs) ?_; rintro _ _ ⟨b2, rfl, rfl⟩)
  refine wl_nil ?_
  refine q_then ?_
  refine wc_seq ?_
  refine wc_region ?_
  refine wl_val rfl rfl rfl (y_loadC agg42 rfl) ?_
  (refine wl_ef rfl (ef_storeC siz50 rfl rfl rfl) ?_; rintro _ _ ⟨rfl, rfl⟩)
  refine wl_nil ?_
  refine q_then ?_
  refine wc_ret ?_
  apply q_retg (rescC Try.results20 rfl agg50) -- ret 0
  case hΨ =>
    first | exact ⟨rfl, rfl⟩ | exact rfl
  case hs =>
    exact SubC.out
/-- the batch that is nothing -/
def BtN : Bt := ⟨true, Hd0, []⟩
theorem btN_ok (w : World) : BtOk w BtN := ⟨RdI.of_nil _ _ _, ⟨by simp [BtN], by simp [BtN]⟩⟩
theorem c_None (w : World) : Calls Try.prog 48 #[] w (RV w (.agg BtN.cells.toArray)) := by
  refine enter (N := 2) Try.func48 rfl Try.ntmps48 rfl (Has.nil _) ?_
  refine wc_seq ?_
  refine wc_region ?_
  (refine wl_ef rfl (ef_alloc rfl zerBt) ?_; rintro _ _ ⟨b0, rfl, rfl⟩)
  refine wl_nil ?_
  refine q_then ?_
  refine wc_seq ?_
  refine wc_region ?_
  refine wl_val rfl rfl rfl (y_buildS bldBt rfl) ?_
  (refine wl_ef rfl (ef_storeC siz26 rfl rfl rfl) ?_; rintro _ _ ⟨rfl, rfl⟩)
  refine wl_nil ?_
  refine q_then ?_
  refine wc_ret ?_
  apply q_retg (rescC Try.results48 rfl agg26) -- ret 0
  case hΨ =>
    first | exact ⟨rfl, rfl⟩ | exact rfl
  case hs =>
    exact SubC.out
theorem acc_ok {w : World} {s : Sl} {view : Int} {b : Bt} (hs : SlOk w s) (hb : BtOk w b) : SlOk w (acc s view b).1 := by
  simp only [acc]
  split
  · exact sl0_ok w
  · split
    · exact ⟨hb, hs.hb, hs.hc, hs.eb, hs.ec⟩
    · split
      · exact sl0_ok w
      · exact hs
theorem hld_ok {w : World} {s : Sl} {c : Ct} (hs : SlOk w s) (hc : CtOk w c) : SlOk w (hld s c).1 := by
  simp only [hld]
  split
  · exact sl0_ok w
  · split
    · exact sl0_ok w
    · split
      · exact sl0_ok w
      · split
        · exact ⟨hs.b, hs.b, hc, hs.eb, hs.ec⟩
        · exact hs
theorem dcd_ok {w : World} {s : Sl} {b : Bt} {c : Ct} (hs : SlOk w s) (hb : BtOk w b) (hc : CtOk w c) : SlOk w (dcd s b c).1 := by
  simp only [dcd]
  split
  · exact sl0_ok w
  · split
    · exact sl0_ok w
    · split
      · exact ⟨hs.b, hs.hb, hs.hc, hb, hc⟩
      · exact hs
theorem c_lives18 (w : World) : Calls Try.prog 14 #[] w (RV w (.bool true)) := by
  have hso := acc_ok (view := 0) (sl0_ok w) (btN_ok w)
  refine enter (N := 51) Try.func14 rfl Try.ntmps14 rfl (Has.nil _) ?_
  refine wc_seq ?_
  refine wc_region ?_
  refine wl_val rfl rfl rfl (y_assign rfl) ?_
  refine wl_nil ?_
  refine q_then ?_
  refine wc_seq ?_
  refine wc_region ?_
  refine wl_val rfl rfl rfl (y_buildc (cs := Sl0.cells) rfl (fun w => by kernel_rfl)) ?_
  (refine wl_ef rfl (ef_callv0 rfl fun48 rfl (fun _ hw => (c_None _))) ?_; rintro _ _ ⟨rfl, rfl⟩)
  (refine wl_ef rfl (ef_callv0 rfl fun16 rfl (fun _ hw => (c_Accept Sl0 0 BtN _ (bt0_ok _) (btN_ok _)))) ?_; rintro _ _ ⟨rfl, rfl⟩)
  refine wl_val rfl rfl rfl (y_move rfl) ?_
  refine wl_val rfl rfl rfl (y_extract rfl rfl) ?_
  refine wl_val rfl rfl rfl (y_extract rfl rfl) ?_
  (refine wl_ef rfl (ef_alloc rfl zerSl) ?_; rintro _ _ ⟨b1, rfl, rfl⟩)
  (refine wl_ef rfl (ef_storeC siz42 rfl rfl rfl) ?_; rintro _ _ ⟨rfl, rfl⟩)
  refine wl_val rfl rfl rfl (y_assign rfl) ?_
  refine wl_nil ?_
  refine q_then ?_
  refine wc_seq ?_
  refine wc_region ?_
  (refine wl_ef rfl (ef_callv0 rfl fun48 rfl (fun _ hw => (c_None _))) ?_; rintro _ _ ⟨rfl, rfl⟩)
  (refine wl_ef rfl (ef_callv0 rfl fun53 rfl (fun _ hw => (c_dig BtN _ (btN_ok _)))) ?_; rintro _ _ ⟨rfl, rfl⟩)
  (refine wl_ef rfl (ef_alloc rfl zerDg) ?_; rintro _ _ ⟨b3, rfl, rfl⟩)
  (refine wl_ef rfl (ef_storeC siz28 rfl rfl rfl) ?_; rintro _ _ ⟨rfl, rfl⟩)
  refine wl_nil ?_
  refine q_then ?_
  refine wc_seq ?_
  refine wc_region ?_
  refine wl_val rfl rfl rfl (y_loadC agg42 rfl) ?_
  refine wl_val rfl rfl rfl (y_loadC agg28 rfl) ?_
  refine wl_val rfl rfl rfl (y_buildS bldVt rfl) ?_
  refine wl_val rfl rfl rfl (y_buildS bldCt rfl) ?_
  (refine wl_ef rfl (ef_callv0 rfl fun17 rfl (fun _ hw => (c_Hold _ _ _ (hso.go hw).b))) ?_; rintro _ _ ⟨rfl, rfl⟩)
  refine wl_val rfl rfl rfl (y_move rfl) ?_
  refine wl_val rfl rfl rfl (y_extract rfl rfl) ?_
  refine wl_val rfl rfl rfl (y_extract rfl rfl) ?_
  (refine wl_ef rfl (ef_alloc rfl zerSl) ?_; rintro _ _ ⟨b4, rfl, rfl⟩)
  (refine wl_ef rfl (ef_storeC siz42 rfl rfl rfl) ?_; rintro _ _ ⟨rfl, rfl⟩)
  refine wl_val rfl rfl rfl (y_assign rfl) ?_
  refine wl_nil ?_
  refine q_then ?_
  refine wc_seq ?_
  refine wc_region ?_
  refine wl_val rfl rfl rfl (y_loadC agg42 rfl) ?_
  refine wl_val rfl rfl rfl (y_loadC agg28 rfl) ?_
  refine wl_val rfl rfl rfl (y_buildS bldVt rfl) ?_
  refine wl_val rfl rfl rfl (y_buildS bldCt rfl) ?_
  (refine wl_ef rfl (ef_callv0 rfl fun17 rfl (fun _ hw => (c_Hold _ _ _ (hso.go hw).b))) ?_; rintro _ _ ⟨rfl, rfl⟩)
  refine wl_val rfl rfl rfl (y_move rfl) ?_
  refine wl_val rfl rfl rfl (y_extract rfl rfl) ?_
  refine wl_val rfl rfl rfl (y_extract rfl rfl) ?_
  (refine wl_ef rfl (ef_storeC siz42 rfl rfl rfl) ?_; rintro _ _ ⟨rfl, rfl⟩)
  refine wl_val rfl rfl rfl (y_assign rfl) ?_
  refine wl_nil ?_
  refine q_then ?_
  refine wc_seq ?_
  refine wc_region ?_
  refine wl_val rfl rfl rfl (y_move rfl) ?_
  refine wl_val rfl rfl rfl (y_eql rfl rfl) ?_
  refine wl_val rfl rfl rfl (y_move rfl) ?_
  apply wl_andp (d := 36)
  case ht =>
    intro hg1 hK1
    first
      | (refine wl_dead ?_ hK1 rfl; first | with_reducible contradiction | omega | (simp at hg1; done))
      | skip
        try simp only [bsA, ne_eq] at hg1
        refine wl_gval rfl rfl rfl rfl rfl rfl rfl (y_move rfl) ?_
        refine wl_gval rfl rfl rfl rfl rfl rfl rfl (y_eql rfl rfl) ?_
        refine wl_val rfl rfl rfl (y_pickt rfl rfl) ?_
        exact wl_leR hK1 (.cons rfl (by repeat (first | refine LeE.skip ?_ rfl | exact LeE.refl _)))
  case hf =>
    intro hg1 hK1
    (refine wl_dead ?_ hK1 rfl; first | with_reducible contradiction | omega | (simp at hg1; done))
  refine wl_val rfl rfl rfl (y_move rfl) ?_
  first | apply wl_andp (d := 40) | apply wl_and (d := 40)
  case ht =>
    intro hg2 hK2
    first
      | (refine wl_dead ?_ hK2 rfl; first | with_reducible contradiction | omega | (simp at hg2; done))
      | skip
        try simp only [bsA, ne_eq] at hg2
        refine wl_gval rfl rfl rfl rfl rfl rfl rfl (y_move rfl) ?_
        refine wl_gval rfl rfl rfl rfl rfl rfl rfl (y_eql rfl rfl) ?_
        refine wl_val rfl rfl rfl (y_pickt rfl rfl) ?_
        exact wl_leR hK2 (.cons rfl (by repeat (first | refine LeE.skip ?_ rfl | exact LeE.refl _)))
  case hf =>
    intro hg2 hK2
    (refine wl_dead ?_ hK2 rfl; first | with_reducible contradiction | omega | (simp at hg2; done))
  refine wl_val rfl rfl rfl (y_move rfl) ?_
  apply wl_andp (d := 44)
  case ht =>
    intro hg3 hK3
    first
      | (refine wl_dead ?_ hK3 rfl; first | with_reducible contradiction | omega | (simp at hg3; done))
      | skip
        try simp only [bsA, ne_eq] at hg3
        refine wl_gval rfl rfl rfl rfl rfl rfl rfl (y_field0 fa42_4 rfl) ?_
        refine wl_gval rfl rfl rfl rfl rfl rfl rfl (y_loadA one4 rfl) ?_
        refine wl_val rfl rfl rfl (y_pickt rfl rfl) ?_
        exact wl_leR hK3 (.cons rfl (by repeat (first | refine LeE.skip ?_ rfl | exact LeE.refl _)))
  case hf =>
    intro hg3 hK3
    first
      | (refine wl_dead ?_ hK3 rfl; first | with_reducible contradiction | omega | (simp at hg3; done))
      | skip
        try simp only [bsA, ne_eq] at hg3
        refine wl_gskip rfl rfl rfl rfl rfl rfl rfl ?_
        refine wl_gskip rfl rfl rfl rfl rfl rfl rfl ?_
        first | refine wl_val rfl rfl rfl (y_pickt rfl rfl) ?_ | refine wl_val rfl rfl rfl (y_pickf rfl rfl) ?_
        exact wl_leR hK3 (.cons rfl (by repeat (first | refine LeE.skip ?_ rfl | exact LeE.refl _)))
  refine wl_val rfl rfl rfl (y_move rfl) ?_
  first | apply wl_andp (d := 50) | apply wl_and (d := 50)
  case ht =>
    intro hg4 hK4
    first
      | (refine wl_dead ?_ hK4 rfl; first | with_reducible contradiction | omega | (simp at hg4; done))
      | skip
        try simp only [bsA, ne_eq] at hg4
        refine wl_gval rfl rfl rfl rfl rfl rfl rfl (y_field0 fa42_3 rfl) ?_
        first | refine wl_gval rfl rfl rfl rfl rfl rfl rfl (y_field0 fa38_0 rfl) ?_ | refine wl_gval rfl rfl rfl rfl rfl rfl rfl (y_fieldN fa38_0 rfl (by simp only [Nat.reduceAdd]; rfl)) ?_
        first | refine wl_gval rfl rfl rfl rfl rfl rfl rfl (y_field0 fa26_0 rfl) ?_ | refine wl_gval rfl rfl rfl rfl rfl rfl rfl (y_fieldN fa26_0 rfl (by simp only [Nat.reduceAdd]; rfl)) ?_
        refine wl_gval rfl rfl rfl rfl rfl rfl rfl (y_loadA one4 rfl) ?_
        refine wl_val rfl rfl rfl (y_pickt rfl rfl) ?_
        exact wl_leR hK4 (.cons rfl (by repeat (first | refine LeE.skip ?_ rfl | exact LeE.refl _)))
  case hf =>
    intro hg4 hK4
    first
      | (refine wl_dead ?_ hK4 rfl; first | with_reducible contradiction | omega | (simp at hg4; done))
      | skip
        try simp only [bsA, ne_eq] at hg4
        refine wl_gskip rfl rfl rfl rfl rfl rfl rfl ?_
        refine wl_gskip rfl rfl rfl rfl rfl rfl rfl ?_
        refine wl_gskip rfl rfl rfl rfl rfl rfl rfl ?_
        refine wl_gskip rfl rfl rfl rfl rfl rfl rfl ?_
        first | refine wl_val rfl rfl rfl (y_pickt rfl rfl) ?_ | refine wl_val rfl rfl rfl (y_pickf rfl rfl) ?_
        exact wl_leR hK4 (.cons rfl (by repeat (first | refine LeE.skip ?_ rfl | exact LeE.refl _)))
  refine wl_val rfl rfl rfl (y_assign rfl) ?_
  refine wl_nil ?_
  refine q_then ?_
  refine wc_ret ?_
  apply q_retg (res1 Try.results14 rfl) -- ret 0
  case hΨ =>
    exact ⟨by simp [acc, hld, Sl0, Bt0, He0, Ct0, Vt0, BtN], rfl⟩
  case hs =>
    exact SubC.out
end Go.Proofs.Ytdgmkbjopcopcaa
