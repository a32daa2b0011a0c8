/- Layer 18 (slot): are two slots the same? Known. Own work. -/
import Derived.Test.YtdgmkbjopcopcaaSltb
set_option linter.unusedVariables false
set_option linter.unusedSimpArgs false
set_option maxRecDepth 100000
set_option maxHeartbeats 8000000
namespace Go.Proofs.Ytdgmkbjopcopcaa
open Go.RowKit
-- flat
-- zero 42 Sl0.cells
-- zero 50 Sl0.cells
-- zero 26 Bt0.cells
-- use zerSl zerSl
-- use zerRs zerRs
-- use zerBt zerBt
-- use zerDg zerDg
-- use zerIb zerIb
-- build 26 bldBt
-- build 30 bldVt
-- build 33 bldCt
-- build 38 bldHe
-- build 40 bldEn
-- build 124 bldIb


/-- a cert whose signs can be read -/
structure CtOk (w : World) (c : Ct) : Prop where
  rd : RdI w [] c.v 17 c.signs.length (c.signs.flatMap Sg.cells)
theorem CtOk.go {w0 w : World} {L : Mem} {c : Ct} (h : CtOk w0 c) (hw : Has w0 [] L w) : CtOk w c := ⟨rdI_in0 hw h.rd⟩
theorem ct0_ok (w : World) : CtOk w Ct0 := ⟨RdI.of_nil _ _ _⟩
structure SlOk (w : World) (s : Sl) : Prop where
  b : BtOk w s.batch
  hb : BtOk w s.held.b
  hc : CtOk w s.held.c
  eb : BtOk w s.entry.b
  ec : CtOk w s.entry.c
theorem SlOk.go {w0 w : World} {L : Mem} {s : Sl} (h : SlOk w0 s) (hw : Has w0 [] L w) : SlOk w s := ⟨h.b.go hw, h.hb.go hw, h.hc.go hw, h.eb.go hw, h.ec.go hw⟩
theorem sl0_ok (w : World) : SlOk w Sl0 := ⟨bt0_ok w, bt0_ok w, ct0_ok w, bt0_ok w, ct0_ok w⟩
abbrev btS (a b : Bt) : Prop := a.noop = b.noop ∧ a.rs = b.rs
abbrev ctS (a b : Ct) : Prop := a.vote = b.vote ∧ a.signs = b.signs
abbrev heS (a b : He) : Prop := btS a.b b.b ∧ ctS a.c b.c
abbrev enS (a b : En) : Prop := a.slot = b.slot ∧ btS a.b b.b ∧ ctS a.c b.c
abbrev slS (a b : Sl) : Prop := a.view = b.view ∧ a.is = b.is ∧ a.holds = b.holds ∧ a.decided = b.decided ∧ btS a.batch b.batch ∧ heS a.held b.held ∧ enS a.entry b.entry
theorem eq_vt (a b : Vt) : Eqs Try.prog 3 30 (.agg a.cells.toArray) (.agg b.cells.toArray) (decide (a = b)) := by
  refine Eqs.is (b := decide (a.kind = b.kind) && (decide (a.epoch = b.epoch) && (decide (a.view = b.view) && (decide (a.slot = b.slot) && (decide (a.dig = b.dig) && true))))) ?_ ?_
  · refine eqs_struct (k := 2) (by simp [Program.fieldsOf, Try.underlying30]) Try.stoodInHeld30 ?_
    simp only [Program.fieldsOf, Try.underlying30]
    refine EqF.cons (by decide) (part1 one3 rfl) (part1 one3 rfl) ((eqs_int Try.underlying3).up (by omega)) ?_
    refine EqF.cons (by decide) (part1 one3 rfl) (part1 one3 rfl) ((eqs_int Try.underlying3).up (by omega)) ?_
    refine EqF.cons (by decide) (part1 one3 rfl) (part1 one3 rfl) ((eqs_int Try.underlying3).up (by omega)) ?_
    refine EqF.cons (by decide) (part1 one3 rfl) (part1 one3 rfl) ((eqs_int Try.underlying3).up (by omega)) ?_
    refine EqF.cons (by decide) (partN agg28 (.skip (.skip (.skip (.skip (.all a.dig.len)))))) (partN agg28 (.skip (.skip (.skip (.skip (.all b.dig.len)))))) (eq_dg _ _) EqF.nil
  · cases a; cases b
    simp only [Vt.mk.injEq, Bool.decide_and, Bool.and_true]
theorem eq_sg (a b : Sg) : Eqs Try.prog 3 162 (.agg a.cells.toArray) (.agg b.cells.toArray) (decide (a = b)) := by
  refine Eqs.is (b := decide (a.node = b.node) && (decide (a.tag = b.tag) && true)) ?_ ?_
  · refine eqs_struct (k := 2) (by simp [Program.fieldsOf, Try.underlying162]) Try.stoodInHeld162 ?_
    simp only [Program.fieldsOf, Try.underlying162]
    refine EqF.cons (by decide) (part1 one3 rfl) (part1 one3 rfl) ((eqs_int Try.underlying3).up (by omega)) ?_
    refine EqF.cons (by decide) (partN agg69 (.skip (.all a.tag.len))) (partN agg69 (.skip (.all b.tag.len))) (eq_tg _ _) EqF.nil
  · cases a; cases b
    simp only [Sg.mk.injEq, Bool.decide_and, Bool.and_true]
theorem sg_part {l : List Sg} {i : Nat} {x : Sg} (h : l[i]? = some x) : PartOf (l.flatMap Sg.cells) (i * 17) x.cells := flat_part (fun x _ => x.len) h
theorem c_sameCert (a b : Ct) (w : World) (ha : CtOk w a) (hb : CtOk w b) : Calls Try.prog 79 #[.agg a.cells.toArray, .agg b.cells.toArray] w (RV w (.bool (decide (ctS a b)))) := by
  have ha := ha.rd
  have hb := hb.rd
  obtain ⟨A0, cap0, hv0, hle0, hle1, _⟩ := ha.rd.form
  simp only [maxLen] at hle1
  refine enter (N := 38) Try.func79 rfl Try.ntmps79 rfl (Has.nil _) ?_
  refine wc_seq ?_
  refine wc_region ?_
  (refine wl_ef rfl (ef_box rfl rfl rfl) ?_; rintro _ _ ⟨b2, rfl, rfl⟩)
  (refine wl_ef rfl (ef_box rfl rfl rfl) ?_; rintro _ _ ⟨b3, rfl, rfl⟩)
  refine wl_val rfl rfl rfl (y_assign rfl) ?_
  refine wl_nil ?_
  refine q_then ?_
  refine wc_seq ?_
  refine wc_seq ?_
  refine wc_region ?_
  refine wl_val rfl rfl rfl (y_field0 fa33_0 rfl) ?_
  refine wl_val rfl rfl rfl (y_loadC agg30 rfl) ?_
  refine wl_val rfl rfl rfl (y_field0 fa33_0 rfl) ?_
  refine wl_val rfl rfl rfl (y_loadC agg30 rfl) ?_
  refine wl_val rfl rfl rfl (y_neqAgg Try.eqGuardType30 rfl rfl (eq_vt _ _) (by omega)) ?_
  refine wl_val rfl rfl rfl (y_move rfl) ?_
  first | apply wl_orp (d := 19) | apply wl_or (d := 19)
  case ht =>
    intro hg1 hK1
    first
      | (refine wl_dead ?_ hK1 rfl; first | with_reducible contradiction | omega | (simp at hg1; done))
      | skip
        try simp only [bsA, ne_eq] at hg1
        refine wl_gskip rfl rfl rfl rfl rfl rfl rfl ?_
        refine wl_gskip rfl rfl rfl rfl rfl rfl rfl ?_
        refine wl_gskip rfl rfl rfl rfl rfl rfl rfl ?_
        refine wl_gskip rfl rfl rfl rfl rfl rfl rfl ?_
        refine wl_gskip rfl rfl rfl rfl rfl rfl rfl ?_
        refine wl_gskip rfl rfl rfl rfl rfl rfl rfl ?_
        refine wl_gskip rfl rfl rfl rfl rfl rfl rfl ?_
        refine wl_val rfl rfl rfl (y_pickt rfl rfl) ?_
        exact wl_leR hK1 (.cons rfl (by repeat (first | refine LeE.skip ?_ rfl | exact LeE.refl _)))
  case hf =>
    intro hg1 hK1
    first
      | (refine wl_dead ?_ hK1 rfl; first | with_reducible contradiction | omega | (simp at hg1; done))
      | skip
        try simp only [bsA, ne_eq] at hg1
        refine wl_gval rfl rfl rfl rfl rfl rfl rfl (y_field0 fa33_1 rfl) ?_
        refine wl_gval rfl rfl rfl rfl rfl rfl rfl (y_loadA one31 rfl) ?_
        refine wl_gval rfl rfl rfl rfl rfl rfl rfl (y_lenSl Try.underlying31 rfl) ?_
        refine wl_gval rfl rfl rfl rfl rfl rfl rfl (y_field0 fa33_1 rfl) ?_
        refine wl_gval rfl rfl rfl rfl rfl rfl rfl (y_loadA one31 rfl) ?_
        refine wl_gval rfl rfl rfl rfl rfl rfl rfl (y_lenSl Try.underlying31 rfl) ?_
        refine wl_gval rfl rfl rfl rfl rfl rfl rfl (y_neq rfl rfl) ?_
        first | refine wl_val rfl rfl rfl (y_pickt rfl rfl) ?_ | refine wl_val rfl rfl rfl (y_pickf rfl rfl) ?_
        exact wl_leR hK1 (.cons rfl (by repeat (first | refine LeE.skip ?_ rfl | exact LeE.refl _)))
  refine wl_nil ?_
  refine q_then ?_
  first | refine wc_cond rfl (fun hc0 => ?_) (fun hc0 => ?_) | refine wc_condb rfl (fun hc0 => ?_) (fun hc0 => ?_)
  · first
    | ((try simp only [bsA, ne_eq] at hc0); exfalso; (first | with_reducible contradiction | omega | (simp at hc0; done)))
    | skip
      try simp only [bsA, ne_eq] at hc0
      refine wc_seq ?_
      refine wc_region ?_
      refine wl_val rfl rfl rfl (y_assign rfl) ?_
      refine wl_nil ?_
      refine q_then ?_
      refine wc_ret ?_
      refine q_thenRet ?_
      apply q_retg (res1 Try.results79 rfl) -- ret 0
      case hΨ =>
        exact ⟨by rw [decide_eq_false (by intro h; simp_all [ctS])], rfl⟩
      case hs =>
        exact SubC.out
  · first
    | ((try simp only [bsA, ne_eq] at hc0); exfalso; (first | with_reducible contradiction | omega | (simp at hc0; done)))
    | skip
      try simp only [bsA, ne_eq] at hc0
      refine wc_skip ?_
      refine q_then ?_
      refine wc_seq ?_
      refine wc_seq ?_
      refine wc_region ?_
      refine wl_val rfl rfl rfl (y_field0 fa33_1 rfl) ?_
      refine wl_val rfl rfl rfl (y_loadA one31 rfl) ?_
      refine wl_val rfl rfl rfl (y_lenSl Try.underlying31 rfl) ?_
      refine wl_val rfl rfl rfl (y_move rfl) ?_
      refine wl_nil ?_
      refine q_then ?_
      refine wc_block ?_
      refine wc_loop (X := Nat) (fun i => [(2, .pointer (some ⟨b2, 0, none⟩)), (3, .pointer (some ⟨b3, 0, none⟩)), (22, .int .i64 (a.signs.length : Int)), (23, .int .i64 (i : Int))]) (fun i => [.blk b2 a.cells 33 (0, 0), .blk b3 b.cells 33 (0, 0)]) (fun i => i ≤ a.signs.length ∧ a.signs.take i = b.signs.take i) (fun i => a.signs.length - i) (0) ?_ ?_ ?_ ?_
      · exact ⟨by omega, by simp⟩
      · repeat (first | exact SubE.nil | refine SubE.cons rfl ?_ | refine SubE.cons (lk_int rfl (by omega)) ?_ | refine SubE.cons (lk_int rfl (by rfl)) ?_ | refine SubE.cons (lk_eq rfl (by rfl)) ?_)
      · exact SubC.out
      · skip
        rintro i ⟨hi, hti⟩
        have hlen : a.signs.length = b.signs.length := by omega
        refine wc_seq ?_
        refine wc_region ?_
        refine wl_val rfl rfl rfl (y_lss rfl rfl) ?_
        refine wl_nil ?_
        refine q_then ?_
        refine wc_seq ?_
        refine wc_cond rfl (fun hc1 => ?_) (fun hc1 => ?_)
        · first
          | ((try simp only [bsA, ne_eq] at hc1); exfalso; (first | with_reducible contradiction | omega | (simp at hc1; done)))
          | skip
            try simp only [bsA, ne_eq] at hc1
            obtain ⟨r, hri⟩ : ∃ r, a.signs[i]? = some r := ⟨a.signs[i]'(by omega), List.getElem?_eq_getElem (by omega)⟩
            obtain ⟨s, hsi⟩ : ∃ s, b.signs[i]? = some s := ⟨b.signs[i]'(by omega), List.getElem?_eq_getElem (by omega)⟩
            refine wc_skip ?_
            refine q_then ?_
            refine wc_seq ?_
            refine wc_block ?_
            refine wc_seq ?_
            refine wc_region ?_
            refine wl_val rfl rfl rfl (y_move rfl) ?_
            refine wl_val rfl rfl rfl (y_assign rfl) ?_
            refine wl_nil ?_
            refine q_then ?_
            refine wc_seq ?_
            refine wa_begin_all (n := 11) (b := #[false, false, false, false, false, false, false, false, false, false, false]) mixed rfl rfl ?_
            refine wa_t 0 (by kernel_rfl) rfl rfl rfl rfl (y_field0 fa33_1 rfl) ?_
            refine wa_t 1 (by kernel_rfl) rfl rfl rfl rfl (y_loadA one31 rfl) ?_
            refine wa_t 2 (by kernel_rfl) rfl rfl rfl rfl (y_move rfl) ?_
            refine wa_t 3 (by kernel_rfl) rfl rfl rfl rfl (y_indexEn Try.underlying31 siz162 rfl rfl (by first | exact rd_own | exact rd_in (by assumption) | assumption) (by omega)) ?_
            refine wa_t 4 (by kernel_rfl) rfl rfl rfl rfl (y_loadNE agg162 rfl (rd_in ha) (sg_part hri) r.len (by decide)) ?_
            refine wa_t 5 (by kernel_rfl) rfl rfl rfl rfl (y_field0 fa33_1 rfl) ?_
            refine wa_t 6 (by kernel_rfl) rfl rfl rfl rfl (y_loadA one31 rfl) ?_
            refine wa_t 7 (by kernel_rfl) rfl rfl rfl rfl (y_move rfl) ?_
            refine wa_t 8 (by kernel_rfl) rfl rfl rfl rfl (y_indexEn Try.underlying31 siz162 rfl rfl (by first | exact rd_own | exact rd_in (by assumption) | assumption) (by omega)) ?_
            refine wa_t 9 (by kernel_rfl) rfl rfl rfl rfl (y_loadNE agg162 rfl (rd_in hb) (sg_part hsi) s.len (by decide)) ?_
            refine wa_t 10 (by kernel_rfl) rfl rfl rfl rfl (y_neqAgg Try.eqGuardType162 rfl rfl (eq_sg _ _) (by omega)) ?_
            refine wa_done (by kernel_rfl) ?_
            refine q_then ?_
            first | refine wc_cond rfl (fun hc2 => ?_) (fun hc2 => ?_) | refine wc_condb rfl (fun hc2 => ?_) (fun hc2 => ?_)
            · first
              | ((try simp only [bsA, ne_eq] at hc2); exfalso; (first | with_reducible contradiction | omega | (simp at hc2; done)))
              | skip
                try simp only [bsA, ne_eq] at hc2
                refine wc_seq ?_
                refine wc_region ?_
                refine wl_val rfl rfl rfl (y_assign rfl) ?_
                refine wl_nil ?_
                refine q_then ?_
                refine wc_ret ?_
                refine q_blockRet ?_
                refine q_thenRet ?_
                refine q_thenRet ?_
                refine q_blockRet ?_
                refine q_thenRet ?_
                apply q_retg (res1 Try.results79 rfl) -- ret 1
                case hΨ =>
                  exact ⟨by rw [decide_eq_false (fun e => by have := e.2; rw [this, hsi] at hri; simp_all)], rfl⟩
                case hs =>
                  exact SubC.out
            · first
              | ((try simp only [bsA, ne_eq] at hc2); exfalso; (first | with_reducible contradiction | omega | (simp at hc2; done)))
              | skip
                try simp only [bsA, ne_eq] at hc2
                refine wc_skip ?_
                refine q_blockNormal ?_
                refine q_then ?_
                refine wc_region ?_
                refine wl_val rfl rfl rfl (y_addn rfl rfl (by omega)) ?_
                refine wl_val rfl rfl rfl (y_move rfl) ?_
                refine wl_nil ?_
                refine q_again (i + 1) ?_ ?_ ?_ ?_
                · exact ⟨by omega, take_step hri hsi hti (by simpa using hc2)⟩
                · first | omega | (simp; omega) | (simp only []; omega)
                · repeat (first | exact SubE.nil | refine SubE.cons rfl ?_ | refine SubE.cons (lk_int rfl (by omega)) ?_ | refine SubE.cons (lk_int rfl (by rfl)) ?_ | refine SubE.cons (lk_eq rfl (by rfl)) ?_)
                · exact SubC.out
        · first
          | ((try simp only [bsA, ne_eq] at hc1); exfalso; (first | with_reducible contradiction | omega | (simp at hc1; done)))
          | skip
            try simp only [bsA, ne_eq] at hc1
            refine wc_exit ?_
            refine q_thenExit ?_
            refine q_thenExit ?_
            refine q_blockExit ?_
            refine q_then ?_
            refine wc_seq ?_
            refine wc_region ?_
            refine wl_val rfl rfl rfl (y_assign rfl) ?_
            refine wl_nil ?_
            refine q_then ?_
            refine wc_ret ?_
            apply q_retg (res1 Try.results79 rfl) -- ret 2
            case hΨ =>
              exact ⟨by rw [decide_eq_true (by have := hti; rw [List.take_of_length_le (by omega), List.take_of_length_le (by omega)] at this; exact ⟨by simp_all, this⟩)], rfl⟩
            case hs =>
              exact SubC.out
theorem c_ref05Same (a b : List Sg) (va vb : Value) (w : World) (ha : RdI w [] va 17 a.length (a.flatMap Sg.cells)) (hb : RdI w [] vb 17 b.length (b.flatMap Sg.cells)) : Calls Try.prog 95 #[va, vb] w (RV w (.bool (decide (a = b)))) := by
  obtain ⟨A0, cap0, hv0, hle0, hle1, _⟩ := ha.rd.form
  obtain ⟨A1, cap1, hv1, hle2, hle3, _⟩ := hb.rd.form
  simp only [maxLen] at hle1 hle3
  subst hv0 hv1
  refine enter (N := 26) Try.func95 rfl Try.ntmps95 rfl (Has.nil _) ?_
  refine wc_seq ?_
  refine wc_region ?_
  refine wl_val rfl rfl rfl (y_assign rfl) ?_
  refine wl_nil ?_
  refine q_then ?_
  refine wc_seq ?_
  refine wc_seq ?_
  refine wc_region ?_
  refine wl_val rfl rfl rfl (y_move rfl) ?_
  refine wl_val rfl rfl rfl (y_lenSl Try.underlying31 rfl) ?_
  refine wl_val rfl rfl rfl (y_move rfl) ?_
  refine wl_val rfl rfl rfl (y_lenSl Try.underlying31 rfl) ?_
  refine wl_val rfl rfl rfl (y_neq rfl rfl) ?_
  refine wl_nil ?_
  refine q_then ?_
  refine wc_cond rfl (fun hc0 => ?_) (fun hc0 => ?_)
  · first
    | ((try simp only [bsA, ne_eq] at hc0); exfalso; (first | with_reducible contradiction | omega | (simp at hc0; done)))
    | skip
      try simp only [bsA, ne_eq] at hc0
      refine wc_seq ?_
      refine wc_region ?_
      refine wl_val rfl rfl rfl (y_assign rfl) ?_
      refine wl_nil ?_
      refine q_then ?_
      refine wc_ret ?_
      refine q_thenRet ?_
      apply q_retg (res1 Try.results95 rfl) -- ret 0
      case hΨ =>
        exact ⟨by rw [decide_eq_false (fun e => hc0 (by rw [e]))], rfl⟩
      case hs =>
        exact SubC.out
  · first
    | ((try simp only [bsA, ne_eq] at hc0); exfalso; (first | with_reducible contradiction | omega | (simp at hc0; done)))
    | skip
      try simp only [bsA, ne_eq] at hc0
      refine wc_skip ?_
      refine q_then ?_
      refine wc_seq ?_
      refine wc_seq ?_
      refine wc_region ?_
      refine wl_val rfl rfl rfl (y_assign rfl) ?_
      refine wl_nil ?_
      refine q_then ?_
      refine wc_block ?_
      refine wc_loop (X := Nat) (fun i => [(0, .slice A0 a.length cap0), (1, .slice A1 b.length cap1), (5, .int .i64 (i : Int))]) (fun _ => []) (fun i => i ≤ a.length ∧ a.take i = b.take i) (fun i => a.length - i) (0) ?_ ?_ ?_ ?_
      · exact ⟨by omega, by simp⟩
      · repeat (first | exact SubE.nil | refine SubE.cons rfl ?_ | refine SubE.cons (lk_int rfl (by omega)) ?_ | refine SubE.cons (lk_int rfl (by rfl)) ?_ | refine SubE.cons (lk_eq rfl (by rfl)) ?_)
      · exact SubC.out
      · skip
        rintro i ⟨hi, hti⟩
        have hlen : a.length = b.length := by omega
        refine wc_seq ?_
        refine wc_seq ?_
        refine wc_region ?_
        refine wl_val rfl rfl rfl (y_move rfl) ?_
        refine wl_val rfl rfl rfl (y_move rfl) ?_
        refine wl_val rfl rfl rfl (y_lenSl Try.underlying31 rfl) ?_
        refine wl_val rfl rfl rfl (y_lss rfl rfl) ?_
        refine wl_nil ?_
        refine q_then ?_
        refine wc_cond rfl (fun hc1 => ?_) (fun hc1 => ?_)
        · first
          | ((try simp only [bsA, ne_eq] at hc1); exfalso; (first | with_reducible contradiction | omega | (simp at hc1; done)))
          | skip
            try simp only [bsA, ne_eq] at hc1
            obtain ⟨r, hri⟩ : ∃ r, a[i]? = some r := ⟨a[i]'(by omega), List.getElem?_eq_getElem (by omega)⟩
            obtain ⟨s, hsi⟩ : ∃ s, b[i]? = some s := ⟨b[i]'(by omega), List.getElem?_eq_getElem (by omega)⟩
            refine wc_skip ?_
            refine q_then ?_
            refine wc_seq ?_
            refine wc_block ?_
            refine wc_seq ?_
            refine wa_begin_all (n := 9) (b := #[false, false, false, false, false, false, false, false, false]) mixed rfl rfl ?_
            refine wa_t 0 (by kernel_rfl) rfl rfl rfl rfl (y_move rfl) ?_
            refine wa_t 1 (by kernel_rfl) rfl rfl rfl rfl (y_move rfl) ?_
            refine wa_t 2 (by kernel_rfl) rfl rfl rfl rfl (y_indexEn Try.underlying31 siz162 rfl rfl (by first | exact rd_own | exact rd_in (by assumption) | assumption) (by omega)) ?_
            refine wa_t 3 (by kernel_rfl) rfl rfl rfl rfl (y_loadNE agg162 rfl (rd_in ha) (sg_part hri) r.len (by decide)) ?_
            refine wa_t 4 (by kernel_rfl) rfl rfl rfl rfl (y_move rfl) ?_
            refine wa_t 5 (by kernel_rfl) rfl rfl rfl rfl (y_move rfl) ?_
            refine wa_t 6 (by kernel_rfl) rfl rfl rfl rfl (y_indexEn Try.underlying31 siz162 rfl rfl (by first | exact rd_own | exact rd_in (by assumption) | assumption) (by omega)) ?_
            refine wa_t 7 (by kernel_rfl) rfl rfl rfl rfl (y_loadNE agg162 rfl (rd_in hb) (sg_part hsi) s.len (by decide)) ?_
            refine wa_t 8 (by kernel_rfl) rfl rfl rfl rfl (y_neqAgg Try.eqGuardType162 rfl rfl (eq_sg _ _) (by omega)) ?_
            refine wa_done (by kernel_rfl) ?_
            refine q_then ?_
            first | refine wc_cond rfl (fun hc2 => ?_) (fun hc2 => ?_) | refine wc_condb rfl (fun hc2 => ?_) (fun hc2 => ?_)
            · first
              | ((try simp only [bsA, ne_eq] at hc2); exfalso; (first | with_reducible contradiction | omega | (simp at hc2; done)))
              | skip
                try simp only [bsA, ne_eq] at hc2
                refine wc_seq ?_
                refine wc_region ?_
                refine wl_val rfl rfl rfl (y_assign rfl) ?_
                refine wl_nil ?_
                refine q_then ?_
                refine wc_ret ?_
                refine q_blockRet ?_
                refine q_thenRet ?_
                refine q_thenRet ?_
                refine q_blockRet ?_
                refine q_thenRet ?_
                apply q_retg (res1 Try.results95 rfl) -- ret 1
                case hΨ =>
                  exact ⟨by rw [decide_eq_false (fun e => by rw [e, hsi] at hri; simp_all)], rfl⟩
                case hs =>
                  exact SubC.out
            · first
              | ((try simp only [bsA, ne_eq] at hc2); exfalso; (first | with_reducible contradiction | omega | (simp at hc2; done)))
              | skip
                try simp only [bsA, ne_eq] at hc2
                refine wc_skip ?_
                refine q_blockNormal ?_
                refine q_then ?_
                refine wc_region ?_
                refine wl_val rfl rfl rfl (y_move rfl) ?_
                refine wl_val rfl rfl rfl (y_addn rfl rfl (by omega)) ?_
                refine wl_val rfl rfl rfl (y_assign rfl) ?_
                refine wl_nil ?_
                refine q_again (i + 1) ?_ ?_ ?_ ?_
                · exact ⟨by omega, take_step hri hsi hti (by simpa using hc2)⟩
                · first | omega | (simp; omega) | (simp only []; omega)
                · repeat (first | exact SubE.nil | refine SubE.cons rfl ?_ | refine SubE.cons (lk_int rfl (by omega)) ?_ | refine SubE.cons (lk_int rfl (by rfl)) ?_ | refine SubE.cons (lk_eq rfl (by rfl)) ?_)
                · exact SubC.out
        · first
          | ((try simp only [bsA, ne_eq] at hc1); exfalso; (first | with_reducible contradiction | omega | (simp at hc1; done)))
          | skip
            try simp only [bsA, ne_eq] at hc1
            refine wc_exit ?_
            refine q_thenExit ?_
            refine q_thenExit ?_
            refine q_blockExit ?_
            refine q_then ?_
            refine wc_seq ?_
            refine wc_region ?_
            refine wl_val rfl rfl rfl (y_assign rfl) ?_
            refine wl_nil ?_
            refine q_then ?_
            refine wc_ret ?_
            apply q_retg (res1 Try.results95 rfl) -- ret 2
            case hΨ =>
              exact ⟨by rw [decide_eq_true (by have := hti; rw [List.take_of_length_le (by omega), List.take_of_length_le (by omega)] at this; exact this)], rfl⟩
            case hs =>
              exact SubC.out
theorem c_SameCert (a b : Ct) (w : World) (ha : CtOk w a) (hb : CtOk w b) : Calls Try.prog 65 #[.agg a.cells.toArray, .agg b.cells.toArray] w (RV w (.bool (decide (ctS a b)))) := by
  refine enter (N := 17) Try.func65 rfl Try.ntmps65 rfl (Has.nil _) ?_
  refine wc_seq ?_
  refine wc_region ?_
  (refine wl_ef rfl (ef_box rfl rfl rfl) ?_; rintro _ _ ⟨b2, rfl, rfl⟩)
  (refine wl_ef rfl (ef_box rfl rfl rfl) ?_; rintro _ _ ⟨b3, rfl, rfl⟩)
  refine wl_val rfl rfl rfl (y_assign rfl) ?_
  refine wl_nil ?_
  refine q_then ?_
  refine wc_seq ?_
  refine wc_region ?_
  refine wl_val rfl rfl rfl (y_field0 fa33_0 rfl) ?_
  refine wl_val rfl rfl rfl (y_loadC agg30 rfl) ?_
  refine wl_val rfl rfl rfl (y_field0 fa33_0 rfl) ?_
  refine wl_val rfl rfl rfl (y_loadC agg30 rfl) ?_
  refine wl_val rfl rfl rfl (y_eqlAgg Try.eqGuardType30 rfl rfl (eq_vt _ _) (by omega)) ?_
  refine wl_val rfl rfl rfl (y_move rfl) ?_
  apply wl_andp (d := 16)
  case ht =>
    intro hg1 hK1
    first
      | (refine wl_dead ?_ hK1 rfl; first | with_reducible contradiction | omega | (simp at hg1; done))
      | skip
        try simp only [bsA, ne_eq] at hg1
        refine wl_gval rfl rfl rfl rfl rfl rfl rfl (y_field0 fa33_1 rfl) ?_
        refine wl_gval rfl rfl rfl rfl rfl rfl rfl (y_loadA one31 rfl) ?_
        refine wl_gval rfl rfl rfl rfl rfl rfl rfl (y_field0 fa33_1 rfl) ?_
        refine wl_gval rfl rfl rfl rfl rfl rfl rfl (y_loadA one31 rfl) ?_
        (refine wl_gef rfl rfl rfl rfl rfl (ef_callv0 rfl fun95 rfl (fun _ hw => (c_ref05Same a.signs b.signs _ _ _ (ha.go hw).rd (hb.go hw).rd))) ?_; rintro _ _ ⟨rfl, rfl⟩)
        refine wl_val rfl rfl rfl (y_pickt rfl rfl) ?_
        exact wl_leR hK1 (.cons rfl (by repeat (first | refine LeE.skip ?_ rfl | exact LeE.refl _)))
  case hf =>
    intro hg1 hK1
    first
      | (refine wl_dead ?_ hK1 rfl; first | with_reducible contradiction | omega | (simp at hg1; done))
      | skip
        try simp only [bsA, ne_eq] at hg1
        refine wl_gskip rfl rfl rfl rfl rfl rfl rfl ?_
        refine wl_gskip rfl rfl rfl rfl rfl rfl rfl ?_
        refine wl_gskip rfl rfl rfl rfl rfl rfl rfl ?_
        refine wl_gskip rfl rfl rfl rfl rfl rfl rfl ?_
        refine wl_gskip rfl rfl rfl rfl rfl rfl rfl ?_
        first | refine wl_val rfl rfl rfl (y_pickt rfl rfl) ?_ | refine wl_val rfl rfl rfl (y_pickf rfl rfl) ?_
        exact wl_leR hK1 (.cons rfl (by repeat (first | refine LeE.skip ?_ rfl | exact LeE.refl _)))
  refine wl_val rfl rfl rfl (y_assign rfl) ?_
  refine wl_nil ?_
  refine q_then ?_
  refine wc_ret ?_
  apply q_retg (res1 Try.results65 rfl) -- ret 0
  case hΨ =>
    exact ⟨by simp [ctS], rfl⟩
  case hs =>
    exact SubC.out
theorem c_btSame (a b : Bt) (w : World) (ha : BtOk w a) (hb : BtOk w b) : Calls Try.prog 78 #[.agg a.cells.toArray, .agg b.cells.toArray] w (RV w (.bool (decide (btS a b)))) := c_batSame _ _ _ _ _ _ ha.reqs hb.reqs w ha.rd hb.rd
theorem c_refBtSame (a b : Bt) (w : World) (ha : BtOk w a) (hb : BtOk w b) : Calls Try.prog 25 #[.agg a.cells.toArray, .agg b.cells.toArray] w (RV w (.bool (decide (btS a b)))) := c_refSame _ _ _ _ _ _ ha.reqs hb.reqs w ha.rd hb.rd
theorem c_SameEntry (a b : En) (w : World) (ha : BtOk w a.b) (hb : BtOk w b.b) (ha2 : CtOk w a.c) (hb2 : CtOk w b.c) : Calls Try.prog 21 #[.agg a.cells.toArray, .agg b.cells.toArray] w (RV w (.bool (decide (enS a b)))) := by
  refine enter (N := 24) Try.func21 rfl Try.ntmps21 rfl (Has.nil _) ?_
  refine wc_seq ?_
  refine wc_region ?_
  (refine wl_ef rfl (ef_box rfl rfl rfl) ?_; rintro _ _ ⟨b2, rfl, rfl⟩)
  (refine wl_ef rfl (ef_box rfl rfl rfl) ?_; rintro _ _ ⟨b3, rfl, rfl⟩)
  refine wl_val rfl rfl rfl (y_assign rfl) ?_
  refine wl_nil ?_
  refine q_then ?_
  refine wc_seq ?_
  refine wc_region ?_
  refine wl_val rfl rfl rfl (y_field0 fa40_0 rfl) ?_
  refine wl_val rfl rfl rfl (y_loadA one3 rfl) ?_
  refine wl_val rfl rfl rfl (y_field0 fa40_0 rfl) ?_
  refine wl_val rfl rfl rfl (y_loadA one3 rfl) ?_
  refine wl_val rfl rfl rfl (y_eql rfl rfl) ?_
  refine wl_val rfl rfl rfl (y_move rfl) ?_
  apply wl_andp (d := 16)
  case ht =>
    intro hg1 hK1
    first
      | (refine wl_dead ?_ hK1 rfl; first | with_reducible contradiction | omega | (simp at hg1; done))
      | skip
        try simp only [bsA, ne_eq] at hg1
        refine wl_gval rfl rfl rfl rfl rfl rfl rfl (y_field0 fa40_1 rfl) ?_
        refine wl_gval rfl rfl rfl rfl rfl rfl rfl (y_loadC agg26 rfl) ?_
        refine wl_gval rfl rfl rfl rfl rfl rfl rfl (y_field0 fa40_1 rfl) ?_
        refine wl_gval rfl rfl rfl rfl rfl rfl rfl (y_loadC agg26 rfl) ?_
        (refine wl_gef rfl rfl rfl rfl rfl (ef_callv0 rfl fun25 rfl (fun _ hw => (c_refBtSame _ _ _ (ha.go hw) (hb.go hw)))) ?_; rintro _ _ ⟨rfl, rfl⟩)
        refine wl_val rfl rfl rfl (y_pickt rfl rfl) ?_
        exact wl_leR hK1 (.cons rfl (by repeat (first | refine LeE.skip ?_ rfl | exact LeE.refl _)))
  case hf =>
    intro hg1 hK1
    first
      | (refine wl_dead ?_ hK1 rfl; first | with_reducible contradiction | omega | (simp at hg1; done))
      | skip
        try simp only [bsA, ne_eq] at hg1
        refine wl_gskip rfl rfl rfl rfl rfl rfl rfl ?_
        refine wl_gskip rfl rfl rfl rfl rfl rfl rfl ?_
        refine wl_gskip rfl rfl rfl rfl rfl rfl rfl ?_
        refine wl_gskip rfl rfl rfl rfl rfl rfl rfl ?_
        refine wl_gskip rfl rfl rfl rfl rfl rfl rfl ?_
        first | refine wl_val rfl rfl rfl (y_pickt rfl rfl) ?_ | refine wl_val rfl rfl rfl (y_pickf rfl rfl) ?_
        exact wl_leR hK1 (.cons rfl (by repeat (first | refine LeE.skip ?_ rfl | exact LeE.refl _)))
  refine wl_val rfl rfl rfl (y_move rfl) ?_
  first | apply wl_andp (d := 23) | apply wl_and (d := 23)
  case ht =>
    intro hg2 hK2
    first
      | (refine wl_dead ?_ hK2 rfl; first | with_reducible contradiction | omega | (simp at hg2; done))
      | skip
        try simp only [bsA, ne_eq] at hg2
        refine wl_gval rfl rfl rfl rfl rfl rfl rfl (y_field0 fa40_2 rfl) ?_
        refine wl_gval rfl rfl rfl rfl rfl rfl rfl (y_loadC agg33 rfl) ?_
        refine wl_gval rfl rfl rfl rfl rfl rfl rfl (y_field0 fa40_2 rfl) ?_
        refine wl_gval rfl rfl rfl rfl rfl rfl rfl (y_loadC agg33 rfl) ?_
        (refine wl_gef rfl rfl rfl rfl rfl (ef_callv0 rfl fun65 rfl (fun _ hw => (c_SameCert _ _ _ (ha2.go hw) (hb2.go hw)))) ?_; rintro _ _ ⟨rfl, rfl⟩)
        refine wl_val rfl rfl rfl (y_pickt rfl rfl) ?_
        exact wl_leR hK2 (.cons rfl (by repeat (first | refine LeE.skip ?_ rfl | exact LeE.refl _)))
  case hf =>
    intro hg2 hK2
    first
      | (refine wl_dead ?_ hK2 rfl; first | with_reducible contradiction | omega | (simp at hg2; done))
      | skip
        try simp only [bsA, ne_eq] at hg2
        refine wl_gskip rfl rfl rfl rfl rfl rfl rfl ?_
        refine wl_gskip rfl rfl rfl rfl rfl rfl rfl ?_
        refine wl_gskip rfl rfl rfl rfl rfl rfl rfl ?_
        refine wl_gskip rfl rfl rfl rfl rfl rfl rfl ?_
        refine wl_gskip rfl rfl rfl rfl rfl rfl rfl ?_
        first | refine wl_val rfl rfl rfl (y_pickt rfl rfl) ?_ | refine wl_val rfl rfl rfl (y_pickf rfl rfl) ?_
        exact wl_leR hK2 (.cons rfl (by repeat (first | refine LeE.skip ?_ rfl | exact LeE.refl _)))
  refine wl_val rfl rfl rfl (y_assign rfl) ?_
  refine wl_nil ?_
  refine q_then ?_
  refine wc_ret ?_
  apply q_retg (res1 Try.results21 rfl) -- ret 0
  case hΨ =>
    exact ⟨by simp [enS, and_assoc, Bool.and_assoc], rfl⟩
  case hs =>
    exact SubC.out
theorem he_part {l : List He} {i : Nat} {x : He} (h : l[i]? = some x) : PartOf (l.flatMap He.cells) (i * 39) x.cells := flat_part (fun x _ => x.len) h
theorem he_in {l : List He} {i : Nat} {x : He} (h : l[i]? = some x) {o n : Nat} {us : List Value} (hp : PartOf x.cells o us) : PartOf (l.flatMap He.cells) (i * 39 + o) us := fun j u hu => by
  have := he_part h (o + j) u (hp j u hu)
  rwa [← Nat.add_assoc] at this
theorem c_SameHeld (a b : He) (va vb : Value) (w : World) (ha : RdI w [] va 39 1 a.cells) (hb : RdI w [] vb 39 1 b.cells) (h1 : BtOk w a.b) (h2 : BtOk w b.b) (h3 : CtOk w a.c) (h4 : CtOk w b.c) : Calls Try.prog 64 #[va, vb] w (RV w (.bool (decide (heS a b)))) := by
  obtain ⟨A0, cap0, hv0, hle0, hle1, _⟩ := ha.rd.form
  obtain ⟨A1, cap1, hv1, hle2, hle3, _⟩ := hb.rd.form
  subst hv0 hv1
  have la : 39 ≤ a.cells.length := by rw [a.len]; omega
  have lb : 39 ≤ b.cells.length := by rw [b.len]; omega
  refine enter (N := 43) Try.func64 rfl Try.ntmps64 rfl (Has.nil _) ?_
  refine wc_seq ?_
  refine wc_region ?_
  refine wl_val rfl rfl rfl (y_assign rfl) ?_
  refine wl_nil ?_
  refine q_then ?_
  refine wc_seq ?_
  refine wc_seq ?_
  refine wc_region ?_
  refine wl_val rfl rfl rfl (y_move rfl) ?_
  refine wl_val rfl rfl rfl (y_lenSl Try.underlying120 rfl) ?_
  refine wl_val rfl rfl rfl (y_move rfl) ?_
  refine wl_val rfl rfl rfl (y_lenSl Try.underlying120 rfl) ?_
  refine wl_val rfl rfl rfl (y_neq rfl rfl) ?_
  refine wl_nil ?_
  refine q_then ?_
  refine wc_cond rfl (fun hc0 => ?_) (fun hc0 => ?_)
  · ((try simp only [bsA, ne_eq] at hc0); exfalso; (first | with_reducible contradiction | omega | (simp at hc0; done)))
  · first
    | ((try simp only [bsA, ne_eq] at hc0); exfalso; (first | with_reducible contradiction | omega | (simp at hc0; done)))
    | skip
      try simp only [bsA, ne_eq] at hc0
      refine wc_skip ?_
      refine q_then ?_
      refine wc_seq ?_
      refine wc_seq ?_
      refine wc_region ?_
      refine wl_val rfl rfl rfl (y_assign rfl) ?_
      refine wl_nil ?_
      refine q_then ?_
      refine wc_block ?_
      refine wc_loop (X := Nat) (fun i => [(0, .slice A0 1 cap0), (1, .slice A1 1 cap1), (5, .int .i64 (i : Int))]) (fun _ => []) (fun i => i ≤ 1 ∧ (i = 1 → heS a b)) (fun i => 1 - i) (0) ?_ ?_ ?_ ?_
      · first | trivial | omega | simp
      · repeat (first | exact SubE.nil | refine SubE.cons rfl ?_ | refine SubE.cons (lk_int rfl (by omega)) ?_ | refine SubE.cons (lk_int rfl (by rfl)) ?_ | refine SubE.cons (lk_eq rfl (by rfl)) ?_)
      · exact SubC.out
      · skip
        rintro k ⟨hk, hs⟩
        refine wc_seq ?_
        refine wc_seq ?_
        refine wc_region ?_
        refine wl_val rfl rfl rfl (y_move rfl) ?_
        refine wl_val rfl rfl rfl (y_move rfl) ?_
        refine wl_val rfl rfl rfl (y_lenSl Try.underlying120 rfl) ?_
        refine wl_val rfl rfl rfl (y_lss rfl rfl) ?_
        refine wl_nil ?_
        refine q_then ?_
        refine wc_cond rfl (fun hc1 => ?_) (fun hc1 => ?_)
        · first
          | ((try simp only [bsA, ne_eq] at hc1); exfalso; (first | with_reducible contradiction | omega | (simp at hc1; done)))
          | skip
            try simp only [bsA, ne_eq] at hc1
            obtain rfl : k = 0 := by omega
            refine wc_skip ?_
            refine q_then ?_
            refine wc_seq ?_
            refine wc_block ?_
            refine wc_seq ?_
            refine wa_begin_all (n := 26) (b := #[false, false, false, false, false, false, false, false, false, false, false, false, false, false, false, false, false, false, false, false, false, false, false, false, false, false]) mixed rfl rfl ?_
            refine wa_t 0 (by kernel_rfl) rfl rfl rfl rfl (y_move rfl) ?_
            refine wa_t 1 (by kernel_rfl) rfl rfl rfl rfl (y_move rfl) ?_
            refine wa_t 2 (by kernel_rfl) rfl rfl rfl rfl (y_indexEn Try.underlying120 siz38 rfl rfl (by first | exact rd_own | exact rd_in (by assumption) | assumption) (by omega)) ?_
            refine wa_t 3 (by kernel_rfl) rfl rfl rfl rfl (y_fieldE (k := 0 * 39) fa38_0 rfl (rd_in ha) (by omega)) ?_
            refine wa_t 4 (by kernel_rfl) rfl rfl rfl rfl (y_loadNE (us := a.b.cells) agg26 rfl (rd_in ha) (PartC.out (cs := a.cells) (o := 0) (n := 2)).1 rfl (by decide)) ?_
            refine wa_t 5 (by kernel_rfl) rfl rfl rfl rfl (y_move rfl) ?_
            refine wa_t 6 (by kernel_rfl) rfl rfl rfl rfl (y_move rfl) ?_
            refine wa_t 7 (by kernel_rfl) rfl rfl rfl rfl (y_indexEn Try.underlying120 siz38 rfl rfl (by first | exact rd_own | exact rd_in (by assumption) | assumption) (by omega)) ?_
            refine wa_t 8 (by kernel_rfl) rfl rfl rfl rfl (y_fieldE (k := 0 * 39) fa38_0 rfl (rd_in hb) (by omega)) ?_
            refine wa_t 9 (by kernel_rfl) rfl rfl rfl rfl (y_loadNE (us := b.b.cells) agg26 rfl (rd_in hb) (PartC.out (cs := b.cells) (o := 0) (n := 2)).1 rfl (by decide)) ?_
            (refine wa_e 10 (by kernel_rfl) rfl rfl (ef_callv0 rfl fun25 rfl (fun _ hw => (c_refBtSame _ _ _ (h1.go hw) (h2.go hw)))) ?_; rintro _ _ ⟨rfl, rfl⟩; refine ⟨.inl (by kernel_rfl), ?_⟩)
            refine wa_t 11 (by kernel_rfl) rfl rfl rfl rfl (y_not rfl) ?_
            refine wa_t 12 (by kernel_rfl) rfl rfl rfl rfl (y_move rfl) ?_
            apply wa_orp (d := 42)
            case ht =>
              intro hg1 hK1
              first
                | (refine wa_dead ?_ hK1 rfl; first | with_reducible contradiction | omega | (simp at hg1; done))
                | skip
                  try simp only [bsA, ne_eq] at hg1
                  refine wa_gs 13 (by kernel_rfl) rfl rfl rfl rfl rfl rfl rfl rfl ?_
                  refine wa_gs 14 (by kernel_rfl) rfl rfl rfl rfl rfl rfl rfl rfl ?_
                  refine wa_gs 15 (by kernel_rfl) rfl rfl rfl rfl rfl rfl rfl rfl ?_
                  refine wa_gs 16 (by kernel_rfl) rfl rfl rfl rfl rfl rfl rfl rfl ?_
                  refine wa_gs 17 (by kernel_rfl) rfl rfl rfl rfl rfl rfl rfl rfl ?_
                  refine wa_gs 18 (by kernel_rfl) rfl rfl rfl rfl rfl rfl rfl rfl ?_
                  refine wa_gs 19 (by kernel_rfl) rfl rfl rfl rfl rfl rfl rfl rfl ?_
                  refine wa_gs 20 (by kernel_rfl) rfl rfl rfl rfl rfl rfl rfl rfl ?_
                  refine wa_gs 21 (by kernel_rfl) rfl rfl rfl rfl rfl rfl rfl rfl ?_
                  refine wa_gs 22 (by kernel_rfl) rfl rfl rfl rfl rfl rfl rfl rfl ?_
                  refine wa_gs 23 (by kernel_rfl) rfl rfl rfl rfl rfl rfl rfl rfl ?_
                  refine wa_gs 24 (by kernel_rfl) rfl rfl rfl rfl rfl rfl rfl rfl ?_
                  refine wa_t 25 (by kernel_rfl) rfl rfl rfl rfl (y_pickt rfl rfl) ?_
                  exact wa_leR hK1 (.cons rfl (by repeat (first | refine LeE.skip ?_ rfl | exact LeE.refl _)))
            case hf =>
              intro hg1 hK1
              first
                | (refine wa_dead ?_ hK1 rfl; first | with_reducible contradiction | omega | (simp at hg1; done))
                | skip
                  try simp only [bsA, ne_eq] at hg1
                  refine wa_gt 13 (by kernel_rfl) rfl rfl rfl rfl rfl rfl rfl rfl (y_move rfl) ?_
                  refine wa_gt 14 (by kernel_rfl) rfl rfl rfl rfl rfl rfl rfl rfl (y_move rfl) ?_
                  refine wa_gt 15 (by kernel_rfl) rfl rfl rfl rfl rfl rfl rfl rfl (y_indexEn Try.underlying120 siz38 rfl rfl (by first | exact rd_own | exact rd_in (by assumption) | assumption) (by omega)) ?_
                  refine wa_gt 16 (by kernel_rfl) rfl rfl rfl rfl rfl rfl rfl rfl (y_fieldE (k := 0 * 39) fa38_1 rfl (rd_in ha) (by omega)) ?_
                  refine wa_gt 17 (by kernel_rfl) rfl rfl rfl rfl rfl rfl rfl rfl (y_loadNE (us := a.c.cells) agg33 rfl (rd_in ha) (PartC.out (cs := a.cells) (o := 2) (n := 37)).1 a.c.len (by decide)) ?_
                  refine wa_gt 18 (by kernel_rfl) rfl rfl rfl rfl rfl rfl rfl rfl (y_move rfl) ?_
                  refine wa_gt 19 (by kernel_rfl) rfl rfl rfl rfl rfl rfl rfl rfl (y_move rfl) ?_
                  refine wa_gt 20 (by kernel_rfl) rfl rfl rfl rfl rfl rfl rfl rfl (y_indexEn Try.underlying120 siz38 rfl rfl (by first | exact rd_own | exact rd_in (by assumption) | assumption) (by omega)) ?_
                  refine wa_gt 21 (by kernel_rfl) rfl rfl rfl rfl rfl rfl rfl rfl (y_fieldE (k := 0 * 39) fa38_1 rfl (rd_in hb) (by omega)) ?_
                  refine wa_gt 22 (by kernel_rfl) rfl rfl rfl rfl rfl rfl rfl rfl (y_loadNE (us := b.c.cells) agg33 rfl (rd_in hb) (PartC.out (cs := b.cells) (o := 2) (n := 37)).1 b.c.len (by decide)) ?_
                  (refine wa_ge 23 (by kernel_rfl) rfl rfl rfl rfl rfl rfl (ef_callv0 rfl fun65 rfl (fun _ hw => (c_SameCert _ _ _ (h3.go hw) (h4.go hw)))) ?_; rintro _ _ ⟨rfl, rfl⟩; refine ⟨.inl (by kernel_rfl), ?_⟩)
                  refine wa_gt 24 (by kernel_rfl) rfl rfl rfl rfl rfl rfl rfl rfl (y_not rfl) ?_
                  first | refine wa_t 25 (by kernel_rfl) rfl rfl rfl rfl (y_pickt rfl rfl) ?_ | refine wa_t 25 (by kernel_rfl) rfl rfl rfl rfl (y_pickf rfl rfl) ?_
                  exact wa_leR hK1 (.cons rfl (by repeat (first | refine LeE.skip ?_ rfl | exact LeE.refl _)))
            refine wa_done (by kernel_rfl) ?_
            refine q_then ?_
            first | refine wc_cond rfl (fun hc2 => ?_) (fun hc2 => ?_) | refine wc_condb rfl (fun hc2 => ?_) (fun hc2 => ?_)
            · first
              | ((try simp only [bsA, ne_eq] at hc2); exfalso; (first | with_reducible contradiction | omega | (simp at hc2; done)))
              | skip
                try simp only [bsA, ne_eq] at hc2
                refine wc_seq ?_
                refine wc_region ?_
                refine wl_val rfl rfl rfl (y_assign rfl) ?_
                refine wl_nil ?_
                refine q_then ?_
                refine wc_ret ?_
                refine q_blockRet ?_
                refine q_thenRet ?_
                refine q_thenRet ?_
                refine q_blockRet ?_
                refine q_thenRet ?_
                apply q_retg (res1 Try.results64 rfl) -- ret 1
                case hΨ =>
                  exact ⟨by rw [decide_eq_false (by grind)], rfl⟩
                case hs =>
                  exact SubC.out
            · first
              | ((try simp only [bsA, ne_eq] at hc2); exfalso; (first | with_reducible contradiction | omega | (simp at hc2; done)))
              | skip
                try simp only [bsA, ne_eq] at hc2
                refine wc_skip ?_
                refine q_blockNormal ?_
                refine q_then ?_
                refine wc_region ?_
                refine wl_val rfl rfl rfl (y_move rfl) ?_
                refine wl_val rfl rfl rfl (y_addn rfl rfl (by omega)) ?_
                refine wl_val rfl rfl rfl (y_assign rfl) ?_
                refine wl_nil ?_
                refine q_again (1) ?_ ?_ ?_ ?_
                · exact ⟨by omega, fun _ => by grind⟩
                · first | omega | (simp; omega) | (simp only []; omega)
                · repeat (first | exact SubE.nil | refine SubE.cons rfl ?_ | refine SubE.cons (lk_int rfl (by omega)) ?_ | refine SubE.cons (lk_int rfl (by rfl)) ?_ | refine SubE.cons (lk_eq rfl (by rfl)) ?_)
                · exact SubC.out
        · first
          | ((try simp only [bsA, ne_eq] at hc1); exfalso; (first | with_reducible contradiction | omega | (simp at hc1; done)))
          | skip
            try simp only [bsA, ne_eq] at hc1
            refine wc_exit ?_
            refine q_thenExit ?_
            refine q_thenExit ?_
            refine q_blockExit ?_
            refine q_then ?_
            refine wc_seq ?_
            refine wc_region ?_
            refine wl_val rfl rfl rfl (y_assign rfl) ?_
            refine wl_nil ?_
            refine q_then ?_
            refine wc_ret ?_
            apply q_retg (res1 Try.results64 rfl) -- ret 2
            case hΨ =>
              exact ⟨by rw [decide_eq_true (hs (by omega))], rfl⟩
            case hs =>
              exact SubC.out
theorem c_slSame (a b : Sl) (w : World) (ha : SlOk w a) (hb : SlOk w b) : Calls Try.prog 37 #[.agg a.cells.toArray, .agg b.cells.toArray] w (RV w (.bool (decide (slS a b)))) := by
  refine enter (N := 83) Try.func37 rfl Try.ntmps37 rfl (Has.nil _) ?_
  refine wc_seq ?_
  refine wc_region ?_
  (refine wl_ef rfl (ef_box rfl rfl rfl) ?_; rintro _ _ ⟨b2, rfl, rfl⟩)
  (refine wl_ef rfl (ef_box rfl rfl rfl) ?_; rintro _ _ ⟨b3, rfl, rfl⟩)
  refine wl_val rfl rfl rfl (y_assign rfl) ?_
  refine wl_nil ?_
  refine q_then ?_
  refine wc_seq ?_
  refine wc_region ?_
  refine wl_val rfl rfl rfl (y_field0 fa42_0 rfl) ?_
  refine wl_val rfl rfl rfl (y_loadA one3 rfl) ?_
  refine wl_val rfl rfl rfl (y_field0 fa42_0 rfl) ?_
  refine wl_val rfl rfl rfl (y_loadA one3 rfl) ?_
  refine wl_val rfl rfl rfl (y_eql rfl rfl) ?_
  refine wl_val rfl rfl rfl (y_move rfl) ?_
  apply wl_andp (d := 16)
  case ht =>
    intro hg1 hK1
    first
      | (refine wl_dead ?_ hK1 rfl; first | with_reducible contradiction | omega | (simp at hg1; done))
      | skip
        try simp only [bsA, ne_eq] at hg1
        refine wl_gval rfl rfl rfl rfl rfl rfl rfl (y_field0 fa42_2 rfl) ?_
        refine wl_gval rfl rfl rfl rfl rfl rfl rfl (y_loadA one4 rfl) ?_
        refine wl_gval rfl rfl rfl rfl rfl rfl rfl (y_field0 fa42_2 rfl) ?_
        refine wl_gval rfl rfl rfl rfl rfl rfl rfl (y_loadA one4 rfl) ?_
        refine wl_gval rfl rfl rfl rfl rfl rfl rfl (y_eqlBool Try.underlying4 rfl rfl) ?_
        refine wl_val rfl rfl rfl (y_pickt rfl rfl) ?_
        exact wl_leR hK1 (.cons rfl (by repeat (first | refine LeE.skip ?_ rfl | exact LeE.refl _)))
  case hf =>
    intro hg1 hK1
    first
      | (refine wl_dead ?_ hK1 rfl; first | with_reducible contradiction | omega | (simp at hg1; done))
      | skip
        try simp only [bsA, ne_eq] at hg1
        refine wl_gskip rfl rfl rfl rfl rfl rfl rfl ?_
        refine wl_gskip rfl rfl rfl rfl rfl rfl rfl ?_
        refine wl_gskip rfl rfl rfl rfl rfl rfl rfl ?_
        refine wl_gskip rfl rfl rfl rfl rfl rfl rfl ?_
        refine wl_gskip rfl rfl rfl rfl rfl rfl rfl ?_
        first | refine wl_val rfl rfl rfl (y_pickt rfl rfl) ?_ | refine wl_val rfl rfl rfl (y_pickf rfl rfl) ?_
        exact wl_leR hK1 (.cons rfl (by repeat (first | refine LeE.skip ?_ rfl | exact LeE.refl _)))
  refine wl_val rfl rfl rfl (y_move rfl) ?_
  first | apply wl_andp (d := 23) | apply wl_and (d := 23)
  case ht =>
    intro hg2 hK2
    first
      | (refine wl_dead ?_ hK2 rfl; first | with_reducible contradiction | omega | (simp at hg2; done))
      | skip
        try simp only [bsA, ne_eq] at hg2
        refine wl_gval rfl rfl rfl rfl rfl rfl rfl (y_field0 fa42_4 rfl) ?_
        refine wl_gval rfl rfl rfl rfl rfl rfl rfl (y_loadA one4 rfl) ?_
        refine wl_gval rfl rfl rfl rfl rfl rfl rfl (y_field0 fa42_4 rfl) ?_
        refine wl_gval rfl rfl rfl rfl rfl rfl rfl (y_loadA one4 rfl) ?_
        refine wl_gval rfl rfl rfl rfl rfl rfl rfl (y_eqlBool Try.underlying4 rfl rfl) ?_
        refine wl_val rfl rfl rfl (y_pickt rfl rfl) ?_
        exact wl_leR hK2 (.cons rfl (by repeat (first | refine LeE.skip ?_ rfl | exact LeE.refl _)))
  case hf =>
    intro hg2 hK2
    first
      | (refine wl_dead ?_ hK2 rfl; first | with_reducible contradiction | omega | (simp at hg2; done))
      | skip
        try simp only [bsA, ne_eq] at hg2
        refine wl_gskip rfl rfl rfl rfl rfl rfl rfl ?_
        refine wl_gskip rfl rfl rfl rfl rfl rfl rfl ?_
        refine wl_gskip rfl rfl rfl rfl rfl rfl rfl ?_
        refine wl_gskip rfl rfl rfl rfl rfl rfl rfl ?_
        refine wl_gskip rfl rfl rfl rfl rfl rfl rfl ?_
        first | refine wl_val rfl rfl rfl (y_pickt rfl rfl) ?_ | refine wl_val rfl rfl rfl (y_pickf rfl rfl) ?_
        exact wl_leR hK2 (.cons rfl (by repeat (first | refine LeE.skip ?_ rfl | exact LeE.refl _)))
  refine wl_val rfl rfl rfl (y_move rfl) ?_
  first | apply wl_andp (d := 30) | apply wl_and (d := 30)
  case ht =>
    intro hg3 hK3
    first
      | (refine wl_dead ?_ hK3 rfl; first | with_reducible contradiction | omega | (simp at hg3; done))
      | skip
        try simp only [bsA, ne_eq] at hg3
        refine wl_gval rfl rfl rfl rfl rfl rfl rfl (y_field0 fa42_6 rfl) ?_
        refine wl_gval rfl rfl rfl rfl rfl rfl rfl (y_loadA one4 rfl) ?_
        refine wl_gval rfl rfl rfl rfl rfl rfl rfl (y_field0 fa42_6 rfl) ?_
        refine wl_gval rfl rfl rfl rfl rfl rfl rfl (y_loadA one4 rfl) ?_
        refine wl_gval rfl rfl rfl rfl rfl rfl rfl (y_eqlBool Try.underlying4 rfl rfl) ?_
        refine wl_val rfl rfl rfl (y_pickt rfl rfl) ?_
        exact wl_leR hK3 (.cons rfl (by repeat (first | refine LeE.skip ?_ rfl | exact LeE.refl _)))
  case hf =>
    intro hg3 hK3
    first
      | (refine wl_dead ?_ hK3 rfl; first | with_reducible contradiction | omega | (simp at hg3; done))
      | skip
        try simp only [bsA, ne_eq] at hg3
        refine wl_gskip rfl rfl rfl rfl rfl rfl rfl ?_
        refine wl_gskip rfl rfl rfl rfl rfl rfl rfl ?_
        refine wl_gskip rfl rfl rfl rfl rfl rfl rfl ?_
        refine wl_gskip rfl rfl rfl rfl rfl rfl rfl ?_
        refine wl_gskip rfl rfl rfl rfl rfl rfl rfl ?_
        first | refine wl_val rfl rfl rfl (y_pickt rfl rfl) ?_ | refine wl_val rfl rfl rfl (y_pickf rfl rfl) ?_
        exact wl_leR hK3 (.cons rfl (by repeat (first | refine LeE.skip ?_ rfl | exact LeE.refl _)))
  refine wl_val rfl rfl rfl (y_move rfl) ?_
  first | apply wl_andp (d := 39) | apply wl_and (d := 39)
  case ht =>
    intro hg4 hK4
    first
      | (refine wl_dead ?_ hK4 rfl; first | with_reducible contradiction | omega | (simp at hg4; done))
      | skip
        try simp only [bsA, ne_eq] at hg4
        refine wl_gval rfl rfl rfl rfl rfl rfl rfl (y_field0 fa42_5 rfl) ?_
        first | refine wl_gval rfl rfl rfl rfl rfl rfl rfl (y_field0 fa40_0 rfl) ?_ | refine wl_gval rfl rfl rfl rfl rfl rfl rfl (y_fieldN fa40_0 rfl (by simp only [Nat.reduceAdd]; rfl)) ?_
        refine wl_gval rfl rfl rfl rfl rfl rfl rfl (y_loadA one3 rfl) ?_
        refine wl_gval rfl rfl rfl rfl rfl rfl rfl (y_field0 fa42_5 rfl) ?_
        first | refine wl_gval rfl rfl rfl rfl rfl rfl rfl (y_field0 fa40_0 rfl) ?_ | refine wl_gval rfl rfl rfl rfl rfl rfl rfl (y_fieldN fa40_0 rfl (by simp only [Nat.reduceAdd]; rfl)) ?_
        refine wl_gval rfl rfl rfl rfl rfl rfl rfl (y_loadA one3 rfl) ?_
        refine wl_gval rfl rfl rfl rfl rfl rfl rfl (y_eql rfl rfl) ?_
        refine wl_val rfl rfl rfl (y_pickt rfl rfl) ?_
        exact wl_leR hK4 (.cons rfl (by repeat (first | refine LeE.skip ?_ rfl | exact LeE.refl _)))
  case hf =>
    intro hg4 hK4
    first
      | (refine wl_dead ?_ hK4 rfl; first | with_reducible contradiction | omega | (simp at hg4; done))
      | skip
        try simp only [bsA, ne_eq] at hg4
        refine wl_gskip rfl rfl rfl rfl rfl rfl rfl ?_
        refine wl_gskip rfl rfl rfl rfl rfl rfl rfl ?_
        refine wl_gskip rfl rfl rfl rfl rfl rfl rfl ?_
        refine wl_gskip rfl rfl rfl rfl rfl rfl rfl ?_
        refine wl_gskip rfl rfl rfl rfl rfl rfl rfl ?_
        refine wl_gskip rfl rfl rfl rfl rfl rfl rfl ?_
        refine wl_gskip rfl rfl rfl rfl rfl rfl rfl ?_
        first | refine wl_val rfl rfl rfl (y_pickt rfl rfl) ?_ | refine wl_val rfl rfl rfl (y_pickf rfl rfl) ?_
        exact wl_leR hK4 (.cons rfl (by repeat (first | refine LeE.skip ?_ rfl | exact LeE.refl _)))
  refine wl_val rfl rfl rfl (y_move rfl) ?_
  first | apply wl_andp (d := 46) | apply wl_and (d := 46)
  case ht =>
    intro hg5 hK5
    first
      | (refine wl_dead ?_ hK5 rfl; first | with_reducible contradiction | omega | (simp at hg5; done))
      | skip
        try simp only [bsA, ne_eq] at hg5
        refine wl_gval rfl rfl rfl rfl rfl rfl rfl (y_field0 fa42_1 rfl) ?_
        refine wl_gval rfl rfl rfl rfl rfl rfl rfl (y_loadC agg26 rfl) ?_
        refine wl_gval rfl rfl rfl rfl rfl rfl rfl (y_field0 fa42_1 rfl) ?_
        refine wl_gval rfl rfl rfl rfl rfl rfl rfl (y_loadC agg26 rfl) ?_
        (refine wl_gef rfl rfl rfl rfl rfl (ef_callv0 rfl fun78 rfl (fun _ hw => (c_btSame _ _ _ (ha.b.go hw) (hb.b.go hw)))) ?_; rintro _ _ ⟨rfl, rfl⟩)
        refine wl_val rfl rfl rfl (y_pickt rfl rfl) ?_
        exact wl_leR hK5 (.cons rfl (by repeat (first | refine LeE.skip ?_ rfl | exact LeE.refl _)))
  case hf =>
    intro hg5 hK5
    first
      | (refine wl_dead ?_ hK5 rfl; first | with_reducible contradiction | omega | (simp at hg5; done))
      | skip
        try simp only [bsA, ne_eq] at hg5
        refine wl_gskip rfl rfl rfl rfl rfl rfl rfl ?_
        refine wl_gskip rfl rfl rfl rfl rfl rfl rfl ?_
        refine wl_gskip rfl rfl rfl rfl rfl rfl rfl ?_
        refine wl_gskip rfl rfl rfl rfl rfl rfl rfl ?_
        refine wl_gskip rfl rfl rfl rfl rfl rfl rfl ?_
        first | refine wl_val rfl rfl rfl (y_pickt rfl rfl) ?_ | refine wl_val rfl rfl rfl (y_pickf rfl rfl) ?_
        exact wl_leR hK5 (.cons rfl (by repeat (first | refine LeE.skip ?_ rfl | exact LeE.refl _)))
  refine wl_val rfl rfl rfl (y_move rfl) ?_
  first | apply wl_andp (d := 55) | apply wl_and (d := 55)
  case ht =>
    intro hg6 hK6
    first
      | (refine wl_dead ?_ hK6 rfl; first | with_reducible contradiction | omega | (simp at hg6; done))
      | skip
        try simp only [bsA, ne_eq] at hg6
        refine wl_gval rfl rfl rfl rfl rfl rfl rfl (y_field0 fa42_3 rfl) ?_
        first | refine wl_gval rfl rfl rfl rfl rfl rfl rfl (y_field0 fa38_0 rfl) ?_ | refine wl_gval rfl rfl rfl rfl rfl rfl rfl (y_fieldN fa38_0 rfl (by simp only [Nat.reduceAdd]; rfl)) ?_
        refine wl_gval rfl rfl rfl rfl rfl rfl rfl (y_loadC agg26 rfl) ?_
        refine wl_gval rfl rfl rfl rfl rfl rfl rfl (y_field0 fa42_3 rfl) ?_
        first | refine wl_gval rfl rfl rfl rfl rfl rfl rfl (y_field0 fa38_0 rfl) ?_ | refine wl_gval rfl rfl rfl rfl rfl rfl rfl (y_fieldN fa38_0 rfl (by simp only [Nat.reduceAdd]; rfl)) ?_
        refine wl_gval rfl rfl rfl rfl rfl rfl rfl (y_loadC agg26 rfl) ?_
        first | (refine wl_gef rfl rfl rfl rfl rfl (ef_callv0 rfl fun78 rfl (fun _ hw => (c_btSame _ _ _ (ha.b.go hw) (hb.b.go hw)))) ?_; rintro _ _ ⟨rfl, rfl⟩) | (refine wl_gef rfl rfl rfl rfl rfl (ef_callv0 rfl fun78 rfl (fun _ hw => (c_btSame _ _ _ (ha.hb.go hw) (hb.hb.go hw)))) ?_; rintro _ _ ⟨rfl, rfl⟩)
        refine wl_val rfl rfl rfl (y_pickt rfl rfl) ?_
        exact wl_leR hK6 (.cons rfl (by repeat (first | refine LeE.skip ?_ rfl | exact LeE.refl _)))
  case hf =>
    intro hg6 hK6
    first
      | (refine wl_dead ?_ hK6 rfl; first | with_reducible contradiction | omega | (simp at hg6; done))
      | skip
        try simp only [bsA, ne_eq] at hg6
        refine wl_gskip rfl rfl rfl rfl rfl rfl rfl ?_
        refine wl_gskip rfl rfl rfl rfl rfl rfl rfl ?_
        refine wl_gskip rfl rfl rfl rfl rfl rfl rfl ?_
        refine wl_gskip rfl rfl rfl rfl rfl rfl rfl ?_
        refine wl_gskip rfl rfl rfl rfl rfl rfl rfl ?_
        refine wl_gskip rfl rfl rfl rfl rfl rfl rfl ?_
        refine wl_gskip rfl rfl rfl rfl rfl rfl rfl ?_
        first | refine wl_val rfl rfl rfl (y_pickt rfl rfl) ?_ | refine wl_val rfl rfl rfl (y_pickf rfl rfl) ?_
        exact wl_leR hK6 (.cons rfl (by repeat (first | refine LeE.skip ?_ rfl | exact LeE.refl _)))
  refine wl_val rfl rfl rfl (y_move rfl) ?_
  first | apply wl_andp (d := 64) | apply wl_and (d := 64)
  case ht =>
    intro hg7 hK7
    first
      | (refine wl_dead ?_ hK7 rfl; first | with_reducible contradiction | omega | (simp at hg7; done))
      | skip
        try simp only [bsA, ne_eq] at hg7
        refine wl_gval rfl rfl rfl rfl rfl rfl rfl (y_field0 fa42_5 rfl) ?_
        first | refine wl_gval rfl rfl rfl rfl rfl rfl rfl (y_field0 fa40_1 rfl) ?_ | refine wl_gval rfl rfl rfl rfl rfl rfl rfl (y_fieldN fa40_1 rfl (by simp only [Nat.reduceAdd]; rfl)) ?_
        refine wl_gval rfl rfl rfl rfl rfl rfl rfl (y_loadC agg26 rfl) ?_
        refine wl_gval rfl rfl rfl rfl rfl rfl rfl (y_field0 fa42_5 rfl) ?_
        first | refine wl_gval rfl rfl rfl rfl rfl rfl rfl (y_field0 fa40_1 rfl) ?_ | refine wl_gval rfl rfl rfl rfl rfl rfl rfl (y_fieldN fa40_1 rfl (by simp only [Nat.reduceAdd]; rfl)) ?_
        refine wl_gval rfl rfl rfl rfl rfl rfl rfl (y_loadC agg26 rfl) ?_
        first | (refine wl_gef rfl rfl rfl rfl rfl (ef_callv0 rfl fun78 rfl (fun _ hw => (c_btSame _ _ _ (ha.b.go hw) (hb.b.go hw)))) ?_; rintro _ _ ⟨rfl, rfl⟩) | (refine wl_gef rfl rfl rfl rfl rfl (ef_callv0 rfl fun78 rfl (fun _ hw => (c_btSame _ _ _ (ha.hb.go hw) (hb.hb.go hw)))) ?_; rintro _ _ ⟨rfl, rfl⟩) | (refine wl_gef rfl rfl rfl rfl rfl (ef_callv0 rfl fun78 rfl (fun _ hw => (c_btSame _ _ _ (ha.eb.go hw) (hb.eb.go hw)))) ?_; rintro _ _ ⟨rfl, rfl⟩)
        refine wl_val rfl rfl rfl (y_pickt rfl rfl) ?_
        exact wl_leR hK7 (.cons rfl (by repeat (first | refine LeE.skip ?_ rfl | exact LeE.refl _)))
  case hf =>
    intro hg7 hK7
    first
      | (refine wl_dead ?_ hK7 rfl; first | with_reducible contradiction | omega | (simp at hg7; done))
      | skip
        try simp only [bsA, ne_eq] at hg7
        refine wl_gskip rfl rfl rfl rfl rfl rfl rfl ?_
        refine wl_gskip rfl rfl rfl rfl rfl rfl rfl ?_
        refine wl_gskip rfl rfl rfl rfl rfl rfl rfl ?_
        refine wl_gskip rfl rfl rfl rfl rfl rfl rfl ?_
        refine wl_gskip rfl rfl rfl rfl rfl rfl rfl ?_
        refine wl_gskip rfl rfl rfl rfl rfl rfl rfl ?_
        refine wl_gskip rfl rfl rfl rfl rfl rfl rfl ?_
        first | refine wl_val rfl rfl rfl (y_pickt rfl rfl) ?_ | refine wl_val rfl rfl rfl (y_pickf rfl rfl) ?_
        exact wl_leR hK7 (.cons rfl (by repeat (first | refine LeE.skip ?_ rfl | exact LeE.refl _)))
  refine wl_val rfl rfl rfl (y_move rfl) ?_
  first | apply wl_andp (d := 73) | apply wl_and (d := 73)
  case ht =>
    intro hg8 hK8
    first
      | (refine wl_dead ?_ hK8 rfl; first | with_reducible contradiction | omega | (simp at hg8; done))
      | skip
        try simp only [bsA, ne_eq] at hg8
        refine wl_gval rfl rfl rfl rfl rfl rfl rfl (y_field0 fa42_3 rfl) ?_
        first | refine wl_gval rfl rfl rfl rfl rfl rfl rfl (y_field0 fa38_1 rfl) ?_ | refine wl_gval rfl rfl rfl rfl rfl rfl rfl (y_fieldN fa38_1 rfl (by simp only [Nat.reduceAdd]; rfl)) ?_
        refine wl_gval rfl rfl rfl rfl rfl rfl rfl (y_loadC agg33 rfl) ?_
        refine wl_gval rfl rfl rfl rfl rfl rfl rfl (y_field0 fa42_3 rfl) ?_
        first | refine wl_gval rfl rfl rfl rfl rfl rfl rfl (y_field0 fa38_1 rfl) ?_ | refine wl_gval rfl rfl rfl rfl rfl rfl rfl (y_fieldN fa38_1 rfl (by simp only [Nat.reduceAdd]; rfl)) ?_
        refine wl_gval rfl rfl rfl rfl rfl rfl rfl (y_loadC agg33 rfl) ?_
        (refine wl_gef rfl rfl rfl rfl rfl (ef_callv0 rfl fun79 rfl (fun _ hw => (c_sameCert _ _ _ (ha.hc.go hw) (hb.hc.go hw)))) ?_; rintro _ _ ⟨rfl, rfl⟩)
        refine wl_val rfl rfl rfl (y_pickt rfl rfl) ?_
        exact wl_leR hK8 (.cons rfl (by repeat (first | refine LeE.skip ?_ rfl | exact LeE.refl _)))
  case hf =>
    intro hg8 hK8
    first
      | (refine wl_dead ?_ hK8 rfl; first | with_reducible contradiction | omega | (simp at hg8; done))
      | skip
        try simp only [bsA, ne_eq] at hg8
        refine wl_gskip rfl rfl rfl rfl rfl rfl rfl ?_
        refine wl_gskip rfl rfl rfl rfl rfl rfl rfl ?_
        refine wl_gskip rfl rfl rfl rfl rfl rfl rfl ?_
        refine wl_gskip rfl rfl rfl rfl rfl rfl rfl ?_
        refine wl_gskip rfl rfl rfl rfl rfl rfl rfl ?_
        refine wl_gskip rfl rfl rfl rfl rfl rfl rfl ?_
        refine wl_gskip rfl rfl rfl rfl rfl rfl rfl ?_
        first | refine wl_val rfl rfl rfl (y_pickt rfl rfl) ?_ | refine wl_val rfl rfl rfl (y_pickf rfl rfl) ?_
        exact wl_leR hK8 (.cons rfl (by repeat (first | refine LeE.skip ?_ rfl | exact LeE.refl _)))
  refine wl_val rfl rfl rfl (y_move rfl) ?_
  first | apply wl_andp (d := 82) | apply wl_and (d := 82)
  case ht =>
    intro hg9 hK9
    first
      | (refine wl_dead ?_ hK9 rfl; first | with_reducible contradiction | omega | (simp at hg9; done))
      | skip
        try simp only [bsA, ne_eq] at hg9
        refine wl_gval rfl rfl rfl rfl rfl rfl rfl (y_field0 fa42_5 rfl) ?_
        first | refine wl_gval rfl rfl rfl rfl rfl rfl rfl (y_field0 fa40_2 rfl) ?_ | refine wl_gval rfl rfl rfl rfl rfl rfl rfl (y_fieldN fa40_2 rfl (by simp only [Nat.reduceAdd]; rfl)) ?_
        refine wl_gval rfl rfl rfl rfl rfl rfl rfl (y_loadC agg33 rfl) ?_
        refine wl_gval rfl rfl rfl rfl rfl rfl rfl (y_field0 fa42_5 rfl) ?_
        first | refine wl_gval rfl rfl rfl rfl rfl rfl rfl (y_field0 fa40_2 rfl) ?_ | refine wl_gval rfl rfl rfl rfl rfl rfl rfl (y_fieldN fa40_2 rfl (by simp only [Nat.reduceAdd]; rfl)) ?_
        refine wl_gval rfl rfl rfl rfl rfl rfl rfl (y_loadC agg33 rfl) ?_
        first | (refine wl_gef rfl rfl rfl rfl rfl (ef_callv0 rfl fun79 rfl (fun _ hw => (c_sameCert _ _ _ (ha.hc.go hw) (hb.hc.go hw)))) ?_; rintro _ _ ⟨rfl, rfl⟩) | (refine wl_gef rfl rfl rfl rfl rfl (ef_callv0 rfl fun79 rfl (fun _ hw => (c_sameCert _ _ _ (ha.ec.go hw) (hb.ec.go hw)))) ?_; rintro _ _ ⟨rfl, rfl⟩)
        refine wl_val rfl rfl rfl (y_pickt rfl rfl) ?_
        exact wl_leR hK9 (.cons rfl (by repeat (first | refine LeE.skip ?_ rfl | exact LeE.refl _)))
  case hf =>
    intro hg9 hK9
    first
      | (refine wl_dead ?_ hK9 rfl; first | with_reducible contradiction | omega | (simp at hg9; done))
      | skip
        try simp only [bsA, ne_eq] at hg9
        refine wl_gskip rfl rfl rfl rfl rfl rfl rfl ?_
        refine wl_gskip rfl rfl rfl rfl rfl rfl rfl ?_
        refine wl_gskip rfl rfl rfl rfl rfl rfl rfl ?_
        refine wl_gskip rfl rfl rfl rfl rfl rfl rfl ?_
        refine wl_gskip rfl rfl rfl rfl rfl rfl rfl ?_
        refine wl_gskip rfl rfl rfl rfl rfl rfl rfl ?_
        refine wl_gskip rfl rfl rfl rfl rfl rfl rfl ?_
        first | refine wl_val rfl rfl rfl (y_pickt rfl rfl) ?_ | refine wl_val rfl rfl rfl (y_pickf rfl rfl) ?_
        exact wl_leR hK9 (.cons rfl (by repeat (first | refine LeE.skip ?_ rfl | exact LeE.refl _)))
  refine wl_val rfl rfl rfl (y_assign rfl) ?_
  refine wl_nil ?_
  refine q_then ?_
  refine wc_ret ?_
  apply q_retg (res1 Try.results37 rfl) -- ret 0
  case hΨ =>
    exact ⟨by congr 1; rw [Bool.eq_iff_iff]; simp only [Bool.and_eq_true, decide_eq_true_eq, slS, heS, enS]; grind, rfl⟩
  case hs =>
    exact SubC.out
theorem c_refSlSame (a b : Sl) (w : World) (ha : SlOk w a) (hb : SlOk w b) : Calls Try.prog 19 #[.agg a.cells.toArray, .agg b.cells.toArray] w (RV w (.bool (decide (slS a b)))) := by
  refine enter (N := 52) Try.func19 rfl Try.ntmps19 rfl (Has.nil _) ?_
  refine wc_seq ?_
  refine wc_region ?_
  (refine wl_ef rfl (ef_box rfl rfl rfl) ?_; rintro _ _ ⟨b2, rfl, rfl⟩)
  (refine wl_ef rfl (ef_box rfl rfl rfl) ?_; rintro _ _ ⟨b3, rfl, rfl⟩)
  refine wl_val rfl rfl rfl (y_assign rfl) ?_
  refine wl_nil ?_
  refine q_then ?_
  refine wc_seq ?_
  refine wc_seq ?_
  refine wc_region ?_
  refine wl_val rfl rfl rfl (y_field0 fa50_0 rfl) ?_
  refine wl_val rfl rfl rfl (y_loadA one3 rfl) ?_
  refine wl_val rfl rfl rfl (y_field0 fa50_0 rfl) ?_
  refine wl_val rfl rfl rfl (y_loadA one3 rfl) ?_
  refine wl_val rfl rfl rfl (y_neq rfl rfl) ?_
  refine wl_val rfl rfl rfl (y_move rfl) ?_
  apply wl_orp (d := 16)
  case ht =>
    intro hg1 hK1
    first
      | (refine wl_dead ?_ hK1 rfl; first | with_reducible contradiction | omega | (simp at hg1; done))
      | skip
        try simp only [bsA, ne_eq] at hg1
        refine wl_gskip rfl rfl rfl rfl rfl rfl rfl ?_
        refine wl_gskip rfl rfl rfl rfl rfl rfl rfl ?_
        refine wl_gskip rfl rfl rfl rfl rfl rfl rfl ?_
        refine wl_gskip rfl rfl rfl rfl rfl rfl rfl ?_
        refine wl_gskip rfl rfl rfl rfl rfl rfl rfl ?_
        refine wl_val rfl rfl rfl (y_pickt rfl rfl) ?_
        exact wl_leR hK1 (.cons rfl (by repeat (first | refine LeE.skip ?_ rfl | exact LeE.refl _)))
  case hf =>
    intro hg1 hK1
    first
      | (refine wl_dead ?_ hK1 rfl; first | with_reducible contradiction | omega | (simp at hg1; done))
      | skip
        try simp only [bsA, ne_eq] at hg1
        refine wl_gval rfl rfl rfl rfl rfl rfl rfl (y_field0 fa50_2 rfl) ?_
        refine wl_gval rfl rfl rfl rfl rfl rfl rfl (y_loadA one4 rfl) ?_
        refine wl_gval rfl rfl rfl rfl rfl rfl rfl (y_field0 fa50_2 rfl) ?_
        refine wl_gval rfl rfl rfl rfl rfl rfl rfl (y_loadA one4 rfl) ?_
        refine wl_gval rfl rfl rfl rfl rfl rfl rfl (y_neqBool Try.underlying4 rfl rfl) ?_
        first | refine wl_val rfl rfl rfl (y_pickt rfl rfl) ?_ | refine wl_val rfl rfl rfl (y_pickf rfl rfl) ?_
        exact wl_leR hK1 (.cons rfl (by repeat (first | refine LeE.skip ?_ rfl | exact LeE.refl _)))
  refine wl_val rfl rfl rfl (y_move rfl) ?_
  first | apply wl_orp (d := 23) | apply wl_or (d := 23)
  case ht =>
    intro hg2 hK2
    first
      | (refine wl_dead ?_ hK2 rfl; first | with_reducible contradiction | omega | (simp at hg2; done))
      | skip
        try simp only [bsA, ne_eq] at hg2
        refine wl_gskip rfl rfl rfl rfl rfl rfl rfl ?_
        refine wl_gskip rfl rfl rfl rfl rfl rfl rfl ?_
        refine wl_gskip rfl rfl rfl rfl rfl rfl rfl ?_
        refine wl_gskip rfl rfl rfl rfl rfl rfl rfl ?_
        refine wl_gskip rfl rfl rfl rfl rfl rfl rfl ?_
        refine wl_val rfl rfl rfl (y_pickt rfl rfl) ?_
        exact wl_leR hK2 (.cons rfl (by repeat (first | refine LeE.skip ?_ rfl | exact LeE.refl _)))
  case hf =>
    intro hg2 hK2
    first
      | (refine wl_dead ?_ hK2 rfl; first | with_reducible contradiction | omega | (simp at hg2; done))
      | skip
        try simp only [bsA, ne_eq] at hg2
        refine wl_gval rfl rfl rfl rfl rfl rfl rfl (y_field0 fa50_4 rfl) ?_
        refine wl_gval rfl rfl rfl rfl rfl rfl rfl (y_loadA one4 rfl) ?_
        refine wl_gval rfl rfl rfl rfl rfl rfl rfl (y_field0 fa50_4 rfl) ?_
        refine wl_gval rfl rfl rfl rfl rfl rfl rfl (y_loadA one4 rfl) ?_
        refine wl_gval rfl rfl rfl rfl rfl rfl rfl (y_neqBool Try.underlying4 rfl rfl) ?_
        first | refine wl_val rfl rfl rfl (y_pickt rfl rfl) ?_ | refine wl_val rfl rfl rfl (y_pickf rfl rfl) ?_
        exact wl_leR hK2 (.cons rfl (by repeat (first | refine LeE.skip ?_ rfl | exact LeE.refl _)))
  refine wl_val rfl rfl rfl (y_move rfl) ?_
  first | apply wl_orp (d := 30) | apply wl_or (d := 30)
  case ht =>
    intro hg3 hK3
    first
      | (refine wl_dead ?_ hK3 rfl; first | with_reducible contradiction | omega | (simp at hg3; done))
      | skip
        try simp only [bsA, ne_eq] at hg3
        refine wl_gskip rfl rfl rfl rfl rfl rfl rfl ?_
        refine wl_gskip rfl rfl rfl rfl rfl rfl rfl ?_
        refine wl_gskip rfl rfl rfl rfl rfl rfl rfl ?_
        refine wl_gskip rfl rfl rfl rfl rfl rfl rfl ?_
        refine wl_gskip rfl rfl rfl rfl rfl rfl rfl ?_
        refine wl_val rfl rfl rfl (y_pickt rfl rfl) ?_
        exact wl_leR hK3 (.cons rfl (by repeat (first | refine LeE.skip ?_ rfl | exact LeE.refl _)))
  case hf =>
    intro hg3 hK3
    first
      | (refine wl_dead ?_ hK3 rfl; first | with_reducible contradiction | omega | (simp at hg3; done))
      | skip
        try simp only [bsA, ne_eq] at hg3
        refine wl_gval rfl rfl rfl rfl rfl rfl rfl (y_field0 fa50_6 rfl) ?_
        refine wl_gval rfl rfl rfl rfl rfl rfl rfl (y_loadA one4 rfl) ?_
        refine wl_gval rfl rfl rfl rfl rfl rfl rfl (y_field0 fa50_6 rfl) ?_
        refine wl_gval rfl rfl rfl rfl rfl rfl rfl (y_loadA one4 rfl) ?_
        refine wl_gval rfl rfl rfl rfl rfl rfl rfl (y_neqBool Try.underlying4 rfl rfl) ?_
        first | refine wl_val rfl rfl rfl (y_pickt rfl rfl) ?_ | refine wl_val rfl rfl rfl (y_pickf rfl rfl) ?_
        exact wl_leR hK3 (.cons rfl (by repeat (first | refine LeE.skip ?_ rfl | exact LeE.refl _)))
  refine wl_nil ?_
  refine q_then ?_
  first | refine wc_cond rfl (fun hc0 => ?_) (fun hc0 => ?_) | refine wc_condb rfl (fun hc0 => ?_) (fun hc0 => ?_)
  · first
    | ((try simp only [bsA, ne_eq] at hc0); exfalso; (first | with_reducible contradiction | omega | (simp at hc0; done)))
    | skip
      try simp only [bsA, ne_eq] at hc0
      refine wc_seq ?_
      refine wc_region ?_
      refine wl_val rfl rfl rfl (y_assign rfl) ?_
      refine wl_nil ?_
      refine q_then ?_
      refine wc_ret ?_
      refine q_thenRet ?_
      apply q_retg (res1 Try.results19 rfl) -- ret 0
      case hΨ =>
        exact ⟨by rw [decide_eq_false (by simp only [slS]; grind)], rfl⟩
      case hs =>
        exact SubC.out
  · first
    | ((try simp only [bsA, ne_eq] at hc0); exfalso; (first | with_reducible contradiction | omega | (simp at hc0; done)))
    | skip
      try simp only [bsA, ne_eq] at hc0
      refine wc_skip ?_
      refine q_then ?_
      refine wc_seq ?_
      refine wc_region ?_
      refine wl_val rfl rfl rfl (y_field0 fa50_1 rfl) ?_
      refine wl_val rfl rfl rfl (y_loadC agg26 rfl) ?_
      refine wl_val rfl rfl rfl (y_field0 fa50_1 rfl) ?_
      refine wl_val rfl rfl rfl (y_loadC agg26 rfl) ?_
      (refine wl_ef rfl (ef_callv0 rfl fun25 rfl (fun _ hw => (c_refBtSame _ _ _ (ha.b.go hw) (hb.b.go hw)))) ?_; rintro _ _ ⟨rfl, rfl⟩)
      refine wl_val rfl rfl rfl (y_move rfl) ?_
      apply wl_andp (d := 44)
      case ht =>
        intro hg4 hK4
        first
          | (refine wl_dead ?_ hK4 rfl; first | with_reducible contradiction | omega | (simp at hg4; done))
          | skip
            try simp only [bsA, ne_eq] at hg4
            refine wl_gval rfl rfl rfl rfl rfl rfl rfl (y_field0 fa50_3 rfl) ?_
            refine wl_gval rfl rfl rfl rfl rfl rfl rfl (y_loadC agg38 rfl) ?_
            (refine wl_gef rfl rfl rfl rfl rfl (ef_litN rfl Try.underlying120 siz38 zer38 rfl rfl rfl) ?_; rintro _ _ ⟨v39, rfl, rfl⟩)
            refine wl_gval rfl rfl rfl rfl rfl rfl rfl (y_field0 fa50_3 rfl) ?_
            refine wl_gval rfl rfl rfl rfl rfl rfl rfl (y_loadC agg38 rfl) ?_
            (refine wl_gef rfl rfl rfl rfl rfl (ef_litN rfl Try.underlying120 siz38 zer38 rfl rfl rfl) ?_; rintro _ _ ⟨v42, rfl, rfl⟩)
            (refine wl_gef rfl rfl rfl rfl rfl (ef_callv0 rfl fun64 rfl (fun _ hw => (c_SameHeld a.held b.held _ _ _ (rdI_own0 hw) (rdI_own0 hw) (ha.hb.go hw) (hb.hb.go hw) (ha.hc.go hw) (hb.hc.go hw)))) ?_; rintro _ _ ⟨rfl, rfl⟩)
            refine wl_val rfl rfl rfl (y_pickt rfl rfl) ?_
            first | exact wl_leR hK4 (.cons rfl (by repeat (first | refine LeE.skip ?_ rfl | exact LeE.refl _))) | exact wl_le hK4 (.cons rfl (by repeat (first | refine LeE.skip ?_ rfl | exact LeE.refl _))) SubC.out
      case hf =>
        intro hg4 hK4
        first
          | (refine wl_dead ?_ hK4 rfl; first | with_reducible contradiction | omega | (simp at hg4; done))
          | skip
            try simp only [bsA, ne_eq] at hg4
            refine wl_gskip rfl rfl rfl rfl rfl rfl rfl ?_
            refine wl_gskip rfl rfl rfl rfl rfl rfl rfl ?_
            refine wl_gskip rfl rfl rfl rfl rfl rfl rfl ?_
            refine wl_gskip rfl rfl rfl rfl rfl rfl rfl ?_
            refine wl_gskip rfl rfl rfl rfl rfl rfl rfl ?_
            refine wl_gskip rfl rfl rfl rfl rfl rfl rfl ?_
            refine wl_gskip rfl rfl rfl rfl rfl rfl rfl ?_
            first | refine wl_val rfl rfl rfl (y_pickt rfl rfl) ?_ | refine wl_val rfl rfl rfl (y_pickf rfl rfl) ?_
            exact wl_leR hK4 (.cons rfl (by repeat (first | refine LeE.skip ?_ rfl | exact LeE.refl _)))
      refine wl_val rfl rfl rfl (y_move rfl) ?_
      first | apply wl_andp (d := 51) | apply wl_and (d := 51)
      case ht =>
        intro hg5 hK5
        first
          | (refine wl_dead ?_ hK5 rfl; first | with_reducible contradiction | omega | (simp at hg5; done))
          | skip
            try simp only [bsA, ne_eq] at hg5
            refine wl_gval rfl rfl rfl rfl rfl rfl rfl (y_field0 fa50_5 rfl) ?_
            refine wl_gval rfl rfl rfl rfl rfl rfl rfl (y_loadC agg40 rfl) ?_
            refine wl_gval rfl rfl rfl rfl rfl rfl rfl (y_field0 fa50_5 rfl) ?_
            refine wl_gval rfl rfl rfl rfl rfl rfl rfl (y_loadC agg40 rfl) ?_
            (refine wl_gef rfl rfl rfl rfl rfl (ef_callv0 rfl fun21 rfl (fun _ hw => (c_SameEntry _ _ _ (ha.eb.go hw) (hb.eb.go hw) (ha.ec.go hw) (hb.ec.go hw)))) ?_; rintro _ _ ⟨rfl, rfl⟩)
            refine wl_val rfl rfl rfl (y_pickt rfl rfl) ?_
            exact wl_leR hK5 (.cons rfl (by repeat (first | refine LeE.skip ?_ rfl | exact LeE.refl _)))
      case hf =>
        intro hg5 hK5
        first
          | (refine wl_dead ?_ hK5 rfl; first | with_reducible contradiction | omega | (simp at hg5; done))
          | skip
            try simp only [bsA, ne_eq] at hg5
            refine wl_gskip rfl rfl rfl rfl rfl rfl rfl ?_
            refine wl_gskip rfl rfl rfl rfl rfl rfl rfl ?_
            refine wl_gskip rfl rfl rfl rfl rfl rfl rfl ?_
            refine wl_gskip rfl rfl rfl rfl rfl rfl rfl ?_
            refine wl_gskip rfl rfl rfl rfl rfl rfl rfl ?_
            first | refine wl_val rfl rfl rfl (y_pickt rfl rfl) ?_ | refine wl_val rfl rfl rfl (y_pickf rfl rfl) ?_
            exact wl_leR hK5 (.cons rfl (by repeat (first | refine LeE.skip ?_ rfl | exact LeE.refl _)))
      refine wl_val rfl rfl rfl (y_assign rfl) ?_
      refine wl_nil ?_
      refine q_then ?_
      refine wc_ret ?_
      apply q_retg (res1 Try.results19 rfl) -- ret 1
      case hΨ =>
        exact ⟨by congr 1; rw [Bool.eq_iff_iff]; simp only [Bool.and_eq_true, decide_eq_true_eq, slS]; grind, rfl⟩
      case hs =>
        exact SubC.out
end Go.Proofs.Ytdgmkbjopcopcaa
