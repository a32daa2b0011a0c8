/- Layer 18 (slot): light, SlotDecides, SlotTells: the walks. Own work. -/
import Derived.Test.YtdgmkbjopcopcaaSltd
set_option linter.unusedVariables false
set_option linter.unusedSimpArgs false
set_option maxRecDepth 100000
set_option maxHeartbeats 8000000
namespace Go.Proofs.Ytdgmkbjopcopcaa
open Go.RowKit
-- flat
-- zero 42 Sl0.cells
-- zero 50 Sl0.cells
-- zero 26 Bt0.cells
-- use zerSl zerSl
-- use zerRs zerRs
-- use zerBt zerBt
-- use zerDg zerDg
-- use zerIb zerIb
-- build 26 bldBt
-- build 30 bldVt
-- build 33 bldCt
-- build 38 bldHe
-- build 40 bldEn
-- build 124 bldIb



theorem BtIn.go {w0 w : World} {L : Mem} {b : Bt} (h : BtIn w0 [] b) (hw : Has w0 [] L w) : BtIn w [] b := ⟨rdI_in0 hw h.rd, h.tag⟩
/-- what came in as a slot -/
structure SlIn (w : World) (s : Sl) : Prop where
  b : BtIn w [] s.batch
  hb : BtIn w [] s.held.b
  hc : CtOk w s.held.c
  eb : BtIn w [] s.entry.b
  ec : CtOk w s.entry.c
theorem SlIn.go {w0 w : World} {L : Mem} {s : Sl} (h : SlIn w0 s) (hw : Has w0 [] L w) : SlIn w s := ⟨h.b.go hw, h.hb.go hw, h.hc.go hw, h.eb.go hw, h.ec.go hw⟩
theorem mem_sum_le {l : List Nat} {n : Nat} (h : n ∈ l) : n ≤ l.sum := by
  induction l with
  | nil => simp at h
  | cons a l ih =>
    rcases List.mem_cons.1 h with rfl | h
    · simp
    · have := ih h
      simp; omega
theorem bt_light {w : World} {b : Bt} {l : List Bt} (hb : BtIn w [] b) (hm : b ∈ l) (h : lightB l = true) : BtOk w b := by
  simp only [lightB, decide_eq_true_eq, wtB, List.take_length] at h
  have h1 : 5 + wtR b.rs b.rs.length ≤ (l.map fun b => 5 + wtR b.rs b.rs.length).sum := mem_sum_le (List.mem_map_of_mem (f := fun b => 5 + wtR b.rs b.rs.length) hm)
  refine ⟨hb.rd, ⟨fun r hr => ?_, ?_⟩⟩
  · have h2 : 20 + r.data.size ≤ wtR b.rs b.rs.length := by
      simp only [wtR, List.take_length]
      exact mem_sum_le (List.mem_map_of_mem (f := fun r : Req => 20 + r.data.size) hr)
    have h3 := hb.tag r hr
    exact ⟨h3.tag, h3.client, h3.num, by omega⟩
  · have h2 : 20 * b.rs.length ≤ wtR b.rs b.rs.length := by
      simp only [wtR, List.take_length]
      generalize b.rs = l
      induction l with
      | nil => simp
      | cons a l ih => simp; omega
    omega
def lightS (s : Sl) : Prop := lightB [s.batch, s.held.b, s.entry.b] = true ∧ s.held.c.signs.length ≤ 100 ∧ s.entry.c.signs.length ≤ 100
instance (s : Sl) : Decidable (lightS s) := by unfold lightS; infer_instance
theorem SlIn.ok {w : World} {s : Sl} (h : SlIn w s) (hl : lightS s) : SlOk w s := ⟨bt_light h.b (by simp) hl.1, bt_light h.hb (by simp) hl.1, h.hc, bt_light h.eb (by simp) hl.1, h.ec⟩
theorem rd_bts {w0 w : World} {L R : Mem} {v : Value} {T : TypeId} {n : Nat} {us : List Value} {bs : List Bt} (hw : Has w0 [] L w) [hp : PkOwn L v T 2 n us R] (hn : n = bs.length) (hu : us = bs.flatMap Bt.cells) : RdI w [] v 2 bs.length (bs.flatMap Bt.cells) := by
  subst hn hu
  exact rdI_own0 hw
theorem rd_sls {w0 w : World} {L R : Mem} {v : Value} {T : TypeId} {n : Nat} {us : List Value} {bs : List Sl} (hw : Has w0 [] L w) [hp : PkOwn L v T 85 n us R] (hn : n = bs.length) (hu : us = bs.flatMap Sl.cells) : RdI w [] v 85 bs.length (bs.flatMap Sl.cells) := by
  subst hn hu
  exact rdI_own0 hw
theorem c_light (vl : Value) (ss : List Sl) (w : World) (hl : RdI w [] vl 85 ss.length (ss.flatMap Sl.cells)) (hs : ∀ s ∈ ss, SlIn w s) : Calls Try.prog 23 #[vl] w (RV w (.bool (decide (∀ s ∈ ss, lightS s)))) := by
  obtain ⟨A0, cap0, hv0, hle1, hle2, _⟩ := hl.rd.form
  simp only [maxLen] at hle2
  subst hv0
  refine enter (N := 39) Try.func23 rfl Try.ntmps23 rfl (Has.nil _) ?_
  refine wc_seq ?_
  refine wc_region ?_
  refine wl_val rfl rfl rfl (y_assign rfl) ?_
  refine wl_nil ?_
  refine q_then ?_
  refine wc_seq ?_
  refine wc_seq ?_
  refine wc_region ?_
  refine wl_val rfl rfl rfl (y_move rfl) ?_
  refine wl_val rfl rfl rfl (y_lenSl Try.underlying123 rfl) ?_
  refine wl_val rfl rfl rfl (y_move rfl) ?_
  refine wl_nil ?_
  refine q_then ?_
  refine wc_block ?_
  refine wc_loop (X := Nat) (fun i => [(5, .slice A0 ss.length cap0), (6, .int .i64 (ss.length : Int)), (7, .int .i64 (i : Int))]) (fun _ => []) (fun i => i ≤ ss.length ∧ ∀ s ∈ ss.take i, lightS s) (fun i => ss.length - i) (0) ?_ ?_ ?_ ?_
  · exact ⟨by omega, by simp⟩
  · repeat (first | exact SubE.nil | refine SubE.cons rfl ?_ | refine SubE.cons (lk_int rfl (by omega)) ?_ | refine SubE.cons (lk_int rfl (by rfl)) ?_ | refine SubE.cons (lk_eq rfl (by rfl)) ?_)
  · exact SubC.out
  · skip
    rintro i ⟨hi, hli⟩
    refine wc_seq ?_
    refine wc_region ?_
    refine wl_val rfl rfl rfl (y_lss rfl rfl) ?_
    refine wl_nil ?_
    refine q_then ?_
    refine wc_seq ?_
    refine wc_cond rfl (fun hc0 => ?_) (fun hc0 => ?_)
    · first
      | ((try simp only [bsA, ne_eq] at hc0); exfalso; (first | with_reducible contradiction | omega | (simp at hc0; done)))
      | skip
        try simp only [bsA, ne_eq] at hc0
        obtain ⟨s, hsi⟩ : ∃ s, ss[i]? = some s := ⟨ss[i]'(by omega), List.getElem?_eq_getElem (by omega)⟩
        have hso := hs s (List.mem_of_getElem? hsi)
        have hsb : ∀ b ∈ [s.batch, s.held.b, s.entry.b], BtIn w [] b := by
          intro b hb
          simp only [List.mem_cons, List.not_mem_nil, or_false] at hb
          rcases hb with rfl | rfl | rfl
          · exact hso.b
          · exact hso.hb
          · exact hso.eb
        refine wc_skip ?_
        refine q_then ?_
        refine wc_seq ?_
        refine wc_block ?_
        refine wc_seq ?_
        refine wc_region ?_
        refine wl_val rfl rfl rfl (y_indexEn Try.underlying123 siz42 rfl rfl (by first | exact rd_own | exact rd_in (by assumption) | assumption) (by omega)) ?_
        refine wl_val rfl rfl rfl (y_loadNE (us := s.cells) agg42 rfl (rd_in hl) (flat_part (fun x _ => x.len) hsi) s.len (by decide)) ?_
        (refine wl_ef rfl (ef_alloc rfl zerSl) ?_; rintro _ _ ⟨b4, rfl, rfl⟩)
        (refine wl_ef rfl (ef_storeC siz42 rfl rfl rfl) ?_; rintro _ _ ⟨rfl, rfl⟩)
        refine wl_nil ?_
        refine q_then ?_
        refine wc_seq ?_
        refine wc_region ?_
        refine wl_val rfl rfl rfl (y_field0 fa42_1 rfl) ?_
        refine wl_val rfl rfl rfl (y_loadC agg26 rfl) ?_
        refine wl_val rfl rfl rfl (y_field0 fa42_3 rfl) ?_
        first | refine wl_val rfl rfl rfl (y_field0 fa38_0 rfl) ?_ | refine wl_val rfl rfl rfl (y_fieldN fa38_0 rfl (by simp only [Nat.reduceAdd]; rfl)) ?_
        refine wl_val rfl rfl rfl (y_loadC agg26 rfl) ?_
        refine wl_val rfl rfl rfl (y_field0 fa42_5 rfl) ?_
        first | refine wl_val rfl rfl rfl (y_field0 fa40_1 rfl) ?_ | refine wl_val rfl rfl rfl (y_fieldN fa40_1 rfl (by simp only [Nat.reduceAdd]; rfl)) ?_
        refine wl_val rfl rfl rfl (y_loadC agg26 rfl) ?_
        (refine wl_ef rfl (ef_litN rfl Try.underlying117 siz26 zerBt rfl rfl rfl) ?_; rintro _ _ ⟨v19, rfl, rfl⟩)
        (refine wl_ef rfl (ef_callv0 rfl fun15 rfl (fun _ hw => (c_Light _ [s.batch, s.held.b, s.entry.b] _ (rd_bts hw rfl (by simp)) (fun b hb => (hsb b hb).go hw)))) ?_; rintro _ _ ⟨rfl, rfl⟩)
        refine wl_val rfl rfl rfl (y_not rfl) ?_
        refine wl_val rfl rfl rfl (y_move rfl) ?_
        apply wl_orp (d := 29)
        case ht =>
          intro hg1 hK1
          first
            | (refine wl_dead ?_ hK1 rfl; first | with_reducible contradiction | omega | (simp at hg1; done))
            | skip
              try simp only [bsA, ne_eq] at hg1
              refine wl_gskip rfl rfl rfl rfl rfl rfl rfl ?_
              refine wl_gskip rfl rfl rfl rfl rfl rfl rfl ?_
              refine wl_gskip rfl rfl rfl rfl rfl rfl rfl ?_
              refine wl_gskip rfl rfl rfl rfl rfl rfl rfl ?_
              refine wl_gskip rfl rfl rfl rfl rfl rfl rfl ?_
              refine wl_gskip rfl rfl rfl rfl rfl rfl rfl ?_
              refine wl_val rfl rfl rfl (y_pickt rfl rfl) ?_
              exact wl_leR hK1 (.cons rfl (by repeat (first | refine LeE.skip ?_ rfl | exact LeE.refl _)))
        case hf =>
          intro hg1 hK1
          first
            | (refine wl_dead ?_ hK1 rfl; first | with_reducible contradiction | omega | (simp at hg1; done))
            | skip
              try simp only [bsA, ne_eq] at hg1
              refine wl_gval rfl rfl rfl rfl rfl rfl rfl (y_field0 fa42_3 rfl) ?_
              first | refine wl_gval rfl rfl rfl rfl rfl rfl rfl (y_field0 fa38_1 rfl) ?_ | refine wl_gval rfl rfl rfl rfl rfl rfl rfl (y_fieldN fa38_1 rfl (by simp only [Nat.reduceAdd]; rfl)) ?_
              first | refine wl_gval rfl rfl rfl rfl rfl rfl rfl (y_field0 fa33_1 rfl) ?_ | refine wl_gval rfl rfl rfl rfl rfl rfl rfl (y_fieldN fa33_1 rfl (by simp only [Nat.reduceAdd]; rfl)) ?_
              refine wl_gval rfl rfl rfl rfl rfl rfl rfl (y_loadA one31 rfl) ?_
              refine wl_gval rfl rfl rfl rfl rfl rfl rfl (y_lenSl Try.underlying31 rfl) ?_
              refine wl_gval rfl rfl rfl rfl rfl rfl rfl (y_gtr rfl rfl) ?_
              first | refine wl_val rfl rfl rfl (y_pickt rfl rfl) ?_ | refine wl_val rfl rfl rfl (y_pickf rfl rfl) ?_
              exact wl_leR hK1 (.cons rfl (by repeat (first | refine LeE.skip ?_ rfl | exact LeE.refl _)))
        refine wl_val rfl rfl rfl (y_move rfl) ?_
        first | apply wl_orp (d := 37) | apply wl_or (d := 37)
        case ht =>
          intro hg2 hK2
          first
            | (refine wl_dead ?_ hK2 rfl; first | with_reducible contradiction | omega | (simp at hg2; done))
            | skip
              try simp only [bsA, ne_eq] at hg2
              refine wl_gskip rfl rfl rfl rfl rfl rfl rfl ?_
              refine wl_gskip rfl rfl rfl rfl rfl rfl rfl ?_
              refine wl_gskip rfl rfl rfl rfl rfl rfl rfl ?_
              refine wl_gskip rfl rfl rfl rfl rfl rfl rfl ?_
              refine wl_gskip rfl rfl rfl rfl rfl rfl rfl ?_
              refine wl_gskip rfl rfl rfl rfl rfl rfl rfl ?_
              refine wl_val rfl rfl rfl (y_pickt rfl rfl) ?_
              exact wl_leR hK2 (.cons rfl (by repeat (first | refine LeE.skip ?_ rfl | exact LeE.refl _)))
        case hf =>
          intro hg2 hK2
          first
            | (refine wl_dead ?_ hK2 rfl; first | with_reducible contradiction | omega | (simp at hg2; done))
            | skip
              try simp only [bsA, ne_eq] at hg2
              refine wl_gval rfl rfl rfl rfl rfl rfl rfl (y_field0 fa42_5 rfl) ?_
              first | refine wl_gval rfl rfl rfl rfl rfl rfl rfl (y_field0 fa40_2 rfl) ?_ | refine wl_gval rfl rfl rfl rfl rfl rfl rfl (y_fieldN fa40_2 rfl (by simp only [Nat.reduceAdd]; rfl)) ?_
              first | refine wl_gval rfl rfl rfl rfl rfl rfl rfl (y_field0 fa33_1 rfl) ?_ | refine wl_gval rfl rfl rfl rfl rfl rfl rfl (y_fieldN fa33_1 rfl (by simp only [Nat.reduceAdd]; rfl)) ?_
              refine wl_gval rfl rfl rfl rfl rfl rfl rfl (y_loadA one31 rfl) ?_
              refine wl_gval rfl rfl rfl rfl rfl rfl rfl (y_lenSl Try.underlying31 rfl) ?_
              refine wl_gval rfl rfl rfl rfl rfl rfl rfl (y_gtr rfl rfl) ?_
              first | refine wl_val rfl rfl rfl (y_pickt rfl rfl) ?_ | refine wl_val rfl rfl rfl (y_pickf rfl rfl) ?_
              exact wl_leR hK2 (.cons rfl (by repeat (first | refine LeE.skip ?_ rfl | exact LeE.refl _)))
        refine wl_nil ?_
        refine q_then ?_
        first | refine wc_cond rfl (fun hc1 => ?_) (fun hc1 => ?_) | refine wc_condb rfl (fun hc1 => ?_) (fun hc1 => ?_)
        · first
          | ((try simp only [bsA, ne_eq] at hc1); exfalso; (first | with_reducible contradiction | omega | (simp at hc1; done)))
          | skip
            try simp only [bsA, ne_eq] at hc1
            refine wc_seq ?_
            refine wc_region ?_
            refine wl_val rfl rfl rfl (y_assign rfl) ?_
            refine wl_nil ?_
            refine q_then ?_
            refine wc_ret ?_
            refine q_blockRet ?_
            refine q_thenRet ?_
            refine q_thenRet ?_
            refine q_blockRet ?_
            refine q_thenRet ?_
            apply q_retg (res1 Try.results23 rfl) -- ret 0
            case hΨ =>
              exact ⟨by rw [decide_eq_false (fun h => by have := h s (List.mem_of_getElem? hsi); simp only [lightS, lightB, decide_eq_true_eq] at this; grind)], rfl⟩
            case hs =>
              exact SubC.out
        · first
          | ((try simp only [bsA, ne_eq] at hc1); exfalso; (first | with_reducible contradiction | omega | (simp at hc1; done)))
          | skip
            try simp only [bsA, ne_eq] at hc1
            refine wc_skip ?_
            refine q_blockNormal ?_
            refine q_then ?_
            refine wc_region ?_
            refine wl_val rfl rfl rfl (y_addn rfl rfl (by omega)) ?_
            refine wl_val rfl rfl rfl (y_move rfl) ?_
            refine wl_nil ?_
            refine q_again (i + 1) ?_ ?_ ?_ ?_
            · exact ⟨by omega, fun x hx => by rw [List.take_add_one, hsi] at hx; simp only [Option.toList_some, List.mem_append, List.mem_singleton] at hx; rcases hx with hx | rfl; exact hli x hx; simp only [lightS, lightB, decide_eq_true_eq]; grind⟩
            · first | omega | (simp; omega) | (simp only []; omega)
            · repeat (first | exact SubE.nil | refine SubE.cons rfl ?_ | refine SubE.cons (lk_int rfl (by omega)) ?_ | refine SubE.cons (lk_int rfl (by rfl)) ?_ | refine SubE.cons (lk_eq rfl (by rfl)) ?_)
            · exact SubC.out
    · first
      | ((try simp only [bsA, ne_eq] at hc0); exfalso; (first | with_reducible contradiction | omega | (simp at hc0; done)))
      | skip
        try simp only [bsA, ne_eq] at hc0
        refine wc_exit ?_
        refine q_thenExit ?_
        refine q_thenExit ?_
        refine q_blockExit ?_
        refine q_then ?_
        refine wc_seq ?_
        refine wc_region ?_
        refine wl_val rfl rfl rfl (y_assign rfl) ?_
        refine wl_nil ?_
        refine q_then ?_
        refine wc_ret ?_
        apply q_retg (res1 Try.results23 rfl) -- ret 1
        case hΨ =>
          exact ⟨by rw [decide_eq_true (by rw [List.take_of_length_le (by omega)] at hli; exact hli)], rfl⟩
        case hs =>
          exact SubC.out
end Go.Proofs.Ytdgmkbjopcopcaa
