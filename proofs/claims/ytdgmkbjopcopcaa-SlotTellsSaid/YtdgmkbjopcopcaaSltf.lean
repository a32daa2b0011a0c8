/- Layer 18 (slot): SlotTells: the walk. Own work. -/
import Derived.Test.YtdgmkbjopcopcaaSlte
set_option linter.unusedVariables false
set_option linter.unusedSimpArgs false
set_option maxRecDepth 100000
set_option maxHeartbeats 8000000
namespace Go.Proofs.Ytdgmkbjopcopcaa
open Go.RowKit
-- flat
-- zero 42 Sl0.cells
-- zero 50 Sl0.cells
-- zero 26 Bt0.cells
-- use zerSl zerSl
-- use zerRs zerRs
-- use zerBt zerBt
-- use zerDg zerDg
-- use zerIb zerIb
-- build 26 bldBt
-- build 30 bldVt
-- build 33 bldCt
-- build 38 bldHe
-- build 40 bldEn
-- build 124 bldIb



/-- the light ones, as the law asks -/
theorem wtB_one (b : Bt) : lightB [b] = decide (5 + wtR b.rs b.rs.length ≤ 4000) := by simp [lightB, wtB]
theorem c_SlotTells (s o : Sl) (view : Int) (b : Bt) (c : Ct) (w : World) (hs : SlIn w s) (ho : SlIn w o) (hb : BtIn w [] b) (hc : CtOk w c) :
    Calls Try.prog 7 #[.agg s.cells.toArray, .agg o.cells.toArray, .int .i64 view, .agg b.cells.toArray, .agg c.cells.toArray] w (RV w (.bool true)) := by
  have hss : ∀ x ∈ [s, o], SlIn w x := by
    intro x hx
    simp only [List.mem_cons, List.not_mem_nil, or_false] at hx
    rcases hx with rfl | rfl
    · exact hs
    · exact ho
  have hbs : ∀ x ∈ [b], BtIn w [] x := by
    intro x hx
    simp only [List.mem_cons, List.not_mem_nil, or_false] at hx
    subst hx
    exact hb
  refine enter (N := 149) Try.func7 rfl Try.ntmps7 rfl (Has.nil _) ?_
  refine wc_seq ?_
  refine wc_region ?_
  (refine wl_ef rfl (ef_box rfl rfl rfl) ?_; rintro _ _ ⟨b5, rfl, rfl⟩)
  (refine wl_ef rfl (ef_box rfl rfl rfl) ?_; rintro _ _ ⟨b6, rfl, rfl⟩)
  (refine wl_ef rfl (ef_box rfl rfl rfl) ?_; rintro _ _ ⟨b8, rfl, rfl⟩)
  (refine wl_ef rfl (ef_box rfl rfl rfl) ?_; rintro _ _ ⟨b9, rfl, rfl⟩)
  refine wl_val rfl rfl rfl (y_assign rfl) ?_
  refine wl_nil ?_
  refine q_then ?_
  refine wc_seq ?_
  refine wc_seq ?_
  refine wc_region ?_
  refine wl_val rfl rfl rfl (y_loadC agg42 rfl) ?_
  refine wl_val rfl rfl rfl (y_loadC agg42 rfl) ?_
  (refine wl_ef rfl (ef_litN rfl Try.underlying123 siz42 zerSl rfl rfl rfl) ?_; rintro _ _ ⟨v21, rfl, rfl⟩)
  (refine wl_ef rfl (ef_callv0 rfl fun23 rfl (fun _ hw => (c_light _ [s, o] _ (rd_sls hw rfl (by simp)) (fun x hx => (hss x hx).go hw)))) ?_; rintro _ _ ⟨rfl, rfl⟩)
  refine wl_val rfl rfl rfl (y_not rfl) ?_
  refine wl_val rfl rfl rfl (y_move rfl) ?_
  apply wl_orp (d := 29)
  case ht =>
    intro hg1 hK1
    first
      | (refine wl_dead ?_ hK1 rfl; first | with_reducible contradiction | omega | (simp at hg1; done))
      | skip
        try simp only [bsA, ne_eq] at hg1
        refine wl_gskip rfl rfl rfl rfl rfl rfl rfl ?_
        refine wl_gskip rfl rfl rfl rfl rfl rfl rfl ?_
        refine wl_gskip rfl rfl rfl rfl rfl rfl rfl ?_
        refine wl_gskip rfl rfl rfl rfl rfl rfl rfl ?_
        refine wl_val rfl rfl rfl (y_pickt rfl rfl) ?_
        exact wl_leR hK1 (.cons rfl (by repeat (first | refine LeE.skip ?_ rfl | exact LeE.refl _)))
  case hf =>
    intro hg1 hK1
    first
      | (refine wl_dead ?_ hK1 rfl; first | with_reducible contradiction | omega | (simp at hg1; done))
      | skip
        try simp only [bsA, ne_eq] at hg1
        refine wl_gval rfl rfl rfl rfl rfl rfl rfl (y_loadC agg26 rfl) ?_
        (refine wl_gef rfl rfl rfl rfl rfl (ef_litN rfl Try.underlying117 siz26 zerBt rfl rfl rfl) ?_; rintro _ _ ⟨v26, rfl, rfl⟩)
        (refine wl_gef rfl rfl rfl rfl rfl (ef_callv0 rfl fun15 rfl (fun _ hw => (c_Light _ [b] _ (rd_bts hw rfl (by simp)) (fun x hx => (hbs x hx).go hw)))) ?_; rintro _ _ ⟨rfl, rfl⟩)
        refine wl_gval rfl rfl rfl rfl rfl rfl rfl (y_not rfl) ?_
        first | refine wl_val rfl rfl rfl (y_pickt rfl rfl) ?_ | refine wl_val rfl rfl rfl (y_pickf rfl rfl) ?_
        first | exact wl_leR hK1 (.cons rfl (by repeat (first | refine LeE.skip ?_ rfl | exact LeE.refl _))) | exact wl_le hK1 (.cons rfl (by repeat (first | refine LeE.skip ?_ rfl | exact LeE.refl _))) SubC.out
  refine wl_val rfl rfl rfl (y_move rfl) ?_
  first | apply wl_orp (d := 35) | apply wl_or (d := 35)
  case ht =>
    intro hg2 hK2
    first
      | (refine wl_dead ?_ hK2 rfl; first | with_reducible contradiction | omega | (simp at hg2; done))
      | skip
        try simp only [bsA, ne_eq] at hg2
        refine wl_gskip rfl rfl rfl rfl rfl rfl rfl ?_
        refine wl_gskip rfl rfl rfl rfl rfl rfl rfl ?_
        refine wl_gskip rfl rfl rfl rfl rfl rfl rfl ?_
        refine wl_gskip rfl rfl rfl rfl rfl rfl rfl ?_
        refine wl_val rfl rfl rfl (y_pickt rfl rfl) ?_
        exact wl_leR hK2 (.cons rfl (by repeat (first | refine LeE.skip ?_ rfl | exact LeE.refl _)))
  case hf =>
    intro hg2 hK2
    first
      | (refine wl_dead ?_ hK2 rfl; first | with_reducible contradiction | omega | (simp at hg2; done))
      | skip
        try simp only [bsA, ne_eq] at hg2
        refine wl_gval rfl rfl rfl rfl rfl rfl rfl (y_field0 fa33_1 rfl) ?_
        refine wl_gval rfl rfl rfl rfl rfl rfl rfl (y_loadA one31 rfl) ?_
        refine wl_gval rfl rfl rfl rfl rfl rfl rfl (y_lenSl Try.underlying31 rfl) ?_
        refine wl_gval rfl rfl rfl rfl rfl rfl rfl (y_gtr rfl rfl) ?_
        first | refine wl_val rfl rfl rfl (y_pickt rfl rfl) ?_ | refine wl_val rfl rfl rfl (y_pickf rfl rfl) ?_
        exact wl_leR hK2 (.cons rfl (by repeat (first | refine LeE.skip ?_ rfl | exact LeE.refl _)))
  refine wl_nil ?_
  refine q_then ?_
  first | refine wc_cond rfl (fun hc0 => ?_) (fun hc0 => ?_) | refine wc_condb rfl (fun hc0 => ?_) (fun hc0 => ?_)
  · first
    | ((try simp only [bsA, ne_eq] at hc0); exfalso; (first | with_reducible contradiction | omega | (simp at hc0; done)))
    | skip
      try simp only [bsA, ne_eq] at hc0
      refine wc_seq ?_
      refine wc_region ?_
      (refine wl_ef rfl (ef_callv0 rfl fun14 rfl (fun _ hw => (c_lives18 _))) ?_; rintro _ _ ⟨rfl, rfl⟩)
      refine wl_val rfl rfl rfl (y_assign rfl) ?_
      refine wl_nil ?_
      refine q_then ?_
      refine wc_ret ?_
      refine q_thenRet ?_
      apply q_retg (res1 Try.results7 rfl) -- ret 0
      case hΨ =>
        exact ⟨by first | rfl | simp, rfl⟩
      case hs =>
        exact SubC.out
  · first
    | ((try simp only [bsA, ne_eq] at hc0); exfalso; (first | with_reducible contradiction | omega | (simp at hc0; done)))
    | skip
      try simp only [bsA, ne_eq] at hc0
      have hl1 : lightS s ∧ lightS o ∧ lightB [b] = true := by simp [lightB, wtB] at hc0 ⊢; exact ⟨hc0.1.1.1, hc0.1.1.2, hc0.1.2⟩
      have hso := hs.ok hl1.1
      have hoo := ho.ok hl1.2.1
      have hbo := bt_light hb (List.mem_singleton.2 rfl) hl1.2.2
      have hx1 := acc_ok (view := view) hso hbo
      have hx2 := hld_ok hso hc
      have hx3 := dcd_ok hso hbo hc
      have hkk := kno_ok (d := c.vote.dig) (kn_ok hso.eb hso.b hso.hb)
      refine wc_skip ?_
      refine q_then ?_
      refine wc_seq ?_
      refine wc_region ?_
      refine wl_val rfl rfl rfl (y_loadC agg42 rfl) ?_
      refine wl_val rfl rfl rfl (y_move rfl) ?_
      refine wl_val rfl rfl rfl (y_loadC agg26 rfl) ?_
      (refine wl_ef rfl (ef_callv0 rfl fun16 rfl (fun _ hw => (c_Accept s view b _ (hso.go hw).b (hbo.go hw)))) ?_; rintro _ _ ⟨rfl, rfl⟩)
      refine wl_val rfl rfl rfl (y_move rfl) ?_
      refine wl_val rfl rfl rfl (y_extract rfl rfl) ?_
      refine wl_val rfl rfl rfl (y_extract rfl rfl) ?_
      (refine wl_ef rfl (ef_alloc rfl zerSl) ?_; rintro _ _ ⟨b11, rfl, rfl⟩)
      (refine wl_ef rfl (ef_storeC siz42 rfl rfl rfl) ?_; rintro _ _ ⟨rfl, rfl⟩)
      refine wl_val rfl rfl rfl (y_assign rfl) ?_
      refine wl_nil ?_
      refine q_then ?_
      refine wc_seq ?_
      apply wc_later1
      case h =>
        intro hL4
        refine wa_begin_all (n := 11) (b := #[false, false, false, false, false, false, false, false, false, false, false]) mixed rfl rfl ?_
        refine wa_t 0 (by kernel_rfl) rfl rfl rfl rfl (y_loadC agg42 rfl) ?_
        refine wa_t 2 (by kernel_rfl) rfl rfl rfl rfl (y_move rfl) ?_
        refine wa_t 3 (by kernel_rfl) rfl rfl rfl rfl (y_loadC agg26 rfl) ?_
        refine wa_all (rs := [1, 8]) (by kernel_rfl) (by simp) ?_
        intro i hi; simp only [List.mem_cons, List.mem_nil_iff, or_false] at hi
        rcases hi with rfl | rfl
        · (refine wo_e rfl rfl (ef_callv0 rfl fun20 rfl (fun _ hw => (c_Of _ _))) ?_; rintro _ _ ⟨rfl, rfl⟩; refine ⟨.inr SubC.out, ?_⟩)
          refine wa_all (rs := [4, 8]) (by kernel_rfl) (by simp) ?_
          intro i hi; simp only [List.mem_cons, List.mem_nil_iff, or_false] at hi
          rcases hi with rfl | rfl
          · (refine wo_e rfl rfl (ef_callv0 rfl fun33 rfl (fun _ hw => (c_refAccept s view b _ (hso.go hw).b (hbo.go hw)))) ?_; rintro _ _ ⟨rfl, rfl⟩; refine ⟨.inr SubC.out, ?_⟩)
            refine wa_t 5 (by kernel_rfl) rfl rfl rfl rfl (y_move rfl) ?_
            refine wa_t 6 (by kernel_rfl) rfl rfl rfl rfl (y_extract rfl rfl) ?_
            refine wa_t 7 (by kernel_rfl) rfl rfl rfl rfl (y_extract rfl rfl) ?_
            (refine wa_e 8 (by kernel_rfl) rfl rfl (ef_alloc rfl zerRs) ?_; rintro _ _ ⟨b13, rfl, rfl⟩; refine ⟨.inr SubC.out, ?_⟩)
            (refine wa_e 9 (by kernel_rfl) rfl rfl (ef_storeC siz50 rfl rfl rfl) ?_; rintro _ _ ⟨rfl, rfl⟩; refine ⟨.inr SubC.out, ?_⟩)
            refine wa_t 10 (by kernel_rfl) rfl rfl rfl rfl (y_assign rfl) ?_
            refine wa_done (by kernel_rfl) ?_
            refine q_then ?_
            exact wc_le (hL4 b13) (LeE.refl _) (SubL.refl _)
          · (refine wo_e rfl rfl (ef_alloc rfl zerRs) ?_; rintro _ _ ⟨b13, rfl, rfl⟩; refine ⟨.inr SubC.out, ?_⟩)
            (refine wa_e 4 (by kernel_rfl) rfl rfl (ef_callv0 rfl fun33 rfl (fun _ hw => (c_refAccept s view b _ (hso.go hw).b (hbo.go hw)))) ?_; rintro _ _ ⟨rfl, rfl⟩; refine ⟨.inr SubC.out, ?_⟩)
            refine wa_t 5 (by kernel_rfl) rfl rfl rfl rfl (y_move rfl) ?_
            refine wa_t 6 (by kernel_rfl) rfl rfl rfl rfl (y_extract rfl rfl) ?_
            refine wa_t 7 (by kernel_rfl) rfl rfl rfl rfl (y_extract rfl rfl) ?_
            (refine wa_e 9 (by kernel_rfl) rfl rfl (ef_storeC siz50 rfl rfl rfl) ?_; rintro _ _ ⟨rfl, rfl⟩; refine ⟨.inr SubC.out, ?_⟩)
            refine wa_t 10 (by kernel_rfl) rfl rfl rfl rfl (y_assign rfl) ?_
            refine wa_done (by kernel_rfl) ?_
            refine q_then ?_
            first | exact wc_le (hL4 b13) (LeE.refl _) (SubL.refl _) | exact wc_le (hL4 b13) (by repeat (first | (focus ((repeat refine LeE.skip ?_ rfl); exact LeE.refl _)) | refine LeE.cons rfl ?_)) SubC.out
        · (refine wo_e rfl rfl (ef_alloc rfl zerRs) ?_; rintro _ _ ⟨b13, rfl, rfl⟩; refine ⟨.inr SubC.out, ?_⟩)
          (refine wa_e 1 (by kernel_rfl) rfl rfl (ef_callv0 rfl fun20 rfl (fun _ hw => (c_Of _ _))) ?_; rintro _ _ ⟨rfl, rfl⟩; refine ⟨.inr SubC.out, ?_⟩)
          (refine wa_e 4 (by kernel_rfl) rfl rfl (ef_callv0 rfl fun33 rfl (fun _ hw => (c_refAccept s view b _ (hso.go hw).b (hbo.go hw)))) ?_; rintro _ _ ⟨rfl, rfl⟩; refine ⟨.inr SubC.out, ?_⟩)
          refine wa_t 5 (by kernel_rfl) rfl rfl rfl rfl (y_move rfl) ?_
          refine wa_t 6 (by kernel_rfl) rfl rfl rfl rfl (y_extract rfl rfl) ?_
          refine wa_t 7 (by kernel_rfl) rfl rfl rfl rfl (y_extract rfl rfl) ?_
          (refine wa_e 9 (by kernel_rfl) rfl rfl (ef_storeC siz50 rfl rfl rfl) ?_; rintro _ _ ⟨rfl, rfl⟩; refine ⟨.inr SubC.out, ?_⟩)
          refine wa_t 10 (by kernel_rfl) rfl rfl rfl rfl (y_assign rfl) ?_
          refine wa_done (by kernel_rfl) ?_
          refine q_then ?_
          first | exact wc_le (hL4 b13) (LeE.refl _) (SubL.refl _) | exact wc_le (hL4 b13) (by repeat (first | (focus ((repeat refine LeE.skip ?_ rfl); exact LeE.refl _)) | refine LeE.cons rfl ?_)) SubC.out
      intro b13
      refine wc_seq ?_
      refine wc_seq ?_
      refine wa_begin_all (n := 10) (b := #[false, false, false, false, false, false, false, false, false, false]) mixed rfl rfl ?_
      refine wa_t 0 (by kernel_rfl) rfl rfl rfl rfl (y_loadC agg42 rfl) ?_
      refine wa_t 2 (by kernel_rfl) rfl rfl rfl rfl (y_loadC agg50 rfl) ?_
      (refine wa_e 1 (by kernel_rfl) rfl rfl (ef_callv0 rfl fun20 rfl (fun _ hw => (c_Of _ _))) ?_; rintro _ _ ⟨rfl, rfl⟩; refine ⟨.inr SubC.out, ?_⟩)
      (refine wa_e 3 (by kernel_rfl) rfl rfl (ef_callv0 rfl fun19 rfl (fun _ hw => (c_refSlSame _ _ _ (hx1.go hw) (hx1.go hw)))) ?_; rintro _ _ ⟨rfl, rfl⟩; refine ⟨.inl (by kernel_rfl), ?_⟩)
      refine wa_t 4 (by kernel_rfl) rfl rfl rfl rfl (y_not rfl) ?_
      refine wa_t 5 (by kernel_rfl) rfl rfl rfl rfl (y_move rfl) ?_
      apply wa_orp (d := 61)
      case ht =>
        intro hg3 hK3
        first
          | (refine wa_dead ?_ hK3 rfl; first | with_reducible contradiction | omega | (simp at hg3; done))
          | skip
            try simp only [bsA, ne_eq] at hg3
            refine wa_gs 6 (by kernel_rfl) rfl rfl rfl rfl rfl rfl rfl rfl ?_
            refine wa_gs 7 (by kernel_rfl) rfl rfl rfl rfl rfl rfl rfl rfl ?_
            refine wa_gs 8 (by kernel_rfl) rfl rfl rfl rfl rfl rfl rfl rfl ?_
            refine wa_t 9 (by kernel_rfl) rfl rfl rfl rfl (y_pickt rfl rfl) ?_
            exact wa_leR hK3 (.cons rfl (by repeat (first | refine LeE.skip ?_ rfl | exact LeE.refl _)))
      case hf =>
        intro hg3 hK3
        first
          | (refine wa_dead ?_ hK3 rfl; first | with_reducible contradiction | omega | (simp at hg3; done))
          | skip
            try simp only [bsA, ne_eq] at hg3
            refine wa_gt 6 (by kernel_rfl) rfl rfl rfl rfl rfl rfl rfl rfl (y_move rfl) ?_
            refine wa_gt 7 (by kernel_rfl) rfl rfl rfl rfl rfl rfl rfl rfl (y_move rfl) ?_
            refine wa_gt 8 (by kernel_rfl) rfl rfl rfl rfl rfl rfl rfl rfl (y_neq rfl rfl) ?_
            first | refine wa_t 9 (by kernel_rfl) rfl rfl rfl rfl (y_pickt rfl rfl) ?_ | refine wa_t 9 (by kernel_rfl) rfl rfl rfl rfl (y_pickf rfl rfl) ?_
            exact wa_leR hK3 (.cons rfl (by repeat (first | refine LeE.skip ?_ rfl | exact LeE.refl _)))
      refine wa_done (by kernel_rfl) ?_
      refine q_then ?_
      first | refine wc_cond rfl (fun hc1 => ?_) (fun hc1 => ?_) | refine wc_condb rfl (fun hc1 => ?_) (fun hc1 => ?_)
      · exfalso; (try simp only [bsA, ne_eq] at hc1); simp [slS] at hc1
      · first
        | ((try simp only [bsA, ne_eq] at hc1); exfalso; (first | with_reducible contradiction | omega | (simp at hc1; done)))
        | skip
          try simp only [bsA, ne_eq] at hc1
          refine wc_skip ?_
          refine q_then ?_
          refine wc_seq ?_
          refine wc_region ?_
          refine wl_val rfl rfl rfl (y_loadC agg42 rfl) ?_
          refine wl_val rfl rfl rfl (y_loadC agg33 rfl) ?_
          (refine wl_ef rfl (ef_callv0 rfl fun17 rfl (fun _ hw => (c_Hold s c _ (hso.go hw).b))) ?_; rintro _ _ ⟨rfl, rfl⟩)
          refine wl_val rfl rfl rfl (y_move rfl) ?_
          refine wl_val rfl rfl rfl (y_extract rfl rfl) ?_
          refine wl_val rfl rfl rfl (y_extract rfl rfl) ?_
          (refine wl_ef rfl (ef_storeC siz42 rfl rfl rfl) ?_; rintro _ _ ⟨rfl, rfl⟩)
          refine wl_val rfl rfl rfl (y_assign rfl) ?_
          refine wl_nil ?_
          refine q_then ?_
          refine wc_seq ?_
          refine wa_begin1 b13 (n := 9) (bs := #[false, false, false, false, false, false, false, false, false]) mixed rfl rfl ?_
          refine wa_t 0 (by kernel_rfl) rfl rfl rfl rfl (y_loadC agg42 rfl) ?_
          refine wa_t 2 (by kernel_rfl) rfl rfl rfl rfl (y_loadC agg33 rfl) ?_
          (refine wa_e 1 (by kernel_rfl) rfl rfl (ef_callv0 rfl fun20 rfl (fun _ hw => (c_Of _ _))) ?_; rintro _ _ ⟨rfl, rfl⟩; refine ⟨.inr SubC.out, ?_⟩)
          (refine wa_e 3 (by kernel_rfl) rfl rfl (ef_callv0 rfl fun34 rfl (fun _ hw => (c_refHold s c _ (hso.go hw).b))) ?_; rintro _ _ ⟨rfl, rfl⟩; refine ⟨.inl (by kernel_rfl), ?_⟩)
          refine wa_t 4 (by kernel_rfl) rfl rfl rfl rfl (y_move rfl) ?_
          refine wa_t 5 (by kernel_rfl) rfl rfl rfl rfl (y_extract rfl rfl) ?_
          refine wa_t 6 (by kernel_rfl) rfl rfl rfl rfl (y_extract rfl rfl) ?_
          (refine wa_e 7 (by kernel_rfl) rfl rfl (ef_storeC siz50 rfl rfl rfl) ?_; rintro _ _ ⟨rfl, rfl⟩; refine ⟨.inr SubC.out, ?_⟩)
          refine wa_t 8 (by kernel_rfl) rfl rfl rfl rfl (y_assign rfl) ?_
          refine wa_done (by kernel_rfl) ?_
          refine q_then ?_
          refine wc_seq ?_
          refine wc_seq ?_
          refine wa_begin_all (n := 10) (b := #[false, false, false, false, false, false, false, false, false, false]) mixed rfl rfl ?_
          refine wa_t 0 (by kernel_rfl) rfl rfl rfl rfl (y_loadC agg42 rfl) ?_
          refine wa_t 2 (by kernel_rfl) rfl rfl rfl rfl (y_loadC agg50 rfl) ?_
          (refine wa_e 1 (by kernel_rfl) rfl rfl (ef_callv0 rfl fun20 rfl (fun _ hw => (c_Of _ _))) ?_; rintro _ _ ⟨rfl, rfl⟩; refine ⟨.inr SubC.out, ?_⟩)
          first | (refine wa_e 3 (by kernel_rfl) rfl rfl (ef_callv0 rfl fun19 rfl (fun _ hw => (c_refSlSame _ _ _ (hx1.go hw) (hx1.go hw)))) ?_; rintro _ _ ⟨rfl, rfl⟩; refine ⟨.inl (by kernel_rfl), ?_⟩) | (refine wa_e 3 (by kernel_rfl) rfl rfl (ef_callv0 rfl fun19 rfl (fun _ hw => (c_refSlSame _ _ _ (hx2.go hw) (hx2.go hw)))) ?_; rintro _ _ ⟨rfl, rfl⟩; refine ⟨.inl (by kernel_rfl), ?_⟩)
          refine wa_t 4 (by kernel_rfl) rfl rfl rfl rfl (y_not rfl) ?_
          refine wa_t 5 (by kernel_rfl) rfl rfl rfl rfl (y_move rfl) ?_
          apply wa_orp (d := 84)
          case ht =>
            intro hg4 hK4
            first
              | (refine wa_dead ?_ hK4 rfl; first | with_reducible contradiction | omega | (simp at hg4; done))
              | skip
                try simp only [bsA, ne_eq] at hg4
                refine wa_gs 6 (by kernel_rfl) rfl rfl rfl rfl rfl rfl rfl rfl ?_
                refine wa_gs 7 (by kernel_rfl) rfl rfl rfl rfl rfl rfl rfl rfl ?_
                refine wa_gs 8 (by kernel_rfl) rfl rfl rfl rfl rfl rfl rfl rfl ?_
                refine wa_t 9 (by kernel_rfl) rfl rfl rfl rfl (y_pickt rfl rfl) ?_
                exact wa_leR hK4 (.cons rfl (by repeat (first | refine LeE.skip ?_ rfl | exact LeE.refl _)))
          case hf =>
            intro hg4 hK4
            first
              | (refine wa_dead ?_ hK4 rfl; first | with_reducible contradiction | omega | (simp at hg4; done))
              | skip
                try simp only [bsA, ne_eq] at hg4
                refine wa_gt 6 (by kernel_rfl) rfl rfl rfl rfl rfl rfl rfl rfl (y_move rfl) ?_
                refine wa_gt 7 (by kernel_rfl) rfl rfl rfl rfl rfl rfl rfl rfl (y_move rfl) ?_
                refine wa_gt 8 (by kernel_rfl) rfl rfl rfl rfl rfl rfl rfl rfl (y_neq rfl rfl) ?_
                first | refine wa_t 9 (by kernel_rfl) rfl rfl rfl rfl (y_pickt rfl rfl) ?_ | refine wa_t 9 (by kernel_rfl) rfl rfl rfl rfl (y_pickf rfl rfl) ?_
                exact wa_leR hK4 (.cons rfl (by repeat (first | refine LeE.skip ?_ rfl | exact LeE.refl _)))
          refine wa_done (by kernel_rfl) ?_
          refine q_then ?_
          first | refine wc_cond rfl (fun hc2 => ?_) (fun hc2 => ?_) | refine wc_condb rfl (fun hc2 => ?_) (fun hc2 => ?_)
          · exfalso; (try simp only [bsA, ne_eq] at hc2); simp [slS] at hc2
          · first
            | ((try simp only [bsA, ne_eq] at hc2); exfalso; (first | with_reducible contradiction | omega | (simp at hc2; done)))
            | skip
              try simp only [bsA, ne_eq] at hc2
              refine wc_skip ?_
              refine q_then ?_
              refine wc_seq ?_
              refine wc_region ?_
              refine wl_val rfl rfl rfl (y_loadC agg42 rfl) ?_
              refine wl_val rfl rfl rfl (y_loadC agg26 rfl) ?_
              refine wl_val rfl rfl rfl (y_loadC agg33 rfl) ?_
              (refine wl_ef rfl (ef_callv0 rfl fun18 rfl (fun _ hw => (c_Decide s b c _ (hso.go hw).eb (hbo.go hw)))) ?_; rintro _ _ ⟨rfl, rfl⟩)
              refine wl_val rfl rfl rfl (y_move rfl) ?_
              refine wl_val rfl rfl rfl (y_extract rfl rfl) ?_
              refine wl_val rfl rfl rfl (y_extract rfl rfl) ?_
              (refine wl_ef rfl (ef_storeC siz42 rfl rfl rfl) ?_; rintro _ _ ⟨rfl, rfl⟩)
              refine wl_val rfl rfl rfl (y_assign rfl) ?_
              refine wl_nil ?_
              refine q_then ?_
              refine wc_seq ?_
              refine wa_begin1 b13 (n := 10) (bs := #[false, false, false, false, false, false, false, false, false, false]) mixed rfl rfl ?_
              refine wa_t 0 (by kernel_rfl) rfl rfl rfl rfl (y_loadC agg42 rfl) ?_
              refine wa_t 2 (by kernel_rfl) rfl rfl rfl rfl (y_loadC agg26 rfl) ?_
              refine wa_t 3 (by kernel_rfl) rfl rfl rfl rfl (y_loadC agg33 rfl) ?_
              (refine wa_e 1 (by kernel_rfl) rfl rfl (ef_callv0 rfl fun20 rfl (fun _ hw => (c_Of _ _))) ?_; rintro _ _ ⟨rfl, rfl⟩; refine ⟨.inr SubC.out, ?_⟩)
              (refine wa_e 4 (by kernel_rfl) rfl rfl (ef_callv0 rfl fun35 rfl (fun _ hw => (c_refDecide s b c _ (hso.go hw).eb (hbo.go hw)))) ?_; rintro _ _ ⟨rfl, rfl⟩; refine ⟨.inl (by kernel_rfl), ?_⟩)
              refine wa_t 5 (by kernel_rfl) rfl rfl rfl rfl (y_move rfl) ?_
              refine wa_t 6 (by kernel_rfl) rfl rfl rfl rfl (y_extract rfl rfl) ?_
              refine wa_t 7 (by kernel_rfl) rfl rfl rfl rfl (y_extract rfl rfl) ?_
              (refine wa_e 8 (by kernel_rfl) rfl rfl (ef_storeC siz50 rfl rfl rfl) ?_; rintro _ _ ⟨rfl, rfl⟩; refine ⟨.inr SubC.out, ?_⟩)
              refine wa_t 9 (by kernel_rfl) rfl rfl rfl rfl (y_assign rfl) ?_
              refine wa_done (by kernel_rfl) ?_
              refine q_then ?_
              refine wc_seq ?_
              refine wc_seq ?_
              refine wa_begin_all (n := 10) (b := #[false, false, false, false, false, false, false, false, false, false]) mixed rfl rfl ?_
              refine wa_t 0 (by kernel_rfl) rfl rfl rfl rfl (y_loadC agg42 rfl) ?_
              refine wa_t 2 (by kernel_rfl) rfl rfl rfl rfl (y_loadC agg50 rfl) ?_
              (refine wa_e 1 (by kernel_rfl) rfl rfl (ef_callv0 rfl fun20 rfl (fun _ hw => (c_Of _ _))) ?_; rintro _ _ ⟨rfl, rfl⟩; refine ⟨.inr SubC.out, ?_⟩)
              first | (refine wa_e 3 (by kernel_rfl) rfl rfl (ef_callv0 rfl fun19 rfl (fun _ hw => (c_refSlSame _ _ _ (hx1.go hw) (hx1.go hw)))) ?_; rintro _ _ ⟨rfl, rfl⟩; refine ⟨.inl (by kernel_rfl), ?_⟩) | (refine wa_e 3 (by kernel_rfl) rfl rfl (ef_callv0 rfl fun19 rfl (fun _ hw => (c_refSlSame _ _ _ (hx2.go hw) (hx2.go hw)))) ?_; rintro _ _ ⟨rfl, rfl⟩; refine ⟨.inl (by kernel_rfl), ?_⟩) | (refine wa_e 3 (by kernel_rfl) rfl rfl (ef_callv0 rfl fun19 rfl (fun _ hw => (c_refSlSame _ _ _ (hx3.go hw) (hx3.go hw)))) ?_; rintro _ _ ⟨rfl, rfl⟩; refine ⟨.inl (by kernel_rfl), ?_⟩)
              refine wa_t 4 (by kernel_rfl) rfl rfl rfl rfl (y_not rfl) ?_
              refine wa_t 5 (by kernel_rfl) rfl rfl rfl rfl (y_move rfl) ?_
              apply wa_orp (d := 109)
              case ht =>
                intro hg5 hK5
                first
                  | (refine wa_dead ?_ hK5 rfl; first | with_reducible contradiction | omega | (simp at hg5; done))
                  | skip
                    try simp only [bsA, ne_eq] at hg5
                    refine wa_gs 6 (by kernel_rfl) rfl rfl rfl rfl rfl rfl rfl rfl ?_
                    refine wa_gs 7 (by kernel_rfl) rfl rfl rfl rfl rfl rfl rfl rfl ?_
                    refine wa_gs 8 (by kernel_rfl) rfl rfl rfl rfl rfl rfl rfl rfl ?_
                    refine wa_t 9 (by kernel_rfl) rfl rfl rfl rfl (y_pickt rfl rfl) ?_
                    exact wa_leR hK5 (.cons rfl (by repeat (first | refine LeE.skip ?_ rfl | exact LeE.refl _)))
              case hf =>
                intro hg5 hK5
                first
                  | (refine wa_dead ?_ hK5 rfl; first | with_reducible contradiction | omega | (simp at hg5; done))
                  | skip
                    try simp only [bsA, ne_eq] at hg5
                    refine wa_gt 6 (by kernel_rfl) rfl rfl rfl rfl rfl rfl rfl rfl (y_move rfl) ?_
                    refine wa_gt 7 (by kernel_rfl) rfl rfl rfl rfl rfl rfl rfl rfl (y_move rfl) ?_
                    refine wa_gt 8 (by kernel_rfl) rfl rfl rfl rfl rfl rfl rfl rfl (y_neq rfl rfl) ?_
                    first | refine wa_t 9 (by kernel_rfl) rfl rfl rfl rfl (y_pickt rfl rfl) ?_ | refine wa_t 9 (by kernel_rfl) rfl rfl rfl rfl (y_pickf rfl rfl) ?_
                    exact wa_leR hK5 (.cons rfl (by repeat (first | refine LeE.skip ?_ rfl | exact LeE.refl _)))
              refine wa_done (by kernel_rfl) ?_
              refine q_then ?_
              first | refine wc_cond rfl (fun hc3 => ?_) (fun hc3 => ?_) | refine wc_condb rfl (fun hc3 => ?_) (fun hc3 => ?_)
              · exfalso; (try simp only [bsA, ne_eq] at hc3); simp [slS] at hc3
              · first
                | ((try simp only [bsA, ne_eq] at hc3); exfalso; (first | with_reducible contradiction | omega | (simp at hc3; done)))
                | skip
                  try simp only [bsA, ne_eq] at hc3
                  refine wc_skip ?_
                  refine q_then ?_
                  refine wc_seq ?_
                  refine wc_region ?_
                  refine wl_val rfl rfl rfl (y_loadC agg42 rfl) ?_
                  refine wl_val rfl rfl rfl (y_field0 fa33_0 rfl) ?_
                  refine wl_val rfl rfl rfl (y_field0 fa30_4 rfl) ?_
                  refine wl_val rfl rfl rfl (y_loadC agg28 rfl) ?_
                  (refine wl_ef rfl (ef_callv0 rfl fun24 rfl (fun _ hw => (c_Known s _ _ (hso.go hw).eb (hso.go hw).b (hso.go hw).hb))) ?_; rintro _ _ ⟨rfl, rfl⟩)
                  refine wl_val rfl rfl rfl (y_move rfl) ?_
                  refine wl_val rfl rfl rfl (y_extract rfl rfl) ?_
                  refine wl_val rfl rfl rfl (y_extract rfl rfl) ?_
                  (refine wl_ef rfl (ef_alloc rfl zerBt) ?_; rintro _ _ ⟨b15, rfl, rfl⟩)
                  (refine wl_ef rfl (ef_storeC siz26 rfl rfl rfl) ?_; rintro _ _ ⟨rfl, rfl⟩)
                  refine wl_val rfl rfl rfl (y_assign rfl) ?_
                  refine wl_nil ?_
                  refine q_then ?_
                  refine wc_seq ?_
                  apply wc_later1
                  case h =>
                    intro hL16
                    refine wa_begin_all (n := 12) (b := #[false, false, false, false, false, false, false, false, false, false, false, false]) mixed rfl rfl ?_
                    refine wa_t 0 (by kernel_rfl) rfl rfl rfl rfl (y_loadC agg42 rfl) ?_
                    refine wa_t 2 (by kernel_rfl) rfl rfl rfl rfl (y_field0 fa33_0 rfl) ?_
                    refine wa_t 3 (by kernel_rfl) rfl rfl rfl rfl (y_field0 fa30_4 rfl) ?_
                    refine wa_t 4 (by kernel_rfl) rfl rfl rfl rfl (y_loadC agg28 rfl) ?_
                    refine wa_all (rs := [1, 9]) (by kernel_rfl) (by simp) ?_
                    intro i hi; simp only [List.mem_cons, List.mem_nil_iff, or_false] at hi
                    rcases hi with rfl | rfl
                    · (refine wo_e rfl rfl (ef_callv0 rfl fun20 rfl (fun _ hw => (c_Of _ _))) ?_; rintro _ _ ⟨rfl, rfl⟩; refine ⟨.inr SubC.out, ?_⟩)
                      refine wa_all (rs := [5, 9]) (by kernel_rfl) (by simp) ?_
                      intro i hi; simp only [List.mem_cons, List.mem_nil_iff, or_false] at hi
                      rcases hi with rfl | rfl
                      · (refine wo_e rfl rfl (ef_callv0 rfl fun36 rfl (fun _ hw => (c_refKnown s _ _ (hso.go hw).eb (hso.go hw).b (hso.go hw).hb))) ?_; rintro _ _ ⟨rfl, rfl⟩; refine ⟨.inr SubC.out, ?_⟩)
                        refine wa_t 6 (by kernel_rfl) rfl rfl rfl rfl (y_move rfl) ?_
                        refine wa_t 7 (by kernel_rfl) rfl rfl rfl rfl (y_extract rfl rfl) ?_
                        refine wa_t 8 (by kernel_rfl) rfl rfl rfl rfl (y_extract rfl rfl) ?_
                        (refine wa_e 9 (by kernel_rfl) rfl rfl (ef_alloc rfl zerBt) ?_; rintro _ _ ⟨b17, rfl, rfl⟩; refine ⟨.inr SubC.out, ?_⟩)
                        (refine wa_e 10 (by kernel_rfl) rfl rfl (ef_storeC siz26 rfl rfl rfl) ?_; rintro _ _ ⟨rfl, rfl⟩; refine ⟨.inr SubC.out, ?_⟩)
                        refine wa_t 11 (by kernel_rfl) rfl rfl rfl rfl (y_assign rfl) ?_
                        refine wa_done (by kernel_rfl) ?_
                        refine q_then ?_
                        exact wc_le (hL16 b17) (LeE.refl _) (SubL.refl _)
                      · (refine wo_e rfl rfl (ef_alloc rfl zerBt) ?_; rintro _ _ ⟨b17, rfl, rfl⟩; refine ⟨.inr SubC.out, ?_⟩)
                        (refine wa_e 5 (by kernel_rfl) rfl rfl (ef_callv0 rfl fun36 rfl (fun _ hw => (c_refKnown s _ _ (hso.go hw).eb (hso.go hw).b (hso.go hw).hb))) ?_; rintro _ _ ⟨rfl, rfl⟩; refine ⟨.inr SubC.out, ?_⟩)
                        refine wa_t 6 (by kernel_rfl) rfl rfl rfl rfl (y_move rfl) ?_
                        refine wa_t 7 (by kernel_rfl) rfl rfl rfl rfl (y_extract rfl rfl) ?_
                        refine wa_t 8 (by kernel_rfl) rfl rfl rfl rfl (y_extract rfl rfl) ?_
                        (refine wa_e 10 (by kernel_rfl) rfl rfl (ef_storeC siz26 rfl rfl rfl) ?_; rintro _ _ ⟨rfl, rfl⟩; refine ⟨.inr SubC.out, ?_⟩)
                        refine wa_t 11 (by kernel_rfl) rfl rfl rfl rfl (y_assign rfl) ?_
                        refine wa_done (by kernel_rfl) ?_
                        refine q_then ?_
                        first | exact wc_le (hL16 b17) (LeE.refl _) (SubL.refl _) | exact wc_le (hL16 b17) (by repeat (first | (focus ((repeat refine LeE.skip ?_ rfl); exact LeE.refl _)) | refine LeE.cons rfl ?_)) SubC.out
                    · (refine wo_e rfl rfl (ef_alloc rfl zerBt) ?_; rintro _ _ ⟨b17, rfl, rfl⟩; refine ⟨.inr SubC.out, ?_⟩)
                      (refine wa_e 1 (by kernel_rfl) rfl rfl (ef_callv0 rfl fun20 rfl (fun _ hw => (c_Of _ _))) ?_; rintro _ _ ⟨rfl, rfl⟩; refine ⟨.inr SubC.out, ?_⟩)
                      (refine wa_e 5 (by kernel_rfl) rfl rfl (ef_callv0 rfl fun36 rfl (fun _ hw => (c_refKnown s _ _ (hso.go hw).eb (hso.go hw).b (hso.go hw).hb))) ?_; rintro _ _ ⟨rfl, rfl⟩; refine ⟨.inr SubC.out, ?_⟩)
                      refine wa_t 6 (by kernel_rfl) rfl rfl rfl rfl (y_move rfl) ?_
                      refine wa_t 7 (by kernel_rfl) rfl rfl rfl rfl (y_extract rfl rfl) ?_
                      refine wa_t 8 (by kernel_rfl) rfl rfl rfl rfl (y_extract rfl rfl) ?_
                      (refine wa_e 10 (by kernel_rfl) rfl rfl (ef_storeC siz26 rfl rfl rfl) ?_; rintro _ _ ⟨rfl, rfl⟩; refine ⟨.inr SubC.out, ?_⟩)
                      refine wa_t 11 (by kernel_rfl) rfl rfl rfl rfl (y_assign rfl) ?_
                      refine wa_done (by kernel_rfl) ?_
                      refine q_then ?_
                      first | exact wc_le (hL16 b17) (LeE.refl _) (SubL.refl _) | exact wc_le (hL16 b17) (by repeat (first | (focus ((repeat refine LeE.skip ?_ rfl); exact LeE.refl _)) | refine LeE.cons rfl ?_)) SubC.out
                  intro b17
                  refine wc_seq ?_
                  refine wa_begin_all (n := 23) (b := #[false, false, false, false, false, false, false, false, false, false, false, false, false, false, false, false, false, false, false, false, false, false, false]) mixed rfl rfl ?_
                  refine wa_t 0 (by kernel_rfl) rfl rfl rfl rfl (y_loadC agg26 rfl) ?_
                  refine wa_t 1 (by kernel_rfl) rfl rfl rfl rfl (y_loadC agg26 rfl) ?_
                  (refine wa_e 2 (by kernel_rfl) rfl rfl (ef_callv0 rfl fun25 rfl (fun _ hw => (c_refBtSame _ _ _ (hkk.go hw) (hkk.go hw)))) ?_; rintro _ _ ⟨rfl, rfl⟩; refine ⟨.inl (by kernel_rfl), ?_⟩)
                  refine wa_t 3 (by kernel_rfl) rfl rfl rfl rfl (y_move rfl) ?_
                  apply wa_andp (d := 134)
                  case ht =>
                    intro hg6 hK6
                    first
                      | (refine wa_dead ?_ hK6 rfl; first | with_reducible contradiction | omega | (simp at hg6; done))
                      | skip
                        try simp only [bsA, ne_eq] at hg6
                        refine wa_gt 4 (by kernel_rfl) rfl rfl rfl rfl rfl rfl rfl rfl (y_move rfl) ?_
                        refine wa_gt 5 (by kernel_rfl) rfl rfl rfl rfl rfl rfl rfl rfl (y_move rfl) ?_
                        refine wa_gt 6 (by kernel_rfl) rfl rfl rfl rfl rfl rfl rfl rfl (y_eqlBool Try.underlying4 rfl rfl) ?_
                        refine wa_t 7 (by kernel_rfl) rfl rfl rfl rfl (y_pickt rfl rfl) ?_
                        exact wa_leR hK6 (.cons rfl (by repeat (first | refine LeE.skip ?_ rfl | exact LeE.refl _)))
                  case hf =>
                    intro hg6 hK6
                    (refine wa_dead ?_ hK6 rfl; first | with_reducible contradiction | omega | (simp at hg6; done))
                  refine wa_t 8 (by kernel_rfl) rfl rfl rfl rfl (y_move rfl) ?_
                  first | apply wa_andp (d := 145) | apply wa_and (d := 145)
                  case ht =>
                    intro hg7 hK7
                    first
                      | (refine wa_dead ?_ hK7 rfl; first | with_reducible contradiction | omega | (simp at hg7; done))
                      | skip
                        try simp only [bsA, ne_eq] at hg7
                        refine wa_gt 9 (by kernel_rfl) rfl rfl rfl rfl rfl rfl rfl rfl (y_loadC agg42 rfl) ?_
                        refine wa_gt 10 (by kernel_rfl) rfl rfl rfl rfl rfl rfl rfl rfl (y_loadC agg42 rfl) ?_
                        refine wa_gt 12 (by kernel_rfl) rfl rfl rfl rfl rfl rfl rfl rfl (y_loadC agg42 rfl) ?_
                        refine wa_gt 14 (by kernel_rfl) rfl rfl rfl rfl rfl rfl rfl rfl (y_loadC agg42 rfl) ?_
                        (refine wa_ge 11 (by kernel_rfl) rfl rfl rfl rfl rfl rfl (ef_callv0 rfl fun37 rfl (fun _ hw => (c_slSame _ _ _ (hso.go hw) (hoo.go hw)))) ?_; rintro _ _ ⟨rfl, rfl⟩; refine ⟨.inr SubC.out, ?_⟩)
                        (refine wa_ge 13 (by kernel_rfl) rfl rfl rfl rfl rfl rfl (ef_callv0 rfl fun20 rfl (fun _ hw => (c_Of _ _))) ?_; rintro _ _ ⟨rfl, rfl⟩; refine ⟨.inr SubC.out, ?_⟩)
                        (refine wa_ge 15 (by kernel_rfl) rfl rfl rfl rfl rfl rfl (ef_callv0 rfl fun20 rfl (fun _ hw => (c_Of _ _))) ?_; rintro _ _ ⟨rfl, rfl⟩; refine ⟨.inl (by kernel_rfl), ?_⟩)
                        first | (refine wa_ge 16 (by kernel_rfl) rfl rfl rfl rfl rfl rfl (ef_callv0 rfl fun19 rfl (fun _ hw => (c_refSlSame _ _ _ (hx1.go hw) (hx1.go hw)))) ?_; rintro _ _ ⟨rfl, rfl⟩; refine ⟨.inl (by kernel_rfl), ?_⟩) | (refine wa_ge 16 (by kernel_rfl) rfl rfl rfl rfl rfl rfl (ef_callv0 rfl fun19 rfl (fun _ hw => (c_refSlSame _ _ _ (hx2.go hw) (hx2.go hw)))) ?_; rintro _ _ ⟨rfl, rfl⟩; refine ⟨.inl (by kernel_rfl), ?_⟩) | (refine wa_ge 16 (by kernel_rfl) rfl rfl rfl rfl rfl rfl (ef_callv0 rfl fun19 rfl (fun _ hw => (c_refSlSame _ _ _ (hx3.go hw) (hx3.go hw)))) ?_; rintro _ _ ⟨rfl, rfl⟩; refine ⟨.inl (by kernel_rfl), ?_⟩) | (refine wa_ge 16 (by kernel_rfl) rfl rfl rfl rfl rfl rfl (ef_callv0 rfl fun19 rfl (fun _ hw => (c_refSlSame _ _ _ (hso.go hw) (hoo.go hw)))) ?_; rintro _ _ ⟨rfl, rfl⟩; refine ⟨.inl (by kernel_rfl), ?_⟩)
                        refine wa_gt 17 (by kernel_rfl) rfl rfl rfl rfl rfl rfl rfl rfl (y_eqlBool Try.underlying4 rfl rfl) ?_
                        refine wa_t 18 (by kernel_rfl) rfl rfl rfl rfl (y_pickt rfl rfl) ?_
                        exact wa_leR hK7 (.cons rfl (by repeat (first | refine LeE.skip ?_ rfl | exact LeE.refl _)))
                  case hf =>
                    intro hg7 hK7
                    (refine wa_dead ?_ hK7 rfl; first | with_reducible contradiction | omega | (simp at hg7; done))
                  refine wa_t 19 (by kernel_rfl) rfl rfl rfl rfl (y_move rfl) ?_
                  first | apply wa_andp (d := 148) | apply wa_and (d := 148)
                  case ht =>
                    intro hg8 hK8
                    first
                      | (refine wa_dead ?_ hK8 rfl; first | with_reducible contradiction | omega | (simp at hg8; done))
                      | skip
                        try simp only [bsA, ne_eq] at hg8
                        (refine wa_ge 20 (by kernel_rfl) rfl rfl rfl rfl rfl rfl (ef_callv0 rfl fun14 rfl (fun _ hw => (c_lives18 _))) ?_; rintro _ _ ⟨rfl, rfl⟩; refine ⟨.inl (by kernel_rfl), ?_⟩)
                        refine wa_t 21 (by kernel_rfl) rfl rfl rfl rfl (y_pickt rfl rfl) ?_
                        exact wa_leR hK8 (.cons rfl (by repeat (first | refine LeE.skip ?_ rfl | exact LeE.refl _)))
                  case hf =>
                    intro hg8 hK8
                    (refine wa_dead ?_ hK8 rfl; first | with_reducible contradiction | omega | (simp at hg8; done))
                  refine wa_t 22 (by kernel_rfl) rfl rfl rfl rfl (y_assign rfl) ?_
                  refine wa_done (by kernel_rfl) ?_
                  refine q_then ?_
                  refine wc_ret ?_
                  apply q_retg (res1 Try.results7 rfl) -- ret 4
                  case hΨ =>
                    exact ⟨by first | rfl | simp, rfl⟩
                  case hs =>
                    exact SubC.out
end Go.Proofs.Ytdgmkbjopcopcaa
