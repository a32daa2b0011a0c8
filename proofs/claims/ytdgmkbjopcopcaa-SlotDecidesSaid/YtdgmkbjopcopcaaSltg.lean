/- Layer 18 (slot): SlotDecides: the walk. Own work. -/
import Derived.Test.YtdgmkbjopcopcaaSlte
set_option linter.unusedVariables false
set_option linter.unusedSimpArgs false
set_option maxRecDepth 100000
set_option maxHeartbeats 8000000
namespace Go.Proofs.Ytdgmkbjopcopcaa
open Go.RowKit
-- flat
-- zero 42 Sl0.cells
-- zero 50 Sl0.cells
-- zero 26 Bt0.cells
-- use zerSl zerSl
-- use zerRs zerRs
-- use zerBt zerBt
-- use zerDg zerDg
-- use zerIb zerIb
-- build 26 bldBt
-- build 30 bldVt
-- build 33 bldCt
-- build 38 bldHe
-- build 40 bldEn
-- build 124 bldIb




/-- the cert of commits -/
abbrev ctC (c : Ct) (d : Dg) : Ct := { c with vote := { c.vote with kind := 2, dig := d } }
abbrev slD (s : Sl) (b : Bt) (c : Ct) : Sl := { s with decided := true, entry := ⟨c.vote.slot, b, ctC c b.dig⟩ }
theorem dcd_new {s : Sl} {b : Bt} {c : Ct} (h : s.decided = false) : dcd s b (ctC c b.dig) = (slD s b c, 0) := by
  simp [dcd, h, slD, ctC]
theorem dcd_again (s : Sl) (b o : Bt) (c : Ct) : dcd (slD s b c) o (ctC c o.dig) = if o.dig = b.dig then (slD s b c, 0) else (Sl0, 181) := by
  simp only [dcd, slD, ctC]
  by_cases h : o.dig = b.dig
  · simp [h]
  · have h2 : ¬ b.dig = o.dig := fun e => h e.symm
    simp [h, h2]
theorem kno_new (s : Sl) (b : Bt) (c : Ct) : kno (slD s b c) b.dig = (b, true) := by simp [kno, kns, knoL, slD]
theorem c_SlotDecides (s : Sl) (b o : Bt) (c : Ct) (w : World) (hs : SlIn w s) (hb : BtIn w [] b) (ho : BtIn w [] o) (hc : CtOk w c) :
    Calls Try.prog 4 #[.agg s.cells.toArray, .agg b.cells.toArray, .agg o.cells.toArray, .agg c.cells.toArray] w (RV w (.bool true)) := by
  have hss : ∀ x ∈ [s], SlIn w x := by
    intro x hx
    simp only [List.mem_cons, List.not_mem_nil, or_false] at hx
    subst hx
    exact hs
  have hbs : ∀ x ∈ [b, o], BtIn w [] x := by
    intro x hx
    simp only [List.mem_cons, List.not_mem_nil, or_false] at hx
    rcases hx with rfl | rfl
    · exact hb
    · exact ho
  refine enter (N := 135) Try.func4 rfl Try.ntmps4 rfl (Has.nil _) ?_
  refine wc_seq ?_
  refine wc_region ?_
  (refine wl_ef rfl (ef_box rfl rfl rfl) ?_; rintro _ _ ⟨b4, rfl, rfl⟩)
  (refine wl_ef rfl (ef_box rfl rfl rfl) ?_; rintro _ _ ⟨b5, rfl, rfl⟩)
  (refine wl_ef rfl (ef_box rfl rfl rfl) ?_; rintro _ _ ⟨b6, rfl, rfl⟩)
  (refine wl_ef rfl (ef_box rfl rfl rfl) ?_; rintro _ _ ⟨b7, rfl, rfl⟩)
  refine wl_val rfl rfl rfl (y_assign rfl) ?_
  refine wl_nil ?_
  refine q_then ?_
  refine wc_seq ?_
  refine wc_seq ?_
  refine wc_region ?_
  refine wl_val rfl rfl rfl (y_loadC agg42 rfl) ?_
  (refine wl_ef rfl (ef_litN rfl Try.underlying123 siz42 zerSl rfl rfl rfl) ?_; rintro _ _ ⟨v18, rfl, rfl⟩)
  (refine wl_ef rfl (ef_callv0 rfl fun23 rfl (fun _ hw => (c_light _ [s] _ (rd_sls hw rfl (by simp)) (fun x hx => (hss x hx).go hw)))) ?_; rintro _ _ ⟨rfl, rfl⟩)
  refine wl_val rfl rfl rfl (y_not rfl) ?_
  refine wl_val rfl rfl rfl (y_move rfl) ?_
  apply wl_orp (d := 27)
  case ht =>
    intro hg1 hK1
    first
      | (refine wl_dead ?_ hK1 rfl; first | with_reducible contradiction | omega | (simp at hg1; done))
      | skip
        try simp only [bsA, ne_eq] at hg1
        refine wl_gskip rfl rfl rfl rfl rfl rfl rfl ?_
        refine wl_gskip rfl rfl rfl rfl rfl rfl rfl ?_
        refine wl_gskip rfl rfl rfl rfl rfl rfl rfl ?_
        refine wl_gskip rfl rfl rfl rfl rfl rfl rfl ?_
        refine wl_gskip rfl rfl rfl rfl rfl rfl rfl ?_
        refine wl_val rfl rfl rfl (y_pickt rfl rfl) ?_
        exact wl_leR hK1 (.cons rfl (by repeat (first | refine LeE.skip ?_ rfl | exact LeE.refl _)))
  case hf =>
    intro hg1 hK1
    first
      | (refine wl_dead ?_ hK1 rfl; first | with_reducible contradiction | omega | (simp at hg1; done))
      | skip
        try simp only [bsA, ne_eq] at hg1
        refine wl_gval rfl rfl rfl rfl rfl rfl rfl (y_loadC agg26 rfl) ?_
        refine wl_gval rfl rfl rfl rfl rfl rfl rfl (y_loadC agg26 rfl) ?_
        (refine wl_gef rfl rfl rfl rfl rfl (ef_litN rfl Try.underlying117 siz26 zerBt rfl rfl rfl) ?_; rintro _ _ ⟨v24, rfl, rfl⟩)
        (refine wl_gef rfl rfl rfl rfl rfl (ef_callv0 rfl fun15 rfl (fun _ hw => (c_Light _ [b, o] _ (rd_bts hw rfl (by simp)) (fun x hx => (hbs x hx).go hw)))) ?_; rintro _ _ ⟨rfl, rfl⟩)
        refine wl_gval rfl rfl rfl rfl rfl rfl rfl (y_not rfl) ?_
        first | refine wl_val rfl rfl rfl (y_pickt rfl rfl) ?_ | refine wl_val rfl rfl rfl (y_pickf rfl rfl) ?_
        first | exact wl_leR hK1 (.cons rfl (by repeat (first | refine LeE.skip ?_ rfl | exact LeE.refl _))) | exact wl_le hK1 (.cons rfl (by repeat (first | refine LeE.skip ?_ rfl | exact LeE.refl _))) SubC.out
  refine wl_val rfl rfl rfl (y_move rfl) ?_
  first | apply wl_orp (d := 33) | apply wl_or (d := 33)
  case ht =>
    intro hg2 hK2
    first
      | (refine wl_dead ?_ hK2 rfl; first | with_reducible contradiction | omega | (simp at hg2; done))
      | skip
        try simp only [bsA, ne_eq] at hg2
        refine wl_gskip rfl rfl rfl rfl rfl rfl rfl ?_
        refine wl_gskip rfl rfl rfl rfl rfl rfl rfl ?_
        refine wl_gskip rfl rfl rfl rfl rfl rfl rfl ?_
        refine wl_gskip rfl rfl rfl rfl rfl rfl rfl ?_
        refine wl_val rfl rfl rfl (y_pickt rfl rfl) ?_
        exact wl_leR hK2 (.cons rfl (by repeat (first | refine LeE.skip ?_ rfl | exact LeE.refl _)))
  case hf =>
    intro hg2 hK2
    first
      | (refine wl_dead ?_ hK2 rfl; first | with_reducible contradiction | omega | (simp at hg2; done))
      | skip
        try simp only [bsA, ne_eq] at hg2
        refine wl_gval rfl rfl rfl rfl rfl rfl rfl (y_field0 fa33_1 rfl) ?_
        refine wl_gval rfl rfl rfl rfl rfl rfl rfl (y_loadA one31 rfl) ?_
        refine wl_gval rfl rfl rfl rfl rfl rfl rfl (y_lenSl Try.underlying31 rfl) ?_
        refine wl_gval rfl rfl rfl rfl rfl rfl rfl (y_gtr rfl rfl) ?_
        first | refine wl_val rfl rfl rfl (y_pickt rfl rfl) ?_ | refine wl_val rfl rfl rfl (y_pickf rfl rfl) ?_
        exact wl_leR hK2 (.cons rfl (by repeat (first | refine LeE.skip ?_ rfl | exact LeE.refl _)))
  refine wl_val rfl rfl rfl (y_move rfl) ?_
  first | apply wl_orp (d := 37) | apply wl_or (d := 37)
  case ht =>
    intro hg3 hK3
    first
      | (refine wl_dead ?_ hK3 rfl; first | with_reducible contradiction | omega | (simp at hg3; done))
      | skip
        try simp only [bsA, ne_eq] at hg3
        refine wl_gskip rfl rfl rfl rfl rfl rfl rfl ?_
        refine wl_gskip rfl rfl rfl rfl rfl rfl rfl ?_
        refine wl_val rfl rfl rfl (y_pickt rfl rfl) ?_
        exact wl_leR hK3 (.cons rfl (by repeat (first | refine LeE.skip ?_ rfl | exact LeE.refl _)))
  case hf =>
    intro hg3 hK3
    first
      | (refine wl_dead ?_ hK3 rfl; first | with_reducible contradiction | omega | (simp at hg3; done))
      | skip
        try simp only [bsA, ne_eq] at hg3
        refine wl_gval rfl rfl rfl rfl rfl rfl rfl (y_field0 fa42_6 rfl) ?_
        refine wl_gval rfl rfl rfl rfl rfl rfl rfl (y_loadA one4 rfl) ?_
        first | refine wl_val rfl rfl rfl (y_pickt rfl rfl) ?_ | refine wl_val rfl rfl rfl (y_pickf rfl rfl) ?_
        exact wl_leR hK3 (.cons rfl (by repeat (first | refine LeE.skip ?_ rfl | exact LeE.refl _)))
  refine wl_nil ?_
  refine q_then ?_
  first | refine wc_cond rfl (fun hc0 => ?_) (fun hc0 => ?_) | refine wc_condb rfl (fun hc0 => ?_) (fun hc0 => ?_)
  · first
    | ((try simp only [bsA, ne_eq] at hc0); exfalso; (first | with_reducible contradiction | omega | (simp at hc0; done)))
    | skip
      try simp only [bsA, ne_eq] at hc0
      refine wc_seq ?_
      refine wc_region ?_
      (refine wl_ef rfl (ef_callv0 rfl fun14 rfl (fun _ hw => (c_lives18 _))) ?_; rintro _ _ ⟨rfl, rfl⟩)
      refine wl_val rfl rfl rfl (y_assign rfl) ?_
      refine wl_nil ?_
      refine q_then ?_
      refine wc_ret ?_
      refine q_thenRet ?_
      apply q_retg (res1 Try.results4 rfl) -- ret 0
      case hΨ =>
        first | exact ⟨rfl, rfl⟩ | exact rfl
      case hs =>
        exact SubC.out
  · first
    | ((try simp only [bsA, ne_eq] at hc0); exfalso; (first | with_reducible contradiction | omega | (simp at hc0; done)))
    | skip
      try simp only [bsA, ne_eq] at hc0
      have hl1 : lightS s ∧ lightB [b, o] = true ∧ s.decided = false := by simp [lightB, wtB] at hc0 ⊢; exact ⟨hc0.1.1.1, hc0.1.1.2, hc0.2⟩
      have hso := hs.ok hl1.1
      have hbo := bt_light hb (List.mem_cons_self ..) hl1.2.1
      have hoo := bt_light ho (List.mem_cons_of_mem _ (List.mem_singleton.2 rfl)) hl1.2.1
      have hD := hl1.2.2
      have hcc : CtOk w (ctC c b.dig) := ⟨hc.rd⟩
      have hX : SlOk w (slD s b c) := ⟨hso.b, hso.hb, hso.hc, hbo, hcc⟩
      have cD : ∀ w, BtOk w s.entry.b → BtOk w b → Calls Try.prog 18 #[.agg s.cells.toArray, .agg b.cells.toArray, .agg (ctC c b.dig).cells.toArray] w (RV w (.tuple #[.agg (slD s b c).cells.toArray, .int .i64 0])) := fun w h1 h2 => by
        have := c_Decide s b (ctC c b.dig) w h1 h2
        rwa [dcd_new hD] at this
      obtain ⟨Y, f, hY⟩ : ∃ Y f, dcd (slD s b c) o (ctC c o.dig) = (Y, f) := ⟨_, _, rfl⟩
      have hYo : SlOk w Y := by
        have := dcd_ok (w := w) hX hoo (c := ctC c o.dig) ⟨hc.rd⟩
        rwa [hY] at this
      have cE : ∀ w, BtOk w b → BtOk w o → Calls Try.prog 18 #[.agg (slD s b c).cells.toArray, .agg o.cells.toArray, .agg (ctC c o.dig).cells.toArray] w (RV w (.tuple #[.agg Y.cells.toArray, .int .i64 f])) := fun w h1 h2 => by
        have := c_Decide (slD s b c) o (ctC c o.dig) w h1 h2
        rwa [hY] at this
      have cK : ∀ w, SlOk w (slD s b c) → Calls Try.prog 24 #[.agg (slD s b c).cells.toArray, .agg (bvs b.dig.1).toArray] w (RV w (.tuple #[.agg b.cells.toArray, .bool true])) := fun w h1 => by
        have := c_Known (slD s b c) b.dig w h1.eb h1.b h1.hb
        rwa [kno_new] at this
      rw [dcd_again] at hY
      refine wc_skip ?_
      refine q_then ?_
      refine wc_seq ?_
      refine wc_region ?_
      refine wl_val rfl rfl rfl (y_loadC agg26 rfl) ?_
      (refine wl_ef rfl (ef_callv0 rfl fun22 rfl (fun _ hw => (c_refdig _ _ (hbo.go hw)))) ?_; rintro _ _ ⟨rfl, rfl⟩)
      refine wl_val rfl rfl rfl (y_field0 fa33_0 rfl) ?_
      refine wl_val rfl rfl rfl (y_field0 fa30_0 rfl) ?_
      (refine wl_ef rfl (ef_storeC siz3 rfl rfl rfl) ?_; rintro _ _ ⟨rfl, rfl⟩)
      refine wl_val rfl rfl rfl (y_field0 fa33_0 rfl) ?_
      refine wl_val rfl rfl rfl (y_field0 fa30_4 rfl) ?_
      (refine wl_ef rfl (ef_storeC siz28 rfl rfl rfl) ?_; rintro _ _ ⟨rfl, rfl⟩)
      refine wl_nil ?_
      refine q_then ?_
      refine wc_seq ?_
      refine wc_region ?_
      refine wl_val rfl rfl rfl (y_loadC agg42 rfl) ?_
      refine wl_val rfl rfl rfl (y_loadC agg26 rfl) ?_
      refine wl_val rfl rfl rfl (y_loadC agg33 rfl) ?_
      (refine wl_ef rfl (ef_callv0 rfl fun18 rfl (fun _ hw => (cD _ (hso.go hw).eb (hbo.go hw)))) ?_; rintro _ _ ⟨rfl, rfl⟩)
      refine wl_val rfl rfl rfl (y_move rfl) ?_
      refine wl_val rfl rfl rfl (y_extract rfl rfl) ?_
      refine wl_val rfl rfl rfl (y_extract rfl rfl) ?_
      (refine wl_ef rfl (ef_alloc rfl zerSl) ?_; rintro _ _ ⟨b9, rfl, rfl⟩)
      (refine wl_ef rfl (ef_storeC siz42 rfl rfl rfl) ?_; rintro _ _ ⟨rfl, rfl⟩)
      refine wl_val rfl rfl rfl (y_assign rfl) ?_
      refine wl_nil ?_
      refine q_then ?_
      refine wc_seq ?_
      refine wc_seq ?_
      refine wc_region ?_
      refine wl_val rfl rfl rfl (y_move rfl) ?_
      refine wl_val rfl rfl rfl (y_neq rfl rfl) ?_
      refine wl_val rfl rfl rfl (y_move rfl) ?_
      apply wl_orp (d := 58)
      case ht =>
        intro hg4 hK4
        first
          | (refine wl_dead ?_ hK4 rfl; first | with_reducible contradiction | omega | (simp at hg4; done))
          | skip
            try simp only [bsA, ne_eq] at hg4
            refine wl_gskip rfl rfl rfl rfl rfl rfl rfl ?_
            refine wl_gskip rfl rfl rfl rfl rfl rfl rfl ?_
            refine wl_gskip rfl rfl rfl rfl rfl rfl rfl ?_
            refine wl_val rfl rfl rfl (y_pickt rfl rfl) ?_
            exact wl_leR hK4 (.cons rfl (by repeat (first | refine LeE.skip ?_ rfl | exact LeE.refl _)))
      case hf =>
        intro hg4 hK4
        first
          | (refine wl_dead ?_ hK4 rfl; first | with_reducible contradiction | omega | (simp at hg4; done))
          | skip
            try simp only [bsA, ne_eq] at hg4
            refine wl_gval rfl rfl rfl rfl rfl rfl rfl (y_field0 fa42_6 rfl) ?_
            refine wl_gval rfl rfl rfl rfl rfl rfl rfl (y_loadA one4 rfl) ?_
            first | refine wl_gval rfl rfl rfl rfl rfl rfl rfl (y_not rfl) ?_ | refine wl_gval rfl rfl rfl rfl rfl rfl rfl (y_nott rfl) ?_
            first | refine wl_val rfl rfl rfl (y_pickt rfl rfl) ?_ | refine wl_val rfl rfl rfl (y_pickf rfl rfl) ?_
            exact wl_leR hK4 (.cons rfl (by repeat (first | refine LeE.skip ?_ rfl | exact LeE.refl _)))
      refine wl_val rfl rfl rfl (y_move rfl) ?_
      first | apply wl_orp (d := 67) | apply wl_or (d := 67)
      case ht =>
        intro hg5 hK5
        first
          | (refine wl_dead ?_ hK5 rfl; first | with_reducible contradiction | omega | (simp at hg5; done))
          | skip
            try simp only [bsA, ne_eq] at hg5
            refine wl_gskip rfl rfl rfl rfl rfl rfl rfl ?_
            refine wl_gskip rfl rfl rfl rfl rfl rfl rfl ?_
            refine wl_gskip rfl rfl rfl rfl rfl rfl rfl ?_
            refine wl_gskip rfl rfl rfl rfl rfl rfl rfl ?_
            refine wl_gskip rfl rfl rfl rfl rfl rfl rfl ?_
            refine wl_gskip rfl rfl rfl rfl rfl rfl rfl ?_
            refine wl_gskip rfl rfl rfl rfl rfl rfl rfl ?_
            refine wl_val rfl rfl rfl (y_pickt rfl rfl) ?_
            exact wl_leR hK5 (.cons rfl (by repeat (first | refine LeE.skip ?_ rfl | exact LeE.refl _)))
      case hf =>
        intro hg5 hK5
        first
          | (refine wl_dead ?_ hK5 rfl; first | with_reducible contradiction | omega | (simp at hg5; done))
          | skip
            try simp only [bsA, ne_eq] at hg5
            refine wl_gval rfl rfl rfl rfl rfl rfl rfl (y_field0 fa42_5 rfl) ?_
            first | refine wl_gval rfl rfl rfl rfl rfl rfl rfl (y_field0 fa40_0 rfl) ?_ | refine wl_gval rfl rfl rfl rfl rfl rfl rfl (y_fieldN fa40_0 rfl (by simp only [Nat.reduceAdd]; rfl)) ?_
            refine wl_gval rfl rfl rfl rfl rfl rfl rfl (y_loadA one3 rfl) ?_
            refine wl_gval rfl rfl rfl rfl rfl rfl rfl (y_field0 fa33_0 rfl) ?_
            refine wl_gval rfl rfl rfl rfl rfl rfl rfl (y_field0 fa30_3 rfl) ?_
            refine wl_gval rfl rfl rfl rfl rfl rfl rfl (y_loadA one3 rfl) ?_
            refine wl_gval rfl rfl rfl rfl rfl rfl rfl (y_neq rfl rfl) ?_
            first | refine wl_val rfl rfl rfl (y_pickt rfl rfl) ?_ | refine wl_val rfl rfl rfl (y_pickf rfl rfl) ?_
            exact wl_leR hK5 (.cons rfl (by repeat (first | refine LeE.skip ?_ rfl | exact LeE.refl _)))
      refine wl_val rfl rfl rfl (y_move rfl) ?_
      apply wl_orp (d := 74)
      case ht =>
        intro hg6 hK6
        first
          | (refine wl_dead ?_ hK6 rfl; first | with_reducible contradiction | omega | (simp at hg6; done))
          | skip
            try simp only [bsA, ne_eq] at hg6
            refine wl_gskip rfl rfl rfl rfl rfl rfl rfl ?_
            refine wl_gskip rfl rfl rfl rfl rfl rfl rfl ?_
            refine wl_gskip rfl rfl rfl rfl rfl rfl rfl ?_
            refine wl_gskip rfl rfl rfl rfl rfl rfl rfl ?_
            refine wl_gskip rfl rfl rfl rfl rfl rfl rfl ?_
            refine wl_val rfl rfl rfl (y_pickt rfl rfl) ?_
            exact wl_leR hK6 (.cons rfl (by repeat (first | refine LeE.skip ?_ rfl | exact LeE.refl _)))
      case hf =>
        intro hg6 hK6
        first
          | (refine wl_dead ?_ hK6 rfl; first | with_reducible contradiction | omega | (simp at hg6; done))
          | skip
            try simp only [bsA, ne_eq] at hg6
            refine wl_gval rfl rfl rfl rfl rfl rfl rfl (y_field0 fa42_2 rfl) ?_
            refine wl_gval rfl rfl rfl rfl rfl rfl rfl (y_loadA one4 rfl) ?_
            refine wl_gval rfl rfl rfl rfl rfl rfl rfl (y_field0 fa42_2 rfl) ?_
            refine wl_gval rfl rfl rfl rfl rfl rfl rfl (y_loadA one4 rfl) ?_
            refine wl_gval rfl rfl rfl rfl rfl rfl rfl (y_neqBool Try.underlying4 rfl rfl) ?_
            first | refine wl_val rfl rfl rfl (y_pickt rfl rfl) ?_ | refine wl_val rfl rfl rfl (y_pickf rfl rfl) ?_
            exact wl_leR hK6 (.cons rfl (by repeat (first | refine LeE.skip ?_ rfl | exact LeE.refl _)))
      refine wl_val rfl rfl rfl (y_move rfl) ?_
      first | apply wl_orp (d := 81) | apply wl_or (d := 81)
      case ht =>
        intro hg7 hK7
        first
          | (refine wl_dead ?_ hK7 rfl; first | with_reducible contradiction | omega | (simp at hg7; done))
          | skip
            try simp only [bsA, ne_eq] at hg7
            refine wl_gskip rfl rfl rfl rfl rfl rfl rfl ?_
            refine wl_gskip rfl rfl rfl rfl rfl rfl rfl ?_
            refine wl_gskip rfl rfl rfl rfl rfl rfl rfl ?_
            refine wl_gskip rfl rfl rfl rfl rfl rfl rfl ?_
            refine wl_gskip rfl rfl rfl rfl rfl rfl rfl ?_
            refine wl_val rfl rfl rfl (y_pickt rfl rfl) ?_
            exact wl_leR hK7 (.cons rfl (by repeat (first | refine LeE.skip ?_ rfl | exact LeE.refl _)))
      case hf =>
        intro hg7 hK7
        first
          | (refine wl_dead ?_ hK7 rfl; first | with_reducible contradiction | omega | (simp at hg7; done))
          | skip
            try simp only [bsA, ne_eq] at hg7
            refine wl_gval rfl rfl rfl rfl rfl rfl rfl (y_field0 fa42_4 rfl) ?_
            refine wl_gval rfl rfl rfl rfl rfl rfl rfl (y_loadA one4 rfl) ?_
            refine wl_gval rfl rfl rfl rfl rfl rfl rfl (y_field0 fa42_4 rfl) ?_
            refine wl_gval rfl rfl rfl rfl rfl rfl rfl (y_loadA one4 rfl) ?_
            refine wl_gval rfl rfl rfl rfl rfl rfl rfl (y_neqBool Try.underlying4 rfl rfl) ?_
            first | refine wl_val rfl rfl rfl (y_pickt rfl rfl) ?_ | refine wl_val rfl rfl rfl (y_pickf rfl rfl) ?_
            exact wl_leR hK7 (.cons rfl (by repeat (first | refine LeE.skip ?_ rfl | exact LeE.refl _)))
      refine wl_nil ?_
      refine q_then ?_
      first | refine wc_cond rfl (fun hc1 => ?_) (fun hc1 => ?_) | refine wc_condb rfl (fun hc1 => ?_) (fun hc1 => ?_)
      · exfalso; (try simp only [bsA, ne_eq] at hc1); simp at hc1
      · first
        | ((try simp only [bsA, ne_eq] at hc1); exfalso; (first | with_reducible contradiction | omega | (simp at hc1; done)))
        | skip
          try simp only [bsA, ne_eq] at hc1
          refine wc_skip ?_
          refine q_then ?_
          refine wc_seq ?_
          refine wc_region ?_
          refine wl_val rfl rfl rfl (y_loadC agg42 rfl) ?_
          refine wl_val rfl rfl rfl (y_field0 fa33_0 rfl) ?_
          refine wl_val rfl rfl rfl (y_field0 fa30_4 rfl) ?_
          refine wl_val rfl rfl rfl (y_loadC agg28 rfl) ?_
          (refine wl_ef rfl (ef_callv0 rfl fun24 rfl (fun _ hw => (cK _ (hX.go hw)))) ?_; rintro _ _ ⟨rfl, rfl⟩)
          refine wl_val rfl rfl rfl (y_move rfl) ?_
          refine wl_val rfl rfl rfl (y_extract rfl rfl) ?_
          refine wl_val rfl rfl rfl (y_extract rfl rfl) ?_
          (refine wl_ef rfl (ef_alloc rfl zerBt) ?_; rintro _ _ ⟨b11, rfl, rfl⟩)
          (refine wl_ef rfl (ef_storeC siz26 rfl rfl rfl) ?_; rintro _ _ ⟨rfl, rfl⟩)
          refine wl_val rfl rfl rfl (y_assign rfl) ?_
          refine wl_nil ?_
          refine q_then ?_
          refine wc_seq ?_
          refine wc_region ?_
          refine wl_val rfl rfl rfl (y_loadC agg33 rfl) ?_
          (refine wl_ef rfl (ef_alloc rfl zer33) ?_; rintro _ _ ⟨b13, rfl, rfl⟩)
          first | (refine wl_ef rfl (ef_storeC siz33 rfl rfl rfl) ?_; rintro _ _ ⟨rfl, rfl⟩) | (refine wl_ef rfl (ef_storeP siz33 rfl rfl rfl (by (repeat (first | exact OneAll.nil | refine OneAll.cons rfl ?_ | exact bvs_one _ | refine OneAll.app ?_ ?_ | exact OneAll.map _ (fun _ => rfl) | assumption)); fail_if_success focus skip) (by (repeat (first | exact SplN.nil | apply SplN.skip | exact SplN.all (by first | rfl | assumption | (simp; done) | (simp [*]; done)) (by first | rfl | assumption | (simp; done) | (simp [*]; done)) | exact SplN.puta (by first | rfl | assumption | (simp; done) | (simp [*]; done)) (by first | rfl | assumption | (simp; done) | (simp [*]; done)) | apply SplN.cons | apply SplN.put (by first | rfl | assumption | (simp; done) | (simp [*]; done)) (by first | rfl | assumption | (simp; done) | (simp [*]; done)) | apply SplN.over (by first | rfl | assumption | (simp; done) | (simp [*]; done)) rfl)); fail_if_success focus skip) (by first | rfl | assumption | (simp; done) | (simp [*]; done))) ?_; rintro _ _ ⟨rfl, rfl⟩)
          refine wl_nil ?_
          refine q_then ?_
          refine wc_seq ?_
          refine wc_region ?_
          refine wl_val rfl rfl rfl (y_loadC agg26 rfl) ?_
          (refine wl_ef rfl (ef_callv0 rfl fun22 rfl (fun _ hw => (c_refdig _ _ (hoo.go hw)))) ?_; rintro _ _ ⟨rfl, rfl⟩)
          refine wl_val rfl rfl rfl (y_field0 fa33_0 rfl) ?_
          refine wl_val rfl rfl rfl (y_field0 fa30_4 rfl) ?_
          (refine wl_ef rfl (ef_storeC siz28 rfl rfl rfl) ?_; rintro _ _ ⟨rfl, rfl⟩)
          refine wl_nil ?_
          refine q_then ?_
          refine wc_seq ?_
          refine wc_region ?_
          refine wl_val rfl rfl rfl (y_loadC agg42 rfl) ?_
          refine wl_val rfl rfl rfl (y_loadC agg26 rfl) ?_
          refine wl_val rfl rfl rfl (y_loadC agg33 rfl) ?_
          (refine wl_ef rfl (ef_callv0 rfl fun18 rfl (fun _ hw => (cE _ (hbo.go hw) (hoo.go hw)))) ?_; rintro _ _ ⟨rfl, rfl⟩)
          refine wl_val rfl rfl rfl (y_move rfl) ?_
          refine wl_val rfl rfl rfl (y_extract rfl rfl) ?_
          refine wl_val rfl rfl rfl (y_extract rfl rfl) ?_
          (refine wl_ef rfl (ef_alloc rfl zerSl) ?_; rintro _ _ ⟨b14, rfl, rfl⟩)
          (refine wl_ef rfl (ef_storeC siz42 rfl rfl rfl) ?_; rintro _ _ ⟨rfl, rfl⟩)
          refine wl_val rfl rfl rfl (y_assign rfl) ?_
          refine wl_nil ?_
          refine q_then ?_
          refine wc_seq ?_
          refine wc_region ?_
          refine wl_val rfl rfl rfl (y_field0 fa33_0 rfl) ?_
          refine wl_val rfl rfl rfl (y_field0 fa30_4 rfl) ?_
          refine wl_val rfl rfl rfl (y_loadC agg28 rfl) ?_
          refine wl_val rfl rfl rfl (y_field0 fa33_0 rfl) ?_
          refine wl_val rfl rfl rfl (y_field0 fa30_4 rfl) ?_
          refine wl_val rfl rfl rfl (y_loadC agg28 rfl) ?_
          refine wl_val rfl rfl rfl (y_eqlAgg Try.eqGuardType28 rfl rfl (eq_dg _ _) (by omega)) ?_
          refine wl_val rfl rfl rfl (y_assign rfl) ?_
          refine wl_nil ?_
          refine q_then ?_
          refine wc_seq ?_
          refine wa_begin_all (n := 27) (b := #[false, false, false, false, false, false, false, false, false, false, false, false, false, false, false, false, false, false, false, false, false, false, false, false, false, false, false]) mixed rfl rfl ?_
          refine wa_t 0 (by kernel_rfl) rfl rfl rfl rfl (y_move rfl) ?_
          refine wa_t 1 (by kernel_rfl) rfl rfl rfl rfl (y_move rfl) ?_
          first | apply wa_andp (d := 114) | apply wa_and (d := 114)
          case ht =>
            intro hg8 hK8
            first
              | (refine wa_dead ?_ hK8 rfl; first | with_reducible contradiction | omega | (simp at hg8; done))
              | skip
                try simp only [bsA, ne_eq] at hg8
                refine wa_gt 2 (by kernel_rfl) rfl rfl rfl rfl rfl rfl rfl rfl (y_loadC agg26 rfl) ?_
                refine wa_gt 3 (by kernel_rfl) rfl rfl rfl rfl rfl rfl rfl rfl (y_loadC agg26 rfl) ?_
                (refine wa_ge 4 (by kernel_rfl) rfl rfl rfl rfl rfl rfl (ef_callv0 rfl fun25 rfl (fun _ hw => (c_refBtSame _ _ _ (hbo.go hw) (hbo.go hw)))) ?_; rintro _ _ ⟨rfl, rfl⟩; refine ⟨.inl (by kernel_rfl), ?_⟩)
                refine wa_t 5 (by kernel_rfl) rfl rfl rfl rfl (y_pickt rfl rfl) ?_
                exact wa_leR hK8 (.cons rfl (by repeat (first | refine LeE.skip ?_ rfl | exact LeE.refl _)))
          case hf =>
            intro hg8 hK8
            (refine wa_dead ?_ hK8 rfl; first | with_reducible contradiction | omega | (simp at hg8; done))
          refine wa_t 6 (by kernel_rfl) rfl rfl rfl rfl (y_move rfl) ?_
          apply wa_andp (d := 120)
          case ht =>
            intro hg9 hK9
            first
              | (refine wa_dead ?_ hK9 rfl; first | with_reducible contradiction | omega | (simp at hg9; done))
              | skip
                try simp only [bsA, ne_eq] at hg9
                refine wa_gt 7 (by kernel_rfl) rfl rfl rfl rfl rfl rfl rfl rfl (y_move rfl) ?_
                refine wa_gt 8 (by kernel_rfl) rfl rfl rfl rfl rfl rfl rfl rfl (y_eql rfl rfl) ?_
                refine wa_gt 9 (by kernel_rfl) rfl rfl rfl rfl rfl rfl rfl rfl (y_move rfl) ?_
                refine wa_gt 10 (by kernel_rfl) rfl rfl rfl rfl rfl rfl rfl rfl (y_eqlBool Try.underlying4 rfl rfl) ?_
                refine wa_t 11 (by kernel_rfl) rfl rfl rfl rfl (y_pickt rfl rfl) ?_
                exact wa_leR hK9 (.cons rfl (by repeat (first | refine LeE.skip ?_ rfl | exact LeE.refl _)))
          case hf =>
            intro hg9 hK9
            (refine wa_dead ?_ hK9 rfl; first | with_reducible contradiction | omega | (simp at hg9; done))
          refine wa_t 12 (by kernel_rfl) rfl rfl rfl rfl (y_move rfl) ?_
          first | apply wa_andp (d := 131) | apply wa_and (d := 131)
          case ht =>
            intro hg10 hK10
            first
              | (refine wa_dead ?_ hK10 rfl; first | with_reducible contradiction | omega | (simp at hg10; done))
              | skip
                try simp only [bsA, ne_eq] at hg10
                refine wa_gt 13 (by kernel_rfl) rfl rfl rfl rfl rfl rfl rfl rfl (y_move rfl) ?_
                refine wa_gt 14 (by kernel_rfl) rfl rfl rfl rfl rfl rfl rfl rfl (y_not rfl) ?_
                refine wa_gt 15 (by kernel_rfl) rfl rfl rfl rfl rfl rfl rfl rfl (y_move rfl) ?_
                apply wa_orp (d := 130)
                case ht =>
                  intro hg11 hK11
                  first
                    | (refine wa_dead ?_ hK11 rfl; first | with_reducible contradiction | omega | (simp at hg11; done))
                    | skip
                      try simp only [bsA, ne_eq] at hg11
                      refine wa_gs 16 (by kernel_rfl) rfl rfl rfl rfl rfl rfl rfl rfl ?_
                      refine wa_gs 17 (by kernel_rfl) rfl rfl rfl rfl rfl rfl rfl rfl ?_
                      refine wa_gs 18 (by kernel_rfl) rfl rfl rfl rfl rfl rfl rfl rfl ?_
                      refine wa_gs 19 (by kernel_rfl) rfl rfl rfl rfl rfl rfl rfl rfl ?_
                      refine wa_gs 20 (by kernel_rfl) rfl rfl rfl rfl rfl rfl rfl rfl ?_
                      refine wa_gt 21 (by kernel_rfl) rfl rfl rfl rfl rfl rfl rfl rfl (y_pickt rfl rfl) ?_
                      exact wa_leR hK11 (.cons rfl (by repeat (first | refine LeE.skip ?_ rfl | exact LeE.refl _)))
                case hf =>
                  intro hg11 hK11
                  first
                    | (refine wa_dead ?_ hK11 rfl; first | with_reducible contradiction | omega | (simp at hg11; done))
                    | skip
                      try simp only [bsA, ne_eq] at hg11
                      refine wa_gt 16 (by kernel_rfl) rfl rfl rfl rfl rfl rfl rfl rfl (y_loadC agg42 rfl) ?_
                      refine wa_gt 18 (by kernel_rfl) rfl rfl rfl rfl rfl rfl rfl rfl (y_loadC agg42 rfl) ?_
                      (refine wa_ge 17 (by kernel_rfl) rfl rfl rfl rfl rfl rfl (ef_callv0 rfl fun20 rfl (fun _ hw => (c_Of _ _))) ?_; rintro _ _ ⟨rfl, rfl⟩; refine ⟨.inr SubC.out, ?_⟩)
                      (refine wa_ge 19 (by kernel_rfl) rfl rfl rfl rfl rfl rfl (ef_callv0 rfl fun20 rfl (fun _ hw => (c_Of _ _))) ?_; rintro _ _ ⟨rfl, rfl⟩; refine ⟨.inl (by kernel_rfl), ?_⟩)
                      (refine wa_ge 20 (by kernel_rfl) rfl rfl rfl rfl rfl rfl (ef_callv0 rfl fun19 rfl (fun _ hw => (c_refSlSame _ _ _ (hYo.go hw) (hX.go hw)))) ?_; rintro _ _ ⟨rfl, rfl⟩; refine ⟨.inl (by kernel_rfl), ?_⟩)
                      first | refine wa_gt 21 (by kernel_rfl) rfl rfl rfl rfl rfl rfl rfl rfl (y_pickt rfl rfl) ?_ | refine wa_gt 21 (by kernel_rfl) rfl rfl rfl rfl rfl rfl rfl rfl (y_pickf rfl rfl) ?_
                      exact wa_leR hK11 (.cons rfl (by repeat (first | refine LeE.skip ?_ rfl | exact LeE.refl _)))
                refine wa_t 22 (by kernel_rfl) rfl rfl rfl rfl (y_pickt rfl rfl) ?_
                exact wa_leR hK10 (.cons rfl (by repeat (first | refine LeE.skip ?_ rfl | exact LeE.refl _)))
          case hf =>
            intro hg10 hK10
            first
              | (refine wa_dead ?_ hK10 rfl; first | with_reducible contradiction | omega | (simp at hg10; done))
              | skip
                try simp only [bsA, ne_eq] at hg10
                refine wa_gs 13 (by kernel_rfl) rfl rfl rfl rfl rfl rfl rfl rfl ?_
                refine wa_gs 14 (by kernel_rfl) rfl rfl rfl rfl rfl rfl rfl rfl ?_
                refine wa_gs 15 (by kernel_rfl) rfl rfl rfl rfl rfl rfl rfl rfl ?_
                refine wa_gs 16 (by kernel_rfl) rfl rfl rfl rfl rfl rfl rfl rfl ?_
                refine wa_gs 17 (by kernel_rfl) rfl rfl rfl rfl rfl rfl rfl rfl ?_
                refine wa_gs 18 (by kernel_rfl) rfl rfl rfl rfl rfl rfl rfl rfl ?_
                refine wa_gs 19 (by kernel_rfl) rfl rfl rfl rfl rfl rfl rfl rfl ?_
                refine wa_gs 20 (by kernel_rfl) rfl rfl rfl rfl rfl rfl rfl rfl ?_
                refine wa_gs 21 (by kernel_rfl) rfl rfl rfl rfl rfl rfl rfl rfl ?_
                first | refine wa_t 22 (by kernel_rfl) rfl rfl rfl rfl (y_pickt rfl rfl) ?_ | refine wa_t 22 (by kernel_rfl) rfl rfl rfl rfl (y_pickf rfl rfl) ?_
                exact wa_leR hK10 (.cons rfl (by repeat (first | refine LeE.skip ?_ rfl | exact LeE.refl _)))
          refine wa_t 23 (by kernel_rfl) rfl rfl rfl rfl (y_move rfl) ?_
          first | apply wa_andp (d := 134) | apply wa_and (d := 134)
          case ht =>
            intro hg12 hK12
            first
              | (refine wa_dead ?_ hK12 rfl; first | with_reducible contradiction | omega | (simp at hg12; done))
              | skip
                try simp only [bsA, ne_eq] at hg12
                (refine wa_ge 24 (by kernel_rfl) rfl rfl rfl rfl rfl rfl (ef_callv0 rfl fun14 rfl (fun _ hw => (c_lives18 _))) ?_; rintro _ _ ⟨rfl, rfl⟩; refine ⟨.inl (by kernel_rfl), ?_⟩)
                refine wa_t 25 (by kernel_rfl) rfl rfl rfl rfl (y_pickt rfl rfl) ?_
                exact wa_leR hK12 (.cons rfl (by repeat (first | refine LeE.skip ?_ rfl | exact LeE.refl _)))
          case hf =>
            intro hg12 hK12
            first
              | (refine wa_dead ?_ hK12 rfl; first | with_reducible contradiction | omega | (simp at hg12; done))
              | skip
                try simp only [bsA, ne_eq] at hg12
                refine wa_gs 24 (by kernel_rfl) rfl rfl rfl rfl rfl rfl rfl rfl ?_
                first | refine wa_t 25 (by kernel_rfl) rfl rfl rfl rfl (y_pickt rfl rfl) ?_ | refine wa_t 25 (by kernel_rfl) rfl rfl rfl rfl (y_pickf rfl rfl) ?_
                exact wa_leR hK12 (.cons rfl (by repeat (first | refine LeE.skip ?_ rfl | exact LeE.refl _)))
          refine wa_t 26 (by kernel_rfl) rfl rfl rfl rfl (y_assign rfl) ?_
          refine wa_done (by kernel_rfl) ?_
          refine q_then ?_
          refine wc_ret ?_
          apply q_retg (res1 Try.results4 rfl) -- ret 2
          case hΨ =>
            exact ⟨by by_cases h : o.dig = b.dig <;> simp [h] at hY ⊢ <;> obtain ⟨rfl, rfl⟩ := hY <;> simp [slS], rfl⟩
          case hs =>
            exact SubC.out
end Go.Proofs.Ytdgmkbjopcopcaa
