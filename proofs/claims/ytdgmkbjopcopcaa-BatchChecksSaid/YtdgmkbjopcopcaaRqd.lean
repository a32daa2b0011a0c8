/- Layer 6 (request): the chapter's example; RequestMakes, RequestChecks, RequestMade: the walks. Own work. -/
import Derived.Test.YtdgmkbjopcopcaaRqc
import Derived.Test.YtdgmkbjopcopcaaOpb
set_option linter.unusedVariables false
set_option linter.unusedSimpArgs false
set_option maxRecDepth 100000
set_option maxHeartbeats 2000000
namespace Go.Proofs.Ytdgmkbjopcopcaa
open Go.RowKit
-- flat
-- zero 71 Rq0.cells
-- use zerRq zerRq
-- use zerTg zerTg
-- use zerDg zerDg
-- use zerKs zerKs
-- build 71 bldRq
def rS : ByteArray := ⟨#[114]⟩
def K0 : Ks := ⟨rS, 72⟩
theorem k0_ok : KsOk K0 := ⟨by decide, by decide⟩
theorem c_keys06 (w : World) : Calls Try.prog 27 #[] w (RP [] w (fun v L => ∃ b, v = .tuple #[.pointer (some ⟨b, 0, none⟩), .agg K0.cells.toArray] ∧ L = [.blk b K0.cells 156 (0, 0)])) := by
  have d1 : ∀ w, Calls Try.prog 68 #[.string rS, .int .i64 72] w (RV w (.tuple #[.agg K0.cells.toArray, .bool true])) := fun w => c_refDerive rS 72 w (by omega) (by decide)
  have d2 : ∀ w, Calls Try.prog 69 #[.string rS, .int .i64 72] w (RP [] w (fun v L => ∃ b, v = .pointer (some ⟨b, 0, none⟩) ∧ L = [.blk b K0.cells 156 (0, 0)])) := fun w => c_Derive rS 72 w (by omega) (by decide)
  refine enter (N := 10) Try.func27 rfl Try.ntmps27 rfl (Has.nil _) ?_
  refine wc_seq ?_
  refine wc_region ?_
  refine wl_val rfl rfl rfl (y_assign rfl) ?_
  (refine wl_ef rfl (ef_alloc rfl zerKs) ?_; rintro _ _ ⟨b1, rfl, rfl⟩)
  refine wl_nil ?_
  refine q_then ?_
  refine wc_seq ?_
  refine wc_region ?_
  (refine wl_ef rfl (ef_callv0 rfl fun68 rfl (fun _ hw => (d1 _))) ?_; rintro _ _ ⟨rfl, rfl⟩)
  refine wl_val rfl rfl rfl (y_move rfl) ?_
  refine wl_val rfl rfl rfl (y_extract rfl rfl) ?_
  refine wl_val rfl rfl rfl (y_extract rfl rfl) ?_
  (refine wl_ef rfl (ef_alloc rfl zerKs) ?_; rintro _ _ ⟨b2, rfl, rfl⟩)
  (refine wl_ef rfl (ef_storeC siz65 rfl rfl rfl) ?_; rintro _ _ ⟨rfl, rfl⟩)
  refine wl_val rfl rfl rfl (y_assign rfl) ?_
  refine wl_nil ?_
  refine q_then ?_
  refine wc_seq ?_
  refine wa_begin_all (n := 4) (b := #[false, false, false, false]) mixed rfl rfl ?_
  refine wa_t 1 (by kernel_rfl) rfl rfl rfl rfl (y_loadC agg65 rfl) ?_
  (refine wa_e 0 (by kernel_rfl) rfl rfl (ef_callf rfl fun69 rfl (fun _ hw => (d2 _))) ?_; rintro _ _ ⟨b8, rfl, rfl⟩; refine ⟨.inr SubC.out, ?_⟩)
  refine wa_t 2 (by kernel_rfl) rfl rfl rfl rfl (y_assign rfl) ?_
  (refine wa_e 3 (by kernel_rfl) rfl rfl (ef_storeC siz65 rfl rfl rfl) ?_; rintro _ _ ⟨rfl, rfl⟩; refine ⟨.inl (by kernel_rfl), ?_⟩)
  refine wa_done (by kernel_rfl) ?_
  refine q_then ?_
  refine wc_ret ?_
  apply q_retg (rescTC Try.results27 rfl rfl agg65) -- ret 0
  case hΨ =>
    exact ⟨_, rfl, rfl⟩
  case hs =>
    exact SubC.out
theorem sgn_ok {id : Int} {b : ByteArray} (h : 0 ≤ id ∧ id < 72) : (sgn K0 id b).2 = 0 := by
  rw [sgn, if_neg (by simp only [K0]; omega)]
theorem mk_ok {nodes client num : Int} {data : ByteArray} (h : mayP 8 (rqOf client num data)) (hn : 0 ≤ nodes ∧ nodes ≤ 64) : mk K0 nodes client num data = (⟨client, num, data, (sgn K0 (nodes + client) (bodyS (rqOf client num data))).1⟩, 0) := by
  have h1 := h.1
  have h2 := h.2.1
  simp only at h1 h2
  have h3 := sgn_ok (id := nodes + client) (b := bodyS (rqOf client num data)) (by omega)
  rw [mk, if_neg (by simpa using h), if_neg (by omega), if_neg (by simpa using h3)]
theorem bodyS_tag (r : Rq) (t : Tg) : bodyS { r with tag := t } = bodyS r := rfl
theorem gd_made {nodes clients client num : Int} {data : ByteArray} (h : mayP 8 (rqOf client num data)) (hn : 0 ≤ nodes ∧ nodes ≤ 64) (hc : client < clients) : gd K0 nodes clients (mk K0 nodes client num data).1 = 0 := by
  have h1 := h.1
  have h2 := h.2.1
  simp only at h1 h2
  rw [mk_ok h hn]
  have h3 := sgn_ok (id := nodes + client) (b := bodyS (rqOf client num data)) (by omega)
  have hm : mayP clients ⟨client, num, data, (sgn K0 (nodes + client) (bodyS (rqOf client num data))).1⟩ := ⟨h.1, hc, h.2.2.1, h.2.2.2.1, h.2.2.2.2⟩
  rw [gd, if_neg (by simpa using hm), if_neg]
  have e : bodyS ⟨client, num, data, (sgn K0 (nodes + client) (bodyS (rqOf client num data))).1⟩ = bodyS (rqOf client num data) := rfl
  rw [e]
  intro h
  rcases h with h | h | h
  · omega
  · omega
  · exact h (Prod.ext rfl h3)
def xS : ByteArray := ⟨#[120]⟩
theorem c_lives06 (w : World) : Calls Try.prog 26 #[] w (RV w (.bool true)) := by
  have hm : mayP 8 (rqOf 2 7 xS) := by decide
  obtain ⟨R, hR⟩ : ∃ R, R = (mk K0 4 2 7 xS).1 := ⟨_, rfl⟩
  have hmk := mk_ok (nodes := 4) hm (by omega)
  have h2 : (mk K0 4 2 7 xS).2 = 0 := by rw [hmk]
  have hRo : RqOk R 1000000 := by rw [hR, hmk]; exact ⟨by decide, by decide, by decide⟩
  have hs : sgn K0 6 (bodyS R) = (R.tag, 0) := by
    have e : bodyS R = bodyS (rqOf 2 7 xS) := by rw [hR, hmk]; rfl
    rw [e]
    have h3 := sgn_ok (id := 6) (b := bodyS (rqOf 2 7 xS)) (by omega)
    refine Prod.ext ?_ h3
    rw [hR, hmk]
    rfl
  have g3 : gd K0 4 3 R = 0 := by rw [hR]; exact gd_made hm (by omega) (by omega)
  have g2 : gd K0 4 2 R = 60 := by
    rw [gd, if_pos]
    intro h
    have := h.2.1
    rw [hR, hmk] at this
    simp at this
  have cm : ∀ (b : Nat) (w : World), InB w b K0.cells → Calls Try.prog 28 #[.pointer (some ⟨b, 0, none⟩), .int .i64 4, .int .i64 2, .int .i64 7, .string xS] w (RV w (.tuple #[.agg R.cells.toArray, .int .i64 0])) := fun b w h => by
    have := c_Make b K0 4 2 7 xS w h k0_ok
    rwa [h2, ← hR] at this
  have cc : ∀ (b : Nat) (w : World), InB w b K0.cells → Calls Try.prog 67 #[.pointer (some ⟨b, 0, none⟩), .int .i64 6, .string (bodyS R), .agg (bvs R.tag.1).toArray] w (RV w (.bool true)) := fun b w h => by
    have := c_Check b K0 6 (bodyS R) R.tag w h (by decide) (by decide) (by omega) (Nat.le_trans (bodyS_len hRo (by omega)) (by omega))
    rwa [decide_eq_true hs] at this
  have c3 : ∀ (b : Nat) (w : World), InB w b K0.cells → Calls Try.prog 30 #[.pointer (some ⟨b, 0, none⟩), .int .i64 4, .int .i64 3, .agg R.cells.toArray] w (RV w (.int .i64 0)) := fun b w h => by
    have := c_Good b K0 4 3 R w h k0_ok (by omega)
    rwa [g3] at this
  have c2 : ∀ (b : Nat) (w : World), InB w b K0.cells → Calls Try.prog 30 #[.pointer (some ⟨b, 0, none⟩), .int .i64 4, .int .i64 2, .agg R.cells.toArray] w (RV w (.int .i64 60)) := fun b w h => by
    have := c_Good b K0 4 2 R w h k0_ok (by omega)
    rwa [g2] at this
  refine enter (N := 36) Try.func26 rfl Try.ntmps26 rfl (Has.nil _) ?_
  refine wc_seq ?_
  refine wc_region ?_
  refine wl_val rfl rfl rfl (y_assign rfl) ?_
  refine wl_nil ?_
  refine q_then ?_
  refine wc_seq ?_
  refine wc_region ?_
  (refine wl_ef rfl (ef_callg (fun b => .tuple #[.pointer (some ⟨b, 0, none⟩), .agg K0.cells.toArray]) rfl fun27 rfl (fun _ hw => c_keys06 _)) ?_; rintro _ _ ⟨b6, rfl, rfl⟩)
  refine wl_val rfl rfl rfl (y_move rfl) ?_
  refine wl_val rfl rfl rfl (y_extract rfl rfl) ?_
  refine wl_val rfl rfl rfl (y_extract rfl rfl) ?_
  (refine wl_ef rfl (ef_alloc rfl zerKs) ?_; rintro _ _ ⟨b2, rfl, rfl⟩)
  refine wl_val rfl rfl rfl (y_assign rfl) ?_
  (refine wl_ef rfl (ef_storeC siz65 rfl rfl rfl) ?_; rintro _ _ ⟨rfl, rfl⟩)
  refine wl_nil ?_
  refine q_then ?_
  refine wc_seq ?_
  refine wc_region ?_
  refine wl_val rfl rfl rfl (y_move rfl) ?_
  (refine wl_ef rfl (ef_callv0 rfl fun28 rfl (fun _ hw => (cm b6 _ (inB_own hw)))) ?_; rintro _ _ ⟨rfl, rfl⟩)
  refine wl_val rfl rfl rfl (y_move rfl) ?_
  refine wl_val rfl rfl rfl (y_extract rfl rfl) ?_
  refine wl_val rfl rfl rfl (y_extract rfl rfl) ?_
  (refine wl_ef rfl (ef_alloc rfl zerRq) ?_; rintro _ _ ⟨b3, rfl, rfl⟩)
  (refine wl_ef rfl (ef_storeC siz71 rfl rfl rfl) ?_; rintro _ _ ⟨rfl, rfl⟩)
  refine wl_val rfl rfl rfl (y_assign rfl) ?_
  refine wl_nil ?_
  refine q_then ?_
  refine wc_seq ?_
  refine wa_begin_all (n := 23) (b := #[false, false, false, false, false, false, false, false, false, false, false, false, false, false, false, false, false, false, false, false, false, false, false]) mixed rfl rfl ?_
  refine wa_t 0 (by kernel_rfl) rfl rfl rfl rfl (y_move rfl) ?_
  refine wa_t 1 (by kernel_rfl) rfl rfl rfl rfl (y_eql rfl rfl) ?_
  refine wa_t 2 (by kernel_rfl) rfl rfl rfl rfl (y_move rfl) ?_
  apply wa_andp (d := 23)
  case ht =>
    intro hg1 hK1
    first
      | (refine wa_dead ?_ hK1 rfl; first | with_reducible contradiction | omega | (simp at hg1; done))
      | skip
        try simp only [bsA, ne_eq] at hg1
        refine wa_gt 3 (by kernel_rfl) rfl rfl rfl rfl rfl rfl rfl rfl (y_move rfl) ?_
        refine wa_gt 4 (by kernel_rfl) rfl rfl rfl rfl rfl rfl rfl rfl (y_loadC agg71 rfl) ?_
        refine wa_gt 6 (by kernel_rfl) rfl rfl rfl rfl rfl rfl rfl rfl (y_field0 fa71_3 rfl) ?_
        refine wa_gt 7 (by kernel_rfl) rfl rfl rfl rfl rfl rfl rfl rfl (y_loadC agg69 rfl) ?_
        (refine wa_ge 5 (by kernel_rfl) rfl rfl rfl rfl rfl rfl (ef_callv0 rfl fun39 rfl (fun _ hw => (c_Body R _ hRo))) ?_; rintro _ _ ⟨rfl, rfl⟩; refine ⟨.inr SubC.out, ?_⟩)
        (refine wa_ge 8 (by kernel_rfl) rfl rfl rfl rfl rfl rfl (ef_callv0 rfl fun67 rfl (fun _ hw => (cc b6 _ (inB_own hw)))) ?_; rintro _ _ ⟨rfl, rfl⟩; refine ⟨.inl (by kernel_rfl), ?_⟩)
        refine wa_t 9 (by kernel_rfl) rfl rfl rfl rfl (y_pickt rfl rfl) ?_
        exact wa_leR hK1 (.cons rfl (by repeat (first | refine LeE.skip ?_ rfl | exact LeE.refl _)))
  case hf =>
    intro hg1 hK1
    (refine wa_dead ?_ hK1 rfl; first | with_reducible contradiction | omega | (simp at hg1; done))
  refine wa_t 10 (by kernel_rfl) rfl rfl rfl rfl (y_move rfl) ?_
  first | apply wa_andp (d := 29) | apply wa_and (d := 29)
  case ht =>
    intro hg2 hK2
    first
      | (refine wa_dead ?_ hK2 rfl; first | with_reducible contradiction | omega | (simp at hg2; done))
      | skip
        try simp only [bsA, ne_eq] at hg2
        refine wa_gt 11 (by kernel_rfl) rfl rfl rfl rfl rfl rfl rfl rfl (y_move rfl) ?_
        refine wa_gt 12 (by kernel_rfl) rfl rfl rfl rfl rfl rfl rfl rfl (y_loadC agg71 rfl) ?_
        (refine wa_ge 13 (by kernel_rfl) rfl rfl rfl rfl rfl rfl (ef_callv0 rfl fun30 rfl (fun _ hw => (c3 b6 _ (inB_own hw)))) ?_; rintro _ _ ⟨rfl, rfl⟩; refine ⟨.inl (by kernel_rfl), ?_⟩)
        refine wa_gt 14 (by kernel_rfl) rfl rfl rfl rfl rfl rfl rfl rfl (y_eql rfl rfl) ?_
        refine wa_t 15 (by kernel_rfl) rfl rfl rfl rfl (y_pickt rfl rfl) ?_
        exact wa_leR hK2 (.cons rfl (by repeat (first | refine LeE.skip ?_ rfl | exact LeE.refl _)))
  case hf =>
    intro hg2 hK2
    (refine wa_dead ?_ hK2 rfl; first | with_reducible contradiction | omega | (simp at hg2; done))
  refine wa_t 16 (by kernel_rfl) rfl rfl rfl rfl (y_move rfl) ?_
  first | apply wa_andp (d := 35) | apply wa_and (d := 35)
  case ht =>
    intro hg3 hK3
    first
      | (refine wa_dead ?_ hK3 rfl; first | with_reducible contradiction | omega | (simp at hg3; done))
      | skip
        try simp only [bsA, ne_eq] at hg3
        refine wa_gt 17 (by kernel_rfl) rfl rfl rfl rfl rfl rfl rfl rfl (y_move rfl) ?_
        refine wa_gt 18 (by kernel_rfl) rfl rfl rfl rfl rfl rfl rfl rfl (y_loadC agg71 rfl) ?_
        (refine wa_ge 19 (by kernel_rfl) rfl rfl rfl rfl rfl rfl (ef_callv0 rfl fun30 rfl (fun _ hw => (c2 b6 _ (inB_own hw)))) ?_; rintro _ _ ⟨rfl, rfl⟩; refine ⟨.inl (by kernel_rfl), ?_⟩)
        refine wa_gt 20 (by kernel_rfl) rfl rfl rfl rfl rfl rfl rfl rfl (y_eql rfl rfl) ?_
        refine wa_t 21 (by kernel_rfl) rfl rfl rfl rfl (y_pickt rfl rfl) ?_
        exact wa_leR hK3 (.cons rfl (by repeat (first | refine LeE.skip ?_ rfl | exact LeE.refl _)))
  case hf =>
    intro hg3 hK3
    (refine wa_dead ?_ hK3 rfl; first | with_reducible contradiction | omega | (simp at hg3; done))
  refine wa_t 22 (by kernel_rfl) rfl rfl rfl rfl (y_assign rfl) ?_
  refine wa_done (by kernel_rfl) ?_
  refine q_then ?_
  refine wc_ret ?_
  apply q_retg (res1 Try.results26 rfl) -- ret 0
  case hΨ =>
    first | exact ⟨rfl, rfl⟩ | exact rfl
  case hs =>
    exact SubC.out
theorem c_RequestMakes (a : Ak) (w : World) : Calls Try.prog 5 #[.agg a.cells.toArray] w (RV w (.bool true)) := by
  refine enter (N := 73) Try.func5 rfl Try.ntmps5 rfl (Has.nil _) ?_
  refine wc_seq ?_
  refine wc_region ?_
  (refine wl_ef rfl (ef_box rfl rfl rfl) ?_; rintro _ _ ⟨b1, rfl, rfl⟩)
  refine wl_val rfl rfl rfl (y_assign rfl) ?_
  refine wl_nil ?_
  refine q_then ?_
  refine wc_seq ?_
  refine wc_seq ?_
  refine wc_region ?_
  refine wl_val rfl rfl rfl (y_field0 fa62_4 rfl) ?_
  refine wl_val rfl rfl rfl (y_loadA one9 rfl) ?_
  refine wl_val rfl rfl rfl (y_lenStr Try.underlying9 rfl) ?_
  refine wl_val rfl rfl rfl (y_gtr rfl rfl) ?_
  refine wl_nil ?_
  refine q_then ?_
  refine wc_cond rfl (fun hc0 => ?_) (fun hc0 => ?_)
  · first
    | ((try simp only [bsA, ne_eq] at hc0); exfalso; (first | with_reducible contradiction | omega | (simp at hc0; done)))
    | skip
      try simp only [bsA, ne_eq] at hc0
      refine wc_seq ?_
      refine wc_region ?_
      (refine wl_ef rfl (ef_callv0 rfl fun26 rfl (fun _ hw => (c_lives06 _))) ?_; rintro _ _ ⟨rfl, rfl⟩)
      refine wl_val rfl rfl rfl (y_assign rfl) ?_
      refine wl_nil ?_
      refine q_then ?_
      refine wc_ret ?_
      refine q_thenRet ?_
      apply q_retg (res1 Try.results5 rfl) -- ret 0
      case hΨ =>
        exact ⟨by first | rfl | simp, rfl⟩
      case hs =>
        exact SubC.out
  · first
    | ((try simp only [bsA, ne_eq] at hc0); exfalso; (first | with_reducible contradiction | omega | (simp at hc0; done)))
    | skip
      try simp only [bsA, ne_eq] at hc0
      refine wc_skip ?_
      refine q_then ?_
      refine wc_seq ?_
      refine wc_region ?_
      (refine wl_ef rfl (ef_callg (fun b => .tuple #[.pointer (some ⟨b, 0, none⟩), .agg K0.cells.toArray]) rfl fun27 rfl (fun _ hw => c_keys06 _)) ?_; rintro _ _ ⟨b17, rfl, rfl⟩)
      refine wl_val rfl rfl rfl (y_move rfl) ?_
      refine wl_val rfl rfl rfl (y_extract rfl rfl) ?_
      refine wl_val rfl rfl rfl (y_extract rfl rfl) ?_
      (refine wl_ef rfl (ef_alloc rfl zerKs) ?_; rintro _ _ ⟨b4, rfl, rfl⟩)
      refine wl_val rfl rfl rfl (y_assign rfl) ?_
      (refine wl_ef rfl (ef_storeC siz65 rfl rfl rfl) ?_; rintro _ _ ⟨rfl, rfl⟩)
      refine wl_nil ?_
      refine q_then ?_
      refine wc_seq ?_
      refine wc_region ?_
      refine wl_val rfl rfl rfl (y_move rfl) ?_
      refine wl_val rfl rfl rfl (y_field0 fa62_0 rfl) ?_
      refine wl_val rfl rfl rfl (y_loadA one3 rfl) ?_
      refine wl_val rfl rfl rfl (y_field0 fa62_2 rfl) ?_
      refine wl_val rfl rfl rfl (y_loadA one3 rfl) ?_
      refine wl_val rfl rfl rfl (y_field0 fa62_3 rfl) ?_
      refine wl_val rfl rfl rfl (y_loadA one3 rfl) ?_
      refine wl_val rfl rfl rfl (y_field0 fa62_4 rfl) ?_
      refine wl_val rfl rfl rfl (y_loadA one9 rfl) ?_
      (refine wl_ef rfl (ef_callv0 rfl fun28 rfl (fun _ hw => (c_Make b17 K0 _ _ _ _ _ (inB_own hw) k0_ok))) ?_; rintro _ _ ⟨rfl, rfl⟩)
      refine wl_val rfl rfl rfl (y_move rfl) ?_
      refine wl_val rfl rfl rfl (y_extract rfl rfl) ?_
      refine wl_val rfl rfl rfl (y_extract rfl rfl) ?_
      (refine wl_ef rfl (ef_alloc rfl zerRq) ?_; rintro _ _ ⟨b5, rfl, rfl⟩)
      (refine wl_ef rfl (ef_storeC siz71 rfl rfl rfl) ?_; rintro _ _ ⟨rfl, rfl⟩)
      refine wl_val rfl rfl rfl (y_assign rfl) ?_
      refine wl_nil ?_
      refine q_then ?_
      refine wc_seq ?_
      refine wc_region ?_
      refine wl_val rfl rfl rfl (y_loadC agg65 rfl) ?_
      refine wl_val rfl rfl rfl (y_field0 fa62_0 rfl) ?_
      refine wl_val rfl rfl rfl (y_loadA one3 rfl) ?_
      refine wl_val rfl rfl rfl (y_field0 fa62_2 rfl) ?_
      refine wl_val rfl rfl rfl (y_loadA one3 rfl) ?_
      refine wl_val rfl rfl rfl (y_field0 fa62_3 rfl) ?_
      refine wl_val rfl rfl rfl (y_loadA one3 rfl) ?_
      refine wl_val rfl rfl rfl (y_field0 fa62_4 rfl) ?_
      refine wl_val rfl rfl rfl (y_loadA one9 rfl) ?_
      (refine wl_ef rfl (ef_callv0 rfl fun29 rfl (fun _ hw => (c_refMake K0 _ _ _ _ _ k0_ok))) ?_; rintro _ _ ⟨rfl, rfl⟩)
      refine wl_val rfl rfl rfl (y_move rfl) ?_
      refine wl_val rfl rfl rfl (y_extract rfl rfl) ?_
      refine wl_val rfl rfl rfl (y_extract rfl rfl) ?_
      (refine wl_ef rfl (ef_alloc rfl zerRq) ?_; rintro _ _ ⟨b7, rfl, rfl⟩)
      (refine wl_ef rfl (ef_storeC siz71 rfl rfl rfl) ?_; rintro _ _ ⟨rfl, rfl⟩)
      refine wl_val rfl rfl rfl (y_assign rfl) ?_
      refine wl_nil ?_
      refine q_then ?_
      refine wc_seq ?_
      refine wc_region ?_
      refine wl_val rfl rfl rfl (y_field0 fa62_0 rfl) ?_
      refine wl_val rfl rfl rfl (y_loadA one3 rfl) ?_
      refine wl_val rfl rfl rfl (y_field0 fa62_2 rfl) ?_
      refine wl_val rfl rfl rfl (y_loadA one3 rfl) ?_
      refine wl_val rfl rfl rfl (y_field0 fa62_3 rfl) ?_
      refine wl_val rfl rfl rfl (y_loadA one3 rfl) ?_
      refine wl_val rfl rfl rfl (y_field0 fa62_4 rfl) ?_
      refine wl_val rfl rfl rfl (y_loadA one9 rfl) ?_
      (refine wl_ef rfl (ef_callv0 rfl fun28 rfl (fun _ hw => (c_MakeNil _ _ _ _ _))) ?_; rintro _ _ ⟨rfl, rfl⟩)
      refine wl_val rfl rfl rfl (y_move rfl) ?_
      refine wl_val rfl rfl rfl (y_extract rfl rfl) ?_
      refine wl_val rfl rfl rfl (y_extract rfl rfl) ?_
      (refine wl_ef rfl (ef_alloc rfl zerRq) ?_; rintro _ _ ⟨b9, rfl, rfl⟩)
      (refine wl_ef rfl (ef_storeC siz71 rfl rfl rfl) ?_; rintro _ _ ⟨rfl, rfl⟩)
      refine wl_val rfl rfl rfl (y_assign rfl) ?_
      refine wl_nil ?_
      refine q_then ?_
      refine wc_seq ?_
      refine wc_region ?_
      refine wl_val rfl rfl rfl (y_loadC agg71 rfl) ?_
      refine wl_val rfl rfl rfl (y_loadC agg71 rfl) ?_
      refine wl_val rfl rfl rfl (y_eqlAgg Try.eqGuardType71 rfl rfl (eq_rq _ _) (by omega)) ?_
      refine wl_val rfl rfl rfl (y_move rfl) ?_
      apply wl_andp (d := 65)
      case ht =>
        intro hg1 hK1
        first
          | (refine wl_dead ?_ hK1 rfl; first | with_reducible contradiction | omega | (simp at hg1; done))
          | skip
            try simp only [bsA, ne_eq] at hg1
            refine wl_gval rfl rfl rfl rfl rfl rfl rfl (y_move rfl) ?_
            refine wl_gval rfl rfl rfl rfl rfl rfl rfl (y_move rfl) ?_
            refine wl_gval rfl rfl rfl rfl rfl rfl rfl (y_eql rfl rfl) ?_
            refine wl_val rfl rfl rfl (y_pickt rfl rfl) ?_
            exact wl_leR hK1 (.cons rfl (by repeat (first | refine LeE.skip ?_ rfl | exact LeE.refl _)))
      case hf =>
        intro hg1 hK1
        (refine wl_dead ?_ hK1 rfl; first | with_reducible contradiction | omega | (simp at hg1; done))
      refine wl_val rfl rfl rfl (y_move rfl) ?_
      first | apply wl_andp (d := 69) | apply wl_and (d := 69)
      case ht =>
        intro hg2 hK2
        first
          | (refine wl_dead ?_ hK2 rfl; first | with_reducible contradiction | omega | (simp at hg2; done))
          | skip
            try simp only [bsA, ne_eq] at hg2
            refine wl_gval rfl rfl rfl rfl rfl rfl rfl (y_move rfl) ?_
            refine wl_gval rfl rfl rfl rfl rfl rfl rfl (y_eql rfl rfl) ?_
            refine wl_val rfl rfl rfl (y_pickt rfl rfl) ?_
            exact wl_leR hK2 (.cons rfl (by repeat (first | refine LeE.skip ?_ rfl | exact LeE.refl _)))
      case hf =>
        intro hg2 hK2
        (refine wl_dead ?_ hK2 rfl; first | with_reducible contradiction | omega | (simp at hg2; done))
      refine wl_val rfl rfl rfl (y_move rfl) ?_
      first | apply wl_andp (d := 72) | apply wl_and (d := 72)
      case ht =>
        intro hg3 hK3
        first
          | (refine wl_dead ?_ hK3 rfl; first | with_reducible contradiction | omega | (simp at hg3; done))
          | skip
            try simp only [bsA, ne_eq] at hg3
            (refine wl_gef rfl rfl rfl rfl rfl (ef_callv0 rfl fun26 rfl (fun _ hw => (c_lives06 _))) ?_; rintro _ _ ⟨rfl, rfl⟩)
            refine wl_val rfl rfl rfl (y_pickt rfl rfl) ?_
            exact wl_leR hK3 (.cons rfl (by repeat (first | refine LeE.skip ?_ rfl | exact LeE.refl _)))
      case hf =>
        intro hg3 hK3
        (refine wl_dead ?_ hK3 rfl; first | with_reducible contradiction | omega | (simp at hg3; done))
      refine wl_val rfl rfl rfl (y_assign rfl) ?_
      refine wl_nil ?_
      refine q_then ?_
      refine wc_ret ?_
      apply q_retg (res1 Try.results5 rfl) -- ret 1
      case hΨ =>
        exact ⟨by first | rfl | simp, rfl⟩
      case hs =>
        exact SubC.out
end Go.Proofs.Ytdgmkbjopcopcaa
