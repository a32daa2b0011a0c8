/- Layer 6 (request): bodies, buckets, making and checking, of both sides. Own work. -/
import Derived.Test.YtdgmkbjopcopcaaSeab
import Derived.Test.YtdgmkbjopcopcaaDigf
set_option linter.unusedVariables false
set_option linter.unusedSimpArgs false
set_option maxRecDepth 100000
set_option maxHeartbeats 2000000
namespace Go.Proofs.Ytdgmkbjopcopcaa
open Go.RowKit
-- flat
-- zero 71 Rq0.cells
-- use zerRq zerRq
-- use zerTg zerTg
-- use zerDg zerDg
-- build 71 bldRq
def bodyL (r : Rq) : List UInt8 := ((0x52 :: encI r.client) ++ encI r.num) ++ encT r.data.data.toList
def bodyS (r : Rq) : ByteArray := ⟨(bodyL r).toArray⟩
/-- its numbers fit, its data are not large -/
structure RqOk (r : Rq) (m : Nat) : Prop where
  client : r.client ≤ 9223372036854775807
  num : r.num ≤ 9223372036854775807
  data : r.data.size ≤ m
theorem bodyL_len {r : Rq} {m : Nat} (h : RqOk r m) (hm : m ≤ 1000000) : (bodyL r).length ≤ 2000000 := by
  have h1 := encI_len h.client
  have h2 := encI_len h.num
  have h3 := encT_len (l := r.data.data.toList) (by have := h.data; simp; omega)
  have h4 := h.data
  simp only [bodyL, List.length_append, List.length_cons]
  simp at h3
  omega
theorem bodyS_len {r : Rq} {m : Nat} (h : RqOk r m) (hm : m ≤ 1000000) : (bodyS r).size ≤ 2000000 := bodyL_len h hm
theorem c_Body (r : Rq) (w : World) (h : RqOk r 1000000) : Calls Try.prog 39 #[.agg r.cells.toArray] w (RV w (.string (bodyS r))) := by
  have h1 := encI_len h.client
  have h2 := encI_len h.num
  have h3 := h.data
  obtain ⟨A, hA⟩ : ∃ A, A = 0x52 :: encI r.client := ⟨_, rfl⟩
  obtain ⟨B, hB⟩ : ∃ B, B = A ++ encI r.num := ⟨_, rfl⟩
  have lA : A.length ≤ 10 := by rw [hA]; simp; omega
  have lB : B.length ≤ 19 := by rw [hB, List.length_append]; omega
  obtain ⟨C, hC⟩ : ∃ C, C = B ++ encT r.data.data.toList := ⟨_, rfl⟩
  have hbs : bodyS r = ⟨C.toArray⟩ := by rw [bodyS, bodyL, hC, hB, hA]
  have p1 : ∀ (v : Value) (w : World), OwnR w 5 1 v 1 [.int .u8 82] → Calls Try.prog 82 #[v, .int .i64 r.client] w (RC w v A) := fun v w ho => by
    have := c_PutOwn v [0x52] r.client h.client w ho (by simp)
    rw [hA]
    exact this
  have p2 : ∀ (v : Value) (w : World), OwnR w 5 1 v A.length (bvs A) → Calls Try.prog 82 #[v, .int .i64 r.num] w (RC w v B) := fun v w ho => by
    rw [hB]
    exact c_PutOwn v A r.num h.num w ho (by omega)
  have p3 : ∀ (v : Value) (w : World), OwnR w 5 1 v B.length (bvs B) → Calls Try.prog 83 #[v, .string r.data] w (RC w v C) := fun v w ho => by
    rw [hC]
    exact c_PutText v B r.data w ho (by omega) (by omega)
  rw [hbs]
  refine enter (N := 16) Try.func39 rfl Try.ntmps39 rfl (Has.nil _) ?_
  refine wc_seq ?_
  refine wc_region ?_
  (refine wl_ef rfl (ef_box rfl rfl rfl) ?_; rintro _ _ ⟨b1, rfl, rfl⟩)
  refine wl_val rfl rfl rfl (y_assign rfl) ?_
  refine wl_nil ?_
  refine q_then ?_
  refine wc_seq ?_
  refine wa_begin_all (n := 8) (b := #[false, false, false, false, false, false, false, false]) mixed rfl rfl ?_
  refine wa_t 1 (by kernel_rfl) rfl rfl rfl rfl (y_field0 fa71_0 rfl) ?_
  refine wa_t 2 (by kernel_rfl) rfl rfl rfl rfl (y_loadA one3 rfl) ?_
  refine wa_t 4 (by kernel_rfl) rfl rfl rfl rfl (y_field0 fa71_1 rfl) ?_
  refine wa_t 5 (by kernel_rfl) rfl rfl rfl rfl (y_loadA one3 rfl) ?_
  (refine wa_e 0 (by kernel_rfl) rfl rfl (ef_lit1 rfl Try.underlying99 siz5 zer5 rfl rfl) ?_; rintro _ _ ⟨v4, rfl, rfl⟩; refine ⟨.inr SubC.out, ?_⟩)
  (refine wa_e 3 (by kernel_rfl) rfl rfl (ef_callc rfl fun82 rfl (fun _ hw => (p1 _ _ (own_at hw)))) ?_; rintro _ _ ⟨v7, rfl, rfl⟩; refine ⟨.inr SubC.out, ?_⟩)
  (refine wa_e 6 (by kernel_rfl) rfl rfl (ef_callc rfl fun82 rfl (fun _ hw => (p2 _ _ (own_at hw)))) ?_; rintro _ _ ⟨v10, rfl, rfl⟩; refine ⟨.inl (by kernel_rfl), ?_⟩)
  refine wa_t 7 (by kernel_rfl) rfl rfl rfl rfl (y_assign rfl) ?_
  refine wa_done (by kernel_rfl) ?_
  refine q_then ?_
  refine wc_seq ?_
  refine wc_region ?_
  refine wl_val rfl rfl rfl (y_move rfl) ?_
  refine wl_val rfl rfl rfl (y_field0 fa71_2 rfl) ?_
  refine wl_val rfl rfl rfl (y_loadA one9 rfl) ?_
  (refine wl_ef rfl (ef_callc rfl fun83 rfl (fun _ hw => (p3 _ _ (own_at hw)))) ?_; rintro _ _ ⟨v14, rfl, rfl⟩)
  refine wl_val rfl rfl rfl (y_str (l := C) Try.underlying99 Try.underlying9 Try.underlying5 rfl rd_own) ?_
  refine wl_val rfl rfl rfl (y_assign rfl) ?_
  refine wl_nil ?_
  refine q_then ?_
  refine wc_ret ?_
  apply q_retg (res1 Try.results39 rfl) -- ret 0
  case hΨ =>
    first | exact ⟨rfl, rfl⟩ | exact rfl
  case hs =>
    exact SubC.out
theorem c_refBody (r : Rq) (w : World) (h : RqOk r 1000000) : Calls Try.prog 32 #[.agg r.cells.toArray] w (RV w (.string (bodyS r))) := by
  have h1 := encI_len h.client
  have h2 := encI_len h.num
  have h3 := h.data
  obtain ⟨A, hA⟩ : ∃ A, A = 0x52 :: encI r.client := ⟨_, rfl⟩
  obtain ⟨B, hB⟩ : ∃ B, B = A ++ encI r.num := ⟨_, rfl⟩
  have lA : A.length ≤ 10 := by rw [hA]; simp; omega
  have lB : B.length ≤ 19 := by rw [hB, List.length_append]; omega
  obtain ⟨C, hC⟩ : ∃ C, C = B ++ encT r.data.data.toList := ⟨_, rfl⟩
  have hbs : bodyS r = ⟨C.toArray⟩ := by rw [bodyS, bodyL, hC, hB, hA]
  have p1 : ∀ (v : Value) (w : World), RdI w [] v 1 1 [.int .u8 82] → Calls Try.prog 77 #[v, .int .i64 r.client] w (RB w A) := fun v w ho => by
    have := c_refPut v [0x52] r.client h.client w ho (by simp)
    rw [hA]
    exact this
  have p2 : ∀ (v : Value) (w : World), RdI w [] v 1 A.length (bvs A) → Calls Try.prog 77 #[v, .int .i64 r.num] w (RB w B) := fun v w ho => by
    rw [hB]
    exact c_refPut v A r.num h.num w ho (by omega)
  have p3 : ∀ (v : Value) (w : World), RdI w [] v 1 B.length (bvs B) → Calls Try.prog 76 #[v, .string r.data] w (RB w C) := fun v w ho => by
    rw [hC]
    exact c_refPutText v B r.data w ho (by omega) (by omega)
  rw [hbs]
  refine enter (N := 15) Try.func32 rfl Try.ntmps32 rfl (Has.nil _) ?_
  refine wc_seq ?_
  refine wc_region ?_
  (refine wl_ef rfl (ef_box rfl rfl rfl) ?_; rintro _ _ ⟨b1, rfl, rfl⟩)
  refine wl_val rfl rfl rfl (y_assign rfl) ?_
  refine wl_nil ?_
  refine q_then ?_
  refine wc_seq ?_
  refine wa_begin_all (n := 13) (b := #[false, false, false, false, false, false, false, false, false, false, false, false, false]) mixed rfl rfl ?_
  refine wa_t 2 (by kernel_rfl) rfl rfl rfl rfl (y_field0 fa71_0 rfl) ?_
  refine wa_t 3 (by kernel_rfl) rfl rfl rfl rfl (y_loadA one3 rfl) ?_
  refine wa_t 5 (by kernel_rfl) rfl rfl rfl rfl (y_field0 fa71_1 rfl) ?_
  refine wa_t 6 (by kernel_rfl) rfl rfl rfl rfl (y_loadA one3 rfl) ?_
  refine wa_t 8 (by kernel_rfl) rfl rfl rfl rfl (y_field0 fa71_2 rfl) ?_
  refine wa_t 9 (by kernel_rfl) rfl rfl rfl rfl (y_loadA one9 rfl) ?_
  (refine wa_e 0 (by kernel_rfl) rfl rfl (ef_lit1 rfl Try.underlying99 siz5 zer5 rfl rfl) ?_; rintro _ _ ⟨v3, rfl, rfl⟩; refine ⟨.inr SubC.out, ?_⟩)
  (refine wa_e 1 (by kernel_rfl) rfl rfl (ef_convOwn (n := 0) rfl Try.underlying99 Try.underlying5 rfl) ?_; rintro _ _ ⟨rfl, rfl⟩; refine ⟨.inr SubC.out, ?_⟩)
  (refine wa_e 4 (by kernel_rfl) rfl rfl (ef_callo rfl fun77 rfl (fun _ hw => (p1 _ _ (rdI_own0 hw)))) ?_; rintro _ _ ⟨v7, rfl, rfl⟩; refine ⟨.inr SubC.out, ?_⟩)
  (refine wa_e 7 (by kernel_rfl) rfl rfl (ef_callo rfl fun77 rfl (fun _ hw => (p2 _ _ (rdI_own0 hw)))) ?_; rintro _ _ ⟨v10, rfl, rfl⟩; refine ⟨.inr SubC.out, ?_⟩)
  (refine wa_e 10 (by kernel_rfl) rfl rfl (ef_callo rfl fun76 rfl (fun _ hw => (p3 _ _ (rdI_own0 hw)))) ?_; rintro _ _ ⟨v13, rfl, rfl⟩; refine ⟨.inl (by kernel_rfl), ?_⟩)
  first | refine wa_t 11 (by kernel_rfl) rfl rfl rfl rfl (y_str (l := C) Try.underlying99 Try.underlying9 Try.underlying5 rfl rd_own) ?_ | (refine wa_e 11 (by kernel_rfl) rfl rfl (ef_of_yl rfl rfl (y_str (l := C) Try.underlying99 Try.underlying9 Try.underlying5 rfl rd_own)) ?_; rintro _ _ ⟨rfl, rfl⟩; refine ⟨.inl (by kernel_rfl), ?_⟩)
  refine wa_t 12 (by kernel_rfl) rfl rfl rfl rfl (y_assign rfl) ?_
  refine wa_done (by kernel_rfl) ?_
  refine q_then ?_
  refine wc_ret ?_
  apply q_retg (res1 Try.results32 rfl) -- ret 0
  case hΨ =>
    first | exact ⟨rfl, rfl⟩ | exact rfl
  case hs =>
    exact SubC.out
/-- may it be, its tag aside? -/
def mayP (clients : Int) (r : Rq) : Prop := 0 ≤ r.client ∧ r.client < clients ∧ 1 ≤ r.num ∧ r.num ≤ 1099511627776 ∧ r.data.size ≤ 64
instance (clients : Int) (r : Rq) : Decidable (mayP clients r) := by unfold mayP; infer_instance
theorem c_may (clients : Int) (r : Rq) (w : World) : Calls Try.prog 71 #[.int .i64 clients, .agg r.cells.toArray] w (RV w (.bool (decide (mayP clients r)))) := by
  refine enter (N := 30) Try.func71 rfl Try.ntmps71 rfl (Has.nil _) ?_
  refine wc_seq ?_
  refine wc_region ?_
  (refine wl_ef rfl (ef_box rfl rfl rfl) ?_; rintro _ _ ⟨b3, rfl, rfl⟩)
  refine wl_val rfl rfl rfl (y_assign rfl) ?_
  refine wl_nil ?_
  refine q_then ?_
  refine wc_seq ?_
  refine wc_region ?_
  refine wl_val rfl rfl rfl (y_field0 fa71_0 rfl) ?_
  refine wl_val rfl rfl rfl (y_loadA one3 rfl) ?_
  refine wl_val rfl rfl rfl (y_geq rfl rfl) ?_
  refine wl_val rfl rfl rfl (y_move rfl) ?_
  apply wl_andp (d := 13)
  case ht =>
    intro hg1 hK1
    first
      | (refine wl_dead ?_ hK1 rfl; first | with_reducible contradiction | omega | (simp at hg1; done))
      | skip
        try simp only [bsA, ne_eq] at hg1
        refine wl_gval rfl rfl rfl rfl rfl rfl rfl (y_field0 fa71_0 rfl) ?_
        refine wl_gval rfl rfl rfl rfl rfl rfl rfl (y_loadA one3 rfl) ?_
        refine wl_gval rfl rfl rfl rfl rfl rfl rfl (y_move rfl) ?_
        refine wl_gval rfl rfl rfl rfl rfl rfl rfl (y_lss rfl rfl) ?_
        refine wl_val rfl rfl rfl (y_pickt rfl rfl) ?_
        exact wl_leR hK1 (.cons rfl (by repeat (first | refine LeE.skip ?_ rfl | exact LeE.refl _)))
  case hf =>
    intro hg1 hK1
    first
      | (refine wl_dead ?_ hK1 rfl; first | with_reducible contradiction | omega | (simp at hg1; done))
      | skip
        try simp only [bsA, ne_eq] at hg1
        refine wl_gskip rfl rfl rfl rfl rfl rfl rfl ?_
        refine wl_gskip rfl rfl rfl rfl rfl rfl rfl ?_
        refine wl_gskip rfl rfl rfl rfl rfl rfl rfl ?_
        refine wl_gskip rfl rfl rfl rfl rfl rfl rfl ?_
        first | refine wl_val rfl rfl rfl (y_pickt rfl rfl) ?_ | refine wl_val rfl rfl rfl (y_pickf rfl rfl) ?_
        exact wl_leR hK1 (.cons rfl (by repeat (first | refine LeE.skip ?_ rfl | exact LeE.refl _)))
  refine wl_val rfl rfl rfl (y_move rfl) ?_
  first | apply wl_andp (d := 18) | apply wl_and (d := 18)
  case ht =>
    intro hg2 hK2
    first
      | (refine wl_dead ?_ hK2 rfl; first | with_reducible contradiction | omega | (simp at hg2; done))
      | skip
        try simp only [bsA, ne_eq] at hg2
        refine wl_gval rfl rfl rfl rfl rfl rfl rfl (y_field0 fa71_1 rfl) ?_
        refine wl_gval rfl rfl rfl rfl rfl rfl rfl (y_loadA one3 rfl) ?_
        refine wl_gval rfl rfl rfl rfl rfl rfl rfl (y_geq rfl rfl) ?_
        refine wl_val rfl rfl rfl (y_pickt rfl rfl) ?_
        exact wl_leR hK2 (.cons rfl (by repeat (first | refine LeE.skip ?_ rfl | exact LeE.refl _)))
  case hf =>
    intro hg2 hK2
    first
      | (refine wl_dead ?_ hK2 rfl; first | with_reducible contradiction | omega | (simp at hg2; done))
      | skip
        try simp only [bsA, ne_eq] at hg2
        refine wl_gskip rfl rfl rfl rfl rfl rfl rfl ?_
        refine wl_gskip rfl rfl rfl rfl rfl rfl rfl ?_
        refine wl_gskip rfl rfl rfl rfl rfl rfl rfl ?_
        first | refine wl_val rfl rfl rfl (y_pickt rfl rfl) ?_ | refine wl_val rfl rfl rfl (y_pickf rfl rfl) ?_
        exact wl_leR hK2 (.cons rfl (by repeat (first | refine LeE.skip ?_ rfl | exact LeE.refl _)))
  refine wl_val rfl rfl rfl (y_move rfl) ?_
  first | apply wl_andp (d := 23) | apply wl_and (d := 23)
  case ht =>
    intro hg3 hK3
    first
      | (refine wl_dead ?_ hK3 rfl; first | with_reducible contradiction | omega | (simp at hg3; done))
      | skip
        try simp only [bsA, ne_eq] at hg3
        refine wl_gval rfl rfl rfl rfl rfl rfl rfl (y_field0 fa71_1 rfl) ?_
        refine wl_gval rfl rfl rfl rfl rfl rfl rfl (y_loadA one3 rfl) ?_
        refine wl_gval rfl rfl rfl rfl rfl rfl rfl (y_leq rfl rfl) ?_
        refine wl_val rfl rfl rfl (y_pickt rfl rfl) ?_
        exact wl_leR hK3 (.cons rfl (by repeat (first | refine LeE.skip ?_ rfl | exact LeE.refl _)))
  case hf =>
    intro hg3 hK3
    first
      | (refine wl_dead ?_ hK3 rfl; first | with_reducible contradiction | omega | (simp at hg3; done))
      | skip
        try simp only [bsA, ne_eq] at hg3
        refine wl_gskip rfl rfl rfl rfl rfl rfl rfl ?_
        refine wl_gskip rfl rfl rfl rfl rfl rfl rfl ?_
        refine wl_gskip rfl rfl rfl rfl rfl rfl rfl ?_
        first | refine wl_val rfl rfl rfl (y_pickt rfl rfl) ?_ | refine wl_val rfl rfl rfl (y_pickf rfl rfl) ?_
        exact wl_leR hK3 (.cons rfl (by repeat (first | refine LeE.skip ?_ rfl | exact LeE.refl _)))
  refine wl_val rfl rfl rfl (y_move rfl) ?_
  first | apply wl_andp (d := 29) | apply wl_and (d := 29)
  case ht =>
    intro hg4 hK4
    first
      | (refine wl_dead ?_ hK4 rfl; first | with_reducible contradiction | omega | (simp at hg4; done))
      | skip
        try simp only [bsA, ne_eq] at hg4
        refine wl_gval rfl rfl rfl rfl rfl rfl rfl (y_field0 fa71_2 rfl) ?_
        refine wl_gval rfl rfl rfl rfl rfl rfl rfl (y_loadA one9 rfl) ?_
        refine wl_gval rfl rfl rfl rfl rfl rfl rfl (y_lenStr Try.underlying9 rfl) ?_
        refine wl_gval rfl rfl rfl rfl rfl rfl rfl (y_leq rfl rfl) ?_
        refine wl_val rfl rfl rfl (y_pickt rfl rfl) ?_
        exact wl_leR hK4 (.cons rfl (by repeat (first | refine LeE.skip ?_ rfl | exact LeE.refl _)))
  case hf =>
    intro hg4 hK4
    first
      | (refine wl_dead ?_ hK4 rfl; first | with_reducible contradiction | omega | (simp at hg4; done))
      | skip
        try simp only [bsA, ne_eq] at hg4
        refine wl_gskip rfl rfl rfl rfl rfl rfl rfl ?_
        refine wl_gskip rfl rfl rfl rfl rfl rfl rfl ?_
        refine wl_gskip rfl rfl rfl rfl rfl rfl rfl ?_
        refine wl_gskip rfl rfl rfl rfl rfl rfl rfl ?_
        first | refine wl_val rfl rfl rfl (y_pickt rfl rfl) ?_ | refine wl_val rfl rfl rfl (y_pickf rfl rfl) ?_
        exact wl_leR hK4 (.cons rfl (by repeat (first | refine LeE.skip ?_ rfl | exact LeE.refl _)))
  refine wl_val rfl rfl rfl (y_assign rfl) ?_
  refine wl_nil ?_
  refine q_then ?_
  refine wc_ret ?_
  apply q_retg (res1 Try.results71 rfl) -- ret 0
  case hΨ =>
    exact ⟨by congr 1; rw [Bool.eq_iff_iff]; simp only [Bool.and_eq_true, decide_eq_true_eq, mayP]; grind, rfl⟩
  case hs =>
    exact SubC.out
theorem c_form (clients : Int) (r : Rq) (w : World) : Calls Try.prog 73 #[.int .i64 clients, .agg r.cells.toArray] w (RV w (.bool (decide (mayP clients r)))) := by
  refine enter (N := 30) Try.func73 rfl Try.ntmps73 rfl (Has.nil _) ?_
  refine wc_seq ?_
  refine wc_region ?_
  (refine wl_ef rfl (ef_box rfl rfl rfl) ?_; rintro _ _ ⟨b3, rfl, rfl⟩)
  refine wl_val rfl rfl rfl (y_assign rfl) ?_
  refine wl_nil ?_
  refine q_then ?_
  refine wc_seq ?_
  refine wc_region ?_
  refine wl_val rfl rfl rfl (y_field0 fa71_0 rfl) ?_
  refine wl_val rfl rfl rfl (y_loadA one3 rfl) ?_
  refine wl_val rfl rfl rfl (y_geq rfl rfl) ?_
  refine wl_val rfl rfl rfl (y_move rfl) ?_
  apply wl_andp (d := 13)
  case ht =>
    intro hg1 hK1
    first
      | (refine wl_dead ?_ hK1 rfl; first | with_reducible contradiction | omega | (simp at hg1; done))
      | skip
        try simp only [bsA, ne_eq] at hg1
        refine wl_gval rfl rfl rfl rfl rfl rfl rfl (y_field0 fa71_0 rfl) ?_
        refine wl_gval rfl rfl rfl rfl rfl rfl rfl (y_loadA one3 rfl) ?_
        refine wl_gval rfl rfl rfl rfl rfl rfl rfl (y_move rfl) ?_
        refine wl_gval rfl rfl rfl rfl rfl rfl rfl (y_lss rfl rfl) ?_
        refine wl_val rfl rfl rfl (y_pickt rfl rfl) ?_
        exact wl_leR hK1 (.cons rfl (by repeat (first | refine LeE.skip ?_ rfl | exact LeE.refl _)))
  case hf =>
    intro hg1 hK1
    first
      | (refine wl_dead ?_ hK1 rfl; first | with_reducible contradiction | omega | (simp at hg1; done))
      | skip
        try simp only [bsA, ne_eq] at hg1
        refine wl_gskip rfl rfl rfl rfl rfl rfl rfl ?_
        refine wl_gskip rfl rfl rfl rfl rfl rfl rfl ?_
        refine wl_gskip rfl rfl rfl rfl rfl rfl rfl ?_
        refine wl_gskip rfl rfl rfl rfl rfl rfl rfl ?_
        first | refine wl_val rfl rfl rfl (y_pickt rfl rfl) ?_ | refine wl_val rfl rfl rfl (y_pickf rfl rfl) ?_
        exact wl_leR hK1 (.cons rfl (by repeat (first | refine LeE.skip ?_ rfl | exact LeE.refl _)))
  refine wl_val rfl rfl rfl (y_move rfl) ?_
  first | apply wl_andp (d := 18) | apply wl_and (d := 18)
  case ht =>
    intro hg2 hK2
    first
      | (refine wl_dead ?_ hK2 rfl; first | with_reducible contradiction | omega | (simp at hg2; done))
      | skip
        try simp only [bsA, ne_eq] at hg2
        refine wl_gval rfl rfl rfl rfl rfl rfl rfl (y_field0 fa71_1 rfl) ?_
        refine wl_gval rfl rfl rfl rfl rfl rfl rfl (y_loadA one3 rfl) ?_
        refine wl_gval rfl rfl rfl rfl rfl rfl rfl (y_geq rfl rfl) ?_
        refine wl_val rfl rfl rfl (y_pickt rfl rfl) ?_
        exact wl_leR hK2 (.cons rfl (by repeat (first | refine LeE.skip ?_ rfl | exact LeE.refl _)))
  case hf =>
    intro hg2 hK2
    first
      | (refine wl_dead ?_ hK2 rfl; first | with_reducible contradiction | omega | (simp at hg2; done))
      | skip
        try simp only [bsA, ne_eq] at hg2
        refine wl_gskip rfl rfl rfl rfl rfl rfl rfl ?_
        refine wl_gskip rfl rfl rfl rfl rfl rfl rfl ?_
        refine wl_gskip rfl rfl rfl rfl rfl rfl rfl ?_
        first | refine wl_val rfl rfl rfl (y_pickt rfl rfl) ?_ | refine wl_val rfl rfl rfl (y_pickf rfl rfl) ?_
        exact wl_leR hK2 (.cons rfl (by repeat (first | refine LeE.skip ?_ rfl | exact LeE.refl _)))
  refine wl_val rfl rfl rfl (y_move rfl) ?_
  first | apply wl_andp (d := 23) | apply wl_and (d := 23)
  case ht =>
    intro hg3 hK3
    first
      | (refine wl_dead ?_ hK3 rfl; first | with_reducible contradiction | omega | (simp at hg3; done))
      | skip
        try simp only [bsA, ne_eq] at hg3
        refine wl_gval rfl rfl rfl rfl rfl rfl rfl (y_field0 fa71_1 rfl) ?_
        refine wl_gval rfl rfl rfl rfl rfl rfl rfl (y_loadA one3 rfl) ?_
        refine wl_gval rfl rfl rfl rfl rfl rfl rfl (y_leq rfl rfl) ?_
        refine wl_val rfl rfl rfl (y_pickt rfl rfl) ?_
        exact wl_leR hK3 (.cons rfl (by repeat (first | refine LeE.skip ?_ rfl | exact LeE.refl _)))
  case hf =>
    intro hg3 hK3
    first
      | (refine wl_dead ?_ hK3 rfl; first | with_reducible contradiction | omega | (simp at hg3; done))
      | skip
        try simp only [bsA, ne_eq] at hg3
        refine wl_gskip rfl rfl rfl rfl rfl rfl rfl ?_
        refine wl_gskip rfl rfl rfl rfl rfl rfl rfl ?_
        refine wl_gskip rfl rfl rfl rfl rfl rfl rfl ?_
        first | refine wl_val rfl rfl rfl (y_pickt rfl rfl) ?_ | refine wl_val rfl rfl rfl (y_pickf rfl rfl) ?_
        exact wl_leR hK3 (.cons rfl (by repeat (first | refine LeE.skip ?_ rfl | exact LeE.refl _)))
  refine wl_val rfl rfl rfl (y_move rfl) ?_
  first | apply wl_andp (d := 29) | apply wl_and (d := 29)
  case ht =>
    intro hg4 hK4
    first
      | (refine wl_dead ?_ hK4 rfl; first | with_reducible contradiction | omega | (simp at hg4; done))
      | skip
        try simp only [bsA, ne_eq] at hg4
        refine wl_gval rfl rfl rfl rfl rfl rfl rfl (y_field0 fa71_2 rfl) ?_
        refine wl_gval rfl rfl rfl rfl rfl rfl rfl (y_loadA one9 rfl) ?_
        refine wl_gval rfl rfl rfl rfl rfl rfl rfl (y_lenStr Try.underlying9 rfl) ?_
        refine wl_gval rfl rfl rfl rfl rfl rfl rfl (y_leq rfl rfl) ?_
        refine wl_val rfl rfl rfl (y_pickt rfl rfl) ?_
        exact wl_leR hK4 (.cons rfl (by repeat (first | refine LeE.skip ?_ rfl | exact LeE.refl _)))
  case hf =>
    intro hg4 hK4
    first
      | (refine wl_dead ?_ hK4 rfl; first | with_reducible contradiction | omega | (simp at hg4; done))
      | skip
        try simp only [bsA, ne_eq] at hg4
        refine wl_gskip rfl rfl rfl rfl rfl rfl rfl ?_
        refine wl_gskip rfl rfl rfl rfl rfl rfl rfl ?_
        refine wl_gskip rfl rfl rfl rfl rfl rfl rfl ?_
        refine wl_gskip rfl rfl rfl rfl rfl rfl rfl ?_
        first | refine wl_val rfl rfl rfl (y_pickt rfl rfl) ?_ | refine wl_val rfl rfl rfl (y_pickf rfl rfl) ?_
        exact wl_leR hK4 (.cons rfl (by repeat (first | refine LeE.skip ?_ rfl | exact LeE.refl _)))
  refine wl_val rfl rfl rfl (y_assign rfl) ?_
  refine wl_nil ?_
  refine q_then ?_
  refine wc_ret ?_
  apply q_retg (res1 Try.results73 rfl) -- ret 0
  case hΨ =>
    exact ⟨by congr 1; rw [Bool.eq_iff_iff]; simp only [Bool.and_eq_true, decide_eq_true_eq, mayP]; grind, rfl⟩
  case hs =>
    exact SubC.out
theorem mayP_ok {clients : Int} {r : Rq} (h : mayP clients r) (hc : clients ≤ 9223372036854775807) : RqOk r 1000000 := ⟨by have := h.1; have := h.2.1; omega, by have := h.2.2.2.1; omega, by have := h.2.2.2.2; omega⟩
def bkt (client num buckets : Int) : Int := if client < 0 ∨ num < 0 then 0 else shareV (sha (encI client ++ encI num)) buckets
theorem c_Bucket (client num buckets : Int) (w : World) (h1 : client ≤ 9223372036854775807) (h2 : num ≤ 9223372036854775807) : Calls Try.prog 38 #[.int .i64 client, .int .i64 num, .int .i64 buckets] w (RV w (.int .i64 (bkt client num buckets))) := by
  have e1 := encI_len h1
  have e2 := encI_len h2
  obtain ⟨K, hK⟩ : ∃ K, K = shaD (encI client ++ encI num) := ⟨_, rfl⟩
  have p1 : ∀ w, Calls Try.prog 82 #[.slice none 0 0, .int .i64 client] w (RB w (encI client)) := fun w => by
    have := c_PutOwn (.slice none 0 0) [] client h1 w (OwnR.nil _ _ _) (by simp)
    rwa [List.nil_append] at this
  have p2 : ∀ w, Calls Try.prog 82 #[.slice none 0 0, .int .i64 num] w (RB w (encI num)) := fun w => by
    have := c_PutOwn (.slice none 0 0) [] num h2 w (OwnR.nil _ _ _) (by simp)
    rwa [List.nil_append] at this
  have cs : ∀ (v v1 v2 : Value) (w : World), RdI w [] v 1 2 [v1, v2] → RdI w [] v1 1 (encI client).length (bvs (encI client)) → RdI w [] v2 1 (encI num).length (bvs (encI num)) → Calls Try.prog 81 #[v] w (RV w (.agg (bvs K.1).toArray)) := fun v v1 v2 w h1 h2 h3 => by
    have := c_SumP v [(v1, encI client), (v2, encI num)] w h1 (by simpa using ⟨h2, h3⟩) (by simp [catB]; omega)
    rw [hK, shaD]
    simpa [catB] using this
  refine enter (N := 21) Try.func38 rfl Try.ntmps38 rfl (Has.nil _) ?_
  refine wc_seq ?_
  refine wc_region ?_
  refine wl_val rfl rfl rfl (y_assign rfl) ?_
  refine wl_nil ?_
  refine q_then ?_
  refine wc_seq ?_
  refine wc_seq ?_
  refine wc_region ?_
  refine wl_val rfl rfl rfl (y_move rfl) ?_
  refine wl_val rfl rfl rfl (y_lss rfl rfl) ?_
  refine wl_val rfl rfl rfl (y_move rfl) ?_
  apply wl_orp (d := 12)
  case ht =>
    intro hg1 hK1
    first
      | (refine wl_dead ?_ hK1 rfl; first | with_reducible contradiction | omega | (simp at hg1; done))
      | skip
        try simp only [bsA, ne_eq] at hg1
        refine wl_gskip rfl rfl rfl rfl rfl rfl rfl ?_
        refine wl_gskip rfl rfl rfl rfl rfl rfl rfl ?_
        refine wl_val rfl rfl rfl (y_pickt rfl rfl) ?_
        exact wl_leR hK1 (.cons rfl (by repeat (first | refine LeE.skip ?_ rfl | exact LeE.refl _)))
  case hf =>
    intro hg1 hK1
    first
      | (refine wl_dead ?_ hK1 rfl; first | with_reducible contradiction | omega | (simp at hg1; done))
      | skip
        try simp only [bsA, ne_eq] at hg1
        refine wl_gval rfl rfl rfl rfl rfl rfl rfl (y_move rfl) ?_
        refine wl_gval rfl rfl rfl rfl rfl rfl rfl (y_lss rfl rfl) ?_
        first | refine wl_val rfl rfl rfl (y_pickt rfl rfl) ?_ | refine wl_val rfl rfl rfl (y_pickf rfl rfl) ?_
        exact wl_leR hK1 (.cons rfl (by repeat (first | refine LeE.skip ?_ rfl | exact LeE.refl _)))
  refine wl_nil ?_
  refine q_then ?_
  first | refine wc_cond rfl (fun hc0 => ?_) (fun hc0 => ?_) | refine wc_condb rfl (fun hc0 => ?_) (fun hc0 => ?_)
  · first
    | ((try simp only [bsA, ne_eq] at hc0); exfalso; (first | with_reducible contradiction | omega | (simp at hc0; done)))
    | skip
      try simp only [bsA, ne_eq] at hc0
      refine wc_seq ?_
      refine wc_region ?_
      refine wl_val rfl rfl rfl (y_assign rfl) ?_
      refine wl_nil ?_
      refine q_then ?_
      refine wc_ret ?_
      refine q_thenRet ?_
      apply q_retg (res1 Try.results38 rfl) -- ret 0
      case hΨ =>
        exact ⟨by rw [bkt, if_pos hc0], rfl⟩
      case hs =>
        exact SubC.out
  · first
    | ((try simp only [bsA, ne_eq] at hc0); exfalso; (first | with_reducible contradiction | omega | (simp at hc0; done)))
    | skip
      try simp only [bsA, ne_eq] at hc0
      refine wc_skip ?_
      refine q_then ?_
      refine wc_seq ?_
      refine wc_region ?_
      refine wl_val rfl rfl rfl (y_move rfl) ?_
      (refine wl_ef rfl (ef_callo rfl fun82 rfl (fun _ hw => (p1 _))) ?_; rintro _ _ ⟨v14, rfl, rfl⟩)
      refine wl_val rfl rfl rfl (y_move rfl) ?_
      (refine wl_ef rfl (ef_callo rfl fun82 rfl (fun _ hw => (p2 _))) ?_; rintro _ _ ⟨v16, rfl, rfl⟩)
      refine wl_fct (p := v14.oneCell' = true ∧ v16.oneCell' = true) (fun w h => ⟨own_1c h, own_1c h⟩) (fun hone => ?_)
      (refine wl_ef rfl (ef_lit2 rfl Try.underlying163 siz99 zer99 rfl hone.1 rfl hone.2) ?_; rintro _ _ ⟨v17, rfl, rfl⟩)
      (refine wl_ef rfl (ef_callv0 rfl fun81 rfl (fun _ hw => (cs _ _ _ _ (rdI_own0 hw) (rdI_own0 hw) (rdI_own0 hw)))) ?_; rintro _ _ ⟨rfl, rfl⟩)
      refine wl_val rfl rfl rfl (y_move rfl) ?_
      (refine wl_ef rfl (ef_callv0 rfl fun80 rfl (fun _ hw => (c_Share K.1 buckets K.2 _))) ?_; rintro _ _ ⟨rfl, rfl⟩)
      refine wl_val rfl rfl rfl (y_assign rfl) ?_
      refine wl_nil ?_
      refine q_then ?_
      refine wc_ret ?_
      apply q_retg (res1 Try.results38 rfl) -- ret 1
      case hΨ =>
        exact ⟨by rw [bkt, if_neg (by omega), hK]; rfl, rfl⟩
      case hs =>
        exact SubC.out
theorem c_refBucket (client num buckets : Int) (w : World) (h1 : client ≤ 9223372036854775807) (h2 : num ≤ 9223372036854775807) : Calls Try.prog 41 #[.int .i64 client, .int .i64 num, .int .i64 buckets] w (RV w (.int .i64 (bkt client num buckets))) := by
  have e1 := encI_len h1
  have e2 := encI_len h2
  obtain ⟨K, hK⟩ : ∃ K, K = shaD (encI client ++ encI num) := ⟨_, rfl⟩
  obtain ⟨B, hB⟩ : ∃ B, B = encI client ++ encI num := ⟨_, rfl⟩
  have lB : B.length ≤ 18 := by rw [hB, List.length_append]; omega
  have p1 : ∀ w, Calls Try.prog 77 #[.slice none 0 0, .int .i64 client] w (RB w (encI client)) := fun w => by
    have := c_refPut (.slice none 0 0) [] client h1 w (RdI.of_nil _ _ _) (by simp)
    rwa [List.nil_append] at this
  have p2 : ∀ (v : Value) (w : World), RdI w [] v 1 (encI client).length (bvs (encI client)) → Calls Try.prog 77 #[v, .int .i64 num] w (RB w B) := fun v w h => by
    rw [hB]
    exact c_refPut v (encI client) num h2 w h (by omega)
  have cs : ∀ (v : Value) (w : World), RdI w [] v 1 B.length (bvs B) → Calls Try.prog 66 #[v] w (RV w (.agg (bvs K.1).toArray)) := fun v w h => by
    rw [hK, ← hB]
    exact c_refSum v B w h (by omega)
  refine enter (N := 20) Try.func41 rfl Try.ntmps41 rfl (Has.nil _) ?_
  refine wc_seq ?_
  refine wc_region ?_
  refine wl_val rfl rfl rfl (y_assign rfl) ?_
  refine wl_nil ?_
  refine q_then ?_
  refine wc_seq ?_
  refine wc_seq ?_
  refine wc_region ?_
  refine wl_val rfl rfl rfl (y_move rfl) ?_
  refine wl_val rfl rfl rfl (y_lss rfl rfl) ?_
  refine wl_val rfl rfl rfl (y_move rfl) ?_
  apply wl_orp (d := 12)
  case ht =>
    intro hg1 hK1
    first
      | (refine wl_dead ?_ hK1 rfl; first | with_reducible contradiction | omega | (simp at hg1; done))
      | skip
        try simp only [bsA, ne_eq] at hg1
        refine wl_gskip rfl rfl rfl rfl rfl rfl rfl ?_
        refine wl_gskip rfl rfl rfl rfl rfl rfl rfl ?_
        refine wl_val rfl rfl rfl (y_pickt rfl rfl) ?_
        exact wl_leR hK1 (.cons rfl (by repeat (first | refine LeE.skip ?_ rfl | exact LeE.refl _)))
  case hf =>
    intro hg1 hK1
    first
      | (refine wl_dead ?_ hK1 rfl; first | with_reducible contradiction | omega | (simp at hg1; done))
      | skip
        try simp only [bsA, ne_eq] at hg1
        refine wl_gval rfl rfl rfl rfl rfl rfl rfl (y_move rfl) ?_
        refine wl_gval rfl rfl rfl rfl rfl rfl rfl (y_lss rfl rfl) ?_
        first | refine wl_val rfl rfl rfl (y_pickt rfl rfl) ?_ | refine wl_val rfl rfl rfl (y_pickf rfl rfl) ?_
        exact wl_leR hK1 (.cons rfl (by repeat (first | refine LeE.skip ?_ rfl | exact LeE.refl _)))
  refine wl_nil ?_
  refine q_then ?_
  first | refine wc_cond rfl (fun hc0 => ?_) (fun hc0 => ?_) | refine wc_condb rfl (fun hc0 => ?_) (fun hc0 => ?_)
  · first
    | ((try simp only [bsA, ne_eq] at hc0); exfalso; (first | with_reducible contradiction | omega | (simp at hc0; done)))
    | skip
      try simp only [bsA, ne_eq] at hc0
      refine wc_seq ?_
      refine wc_region ?_
      refine wl_val rfl rfl rfl (y_assign rfl) ?_
      refine wl_nil ?_
      refine q_then ?_
      refine wc_ret ?_
      refine q_thenRet ?_
      apply q_retg (res1 Try.results41 rfl) -- ret 0
      case hΨ =>
        exact ⟨by rw [bkt, if_pos hc0], rfl⟩
      case hs =>
        exact SubC.out
  · first
    | ((try simp only [bsA, ne_eq] at hc0); exfalso; (first | with_reducible contradiction | omega | (simp at hc0; done)))
    | skip
      try simp only [bsA, ne_eq] at hc0
      refine wc_skip ?_
      refine q_then ?_
      refine wc_seq ?_
      refine wc_region ?_
      refine wl_val rfl rfl rfl (y_move rfl) ?_
      (refine wl_ef rfl (ef_callo rfl fun77 rfl (fun _ hw => (p1 _))) ?_; rintro _ _ ⟨v14, rfl, rfl⟩)
      refine wl_val rfl rfl rfl (y_move rfl) ?_
      (refine wl_ef rfl (ef_callo rfl fun77 rfl (fun _ hw => (p2 _ _ (rdI_own0 hw)))) ?_; rintro _ _ ⟨v16, rfl, rfl⟩)
      (refine wl_ef rfl (ef_callv0 rfl fun66 rfl (fun _ hw => (cs _ _ (rdI_own0 hw)))) ?_; rintro _ _ ⟨rfl, rfl⟩)
      refine wl_val rfl rfl rfl (y_move rfl) ?_
      (refine wl_ef rfl (ef_callv0 rfl fun85 rfl (fun _ hw => (c_refShare K.1 buckets K.2 _))) ?_; rintro _ _ ⟨rfl, rfl⟩)
      refine wl_val rfl rfl rfl (y_assign rfl) ?_
      refine wl_nil ?_
      refine q_then ?_
      refine wc_ret ?_
      apply q_retg (res1 Try.results41 rfl) -- ret 1
      case hΨ =>
        exact ⟨by rw [bkt, if_neg (by omega), hK]; rfl, rfl⟩
      case hs =>
        exact SubC.out
end Go.Proofs.Ytdgmkbjopcopcaa
