/- Walks: are two lists of requests, two batches the same? Own work. -/
import Derived.Test.YtdgmkbjopcopcaaEqsa
import Derived.Test.YtdgmkbjopcopcaaBata
set_option linter.unusedVariables false
set_option linter.unusedSimpArgs false
set_option maxRecDepth 100000
set_option maxHeartbeats 8000000
namespace Go.Proofs.Ytdgmkbjopcopcaa
open Go.RowKit

theorem take_step {α : Type} {l m : List α} {i : Nat} {x y : α} (hl : l[i]? = some x) (hm : m[i]? = some y) (h : l.take i = m.take i) (e : x = y) : l.take (i + 1) = m.take (i + 1) := by
  rw [List.take_add_one, List.take_add_one, hl, hm, h, e]
theorem c_sameReqs (va vb : Value) (rs ss : List Req) (hrs : Reqs rs) (hss : Reqs ss) (w : World) (ha : RdI w [] va 19 rs.length (reqsC rs)) (hb : RdI w [] vb 19 ss.length (reqsC ss)) :
    Calls Try.prog 102 #[va, vb] w (RV w (.bool (decide (rs = ss)))) := by
  have hmany := hrs.many
  refine enter (N := 26) Try.func102 rfl Try.ntmps102 rfl (Has.nil _) ?_
  refine wc_seq ?_
  refine wc_region ?_
  refine wl_val rfl rfl rfl (y_assign rfl) ?_
  refine wl_nil ?_
  refine q_then ?_
  refine wc_seq ?_
  refine wc_seq ?_
  refine wc_region ?_
  refine wl_val rfl rfl rfl (y_move rfl) ?_
  refine wl_val rfl rfl rfl (y_lenRd Try.underlying24 rfl (by first | exact rd_own | exact rd_in (by assumption) | assumption)) ?_
  refine wl_val rfl rfl rfl (y_move rfl) ?_
  refine wl_val rfl rfl rfl (y_lenRd Try.underlying24 rfl (by first | exact rd_own | exact rd_in (by assumption) | assumption)) ?_
  refine wl_val rfl rfl rfl (y_neq rfl rfl) ?_
  refine wl_nil ?_
  refine q_then ?_
  refine wc_cond rfl (fun hc0 => ?_) (fun hc0 => ?_)
  · first
    | ((exfalso; (first | with_reducible contradiction | omega | (simp at hc0; done))))
    | skip
      refine wc_seq ?_
      refine wc_region ?_
      refine wl_val rfl rfl rfl (y_assign rfl) ?_
      refine wl_nil ?_
      refine q_then ?_
      refine wc_ret ?_
      refine q_thenRet ?_
      apply q_retg (res1 Try.results102 rfl) -- ret 0
      case hΨ =>
        exact ⟨by rw [decide_eq_false (fun e => hc0 (by rw [e]))], rfl⟩
      case hs =>
        (repeat (first | exact SubL.nil | refine SubL.consOwn rfl rfl ?_ | refine SubL.consBlk rfl ?_)); fail_if_success focus skip
  · first
    | ((exfalso; (first | with_reducible contradiction | omega | (simp at hc0; done))))
    | skip
      refine wc_skip ?_
      refine q_then ?_
      refine wc_seq ?_
      refine wc_seq ?_
      refine wc_region ?_
      refine wl_val rfl rfl rfl (y_move rfl) ?_
      refine wl_val rfl rfl rfl (y_lenRd Try.underlying24 rfl (by first | exact rd_own | exact rd_in (by assumption) | assumption)) ?_
      refine wl_val rfl rfl rfl (y_move rfl) ?_
      refine wl_nil ?_
      refine q_then ?_
      refine wc_block ?_
      refine wc_loop (X := Nat) (fun i => [(0, va), (1, vb), (12, .int .i64 (rs.length : Int)), (13, .int .i64 (i : Int))]) (fun _ => []) (fun i => i ≤ rs.length ∧ rs.take i = ss.take i) (fun i => rs.length - i) (0) ?_ ?_ ?_ ?_
      · exact ⟨by omega, by simp⟩
      · repeat (first | exact SubE.nil | refine SubE.cons rfl ?_ | refine SubE.cons (lk_int rfl (by omega)) ?_ | refine SubE.cons (lk_int rfl (by rfl)) ?_ | refine SubE.cons (lk_eq rfl (by rfl)) ?_)
      · (repeat (first | exact SubL.nil | refine SubL.consOwn rfl rfl ?_ | refine SubL.consBlk rfl ?_)); fail_if_success focus skip
      · skip
        rintro i ⟨hi, hti⟩
        have hlen : rs.length = ss.length := by omega
        refine wc_seq ?_
        refine wc_region ?_
        refine wl_val rfl rfl rfl (y_lss rfl rfl) ?_
        refine wl_nil ?_
        refine q_then ?_
        refine wc_seq ?_
        refine wc_cond rfl (fun hc1 => ?_) (fun hc1 => ?_)
        · first
          | ((exfalso; (first | with_reducible contradiction | omega | (simp at hc1; done))))
          | skip
            obtain ⟨r, hri⟩ : ∃ r, rs[i]? = some r := ⟨rs[i]'(by omega), List.getElem?_eq_getElem (by omega)⟩
            obtain ⟨s, hsi⟩ : ∃ s, ss[i]? = some s := ⟨ss[i]'(by omega), List.getElem?_eq_getElem (by omega)⟩
            have hrt := hrs.tag r (List.mem_of_getElem? hri)
            have hst := hss.tag s (List.mem_of_getElem? hsi)
            refine wc_skip ?_
            refine q_then ?_
            refine wc_seq ?_
            refine wc_block ?_
            refine wc_seq ?_
            refine wc_region ?_
            refine wl_val rfl rfl rfl (y_move rfl) ?_
            refine wl_val rfl rfl rfl (y_assign rfl) ?_
            refine wl_nil ?_
            refine q_then ?_
            refine wc_seq ?_
            refine wa_begin_all (n := 9) (b := #[false, false, false, false, false, false, false, false, false]) mixed rfl rfl ?_
            all_goals refine wa_take (i := 0) (listed' := #[true, false, false, false, false, false, false, false, false]) rfl (by kernel_rfl) (by kernel_rfl) (by kernel_rfl) (by (repeat (first | exact calm_body | refine calm_then ?_ | refine calm_block ?_))) rfl rfl rfl (by (repeat (first | exact SubL.nil | refine SubL.consOwn rfl rfl ?_ | refine SubL.consBlk rfl ?_ | refine SubL.consMap rfl rfl ?_)); fail_if_success focus skip) (y_move rfl) rfl ?_
            all_goals refine wa_take (i := 1) (listed' := #[true, true, false, false, false, false, false, false, false]) rfl (by kernel_rfl) (by kernel_rfl) (by kernel_rfl) (by (repeat (first | exact calm_body | refine calm_then ?_ | refine calm_block ?_))) rfl rfl rfl (by (repeat (first | exact SubL.nil | refine SubL.consOwn rfl rfl ?_ | refine SubL.consBlk rfl ?_ | refine SubL.consMap rfl rfl ?_)); fail_if_success focus skip) (y_move rfl) rfl ?_
            all_goals refine wa_take (i := 2) (listed' := #[true, true, true, false, false, false, false, false, false]) rfl (by kernel_rfl) (by kernel_rfl) (by kernel_rfl) (by (repeat (first | exact calm_body | refine calm_then ?_ | refine calm_block ?_))) rfl rfl rfl (by (repeat (first | exact SubL.nil | refine SubL.consOwn rfl rfl ?_ | refine SubL.consBlk rfl ?_ | refine SubL.consMap rfl rfl ?_)); fail_if_success focus skip) (y_indexEn Try.underlying24 siz71 rfl rfl (by first | exact rd_own | exact rd_in (by assumption) | assumption) (by omega)) rfl ?_
            all_goals refine wa_take (i := 3) (listed' := #[true, true, true, true, false, false, false, false, false]) rfl (by kernel_rfl) (by kernel_rfl) (by kernel_rfl) (by (repeat (first | exact calm_body | refine calm_then ?_ | refine calm_block ?_))) rfl rfl rfl (by (repeat (first | exact SubL.nil | refine SubL.consOwn rfl rfl ?_ | refine SubL.consBlk rfl ?_ | refine SubL.consMap rfl rfl ?_)); fail_if_success focus skip) (y_loadNE agg71 rfl (rd_in ha) (flat_part (fun x hx => reqc_len (hrs.tag x hx)) hri) (reqc_len hrt) (by decide)) rfl ?_
            all_goals refine wa_take (i := 4) (listed' := #[true, true, true, true, true, false, false, false, false]) rfl (by kernel_rfl) (by kernel_rfl) (by kernel_rfl) (by (repeat (first | exact calm_body | refine calm_then ?_ | refine calm_block ?_))) rfl rfl rfl (by (repeat (first | exact SubL.nil | refine SubL.consOwn rfl rfl ?_ | refine SubL.consBlk rfl ?_ | refine SubL.consMap rfl rfl ?_)); fail_if_success focus skip) (y_move rfl) rfl ?_
            all_goals refine wa_take (i := 5) (listed' := #[true, true, true, true, true, true, false, false, false]) rfl (by kernel_rfl) (by kernel_rfl) (by kernel_rfl) (by (repeat (first | exact calm_body | refine calm_then ?_ | refine calm_block ?_))) rfl rfl rfl (by (repeat (first | exact SubL.nil | refine SubL.consOwn rfl rfl ?_ | refine SubL.consBlk rfl ?_ | refine SubL.consMap rfl rfl ?_)); fail_if_success focus skip) (y_move rfl) rfl ?_
            all_goals refine wa_take (i := 6) (listed' := #[true, true, true, true, true, true, true, false, false]) rfl (by kernel_rfl) (by kernel_rfl) (by kernel_rfl) (by (repeat (first | exact calm_body | refine calm_then ?_ | refine calm_block ?_))) rfl rfl rfl (by (repeat (first | exact SubL.nil | refine SubL.consOwn rfl rfl ?_ | refine SubL.consBlk rfl ?_ | refine SubL.consMap rfl rfl ?_)); fail_if_success focus skip) (y_indexEn Try.underlying24 siz71 rfl rfl (by first | exact rd_own | exact rd_in (by assumption) | assumption) (by omega)) rfl ?_
            all_goals refine wa_take (i := 7) (listed' := #[true, true, true, true, true, true, true, true, false]) rfl (by kernel_rfl) (by kernel_rfl) (by kernel_rfl) (by (repeat (first | exact calm_body | refine calm_then ?_ | refine calm_block ?_))) rfl rfl rfl (by (repeat (first | exact SubL.nil | refine SubL.consOwn rfl rfl ?_ | refine SubL.consBlk rfl ?_ | refine SubL.consMap rfl rfl ?_)); fail_if_success focus skip) (y_loadNE agg71 rfl (rd_in hb) (flat_part (fun x hx => reqc_len (hss.tag x hx)) hsi) (reqc_len hst) (by decide)) rfl ?_
            all_goals refine wa_take (i := 8) (listed' := #[true, true, true, true, true, true, true, true, true]) rfl (by kernel_rfl) (by kernel_rfl) (by kernel_rfl) (by (repeat (first | exact calm_body | refine calm_then ?_ | refine calm_block ?_))) rfl rfl rfl (by (repeat (first | exact SubL.nil | refine SubL.consOwn rfl rfl ?_ | refine SubL.consBlk rfl ?_ | refine SubL.consMap rfl rfl ?_)); fail_if_success focus skip) (y_neqAgg Try.eqGuardType71 rfl rfl (eq_req hrt hst) (by omega)) rfl ?_
            all_goals refine wa_done (by kernel_rfl) ?_
            refine q_then ?_
            first | refine wc_cond rfl (fun hc2 => ?_) (fun hc2 => ?_) | refine wc_condb rfl (fun hc2 => ?_) (fun hc2 => ?_)
            · first
              | ((exfalso; (first | with_reducible contradiction | omega | (simp at hc2; done))))
              | skip
                refine wc_seq ?_
                refine wc_region ?_
                refine wl_val rfl rfl rfl (y_assign rfl) ?_
                refine wl_nil ?_
                refine q_then ?_
                refine wc_ret ?_
                refine q_blockRet ?_
                refine q_thenRet ?_
                refine q_thenRet ?_
                refine q_blockRet ?_
                refine q_thenRet ?_
                apply q_retg (res1 Try.results102 rfl) -- ret 1
                case hΨ =>
                  exact ⟨by rw [decide_eq_false (fun e => by subst e; rw [hri] at hsi; simp_all)], rfl⟩
                case hs =>
                  (repeat (first | exact SubL.nil | refine SubL.consOwn rfl rfl ?_ | refine SubL.consBlk rfl ?_)); fail_if_success focus skip
            · first
              | ((exfalso; (first | with_reducible contradiction | omega | (simp at hc2; done))))
              | skip
                refine wc_skip ?_
                refine q_blockNormal ?_
                refine q_then ?_
                refine wc_region ?_
                refine wl_val rfl rfl rfl (y_addn rfl rfl (by omega)) ?_
                refine wl_val rfl rfl rfl (y_move rfl) ?_
                refine wl_nil ?_
                refine q_again (i + 1) ?_ ?_ ?_ ?_
                · exact ⟨by omega, take_step hri hsi hti (by simpa using hc2)⟩
                · first | omega | (simp; omega) | (simp only []; omega)
                · repeat (first | exact SubE.nil | refine SubE.cons rfl ?_ | refine SubE.cons (lk_int rfl (by omega)) ?_ | refine SubE.cons (lk_int rfl (by rfl)) ?_ | refine SubE.cons (lk_eq rfl (by rfl)) ?_)
                · (repeat (first | exact SubL.nil | refine SubL.consOwn rfl rfl ?_ | refine SubL.consBlk rfl ?_)); fail_if_success focus skip
        · first
          | ((exfalso; (first | with_reducible contradiction | omega | (simp at hc1; done))))
          | skip
            refine wc_exit ?_
            refine q_thenExit ?_
            refine q_thenExit ?_
            refine q_blockExit ?_
            refine q_then ?_
            refine wc_seq ?_
            refine wc_region ?_
            refine wl_val rfl rfl rfl (y_assign rfl) ?_
            refine wl_nil ?_
            refine q_then ?_
            refine wc_ret ?_
            apply q_retg (res1 Try.results102 rfl) -- ret 2
            case hΨ =>
              exact ⟨by rw [decide_eq_true (by have := hti; rw [List.take_of_length_le (by omega), List.take_of_length_le (by omega)] at this; exact this)], rfl⟩
            case hs =>
              (repeat (first | exact SubL.nil | refine SubL.consOwn rfl rfl ?_ | refine SubL.consBlk rfl ?_)); fail_if_success focus skip
theorem c_batSame (va vb : Value) (na nb : Bool) (rs ss : List Req) (hrs : Reqs rs) (hss : Reqs ss) (w : World) (ha : RdI w [] va 19 rs.length (reqsC rs)) (hb : RdI w [] vb 19 ss.length (reqsC ss)) :
    Calls Try.prog 78 #[.agg [.bool na, va].toArray, .agg [.bool nb, vb].toArray] w (RV w (.bool (decide (na = nb ∧ rs = ss)))) := by
  refine enter (N := 17) Try.func78 rfl Try.ntmps78 rfl (Has.nil _) ?_
  refine wc_seq ?_
  refine wc_region ?_
  (refine wl_ef rfl (ef_box rfl rfl rfl) ?_; rintro _ _ ⟨b2, rfl, rfl⟩)
  (refine wl_ef rfl (ef_box rfl rfl rfl) ?_; rintro _ _ ⟨b3, rfl, rfl⟩)
  refine wl_val rfl rfl rfl (y_assign rfl) ?_
  refine wl_nil ?_
  refine q_then ?_
  refine wc_seq ?_
  refine wc_region ?_
  refine wl_val rfl rfl rfl (y_field0 fa26_0 rfl) ?_
  refine wl_val rfl rfl rfl (y_load one4 rfl (by rfl)) ?_
  refine wl_val rfl rfl rfl (y_field0 fa26_0 rfl) ?_
  refine wl_val rfl rfl rfl (y_load one4 rfl (by rfl)) ?_
  refine wl_val rfl rfl rfl (y_eqlBool Try.underlying4 rfl rfl) ?_
  refine wl_val rfl rfl rfl (y_move rfl) ?_
  refine wl_split (t := 10) rfl (fun hg1 => ?_) (fun hg1 => ?_)
  · first
    | (exfalso; (first | with_reducible contradiction | omega | (simp at hg1; done)))
    | skip
      refine wl_gval rfl rfl rfl rfl rfl rfl rfl (y_field0 fa26_1 rfl) ?_
      refine wl_gval rfl rfl rfl rfl rfl rfl rfl (y_load one24 rfl (by rfl)) ?_
      refine wl_gval rfl rfl rfl rfl rfl rfl rfl (y_field0 fa26_1 rfl) ?_
      refine wl_gval rfl rfl rfl rfl rfl rfl rfl (y_load one24 rfl (by rfl)) ?_
      (refine wl_gef rfl rfl rfl rfl rfl (ef_callv0 rfl fun102 rfl (fun _ hw => (c_sameReqs va vb rs ss hrs hss _ (rdI_in0 hw ha) (rdI_in0 hw hb)))) ?_; rintro _ _ ⟨rfl, rfl⟩)
      refine wl_val rfl rfl rfl (y_pickt rfl rfl) ?_
      refine wl_val rfl rfl rfl (y_assign rfl) ?_
      refine wl_nil ?_
      refine q_then ?_
      refine wc_ret ?_
      apply q_retg (res1 Try.results78 rfl) -- ret 0
      case hΨ =>
        exact ⟨by simp_all, rfl⟩
      case hs =>
        (repeat (first | exact SubL.nil | refine SubL.consOwn rfl rfl ?_ | refine SubL.consBlk rfl ?_)); fail_if_success focus skip
  · first
    | (exfalso; (first | with_reducible contradiction | omega | (simp at hg1; done)))
    | skip
      refine wl_gskip rfl rfl rfl rfl rfl rfl rfl ?_
      refine wl_gskip rfl rfl rfl rfl rfl rfl rfl ?_
      refine wl_gskip rfl rfl rfl rfl rfl rfl rfl ?_
      refine wl_gskip rfl rfl rfl rfl rfl rfl rfl ?_
      refine wl_gskip rfl rfl rfl rfl rfl rfl rfl ?_
      first | refine wl_val rfl rfl rfl (y_pickt rfl rfl) ?_ | refine wl_val rfl rfl rfl (y_pickf rfl rfl) ?_
      refine wl_val rfl rfl rfl (y_assign rfl) ?_
      refine wl_nil ?_
      refine q_then ?_
      refine wc_ret ?_
      apply q_retg (res1 Try.results78 rfl) -- ret 0
      case hΨ =>
        exact ⟨by simp_all, rfl⟩
      case hs =>
        (repeat (first | exact SubL.nil | refine SubL.consOwn rfl rfl ?_ | refine SubL.consBlk rfl ?_)); fail_if_success focus skip
theorem c_refSame (va vb : Value) (na nb : Bool) (rs ss : List Req) (hrs : Reqs rs) (hss : Reqs ss) (w : World) (ha : RdI w [] va 19 rs.length (reqsC rs)) (hb : RdI w [] vb 19 ss.length (reqsC ss)) :
    Calls Try.prog 25 #[.agg [.bool na, va].toArray, .agg [.bool nb, vb].toArray] w (RV w (.bool (decide (na = nb ∧ rs = ss)))) := by
  have hmany := hrs.many
  obtain ⟨A0, cap0, rfl, hle1, hle2, _⟩ := ha.rd.form
  obtain ⟨A1, cap1, rfl, hle3, hle4, _⟩ := hb.rd.form
  refine enter (N := 38) Try.func25 rfl Try.ntmps25 rfl (Has.nil _) ?_
  refine wc_seq ?_
  refine wc_region ?_
  (refine wl_ef rfl (ef_box rfl rfl rfl) ?_; rintro _ _ ⟨b2, rfl, rfl⟩)
  (refine wl_ef rfl (ef_box rfl rfl rfl) ?_; rintro _ _ ⟨b3, rfl, rfl⟩)
  refine wl_val rfl rfl rfl (y_assign rfl) ?_
  refine wl_nil ?_
  refine q_then ?_
  refine wc_seq ?_
  refine wc_seq ?_
  refine wc_region ?_
  refine wl_val rfl rfl rfl (y_field0 fa26_0 rfl) ?_
  refine wl_val rfl rfl rfl (y_load one4 rfl (by rfl)) ?_
  refine wl_val rfl rfl rfl (y_field0 fa26_0 rfl) ?_
  refine wl_val rfl rfl rfl (y_load one4 rfl (by rfl)) ?_
  refine wl_val rfl rfl rfl (y_neqBool Try.underlying4 rfl rfl) ?_
  refine wl_val rfl rfl rfl (y_move rfl) ?_
  refine wl_split (t := 11) rfl (fun hg1 => ?_) (fun hg1 => ?_)
  · first
    | (exfalso; (first | with_reducible contradiction | omega | (simp at hg1; done)))
    | skip
      refine wl_gskip rfl rfl rfl rfl rfl rfl rfl ?_
      refine wl_gskip rfl rfl rfl rfl rfl rfl rfl ?_
      refine wl_gskip rfl rfl rfl rfl rfl rfl rfl ?_
      refine wl_gskip rfl rfl rfl rfl rfl rfl rfl ?_
      refine wl_gskip rfl rfl rfl rfl rfl rfl rfl ?_
      refine wl_gskip rfl rfl rfl rfl rfl rfl rfl ?_
      refine wl_gskip rfl rfl rfl rfl rfl rfl rfl ?_
      refine wl_val rfl rfl rfl (y_pickt rfl rfl) ?_
      refine wl_nil ?_
      refine q_then ?_
      first | refine wc_cond rfl (fun hc0 => ?_) (fun hc0 => ?_) | refine wc_condb rfl (fun hc0 => ?_) (fun hc0 => ?_)
      · first
        | ((exfalso; (first | with_reducible contradiction | omega | (simp at hc0; done))))
        | skip
          refine wc_seq ?_
          refine wc_region ?_
          refine wl_val rfl rfl rfl (y_assign rfl) ?_
          refine wl_nil ?_
          refine q_then ?_
          refine wc_ret ?_
          refine q_thenRet ?_
          apply q_retg (res1 Try.results25 rfl) -- ret 0
          case hΨ =>
            first | exact ⟨by rw [decide_eq_false (fun e => hc0 (by rw [e.2]))], rfl⟩ | exact ⟨by simp_all, rfl⟩
          case hs =>
            (repeat (first | exact SubL.nil | refine SubL.consOwn rfl rfl ?_ | refine SubL.consBlk rfl ?_)); fail_if_success focus skip
      · ((exfalso; (first | with_reducible contradiction | omega | (simp at hc0; done))))
  · first
    | (exfalso; (first | with_reducible contradiction | omega | (simp at hg1; done)))
    | skip
      refine wl_gval rfl rfl rfl rfl rfl rfl rfl (y_field0 fa26_1 rfl) ?_
      refine wl_gval rfl rfl rfl rfl rfl rfl rfl (y_load one24 rfl (by rfl)) ?_
      refine wl_gval rfl rfl rfl rfl rfl rfl rfl (y_lenRd Try.underlying24 rfl (by first | exact rd_own | exact rd_in (by assumption) | assumption)) ?_
      refine wl_gval rfl rfl rfl rfl rfl rfl rfl (y_field0 fa26_1 rfl) ?_
      refine wl_gval rfl rfl rfl rfl rfl rfl rfl (y_load one24 rfl (by rfl)) ?_
      refine wl_gval rfl rfl rfl rfl rfl rfl rfl (y_lenRd Try.underlying24 rfl (by first | exact rd_own | exact rd_in (by assumption) | assumption)) ?_
      refine wl_gval rfl rfl rfl rfl rfl rfl rfl (y_neq rfl rfl) ?_
      first | refine wl_val rfl rfl rfl (y_pickt rfl rfl) ?_ | refine wl_val rfl rfl rfl (y_pickf rfl rfl) ?_
      refine wl_nil ?_
      refine q_then ?_
      refine wc_cond rfl (fun hc0 => ?_) (fun hc0 => ?_)
      · first
        | ((exfalso; (first | with_reducible contradiction | omega | (simp at hc0; done))))
        | skip
          refine wc_seq ?_
          refine wc_region ?_
          refine wl_val rfl rfl rfl (y_assign rfl) ?_
          refine wl_nil ?_
          refine q_then ?_
          refine wc_ret ?_
          refine q_thenRet ?_
          apply q_retg (res1 Try.results25 rfl) -- ret 0
          case hΨ =>
            first | exact ⟨by rw [decide_eq_false (fun e => hc0 (by rw [e.2]))], rfl⟩ | exact ⟨by simp_all, rfl⟩
          case hs =>
            (repeat (first | exact SubL.nil | refine SubL.consOwn rfl rfl ?_ | refine SubL.consBlk rfl ?_)); fail_if_success focus skip
      · first
        | ((exfalso; (first | with_reducible contradiction | omega | (simp at hc0; done))))
        | skip
          refine wc_skip ?_
          refine q_then ?_
          refine wc_seq ?_
          refine wc_seq ?_
          refine wc_region ?_
          refine wl_val rfl rfl rfl (y_assign rfl) ?_
          refine wl_nil ?_
          refine q_then ?_
          refine wc_block ?_
          refine wc_loop (X := Nat) (fun i => [(2, .pointer (some ⟨b2, 0, none⟩)), (3, .pointer (some ⟨b3, 0, none⟩)), (5, .int .i64 (i : Int))]) (fun i => [.blk b2 [.bool na, .slice A0 rs.length cap0] 26 (0, 0), .blk b3 [.bool nb, .slice A1 ss.length cap1] 26 (0, 0)]) (fun i => i ≤ rs.length ∧ rs.take i = ss.take i ∧ na = nb ∧ rs.length = ss.length) (fun i => rs.length - i) (0) ?_ ?_ ?_ ?_
          · refine ⟨by omega, by simp, ?_, ?_⟩ <;> simp_all <;> omega
          · repeat (first | exact SubE.nil | refine SubE.cons rfl ?_ | refine SubE.cons (lk_int rfl (by omega)) ?_ | refine SubE.cons (lk_int rfl (by rfl)) ?_ | refine SubE.cons (lk_eq rfl (by rfl)) ?_)
          · (repeat (first | exact SubL.nil | refine SubL.consOwn rfl rfl ?_ | refine SubL.consBlk rfl ?_)); fail_if_success focus skip
          · skip
            rintro i ⟨hi, hti, hne, hlen⟩
            refine wc_seq ?_
            refine wc_seq ?_
            refine wc_region ?_
            refine wl_val rfl rfl rfl (y_move rfl) ?_
            refine wl_val rfl rfl rfl (y_field0 fa26_1 rfl) ?_
            refine wl_val rfl rfl rfl (y_load one24 rfl (by rfl)) ?_
            refine wl_val rfl rfl rfl (y_lenRd Try.underlying24 rfl (by first | exact rd_own | exact rd_in (by assumption) | assumption)) ?_
            refine wl_val rfl rfl rfl (y_lss rfl rfl) ?_
            refine wl_nil ?_
            refine q_then ?_
            refine wc_cond rfl (fun hc1 => ?_) (fun hc1 => ?_)
            · first
              | ((exfalso; (first | with_reducible contradiction | omega | (simp at hc1; done))))
              | skip
                obtain ⟨r, hri⟩ : ∃ r, rs[i]? = some r := ⟨rs[i]'(by omega), List.getElem?_eq_getElem (by omega)⟩
                obtain ⟨s, hsi⟩ : ∃ s, ss[i]? = some s := ⟨ss[i]'(by omega), List.getElem?_eq_getElem (by omega)⟩
                have hrt := hrs.tag r (List.mem_of_getElem? hri)
                have hst := hss.tag s (List.mem_of_getElem? hsi)
                refine wc_skip ?_
                refine q_then ?_
                refine wc_seq ?_
                refine wc_block ?_
                refine wc_seq ?_
                refine wa_begin_all (n := 11) (b := #[false, false, false, false, false, false, false, false, false, false, false]) mixed rfl rfl ?_
                all_goals refine wa_take (i := 0) (listed' := #[true, false, false, false, false, false, false, false, false, false, false]) rfl (by kernel_rfl) (by kernel_rfl) (by kernel_rfl) (by (repeat (first | exact calm_body | refine calm_then ?_ | refine calm_block ?_))) rfl rfl rfl (by (repeat (first | exact SubL.nil | refine SubL.consOwn rfl rfl ?_ | refine SubL.consBlk rfl ?_ | refine SubL.consMap rfl rfl ?_)); fail_if_success focus skip) (y_field0 fa26_1 rfl) rfl ?_
                all_goals refine wa_take (i := 1) (listed' := #[true, true, false, false, false, false, false, false, false, false, false]) rfl (by kernel_rfl) (by kernel_rfl) (by kernel_rfl) (by (repeat (first | exact calm_body | refine calm_then ?_ | refine calm_block ?_))) rfl rfl rfl (by (repeat (first | exact SubL.nil | refine SubL.consOwn rfl rfl ?_ | refine SubL.consBlk rfl ?_ | refine SubL.consMap rfl rfl ?_)); fail_if_success focus skip) (y_load one24 rfl (by rfl)) rfl ?_
                all_goals refine wa_take (i := 2) (listed' := #[true, true, true, false, false, false, false, false, false, false, false]) rfl (by kernel_rfl) (by kernel_rfl) (by kernel_rfl) (by (repeat (first | exact calm_body | refine calm_then ?_ | refine calm_block ?_))) rfl rfl rfl (by (repeat (first | exact SubL.nil | refine SubL.consOwn rfl rfl ?_ | refine SubL.consBlk rfl ?_ | refine SubL.consMap rfl rfl ?_)); fail_if_success focus skip) (y_move rfl) rfl ?_
                all_goals refine wa_take (i := 3) (listed' := #[true, true, true, true, false, false, false, false, false, false, false]) rfl (by kernel_rfl) (by kernel_rfl) (by kernel_rfl) (by (repeat (first | exact calm_body | refine calm_then ?_ | refine calm_block ?_))) rfl rfl rfl (by (repeat (first | exact SubL.nil | refine SubL.consOwn rfl rfl ?_ | refine SubL.consBlk rfl ?_ | refine SubL.consMap rfl rfl ?_)); fail_if_success focus skip) (y_indexEn Try.underlying24 siz71 rfl rfl (by first | exact rd_own | exact rd_in (by assumption) | assumption) (by omega)) rfl ?_
                all_goals refine wa_take (i := 4) (listed' := #[true, true, true, true, true, false, false, false, false, false, false]) rfl (by kernel_rfl) (by kernel_rfl) (by kernel_rfl) (by (repeat (first | exact calm_body | refine calm_then ?_ | refine calm_block ?_))) rfl rfl rfl (by (repeat (first | exact SubL.nil | refine SubL.consOwn rfl rfl ?_ | refine SubL.consBlk rfl ?_ | refine SubL.consMap rfl rfl ?_)); fail_if_success focus skip) (y_loadNE agg71 rfl (rd_in ha) (flat_part (fun x hx => reqc_len (hrs.tag x hx)) hri) (reqc_len hrt) (by decide)) rfl ?_
                all_goals refine wa_take (i := 5) (listed' := #[true, true, true, true, true, true, false, false, false, false, false]) rfl (by kernel_rfl) (by kernel_rfl) (by kernel_rfl) (by (repeat (first | exact calm_body | refine calm_then ?_ | refine calm_block ?_))) rfl rfl rfl (by (repeat (first | exact SubL.nil | refine SubL.consOwn rfl rfl ?_ | refine SubL.consBlk rfl ?_ | refine SubL.consMap rfl rfl ?_)); fail_if_success focus skip) (y_field0 fa26_1 rfl) rfl ?_
                all_goals refine wa_take (i := 6) (listed' := #[true, true, true, true, true, true, true, false, false, false, false]) rfl (by kernel_rfl) (by kernel_rfl) (by kernel_rfl) (by (repeat (first | exact calm_body | refine calm_then ?_ | refine calm_block ?_))) rfl rfl rfl (by (repeat (first | exact SubL.nil | refine SubL.consOwn rfl rfl ?_ | refine SubL.consBlk rfl ?_ | refine SubL.consMap rfl rfl ?_)); fail_if_success focus skip) (y_load one24 rfl (by rfl)) rfl ?_
                all_goals refine wa_take (i := 7) (listed' := #[true, true, true, true, true, true, true, true, false, false, false]) rfl (by kernel_rfl) (by kernel_rfl) (by kernel_rfl) (by (repeat (first | exact calm_body | refine calm_then ?_ | refine calm_block ?_))) rfl rfl rfl (by (repeat (first | exact SubL.nil | refine SubL.consOwn rfl rfl ?_ | refine SubL.consBlk rfl ?_ | refine SubL.consMap rfl rfl ?_)); fail_if_success focus skip) (y_move rfl) rfl ?_
                all_goals refine wa_take (i := 8) (listed' := #[true, true, true, true, true, true, true, true, true, false, false]) rfl (by kernel_rfl) (by kernel_rfl) (by kernel_rfl) (by (repeat (first | exact calm_body | refine calm_then ?_ | refine calm_block ?_))) rfl rfl rfl (by (repeat (first | exact SubL.nil | refine SubL.consOwn rfl rfl ?_ | refine SubL.consBlk rfl ?_ | refine SubL.consMap rfl rfl ?_)); fail_if_success focus skip) (y_indexEn Try.underlying24 siz71 rfl rfl (by first | exact rd_own | exact rd_in (by assumption) | assumption) (by omega)) rfl ?_
                all_goals refine wa_take (i := 9) (listed' := #[true, true, true, true, true, true, true, true, true, true, false]) rfl (by kernel_rfl) (by kernel_rfl) (by kernel_rfl) (by (repeat (first | exact calm_body | refine calm_then ?_ | refine calm_block ?_))) rfl rfl rfl (by (repeat (first | exact SubL.nil | refine SubL.consOwn rfl rfl ?_ | refine SubL.consBlk rfl ?_ | refine SubL.consMap rfl rfl ?_)); fail_if_success focus skip) (y_loadNE agg71 rfl (rd_in hb) (flat_part (fun x hx => reqc_len (hss.tag x hx)) hsi) (reqc_len hst) (by decide)) rfl ?_
                all_goals refine wa_take (i := 10) (listed' := #[true, true, true, true, true, true, true, true, true, true, true]) rfl (by kernel_rfl) (by kernel_rfl) (by kernel_rfl) (by (repeat (first | exact calm_body | refine calm_then ?_ | refine calm_block ?_))) rfl rfl rfl (by (repeat (first | exact SubL.nil | refine SubL.consOwn rfl rfl ?_ | refine SubL.consBlk rfl ?_ | refine SubL.consMap rfl rfl ?_)); fail_if_success focus skip) (y_neqAgg Try.eqGuardType71 rfl rfl (eq_req hrt hst) (by omega)) rfl ?_
                all_goals refine wa_done (by kernel_rfl) ?_
                refine q_then ?_
                first | refine wc_cond rfl (fun hc2 => ?_) (fun hc2 => ?_) | refine wc_condb rfl (fun hc2 => ?_) (fun hc2 => ?_)
                · first
                  | ((exfalso; (first | with_reducible contradiction | omega | (simp at hc2; done))))
                  | skip
                    refine wc_seq ?_
                    refine wc_region ?_
                    refine wl_val rfl rfl rfl (y_assign rfl) ?_
                    refine wl_nil ?_
                    refine q_then ?_
                    refine wc_ret ?_
                    refine q_blockRet ?_
                    refine q_thenRet ?_
                    refine q_thenRet ?_
                    refine q_blockRet ?_
                    refine q_thenRet ?_
                    apply q_retg (res1 Try.results25 rfl) -- ret 1
                    case hΨ =>
                      exact ⟨by rw [decide_eq_false (fun e => by obtain ⟨_, rfl⟩ := e; rw [hri] at hsi; simp_all)], rfl⟩
                    case hs =>
                      (repeat (first | exact SubL.nil | refine SubL.consOwn rfl rfl ?_ | refine SubL.consBlk rfl ?_)); fail_if_success focus skip
                · first
                  | ((exfalso; (first | with_reducible contradiction | omega | (simp at hc2; done))))
                  | skip
                    refine wc_skip ?_
                    refine q_blockNormal ?_
                    refine q_then ?_
                    refine wc_region ?_
                    refine wl_val rfl rfl rfl (y_move rfl) ?_
                    refine wl_val rfl rfl rfl (y_addn rfl rfl (by omega)) ?_
                    refine wl_val rfl rfl rfl (y_assign rfl) ?_
                    refine wl_nil ?_
                    refine q_again (i + 1) ?_ ?_ ?_ ?_
                    · exact ⟨by omega, take_step hri hsi hti (by simpa using hc2), hne, hlen⟩
                    · first | omega | (simp; omega) | (simp only []; omega)
                    · repeat (first | exact SubE.nil | refine SubE.cons rfl ?_ | refine SubE.cons (lk_int rfl (by omega)) ?_ | refine SubE.cons (lk_int rfl (by rfl)) ?_ | refine SubE.cons (lk_eq rfl (by rfl)) ?_)
                    · (repeat (first | exact SubL.nil | refine SubL.consOwn rfl rfl ?_ | refine SubL.consBlk rfl ?_)); fail_if_success focus skip
            · first
              | ((exfalso; (first | with_reducible contradiction | omega | (simp at hc1; done))))
              | skip
                refine wc_exit ?_
                refine q_thenExit ?_
                refine q_thenExit ?_
                refine q_blockExit ?_
                refine q_then ?_
                refine wc_seq ?_
                refine wc_region ?_
                refine wl_val rfl rfl rfl (y_assign rfl) ?_
                refine wl_nil ?_
                refine q_then ?_
                refine wc_ret ?_
                apply q_retg (res1 Try.results25 rfl) -- ret 2
                case hΨ =>
                  exact ⟨by rw [decide_eq_true (by have := hti; rw [List.take_of_length_le (by omega), List.take_of_length_le (by omega)] at this; exact ⟨hne, this⟩)], rfl⟩
                case hs =>
                  (repeat (first | exact SubL.nil | refine SubL.consOwn rfl rfl ?_ | refine SubL.consBlk rfl ?_)); fail_if_success focus skip
end Go.Proofs.Ytdgmkbjopcopcaa
