/- Walks: raddlelaw07.Light. Own work. -/
import Derived.Test.YtdgmkbjopcopcaaLiga
set_option linter.unusedVariables false
set_option linter.unusedSimpArgs false
set_option maxRecDepth 100000
set_option maxHeartbeats 8000000
namespace Go.Proofs.Ytdgmkbjopcopcaa
open Go.RowKit

theorem c_Light (vl : Value) (bs : List Bt) (w : World) (hl : RdI w [] vl 2 bs.length (bs.flatMap Bt.cells)) (hb : ∀ b ∈ bs, BtIn w [] b) : Calls Try.prog 15 #[vl] w (RV w (.bool (lightB bs))) := by
  obtain ⟨A0, cap0, rfl, hle1, hle2, _⟩ := hl.rd.form
  simp only [maxLen] at hle2
  refine enter (N := 47) Try.func15 rfl Try.ntmps15 rfl (Has.nil _) ?_
  refine wc_seq ?_
  refine wc_region ?_
  refine wl_val rfl rfl rfl (y_assign rfl) ?_
  refine wl_nil ?_
  refine q_then ?_
  refine wc_seq ?_
  refine wc_region ?_
  refine wl_val rfl rfl rfl (y_assign rfl) ?_
  refine wl_nil ?_
  refine q_then ?_
  refine wc_seq ?_
  refine wc_seq ?_
  refine wc_region ?_
  refine wl_val rfl rfl rfl (y_assign rfl) ?_
  refine wl_nil ?_
  refine q_then ?_
  refine wc_block ?_
  refine wc_loop (X := Nat) (fun i => [(0, .slice A0 bs.length cap0), (3, .int .i64 ((min (wtB bs i) 4001 : Nat) : Int)), (4, .int .i64 (i : Int))]) (fun _ => []) (fun i => i ≤ bs.length) (fun i => bs.length - i) (0) ?_ ?_ ?_ ?_
  · first | trivial | omega | simp
  · repeat (first | exact SubE.nil | refine SubE.cons rfl ?_ | refine SubE.cons (lk_int rfl (by omega)) ?_ | refine SubE.cons (lk_int rfl (by rfl)) ?_ | refine SubE.cons (lk_eq rfl (by rfl)) ?_)
  · (repeat (first | exact SubL.nil | refine SubL.consOwn rfl rfl ?_ | refine SubL.consBlk rfl ?_)); fail_if_success focus skip
  · skip
    intro i hi
    have hwl := wtB_le bs i
    refine wc_seq ?_
    refine wc_seq ?_
    refine wc_region ?_
    refine wl_val rfl rfl rfl (y_move rfl) ?_
    refine wl_val rfl rfl rfl (y_move rfl) ?_
    refine wl_val rfl rfl rfl (y_lenRd Try.underlying117 rfl (by first | exact rd_own | exact rd_in (by assumption) | assumption)) ?_
    refine wl_val rfl rfl rfl (y_lss rfl rfl) ?_
    refine wl_val rfl rfl rfl (y_move rfl) ?_
    refine wl_split (t := 10) rfl (fun hg1 => ?_) (fun hg1 => ?_)
    · first
      | (exfalso; (first | with_reducible contradiction | omega | (simp at hg1; done)))
      | skip
        refine wl_gval rfl rfl rfl rfl rfl rfl rfl (y_move rfl) ?_
        refine wl_gval rfl rfl rfl rfl rfl rfl rfl (y_leq rfl rfl) ?_
        refine wl_val rfl rfl rfl (y_pickt rfl rfl) ?_
        refine wl_nil ?_
        refine q_then ?_
        refine wc_cond rfl (fun hc0 => ?_) (fun hc0 => ?_)
        · first
          | ((exfalso; (first | with_reducible contradiction | omega | (simp at hc0; done))))
          | skip
            obtain ⟨b, hbi⟩ : ∃ b, bs[i]? = some b := ⟨bs[i]'(by omega), List.getElem?_eq_getElem (by omega)⟩
            have hbt := hb b (List.mem_of_getElem? hbi)
            have hcell : (bs.flatMap Bt.cells)[i * 2 + 1]? = some b.v := flat_part (f := Bt.cells) (fun x _ => rfl) hbi 1 b.v rfl
            have hsu := wtB_succ hbi
            obtain ⟨A1, cap1, hv1, hle3, hle4, _⟩ := hbt.rd.rd.form
            simp only [maxLen] at hle4
            have hlx : i * 2 + 2 ≤ (bs.flatMap Bt.cells).length := by rw [flat_len (n := 2) (fun x _ => rfl)]; omega
            refine wc_skip ?_
            refine q_then ?_
            refine wc_seq ?_
            refine wc_block ?_
            refine wc_seq ?_
            refine wc_region ?_
            refine wl_val rfl rfl rfl (y_move rfl) ?_
            (refine wl_ef rfl (ef_callv0 rfl fun62 rfl (fun _ hw => c_Add _ 5 (by omega) (by omega) _)) ?_; rintro _ _ ⟨rfl, rfl⟩)
            refine wl_val rfl rfl rfl (y_assign rfl) ?_
            refine wl_nil ?_
            refine q_then ?_
            refine wc_seq ?_
            refine wc_region ?_
            refine wl_val rfl rfl rfl (y_assign rfl) ?_
            refine wl_nil ?_
            refine q_then ?_
            refine wc_block ?_
            refine wc_loop (X := Nat) (fun k => [(0, .slice A0 bs.length cap0), (3, .int .i64 ((min (wtB bs i + 5 + wtR b.rs k) 4001 : Nat) : Int)), (4, .int .i64 (i : Int)), (5, .int .i64 (k : Int))]) (fun _ => []) (fun k => k ≤ b.rs.length) (fun k => b.rs.length - k) (0) ?_ ?_ ?_ ?_
            · first | trivial | omega | simp
            · repeat (first | exact SubE.nil | refine SubE.cons rfl ?_ | refine SubE.cons (lk_int rfl (by omega)) ?_ | refine SubE.cons (lk_int rfl (by simp [wtR]; omega)) ?_ | refine SubE.cons (lk_eq rfl (by simp [wtR]; omega)) ?_)
            · (repeat (first | exact SubL.nil | refine SubL.consOwn rfl rfl ?_ | refine SubL.consBlk rfl ?_)); fail_if_success focus skip
            · skip
              intro k hk
              have hrl := wtR_le b.rs k
              refine wc_seq ?_
              refine wc_seq ?_
              refine wc_region ?_
              refine wl_val rfl rfl rfl (y_move rfl) ?_
              refine wl_val rfl rfl rfl (y_move rfl) ?_
              refine wl_val rfl rfl rfl (y_move rfl) ?_
              refine wl_val rfl rfl rfl (y_indexEn Try.underlying117 siz26 rfl rfl (by first | exact rd_own | exact rd_in (by assumption) | assumption) (by omega)) ?_
              first | refine wl_val rfl rfl rfl (y_field0 fa26_1 rfl) ?_ | refine wl_val rfl rfl rfl (y_field fa26_1 rfl) ?_ | refine wl_val rfl rfl rfl (y_fieldE fa26_1 rfl (by first | exact rd_own | exact rd_in (by assumption) | assumption) (by first | omega | (simp; omega) | (simp [*]; omega))) ?_
              refine wl_val rfl rfl rfl (y_loadE one24 rfl (rd_in hl) hcell) ?_
              refine wl_val rfl rfl rfl (y_lenRd Try.underlying24 rfl (rd_in hbt.rd)) ?_
              refine wl_val rfl rfl rfl (y_lss rfl rfl) ?_
              refine wl_val rfl rfl rfl (y_move rfl) ?_
              refine wl_split (t := 26) rfl (fun hg2 => ?_) (fun hg2 => ?_)
              · first
                | (exfalso; (first | with_reducible contradiction | omega | (simp at hg2; done)))
                | skip
                  refine wl_gval rfl rfl rfl rfl rfl rfl rfl (y_move rfl) ?_
                  refine wl_gval rfl rfl rfl rfl rfl rfl rfl (y_leq rfl rfl) ?_
                  refine wl_val rfl rfl rfl (y_pickt rfl rfl) ?_
                  refine wl_nil ?_
                  refine q_then ?_
                  refine wc_cond rfl (fun hc1 => ?_) (fun hc1 => ?_)
                  · first
                    | ((exfalso; (first | with_reducible contradiction | omega | (simp at hc1; done))))
                    | skip
                      obtain ⟨r, hrk⟩ : ∃ r, b.rs[k]? = some r := ⟨b.rs[k]'(by omega), List.getElem?_eq_getElem (by omega)⟩
                      have hrok := hbt.tag r (List.mem_of_getElem? hrk)
                      have hrd := hrok.data
                      have hrs2 := wtR_succ hrk
                      have htg : ∀ x ∈ b.rs, (reqc x).length = 19 := fun x hx => reqc_len (hbt.tag x hx).tag
                      have hcell2 : (reqsC b.rs)[k * 19 + 2]? = some (.string r.data) := flat_part htg hrk 2 _ rfl
                      have hlx2 : k * 19 + 19 ≤ (reqsC b.rs).length := by rw [reqsC, flat_len htg]; omega
                      refine wc_skip ?_
                      refine q_then ?_
                      refine wc_seq ?_
                      refine wc_block ?_
                      refine wa_begin_all (n := 14) (b := #[false, false, false, false, false, false, false, false, false, false, false, false, false, false]) mixed rfl rfl ?_
                      all_goals refine wa_take (i := 0) (listed' := #[true, false, false, false, false, false, false, false, false, false, false, false, false, false]) rfl (by kernel_rfl) (by kernel_rfl) (by kernel_rfl) (by (repeat (first | exact calm_body | refine calm_then ?_ | refine calm_block ?_))) rfl rfl rfl (by (repeat (first | exact SubL.nil | refine SubL.consOwn rfl rfl ?_ | refine SubL.consBlk rfl ?_ | refine SubL.consMap rfl rfl ?_)); fail_if_success focus skip) (y_move rfl) rfl ?_
                      all_goals refine wa_take (i := 2) (listed' := #[true, false, true, false, false, false, false, false, false, false, false, false, false, false]) rfl (by kernel_rfl) (by kernel_rfl) (by kernel_rfl) (by (repeat (first | exact calm_body | refine calm_then ?_ | refine calm_block ?_))) rfl rfl rfl (by (repeat (first | exact SubL.nil | refine SubL.consOwn rfl rfl ?_ | refine SubL.consBlk rfl ?_ | refine SubL.consMap rfl rfl ?_)); fail_if_success focus skip) (y_move rfl) rfl ?_
                      all_goals refine wa_take (i := 3) (listed' := #[true, false, true, true, false, false, false, false, false, false, false, false, false, false]) rfl (by kernel_rfl) (by kernel_rfl) (by kernel_rfl) (by (repeat (first | exact calm_body | refine calm_then ?_ | refine calm_block ?_))) rfl rfl rfl (by (repeat (first | exact SubL.nil | refine SubL.consOwn rfl rfl ?_ | refine SubL.consBlk rfl ?_ | refine SubL.consMap rfl rfl ?_)); fail_if_success focus skip) (y_move rfl) rfl ?_
                      all_goals refine wa_take (i := 4) (listed' := #[true, false, true, true, true, false, false, false, false, false, false, false, false, false]) rfl (by kernel_rfl) (by kernel_rfl) (by kernel_rfl) (by (repeat (first | exact calm_body | refine calm_then ?_ | refine calm_block ?_))) rfl rfl rfl (by (repeat (first | exact SubL.nil | refine SubL.consOwn rfl rfl ?_ | refine SubL.consBlk rfl ?_ | refine SubL.consMap rfl rfl ?_)); fail_if_success focus skip) (y_indexEn Try.underlying117 siz26 rfl rfl (by first | exact rd_own | exact rd_in (by assumption) | assumption) (by omega)) rfl ?_
                      all_goals first | refine wa_take (i := 5) (listed' := #[true, false, true, true, true, true, false, false, false, false, false, false, false, false]) rfl (by kernel_rfl) (by kernel_rfl) (by kernel_rfl) (by (repeat (first | exact calm_body | refine calm_then ?_ | refine calm_block ?_))) rfl rfl rfl (by (repeat (first | exact SubL.nil | refine SubL.consOwn rfl rfl ?_ | refine SubL.consBlk rfl ?_ | refine SubL.consMap rfl rfl ?_)); fail_if_success focus skip) (y_field0 fa26_1 rfl) rfl ?_ | refine wa_take (i := 5) (listed' := #[true, false, true, true, true, true, false, false, false, false, false, false, false, false]) rfl (by kernel_rfl) (by kernel_rfl) (by kernel_rfl) (by (repeat (first | exact calm_body | refine calm_then ?_ | refine calm_block ?_))) rfl rfl rfl (by (repeat (first | exact SubL.nil | refine SubL.consOwn rfl rfl ?_ | refine SubL.consBlk rfl ?_ | refine SubL.consMap rfl rfl ?_)); fail_if_success focus skip) (y_field fa26_1 rfl) rfl ?_ | refine wa_take (i := 5) (listed' := #[true, false, true, true, true, true, false, false, false, false, false, false, false, false]) rfl (by kernel_rfl) (by kernel_rfl) (by kernel_rfl) (by (repeat (first | exact calm_body | refine calm_then ?_ | refine calm_block ?_))) rfl rfl rfl (by (repeat (first | exact SubL.nil | refine SubL.consOwn rfl rfl ?_ | refine SubL.consBlk rfl ?_ | refine SubL.consMap rfl rfl ?_)); fail_if_success focus skip) (y_fieldE fa26_1 rfl (by first | exact rd_own | exact rd_in (by assumption) | assumption) (by first | omega | (simp; omega) | (simp [*]; omega))) rfl ?_
                      all_goals refine wa_take (i := 6) (listed' := #[true, false, true, true, true, true, true, false, false, false, false, false, false, false]) rfl (by kernel_rfl) (by kernel_rfl) (by kernel_rfl) (by (repeat (first | exact calm_body | refine calm_then ?_ | refine calm_block ?_))) rfl rfl rfl (by (repeat (first | exact SubL.nil | refine SubL.consOwn rfl rfl ?_ | refine SubL.consBlk rfl ?_ | refine SubL.consMap rfl rfl ?_)); fail_if_success focus skip) (y_loadE one24 rfl (rd_in hl) hcell) rfl ?_
                      all_goals refine wa_take (i := 7) (listed' := #[true, false, true, true, true, true, true, true, false, false, false, false, false, false]) rfl (by kernel_rfl) (by kernel_rfl) (by kernel_rfl) (by (repeat (first | exact calm_body | refine calm_then ?_ | refine calm_block ?_))) rfl rfl rfl (by (repeat (first | exact SubL.nil | refine SubL.consOwn rfl rfl ?_ | refine SubL.consBlk rfl ?_ | refine SubL.consMap rfl rfl ?_)); fail_if_success focus skip) (y_move rfl) rfl ?_
                      all_goals refine wa_take (i := 8) (listed' := #[true, false, true, true, true, true, true, true, true, false, false, false, false, false]) rfl (by kernel_rfl) (by kernel_rfl) (by kernel_rfl) (by (repeat (first | exact calm_body | refine calm_then ?_ | refine calm_block ?_))) rfl rfl rfl (by (repeat (first | exact SubL.nil | refine SubL.consOwn rfl rfl ?_ | refine SubL.consBlk rfl ?_ | refine SubL.consMap rfl rfl ?_)); fail_if_success focus skip) (y_indexEn Try.underlying24 siz71 rfl rfl (rd_in hbt.rd) (by omega)) rfl ?_
                      all_goals refine wa_take (i := 9) (listed' := #[true, false, true, true, true, true, true, true, true, true, false, false, false, false]) rfl (by kernel_rfl) (by kernel_rfl) (by kernel_rfl) (by (repeat (first | exact calm_body | refine calm_then ?_ | refine calm_block ?_))) rfl rfl rfl (by (repeat (first | exact SubL.nil | refine SubL.consOwn rfl rfl ?_ | refine SubL.consBlk rfl ?_ | refine SubL.consMap rfl rfl ?_)); fail_if_success focus skip) (y_fieldE fa71_2 rfl (rd_in hbt.rd) (by omega)) rfl ?_
                      all_goals refine wa_take (i := 10) (listed' := #[true, false, true, true, true, true, true, true, true, true, true, false, false, false]) rfl (by kernel_rfl) (by kernel_rfl) (by kernel_rfl) (by (repeat (first | exact calm_body | refine calm_then ?_ | refine calm_block ?_))) rfl rfl rfl (by (repeat (first | exact SubL.nil | refine SubL.consOwn rfl rfl ?_ | refine SubL.consBlk rfl ?_ | refine SubL.consMap rfl rfl ?_)); fail_if_success focus skip) (y_loadE one9 rfl (rd_in hbt.rd) hcell2) rfl ?_
                      all_goals refine wa_take (i := 11) (listed' := #[true, false, true, true, true, true, true, true, true, true, true, true, false, false]) rfl (by kernel_rfl) (by kernel_rfl) (by kernel_rfl) (by (repeat (first | exact calm_body | refine calm_then ?_ | refine calm_block ?_))) rfl rfl rfl (by (repeat (first | exact SubL.nil | refine SubL.consOwn rfl rfl ?_ | refine SubL.consBlk rfl ?_ | refine SubL.consMap rfl rfl ?_)); fail_if_success focus skip) (y_lenStr Try.underlying9 rfl) rfl ?_
                      all_goals (refine wa_ef (i := 1) (listed' := #[true, true, true, true, true, true, true, true, true, true, true, true, false, false]) (by kernel_rfl) rfl rfl rfl (ef_callv0 rfl fun62 rfl (fun _ hw => c_Add _ 20 (by omega) (by omega) _)) ?_; rintro _ _ ⟨rfl, rfl⟩; refine ⟨.inr (by (repeat (first | exact SubL.nil | refine SubL.consOwn rfl rfl ?_ | refine SubL.consBlk rfl ?_ | refine SubL.consMap rfl rfl ?_)); fail_if_success focus skip), ?_⟩)
                      all_goals (refine wa_ef (i := 12) (listed' := #[true, true, true, true, true, true, true, true, true, true, true, true, true, false]) (by kernel_rfl) rfl rfl rfl (ef_callv0 rfl fun62 rfl (fun _ hw => (c_Add _ _ (by omega) (by omega) _))) ?_; rintro _ _ ⟨rfl, rfl⟩; refine ⟨.inr (by (repeat (first | exact SubL.nil | refine SubL.consOwn rfl rfl ?_ | refine SubL.consBlk rfl ?_ | refine SubL.consMap rfl rfl ?_)); fail_if_success focus skip), ?_⟩)
                      all_goals refine wa_take (i := 13) (listed' := #[true, true, true, true, true, true, true, true, true, true, true, true, true, true]) rfl (by kernel_rfl) (by kernel_rfl) (by kernel_rfl) (by (repeat (first | exact calm_body | refine calm_then ?_ | refine calm_block ?_))) rfl rfl rfl (by (repeat (first | exact SubL.nil | refine SubL.consOwn rfl rfl ?_ | refine SubL.consBlk rfl ?_ | refine SubL.consMap rfl rfl ?_)); fail_if_success focus skip) (y_assign rfl) rfl ?_
                      all_goals refine wa_done (by kernel_rfl) ?_
                      refine q_blockNormal ?_
                      refine q_then ?_
                      refine wc_region ?_
                      refine wl_val rfl rfl rfl (y_move rfl) ?_
                      refine wl_val rfl rfl rfl (y_addn rfl rfl (by omega)) ?_
                      refine wl_val rfl rfl rfl (y_assign rfl) ?_
                      refine wl_nil ?_
                      refine q_again (k + 1) ?_ ?_ ?_ ?_
                      · first | omega | (refine ⟨?_, ?_⟩ <;> omega)
                      · first | omega | (simp; omega) | (simp only []; omega)
                      · repeat (first | exact SubE.nil | refine SubE.cons rfl ?_ | refine SubE.cons (lk_int rfl (by omega)) ?_ | refine SubE.cons (lk_int rfl (by rfl)) ?_ | refine SubE.cons (lk_eq rfl (by rfl)) ?_)
                      · (repeat (first | exact SubL.nil | refine SubL.consOwn rfl rfl ?_ | refine SubL.consBlk rfl ?_)); fail_if_success focus skip
                  · first
                    | ((exfalso; (first | with_reducible contradiction | omega | (simp at hc1; done))))
                    | skip
                      refine wc_exit ?_
                      refine q_thenExit ?_
                      refine q_thenExit ?_
                      refine q_blockExit ?_
                      refine q_blockNormal ?_
                      refine q_then ?_
                      refine wc_region ?_
                      refine wl_val rfl rfl rfl (y_move rfl) ?_
                      refine wl_val rfl rfl rfl (y_addn rfl rfl (by omega)) ?_
                      refine wl_val rfl rfl rfl (y_assign rfl) ?_
                      refine wl_nil ?_
                      refine q_again (i + 1) ?_ ?_ ?_ ?_
                      · first | omega | (refine ⟨?_, ?_⟩ <;> omega)
                      · first | omega | (simp; omega) | (simp only []; omega)
                      · repeat (first | exact SubE.nil | refine SubE.cons rfl ?_ | refine SubE.cons (lk_int rfl (by omega)) ?_ | refine SubE.cons (lk_int rfl (by first | omega | (obtain rfl : k = b.rs.length := (by omega); omega))) ?_ | refine SubE.cons (lk_eq rfl (by first | omega | (obtain rfl : k = b.rs.length := (by omega); omega))) ?_)
                      · (repeat (first | exact SubL.nil | refine SubL.consOwn rfl rfl ?_ | refine SubL.consBlk rfl ?_)); fail_if_success focus skip
              · first
                | (exfalso; (first | with_reducible contradiction | omega | (simp at hg2; done)))
                | skip
                  refine wl_gskip rfl rfl rfl rfl rfl rfl rfl ?_
                  refine wl_gskip rfl rfl rfl rfl rfl rfl rfl ?_
                  first | refine wl_val rfl rfl rfl (y_pickt rfl rfl) ?_ | refine wl_val rfl rfl rfl (y_pickf rfl rfl) ?_
                  refine wl_nil ?_
                  refine q_then ?_
                  first | refine wc_cond rfl (fun hc1 => ?_) (fun hc1 => ?_) | refine wc_condb rfl (fun hc1 => ?_) (fun hc1 => ?_)
                  · ((exfalso; (first | with_reducible contradiction | omega | (simp at hc1; done))))
                  · first
                    | ((exfalso; (first | with_reducible contradiction | omega | (simp at hc1; done))))
                    | skip
                      refine wc_exit ?_
                      refine q_thenExit ?_
                      refine q_thenExit ?_
                      refine q_blockExit ?_
                      refine q_blockNormal ?_
                      refine q_then ?_
                      refine wc_region ?_
                      refine wl_val rfl rfl rfl (y_move rfl) ?_
                      refine wl_val rfl rfl rfl (y_addn rfl rfl (by omega)) ?_
                      refine wl_val rfl rfl rfl (y_assign rfl) ?_
                      refine wl_nil ?_
                      refine q_again (i + 1) ?_ ?_ ?_ ?_
                      · first | omega | (refine ⟨?_, ?_⟩ <;> omega)
                      · first | omega | (simp; omega) | (simp only []; omega)
                      · repeat (first | exact SubE.nil | refine SubE.cons rfl ?_ | refine SubE.cons (lk_int rfl (by omega)) ?_ | refine SubE.cons (lk_int rfl (by first | omega | (obtain rfl : k = b.rs.length := (by omega); omega))) ?_ | refine SubE.cons (lk_eq rfl (by first | omega | (obtain rfl : k = b.rs.length := (by omega); omega))) ?_)
                      · (repeat (first | exact SubL.nil | refine SubL.consOwn rfl rfl ?_ | refine SubL.consBlk rfl ?_)); fail_if_success focus skip
        · first
          | ((exfalso; (first | with_reducible contradiction | omega | (simp at hc0; done))))
          | skip
            refine wc_exit ?_
            refine q_thenExit ?_
            refine q_thenExit ?_
            refine q_blockExit ?_
            refine q_then ?_
            refine wc_seq ?_
            refine wc_region ?_
            refine wl_val rfl rfl rfl (y_move rfl) ?_
            refine wl_val rfl rfl rfl (y_leq rfl rfl) ?_
            refine wl_val rfl rfl rfl (y_assign rfl) ?_
            refine wl_nil ?_
            refine q_then ?_
            refine wc_ret ?_
            apply q_retg (res1 Try.results15 rfl) -- ret 0
            case hΨ =>
              exact ⟨by rw [lightB]; congr 1; exact decide_eq_decide.2 (by first | omega | (obtain rfl : i = bs.length := (by omega); omega)), rfl⟩
            case hs =>
              (repeat (first | exact SubL.nil | refine SubL.consOwn rfl rfl ?_ | refine SubL.consBlk rfl ?_)); fail_if_success focus skip
    · first
      | (exfalso; (first | with_reducible contradiction | omega | (simp at hg1; done)))
      | skip
        refine wl_gskip rfl rfl rfl rfl rfl rfl rfl ?_
        refine wl_gskip rfl rfl rfl rfl rfl rfl rfl ?_
        first | refine wl_val rfl rfl rfl (y_pickt rfl rfl) ?_ | refine wl_val rfl rfl rfl (y_pickf rfl rfl) ?_
        refine wl_nil ?_
        refine q_then ?_
        first | refine wc_cond rfl (fun hc0 => ?_) (fun hc0 => ?_) | refine wc_condb rfl (fun hc0 => ?_) (fun hc0 => ?_)
        · ((exfalso; (first | with_reducible contradiction | omega | (simp at hc0; done))))
        · first
          | ((exfalso; (first | with_reducible contradiction | omega | (simp at hc0; done))))
          | skip
            refine wc_exit ?_
            refine q_thenExit ?_
            refine q_thenExit ?_
            refine q_blockExit ?_
            refine q_then ?_
            refine wc_seq ?_
            refine wc_region ?_
            refine wl_val rfl rfl rfl (y_move rfl) ?_
            refine wl_val rfl rfl rfl (y_leq rfl rfl) ?_
            refine wl_val rfl rfl rfl (y_assign rfl) ?_
            refine wl_nil ?_
            refine q_then ?_
            refine wc_ret ?_
            apply q_retg (res1 Try.results15 rfl) -- ret 0
            case hΨ =>
              exact ⟨by rw [lightB]; congr 1; exact decide_eq_decide.2 (by first | omega | (obtain rfl : i = bs.length := (by omega); omega)), rfl⟩
            case hs =>
              (repeat (first | exact SubL.nil | refine SubL.consOwn rfl rfl ?_ | refine SubL.consBlk rfl ?_)); fail_if_success focus skip
end Go.Proofs.Ytdgmkbjopcopcaa
