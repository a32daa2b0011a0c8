/- Walks of layer 3 (digest): the document's Sum. Own work. -/
import Derived.Test.YtdgmkbjopcopcaaDigg
import Derived.Test.YtdgmkbjopcopcaaDigh
set_option linter.unusedVariables false
set_option linter.unusedSimpArgs false
set_option maxRecDepth 100000
set_option maxHeartbeats 8000000
namespace Go.Proofs.Ytdgmkbjopcopcaa
open Go.RowKit

theorem RdI.cut64 {w : World} {M : List Nat} {v : Value} {l : List UInt8} {n q : Nat} (hr : RdI w M v 1 n (bvs l)) (h : 64 * q + 64 ≤ n) : RdI w M (cutv v (64 * q) (64 * q + 64) 1) 1 64 (bvs ((l.drop (64 * q)).take 64)) := by
  have := hr.cut (l := 64 * q) (h := 64 * q + 64) (by omega) h
  rw [show 64 * q + 64 - 64 * q = 64 from by omega, Nat.mul_one, Nat.mul_one, bvs_drop, bvs_take] at this
  exact this
theorem outB_at (S : S8) (i k : Nat) (h : k < 4) : outB S (4 * i + k) = (g32 S.list i >>> UInt32.ofNat (24 - 8 * k)).toUInt8 := by
  rw [outB, show (4 * i + k) / 4 = i from by omega, show (4 * i + k) % 4 = k from by omega]
theorem c_refSum (vb : Value) (l : List UInt8) (w : World) (hr : RdI w [] vb 1 l.length (bvs l)) (hn : l.length ≤ 100000000000000) : Calls Try.prog 66 #[vb] w (RV w (.agg (bvs (sha l)).toArray)) := by
  obtain ⟨P, hP⟩ : ∃ P, P = padded l := ⟨_, rfl⟩
  obtain ⟨S, hS⟩ : ∃ S, S = blks S0 P (P.length / 64) := ⟨_, rfl⟩
  have hm := padded_len l
  have hl : P.length ≤ 200000000000000 := by rw [hP, padded, pad_is]; simp [be8_len]; omega
  have hD : sha l = out S := by rw [sha, ← hP, ← hS]
  have cp : ∀ w, RdI w [] vb 1 l.length (bvs l) → Calls Try.prog 96 #[vb] w (RO w 5 1 P.length (bvs P)) := fun w hr => by rw [hP]; exact c_padded vb l w hr hn
  rw [← hP] at hm
  rw [hD]
  have ho := out_len S
  refine enter (N := 47) Try.func66 rfl Try.ntmps66 rfl (Has.nil _) ?_
  refine wc_seq ?_
  refine wc_region ?_
  (refine wl_ef rfl (ef_alloc rfl zer28) ?_; rintro _ _ ⟨b2, rfl, rfl⟩)
  refine wl_nil ?_
  refine q_then ?_
  refine wc_seq ?_
  refine wc_region ?_
  refine wl_val rfl rfl rfl (y_buildc (cs := S0.list.map wv) rfl (fun w => by kernel_rfl)) ?_
  (refine wl_ef rfl (ef_alloc rfl zer152) ?_; rintro _ _ ⟨b3, rfl, rfl⟩)
  (refine wl_ef rfl (ef_storeP siz152 rfl rfl rfl (by (repeat (first | exact OneAll.nil | refine OneAll.cons rfl ?_ | exact bvs_one _ | refine OneAll.app ?_ ?_ | exact OneAll.map _ (fun _ => rfl) | assumption)); fail_if_success focus skip) (by (repeat (first | exact SplN.nil | apply SplN.skip | exact SplN.all (by first | rfl | assumption | (simp; done) | (simp [*]; done)) (by first | rfl | assumption | (simp; done) | (simp [*]; done)) | exact SplN.puta (by first | rfl | assumption | (simp; done) | (simp [*]; done)) (by first | rfl | assumption | (simp; done) | (simp [*]; done)) | apply SplN.cons | apply SplN.put (by first | rfl | assumption | (simp; done) | (simp [*]; done)) (by first | rfl | assumption | (simp; done) | (simp [*]; done)) | apply SplN.over (by first | rfl | assumption | (simp; done) | (simp [*]; done)) rfl)); fail_if_success focus skip) (by first | rfl | assumption | (simp; done) | (simp [*]; done))) ?_; rintro _ _ ⟨rfl, rfl⟩)
  refine wl_nil ?_
  refine q_then ?_
  refine wc_seq ?_
  refine wc_region ?_
  refine wl_val rfl rfl rfl (y_move rfl) ?_
  (refine wl_ef rfl (ef_callo rfl fun96 rfl (fun _ hw => (cp _ (rdI_in0 hw hr)))) ?_; rintro _ _ ⟨v11, rfl, rfl⟩)
  refine wl_val rfl rfl rfl (y_assign rfl) ?_
  refine wl_nil ?_
  refine q_then ?_
  refine wc_seq ?_
  refine wc_seq ?_
  refine wc_region ?_
  refine wl_val rfl rfl rfl (y_assign rfl) ?_
  refine wl_nil ?_
  refine q_then ?_
  refine wc_block ?_
  refine wc_loop (X := Nat) (fun q => [(2, .pointer (some ⟨b2, 0, none⟩)), (3, .pointer (some ⟨b3, 0, none⟩)), (4, v11), (5, .int .i64 ((64 * q : Nat) : Int))]) (fun q => [.own v11 5 1 P.length (bvs P), .blk b3 ((blks S0 P q).list.map wv) 152 (0, 0), .blk b2 (bvs (zeros 32)) 28 (0, 0)]) (fun q => 64 * q ≤ P.length) (fun q => P.length - 64 * q) (0) ?_ ?_ ?_ ?_
  · first | trivial | omega | simp
  · repeat (first | exact SubE.nil | refine SubE.cons rfl ?_ | refine SubE.cons (lk_int rfl (by omega)) ?_ | refine SubE.cons (lk_int rfl (by rfl)) ?_ | refine SubE.cons (lk_eq rfl (by rfl)) ?_)
  · first | (repeat (first | exact SubL.nil | refine SubL.consOwn rfl rfl ?_ | refine SubL.consBlk rfl ?_)); fail_if_success focus skip | repeat (first | exact SubL.nil | refine SubL.consOwn (by first | rfl | omega | (simp only [List.length_append, List.length_cons, List.length_nil]; omega) | (rw [blks_zero])) (by first | rfl | (rw [blks_zero])) ?_ | refine SubL.consBlk (by first | rfl | (rw [blks_zero])) ?_ | refine SubL.consMap (by first | rfl | omega) (by first | rfl | (rw [blks_zero])) ?_)
  · skip
    intro q hq
    refine wc_seq ?_
    refine wc_seq ?_
    refine wc_region ?_
    refine wl_val rfl rfl rfl (y_move rfl) ?_
    refine wl_val rfl rfl rfl (y_move rfl) ?_
    refine wl_val rfl rfl rfl (y_lenRd Try.underlying99 rfl (by first | exact rd_own | exact rd_in (by assumption) | assumption)) ?_
    refine wl_val rfl rfl rfl (y_lss rfl rfl) ?_
    refine wl_nil ?_
    refine q_then ?_
    refine wc_cond rfl (fun hc0 => ?_) (fun hc0 => ?_)
    · first
      | ((exfalso; (first | with_reducible contradiction | omega | (simp at hc0; done))))
      | skip
        refine wc_skip ?_
        refine q_then ?_
        refine wc_seq ?_
        refine wc_block ?_
        obtain ⟨B8, hB8⟩ : ∃ B8, B8 = blk8 (blks S0 P q) ((P.drop (64 * q)).take 64) := ⟨_, rfl⟩
        have cb : ∀ (vc : Value) (w : World), RdI w [] vc 1 64 (bvs ((P.drop (64 * q)).take 64)) → Calls Try.prog 97 #[.agg ((blks S0 P q).list.map wv).toArray, vc] w (RV w (.agg (B8.list.map wv).toArray)) := fun vc w h => by
          rw [hB8]
          exact c_refblock vc _ _ (by simp; omega) w h
        refine wa_begin_all (n := 8) (b := #[false, false, false, false, false, false, false, false]) mixed rfl rfl ?_
        all_goals refine wa_take (i := 0) (listed' := #[true, false, false, false, false, false, false, false]) rfl (by kernel_rfl) (by kernel_rfl) (by kernel_rfl) (by (repeat (first | exact calm_body | refine calm_then ?_ | refine calm_block ?_))) rfl rfl rfl (by (repeat (first | exact SubL.nil | refine SubL.consOwn rfl rfl ?_ | refine SubL.consBlk rfl ?_ | refine SubL.consMap rfl rfl ?_)); fail_if_success focus skip) (y_loadP agg152 rfl (by (repeat (first | exact PartN.nil | exact PartN.all (by first | rfl | assumption | (simp; done) | (simp [*]; done)) | exact PartN.takea (by first | rfl | assumption | (simp; done) | (simp [*]; done)) | apply PartN.skip | apply PartN.take (by first | rfl | assumption | (simp; done) | (simp [*]; done)) rfl | apply PartN.cons | apply PartN.over (by first | rfl | assumption | (simp; done) | (simp [*]; done)) rfl)); fail_if_success focus skip)) rfl ?_
        all_goals refine wa_take (i := 1) (listed' := #[true, true, false, false, false, false, false, false]) rfl (by kernel_rfl) (by kernel_rfl) (by kernel_rfl) (by (repeat (first | exact calm_body | refine calm_then ?_ | refine calm_block ?_))) rfl rfl rfl (by (repeat (first | exact SubL.nil | refine SubL.consOwn rfl rfl ?_ | refine SubL.consBlk rfl ?_ | refine SubL.consMap rfl rfl ?_)); fail_if_success focus skip) (y_move rfl) rfl ?_
        all_goals refine wa_take (i := 2) (listed' := #[true, true, true, false, false, false, false, false]) rfl (by kernel_rfl) (by kernel_rfl) (by kernel_rfl) (by (repeat (first | exact calm_body | refine calm_then ?_ | refine calm_block ?_))) rfl rfl rfl (by (repeat (first | exact SubL.nil | refine SubL.consOwn rfl rfl ?_ | refine SubL.consBlk rfl ?_ | refine SubL.consMap rfl rfl ?_)); fail_if_success focus skip) (y_move rfl) rfl ?_
        all_goals refine wa_take (i := 3) (listed' := #[true, true, true, true, false, false, false, false]) rfl (by kernel_rfl) (by kernel_rfl) (by kernel_rfl) (by (repeat (first | exact calm_body | refine calm_then ?_ | refine calm_block ?_))) rfl rfl rfl (by (repeat (first | exact SubL.nil | refine SubL.consOwn rfl rfl ?_ | refine SubL.consBlk rfl ?_ | refine SubL.consMap rfl rfl ?_)); fail_if_success focus skip) (y_move rfl) rfl ?_
        all_goals refine wa_take (i := 4) (listed' := #[true, true, true, true, true, false, false, false]) rfl (by kernel_rfl) (by kernel_rfl) (by kernel_rfl) (by (repeat (first | exact calm_body | refine calm_then ?_ | refine calm_block ?_))) rfl rfl rfl (by (repeat (first | exact SubL.nil | refine SubL.consOwn rfl rfl ?_ | refine SubL.consBlk rfl ?_ | refine SubL.consMap rfl rfl ?_)); fail_if_success focus skip) (yl_is (v := .int .i64 ((64 * q + 64 : Nat) : Int)) (y_addn rfl rfl (by omega)) (by congr 1)) rfl ?_
        all_goals refine wa_take (i := 5) (listed' := #[true, true, true, true, true, true, false, false]) rfl (by kernel_rfl) (by kernel_rfl) (by kernel_rfl) (by (repeat (first | exact calm_body | refine calm_then ?_ | refine calm_block ?_))) rfl rfl rfl (by (repeat (first | exact SubL.nil | refine SubL.consOwn rfl rfl ?_ | refine SubL.consBlk rfl ?_ | refine SubL.consMap rfl rfl ?_)); fail_if_success focus skip) (y_sliceS Try.underlying99 siz5 rfl (by first | exact rd_own | exact rd_in (by assumption) | assumption) (.inr ⟨_, _, rfl, rfl⟩) (.inr ⟨_, _, rfl, rfl⟩) (by omega) (by omega)) rfl ?_
        all_goals (refine wa_ef (i := 6) (listed' := #[true, true, true, true, true, true, true, false]) (by kernel_rfl) rfl rfl rfl (ef_callv0 rfl fun97 rfl (fun _ hw => (cb _ _ (RdI.cut64 (rdI_own0 hw) (by omega))))) ?_; rintro _ _ ⟨rfl, rfl⟩; refine ⟨.inl (by kernel_rfl), ?_⟩)
        all_goals (refine wa_ef (i := 7) (listed' := #[true, true, true, true, true, true, true, true]) (by kernel_rfl) rfl rfl rfl (ef_storeP siz152 rfl rfl rfl (by (repeat (first | exact OneAll.nil | refine OneAll.cons rfl ?_ | exact bvs_one _ | refine OneAll.app ?_ ?_ | exact OneAll.map _ (fun _ => rfl) | assumption)); fail_if_success focus skip) (by (repeat (first | exact SplN.nil | apply SplN.skip | exact SplN.all (by first | rfl | assumption | (simp; done) | (simp [*]; done)) (by first | rfl | assumption | (simp; done) | (simp [*]; done)) | exact SplN.puta (by first | rfl | assumption | (simp; done) | (simp [*]; done)) (by first | rfl | assumption | (simp; done) | (simp [*]; done)) | apply SplN.cons | apply SplN.put (by first | rfl | assumption | (simp; done) | (simp [*]; done)) (by first | rfl | assumption | (simp; done) | (simp [*]; done)) | apply SplN.over (by first | rfl | assumption | (simp; done) | (simp [*]; done)) rfl)); fail_if_success focus skip) (by first | rfl | assumption | (simp; done) | (simp [*]; done))) ?_; rintro _ _ ⟨rfl, rfl⟩; refine ⟨.inl (by kernel_rfl), ?_⟩)
        all_goals refine wa_done (by kernel_rfl) ?_
        refine q_blockNormal ?_
        refine q_then ?_
        refine wc_region ?_
        refine wl_val rfl rfl rfl (y_move rfl) ?_
        refine wl_val rfl rfl rfl (y_addn rfl rfl (by omega)) ?_
        refine wl_val rfl rfl rfl (y_assign rfl) ?_
        refine wl_nil ?_
        refine q_again (q + 1) ?_ ?_ ?_ ?_
        · first | omega | (refine ⟨?_, ?_⟩ <;> omega)
        · first | omega | (simp; omega) | (simp only []; omega)
        · repeat (first | exact SubE.nil | refine SubE.cons rfl ?_ | refine SubE.cons (lk_int rfl (by omega)) ?_ | refine SubE.cons (lk_int rfl (by rfl)) ?_ | refine SubE.cons (lk_eq rfl (by rfl)) ?_)
        · first | (repeat (first | exact SubL.nil | refine SubL.consOwn rfl rfl ?_ | refine SubL.consBlk rfl ?_)); fail_if_success focus skip | repeat (first | exact SubL.nil | refine SubL.consOwn (by first | rfl | omega | (simp only [List.length_append, List.length_cons, List.length_nil]; omega) | (rw [blks_succ, ← hB8])) (by first | rfl | (rw [blks_succ, ← hB8])) ?_ | refine SubL.consBlk (by first | rfl | (rw [blks_succ, ← hB8])) ?_ | refine SubL.consMap (by first | rfl | omega) (by first | rfl | (rw [blks_succ, ← hB8])) ?_)
    · first
      | ((exfalso; (first | with_reducible contradiction | omega | (simp at hc0; done))))
      | skip
        refine wc_exit ?_
        refine q_thenExit ?_
        refine q_thenExit ?_
        refine q_blockExit ?_
        refine q_then ?_
        refine wc_seq ?_
        obtain rfl : q = P.length / 64 := by omega
        rw [← hS]
        refine wc_region ?_
        (refine wl_ef rfl (ef_alloc rfl zer28) ?_; rintro _ _ ⟨b6, rfl, rfl⟩)
        refine wl_nil ?_
        refine q_then ?_
        refine wc_seq ?_
        refine wc_seq ?_
        refine wc_region ?_
        refine wl_val rfl rfl rfl (y_assign rfl) ?_
        refine wl_nil ?_
        refine q_then ?_
        refine wc_block ?_
        refine wc_loop (X := Nat) (fun i => [(2, .pointer (some ⟨b2, 0, none⟩)), (3, .pointer (some ⟨b3, 0, none⟩)), (6, .pointer (some ⟨b6, 0, none⟩)), (7, .int .i64 (i : Int))]) (fun i => [.blk b6 (bvs (fillB (out S) (4 * i))) 28 (0, 0), .blk b3 (S.list.map wv) 152 (0, 0), .blk b2 (bvs (zeros 32)) 28 (0, 0)]) (fun i => i ≤ 8) (fun i => 8 - i) (0) ?_ ?_ ?_ ?_
        · first | trivial | omega | simp
        · repeat (first | exact SubE.nil | refine SubE.cons rfl ?_ | refine SubE.cons (lk_int rfl (by omega)) ?_ | refine SubE.cons (lk_int rfl (by rfl)) ?_ | refine SubE.cons (lk_eq rfl (by rfl)) ?_)
        · (repeat (first | exact SubL.nil | refine SubL.consOwn rfl rfl ?_ | refine SubL.consBlk rfl ?_)); fail_if_success focus skip
        · skip
          intro i hi
          refine wc_seq ?_
          refine wc_seq ?_
          refine wc_region ?_
          refine wl_val rfl rfl rfl (y_move rfl) ?_
          refine wl_val rfl rfl rfl (y_lss rfl rfl) ?_
          refine wl_nil ?_
          refine q_then ?_
          refine wc_cond rfl (fun hc1 => ?_) (fun hc1 => ?_)
          · first
            | ((exfalso; (first | with_reducible contradiction | omega | (simp at hc1; done))))
            | skip
              refine wc_skip ?_
              refine q_then ?_
              refine wc_seq ?_
              refine wc_block ?_
              refine wc_seq ?_
              refine wc_region ?_
              refine wl_val rfl rfl rfl (y_assign rfl) ?_
              refine wl_nil ?_
              refine q_then ?_
              refine wc_block ?_
              refine wc_loop (X := Nat) (fun k => [(2, .pointer (some ⟨b2, 0, none⟩)), (3, .pointer (some ⟨b3, 0, none⟩)), (6, .pointer (some ⟨b6, 0, none⟩)), (7, .int .i64 (i : Int)), (8, .int .i64 (k : Int))]) (fun k => [.blk b6 (bvs (fillB (out S) (4 * i + k))) 28 (0, 0), .blk b3 (S.list.map wv) 152 (0, 0), .blk b2 (bvs (zeros 32)) 28 (0, 0)]) (fun k => k ≤ 4) (fun k => 4 - k) (0) ?_ ?_ ?_ ?_
              · first | trivial | omega | simp
              · repeat (first | exact SubE.nil | refine SubE.cons rfl ?_ | refine SubE.cons (lk_int rfl (by omega)) ?_ | refine SubE.cons (lk_int rfl (by rfl)) ?_ | refine SubE.cons (lk_eq rfl (by rfl)) ?_)
              · (repeat (first | exact SubL.nil | refine SubL.consOwn rfl rfl ?_ | refine SubL.consBlk rfl ?_)); fail_if_success focus skip
              · skip
                intro k hk
                refine wc_seq ?_
                refine wc_seq ?_
                refine wc_region ?_
                refine wl_val rfl rfl rfl (y_move rfl) ?_
                refine wl_val rfl rfl rfl (y_lss rfl rfl) ?_
                refine wl_nil ?_
                refine q_then ?_
                refine wc_cond rfl (fun hc2 => ?_) (fun hc2 => ?_)
                · first
                  | ((exfalso; (first | with_reducible contradiction | omega | (simp at hc2; done))))
                  | skip
                    refine wc_skip ?_
                    refine q_then ?_
                    refine wc_seq ?_
                    refine wc_block ?_
                    refine wc_region ?_
                    refine wl_val rfl rfl rfl (y_move rfl) ?_
                    refine wl_val rfl rfl rfl (y_muln rfl rfl (by omega)) ?_
                    refine wl_val rfl rfl rfl (y_move rfl) ?_
                    refine wl_val rfl rfl rfl (yl_is (v := .int .i64 ((4 * i + k : Nat) : Int)) (y_addn rfl rfl (by omega)) (by congr 1)) ?_
                    refine wl_val rfl rfl rfl (y_move rfl) ?_
                    refine wl_val rfl rfl rfl (y_indexA1n Try.underlying152 siz151 rfl rfl (by omega)) ?_
                    refine wl_val rfl rfl rfl (y_load one151 rfl (w32_at (i := i) (by omega) (by rw [list8]; omega))) ?_
                    refine wl_val rfl rfl rfl (y_move rfl) ?_
                    refine wl_val rfl rfl rfl (y_muln rfl rfl (by omega)) ?_
                    refine wl_val rfl rfl rfl (yl_is (v := .int .i64 ((24 - 8 * k : Nat) : Int)) (y_subn rfl rfl (by omega)) (by congr 1; omega)) ?_
                    refine wl_val rfl rfl rfl (y_shrW rfl rfl (by omega)) ?_
                    refine wl_val rfl rfl rfl (y_convByte Try.underlying151 Try.underlying5 rfl) ?_
                    refine wl_val rfl rfl rfl (y_indexA1n Try.underlying28 siz5 rfl rfl (by omega)) ?_
                    (refine wl_ef rfl (ef_store siz5 rfl rfl rfl (by rw [bvs_len, fillB_len (by omega)]; omega)) ?_; rintro _ _ ⟨rfl, rfl⟩)
                    refine wl_nil ?_
                    refine q_blockNormal ?_
                    refine q_then ?_
                    refine wc_region ?_
                    refine wl_val rfl rfl rfl (y_move rfl) ?_
                    refine wl_val rfl rfl rfl (y_addn rfl rfl (by omega)) ?_
                    refine wl_val rfl rfl rfl (y_assign rfl) ?_
                    refine wl_nil ?_
                    refine q_again (k + 1) ?_ ?_ ?_ ?_
                    · first | omega | (refine ⟨?_, ?_⟩ <;> omega)
                    · first | omega | (simp; omega) | (simp only []; omega)
                    · repeat (first | exact SubE.nil | refine SubE.cons rfl ?_ | refine SubE.cons (lk_int rfl (by omega)) ?_ | refine SubE.cons (lk_int rfl (by rfl)) ?_ | refine SubE.cons (lk_eq rfl (by rfl)) ?_)
                    · first | (repeat (first | exact SubL.nil | refine SubL.consOwn rfl rfl ?_ | refine SubL.consBlk rfl ?_)); fail_if_success focus skip | repeat (first | exact SubL.nil | refine SubL.consOwn (by first | rfl | omega | (simp only [List.length_append, List.length_cons, List.length_nil]; omega) | (rw [u8_of_u32, ← Nat.add_assoc, ← fillB_set (by omega), out_at S _ (by omega), outB_at S i k (by omega)])) (by first | rfl | (rw [u8_of_u32, ← Nat.add_assoc, ← fillB_set (by omega), out_at S _ (by omega), outB_at S i k (by omega)])) ?_ | refine SubL.consBlk (by first | rfl | (rw [u8_of_u32, ← Nat.add_assoc, ← fillB_set (by omega), out_at S _ (by omega), outB_at S i k (by omega)])) ?_ | refine SubL.consMap (by first | rfl | omega) (by first | rfl | (rw [u8_of_u32, ← Nat.add_assoc, ← fillB_set (by omega), out_at S _ (by omega), outB_at S i k (by omega)])) ?_)
                · first
                  | ((exfalso; (first | with_reducible contradiction | omega | (simp at hc2; done))))
                  | skip
                    refine wc_exit ?_
                    refine q_thenExit ?_
                    refine q_thenExit ?_
                    refine q_blockExit ?_
                    refine q_blockNormal ?_
                    refine q_then ?_
                    refine wc_region ?_
                    refine wl_val rfl rfl rfl (y_move rfl) ?_
                    refine wl_val rfl rfl rfl (y_addn rfl rfl (by omega)) ?_
                    refine wl_val rfl rfl rfl (y_assign rfl) ?_
                    refine wl_nil ?_
                    refine q_again (i + 1) ?_ ?_ ?_ ?_
                    · first | omega | (refine ⟨?_, ?_⟩ <;> omega)
                    · first | omega | (simp; omega) | (simp only []; omega)
                    · repeat (first | exact SubE.nil | refine SubE.cons rfl ?_ | refine SubE.cons (lk_int rfl (by omega)) ?_ | refine SubE.cons (lk_int rfl (by rfl)) ?_ | refine SubE.cons (lk_eq rfl (by rfl)) ?_)
                    · first | (repeat (first | exact SubL.nil | refine SubL.consOwn rfl rfl ?_ | refine SubL.consBlk rfl ?_)); fail_if_success focus skip | repeat (first | exact SubL.nil | refine SubL.consOwn (by first | rfl | omega | (simp only [List.length_append, List.length_cons, List.length_nil]; omega) | (rw [show 4 * (i + 1) = 4 * i + k from by omega])) (by first | rfl | (rw [show 4 * (i + 1) = 4 * i + k from by omega])) ?_ | refine SubL.consBlk (by first | rfl | (rw [show 4 * (i + 1) = 4 * i + k from by omega])) ?_ | refine SubL.consMap (by first | rfl | omega) (by first | rfl | (rw [show 4 * (i + 1) = 4 * i + k from by omega])) ?_)
          · first
            | ((exfalso; (first | with_reducible contradiction | omega | (simp at hc1; done))))
            | skip
              refine wc_exit ?_
              refine q_thenExit ?_
              refine q_thenExit ?_
              refine q_blockExit ?_
              refine q_then ?_
              refine wc_seq ?_
              obtain rfl : i = 8 := by omega
              have hf17 : (bvs (fillB (out S) (4 * 8))).length = 32 := by rw [bvs_len, fillB_len (by omega), ho]
              have hf18 := fillB_all (out S)
              rw [ho] at hf18
              refine wc_region ?_
              refine wl_val rfl rfl rfl (y_loadP agg28 rfl (by (repeat (first | exact PartN.nil | exact PartN.all (by first | rfl | assumption | (simp; done) | (simp [*]; done)) | exact PartN.takea (by first | rfl | assumption | (simp; done) | (simp [*]; done)) | apply PartN.skip | apply PartN.take (by first | rfl | assumption | (simp; done) | (simp [*]; done)) rfl | apply PartN.cons | apply PartN.over (by first | rfl | assumption | (simp; done) | (simp [*]; done)) rfl)); fail_if_success focus skip)) ?_
              (refine wl_ef rfl (ef_storeP siz28 rfl rfl rfl (by (repeat (first | exact OneAll.nil | refine OneAll.cons rfl ?_ | exact bvs_one _ | refine OneAll.app ?_ ?_ | exact OneAll.map _ (fun _ => rfl) | assumption)); fail_if_success focus skip) (by (repeat (first | exact SplN.nil | apply SplN.skip | exact SplN.all (by first | rfl | assumption | (simp; done) | (simp [*]; done)) (by first | rfl | assumption | (simp; done) | (simp [*]; done)) | exact SplN.puta (by first | rfl | assumption | (simp; done) | (simp [*]; done)) (by first | rfl | assumption | (simp; done) | (simp [*]; done)) | apply SplN.cons | apply SplN.put (by first | rfl | assumption | (simp; done) | (simp [*]; done)) (by first | rfl | assumption | (simp; done) | (simp [*]; done)) | apply SplN.over (by first | rfl | assumption | (simp; done) | (simp [*]; done)) rfl)); fail_if_success focus skip) (by first | rfl | assumption | (simp; done) | (simp [*]; done))) ?_; rintro _ _ ⟨rfl, rfl⟩)
              refine wl_nil ?_
              refine q_then ?_
              refine wc_ret ?_
              apply q_retg (resc Try.results66 rfl agg28 (by (repeat (first | exact PartN.nil | exact PartN.all (by first | rfl | assumption | (simp; done) | (simp [*]; done)) | exact PartN.takea (by first | rfl | assumption | (simp; done) | (simp [*]; done)) | apply PartN.skip | apply PartN.take (by first | rfl | assumption | (simp; done) | (simp [*]; done)) rfl | apply PartN.cons | apply PartN.over (by first | rfl | assumption | (simp; done) | (simp [*]; done)) rfl)); fail_if_success focus skip)) -- ret 0
              case hΨ =>
                exact ⟨by rw [show 4 * 8 = 32 from rfl, hf18], rfl⟩
              case hs =>
                (repeat (first | exact SubL.nil | refine SubL.consOwn rfl rfl ?_ | refine SubL.consBlk rfl ?_)); fail_if_success focus skip
end Go.Proofs.Ytdgmkbjopcopcaa
