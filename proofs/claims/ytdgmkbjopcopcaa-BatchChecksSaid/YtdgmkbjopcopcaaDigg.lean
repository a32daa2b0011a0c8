/- Walks of layer 3 (digest): the document's padded. Own work. -/
import Derived.Test.YtdgmkbjopcopcaaDigf
set_option linter.unusedVariables false
set_option linter.unusedSimpArgs false
set_option maxRecDepth 100000
set_option maxHeartbeats 8000000
namespace Go.Proofs.Ytdgmkbjopcopcaa
open Go.RowKit

theorem c_padded (vb : Value) (l : List UInt8) (w : World) (hr : RdI w [] vb 1 l.length (bvs l)) (hn : l.length ≤ 100000000000000) : Calls Try.prog 96 #[vb] w (RO w 5 1 (padded l).length (bvs (padded l))) := by
  obtain ⟨z, hz⟩ : ∃ z, z = (119 - l.length % 64) % 64 := ⟨_, rfl⟩
  obtain ⟨B, hB⟩ : ∃ B, B = be8 (8 * l.length) := ⟨_, rfl⟩
  have hb8 : B.length = 8 := by rw [hB, be8_len]
  have hpad : padded l = ((l ++ [0x80]) ++ zeros z) ++ B := by rw [padded, pad_is, ← hz, ← hB]; simp [zeros]
  rw [hpad]
  refine enter (N := 34) Try.func96 rfl Try.ntmps96 rfl (Has.nil _) ?_
  refine wc_seq ?_
  refine wc_region ?_
  refine wl_val rfl rfl rfl (y_assign rfl) ?_
  refine wl_nil ?_
  refine q_then ?_
  refine wc_seq ?_
  refine wc_region ?_
  (refine wl_ef rfl (ef_lit0 rfl Try.underlying99 siz5) ?_; rintro _ _ ⟨v6, rfl, rfl⟩)
  refine wl_val rfl rfl rfl (y_move rfl) ?_
  (refine wl_ef rfl (ef_append rfl Try.underlying99 inf5 rfl rfl rfl (by first | exact src_own Try.underlying99 (by (repeat (first | exact OneAll.nil | refine OneAll.cons rfl ?_ | exact bvs_one _ | refine OneAll.app ?_ ?_ | exact OneAll.map _ (fun _ => rfl) | assumption)); fail_if_success focus skip) | exact src_in Try.underlying99 (by assumption) (by (repeat (first | exact OneAll.nil | refine OneAll.cons rfl ?_ | exact bvs_one _ | refine OneAll.app ?_ ?_ | exact OneAll.map _ (fun _ => rfl) | assumption)); fail_if_success focus skip)) (by omega) (by omega)) ?_; rintro _ _ ⟨v8, rfl, rfl⟩)
  (refine wl_ef rfl (ef_lit1 rfl Try.underlying99 siz5 zer5 rfl rfl) ?_; rintro _ _ ⟨v9, rfl, rfl⟩)
  (refine wl_ef rfl (ef_append rfl Try.underlying99 inf5 rfl rfl rfl (by first | exact src_own Try.underlying99 (by (repeat (first | exact OneAll.nil | refine OneAll.cons rfl ?_ | exact bvs_one _ | refine OneAll.app ?_ ?_ | exact OneAll.map _ (fun _ => rfl) | assumption)); fail_if_success focus skip) | exact src_in Try.underlying99 (by assumption) (by (repeat (first | exact OneAll.nil | refine OneAll.cons rfl ?_ | exact bvs_one _ | refine OneAll.app ?_ ?_ | exact OneAll.map _ (fun _ => rfl) | assumption)); fail_if_success focus skip)) (by omega) (by omega)) ?_; rintro _ _ ⟨v10, rfl, rfl⟩)
  refine wl_val rfl rfl rfl (y_assign rfl) ?_
  refine wl_nil ?_
  refine q_then ?_
  refine wc_seq ?_
  refine wc_block ?_
  refine wc_loop2 (X0 := Nat) (X1 := Value) (fun j v => [(0, vb), (3, v)]) (fun j v => [.own v 5 1 (l.length + 1 + j) (bvs ((l ++ [0x80]) ++ zeros j))]) (fun j v => j ≤ z) (fun j v => z - j) (0) (v10) ?_ ?_ ?_ ?_
  · first | trivial | omega | simp
  · repeat (first | exact SubE.nil | refine SubE.cons rfl ?_ | refine SubE.cons (lk_int rfl (by omega)) ?_ | refine SubE.cons (lk_int rfl (by rfl)) ?_ | refine SubE.cons (lk_eq rfl (by rfl)) ?_)
  · first | (repeat (first | exact SubL.nil | refine SubL.consOwn rfl rfl ?_ | refine SubL.consBlk rfl ?_)); fail_if_success focus skip | repeat (first | exact SubL.nil | refine SubL.consOwn (by first | rfl | omega | (simp only [List.length_append, List.length_cons, List.length_nil]; omega) | (simp [bvs, zeros, bv])) (by first | rfl | (simp [bvs, zeros, bv])) ?_ | refine SubL.consBlk (by first | rfl | (simp [bvs, zeros, bv])) ?_ | refine SubL.consMap (by first | rfl | omega) (by first | rfl | (simp [bvs, zeros, bv])) ?_)
  · skip
    intro j v hj
    refine wc_seq ?_
    refine wc_seq ?_
    refine wc_region ?_
    refine wl_val rfl rfl rfl (y_move rfl) ?_
    refine wl_val rfl rfl rfl (y_lenRd Try.underlying99 rfl (by first | exact rd_own | exact rd_in (by assumption) | assumption)) ?_
    refine wl_val rfl rfl rfl (yl_is (v := .int .i64 (((l.length + 1 + j) % 64 : Nat) : Int)) (y_remn rfl rfl (by omega) (by omega)) (by congr 1)) ?_
    refine wl_val rfl rfl rfl (y_neq rfl rfl) ?_
    refine wl_nil ?_
    refine q_then ?_
    refine wc_cond rfl (fun hc0 => ?_) (fun hc0 => ?_)
    · first
      | ((exfalso; (first | with_reducible contradiction | omega | (simp at hc0; done))))
      | skip
        refine wc_skip ?_
        refine q_then ?_
        refine wc_block ?_
        refine wc_region ?_
        refine wl_val rfl rfl rfl (y_move rfl) ?_
        (refine wl_ef rfl (ef_lit1 rfl Try.underlying99 siz5 zer5 rfl rfl) ?_; rintro _ _ ⟨v16, rfl, rfl⟩)
        (refine wl_ef rfl (ef_append rfl Try.underlying99 inf5 rfl rfl rfl (by first | exact src_own Try.underlying99 (by (repeat (first | exact OneAll.nil | refine OneAll.cons rfl ?_ | exact bvs_one _ | refine OneAll.app ?_ ?_ | exact OneAll.map _ (fun _ => rfl) | assumption)); fail_if_success focus skip) | exact src_in Try.underlying99 (by assumption) (by (repeat (first | exact OneAll.nil | refine OneAll.cons rfl ?_ | exact bvs_one _ | refine OneAll.app ?_ ?_ | exact OneAll.map _ (fun _ => rfl) | assumption)); fail_if_success focus skip)) (by omega) (by omega)) ?_; rintro _ _ ⟨v17, rfl, rfl⟩)
        refine wl_val rfl rfl rfl (y_assign rfl) ?_
        refine wl_nil ?_
        refine q_blockNormal ?_
        refine q_again2 (j + 1) (v17) ?_ ?_ ?_ ?_
        · first | omega | (refine ⟨?_, ?_⟩ <;> omega)
        · first | omega | (simp; omega) | (simp only []; omega)
        · repeat (first | exact SubE.nil | refine SubE.cons rfl ?_ | refine SubE.cons (lk_int rfl (by omega)) ?_ | refine SubE.cons (lk_int rfl (by rfl)) ?_ | refine SubE.cons (lk_eq rfl (by rfl)) ?_)
        · first | (repeat (first | exact SubL.nil | refine SubL.consOwn rfl rfl ?_ | refine SubL.consBlk rfl ?_)); fail_if_success focus skip | repeat (first | exact SubL.nil | refine SubL.consOwn (by first | rfl | omega | (simp only [List.length_append, List.length_cons, List.length_nil]; omega) | (simp [bvs, zeros, bv, List.replicate_succ'])) (by first | rfl | (simp [bvs, zeros, bv, List.replicate_succ'])) ?_ | refine SubL.consBlk (by first | rfl | (simp [bvs, zeros, bv, List.replicate_succ'])) ?_ | refine SubL.consMap (by first | rfl | omega) (by first | rfl | (simp [bvs, zeros, bv, List.replicate_succ'])) ?_)
    · first
      | ((exfalso; (first | with_reducible contradiction | omega | (simp at hc0; done))))
      | skip
        refine wc_exit ?_
        refine q_thenExit ?_
        refine q_thenExit ?_
        refine q_blockExit ?_
        refine q_then ?_
        refine wc_seq ?_
        obtain rfl : j = z := by omega
        obtain ⟨N8, hN8⟩ : ∃ N8, N8 = 8 * l.length := ⟨_, rfl⟩
        rw [← hN8] at hB
        refine wc_region ?_
        refine wl_val rfl rfl rfl (y_move rfl) ?_
        refine wl_val rfl rfl rfl (y_lenRd Try.underlying99 rfl (by first | exact rd_own | exact rd_in (by assumption) | assumption)) ?_
        refine wl_val rfl rfl rfl (y_muln rfl rfl (by omega)) ?_
        refine wl_val rfl rfl rfl (y_assign rfl) ?_
        refine wl_nil ?_
        refine q_then ?_
        refine wc_seq ?_
        refine wc_seq ?_
        refine wc_region ?_
        refine wl_val rfl rfl rfl (y_assign rfl) ?_
        refine wl_nil ?_
        refine q_then ?_
        refine wc_block ?_
        refine wc_loop2 (X0 := Nat) (X1 := Value) (fun i u => [(3, u), (4, .int .i64 (N8 : Int)), (5, .int .i64 (7 - (i : Int)))]) (fun i u => [.own u 5 1 (l.length + 1 + j + i) (bvs (((l ++ [0x80]) ++ zeros j) ++ B.take i))]) (fun i u => i ≤ 8) (fun i u => 8 - i) (0) (v) ?_ ?_ ?_ ?_
        · first | trivial | omega | simp
        · repeat (first | exact SubE.nil | refine SubE.cons rfl ?_ | refine SubE.cons (lk_int rfl (by omega)) ?_ | refine SubE.cons (lk_int rfl (by rfl)) ?_ | refine SubE.cons (lk_eq rfl (by rfl)) ?_)
        · first | (repeat (first | exact SubL.nil | refine SubL.consOwn rfl rfl ?_ | refine SubL.consBlk rfl ?_)); fail_if_success focus skip | repeat (first | exact SubL.nil | refine SubL.consOwn (by first | rfl | omega | (simp only [List.length_append, List.length_cons, List.length_nil]; omega) | (simp)) (by first | rfl | (simp)) ?_ | refine SubL.consBlk (by first | rfl | (simp)) ?_ | refine SubL.consMap (by first | rfl | omega) (by first | rfl | (simp)) ?_)
        · skip
          intro i u hi
          refine wc_seq ?_
          refine wc_seq ?_
          refine wc_region ?_
          refine wl_val rfl rfl rfl (y_move rfl) ?_
          refine wl_val rfl rfl rfl (y_geq rfl rfl) ?_
          refine wl_nil ?_
          refine q_then ?_
          refine wc_cond rfl (fun hc1 => ?_) (fun hc1 => ?_)
          · first
            | ((exfalso; (first | with_reducible contradiction | omega | (simp at hc1; done))))
            | skip
              have hlt : i < 8 := by omega
              have hsh := shr_pow N8 (7 - i) (by omega)
              rw [show ((7 - i : Nat) : Int) = 7 - (i : Int) from by omega] at hsh
              refine wc_skip ?_
              refine q_then ?_
              refine wc_seq ?_
              refine wc_block ?_
              refine wc_region ?_
              refine wl_val rfl rfl rfl (y_move rfl) ?_
              refine wl_val rfl rfl rfl (y_move rfl) ?_
              refine wl_val rfl rfl rfl (y_move rfl) ?_
              refine wl_val rfl rfl rfl (y_muln rfl rfl (by omega)) ?_
              refine wl_val rfl rfl rfl (y_shr rfl rfl (by omega)) ?_
              refine wl_val rfl rfl rfl (y_convByte Try.underlying3 Try.underlying5 rfl) ?_
              (refine wl_ef rfl (ef_lit1 rfl Try.underlying99 siz5 zer5 rfl rfl) ?_; rintro _ _ ⟨v31, rfl, rfl⟩)
              (refine wl_ef rfl (ef_append rfl Try.underlying99 inf5 rfl rfl rfl (by first | exact src_own Try.underlying99 (by (repeat (first | exact OneAll.nil | refine OneAll.cons rfl ?_ | exact bvs_one _ | refine OneAll.app ?_ ?_ | exact OneAll.map _ (fun _ => rfl) | assumption)); fail_if_success focus skip) | exact src_in Try.underlying99 (by assumption) (by (repeat (first | exact OneAll.nil | refine OneAll.cons rfl ?_ | exact bvs_one _ | refine OneAll.app ?_ ?_ | exact OneAll.map _ (fun _ => rfl) | assumption)); fail_if_success focus skip)) (by omega) (by omega)) ?_; rintro _ _ ⟨v32, rfl, rfl⟩)
              refine wl_val rfl rfl rfl (y_assign rfl) ?_
              refine wl_nil ?_
              refine q_blockNormal ?_
              refine q_then ?_
              refine wc_region ?_
              refine wl_val rfl rfl rfl (y_move rfl) ?_
              refine wl_val rfl rfl rfl (y_subn rfl rfl (by omega)) ?_
              refine wl_val rfl rfl rfl (y_assign rfl) ?_
              refine wl_nil ?_
              refine q_again2 (i + 1) (v32) ?_ ?_ ?_ ?_
              · first | omega | (refine ⟨?_, ?_⟩ <;> omega)
              · first | omega | (simp; omega) | (simp only []; omega)
              · repeat (first | exact SubE.nil | refine SubE.cons rfl ?_ | refine SubE.cons (lk_int rfl (by omega)) ?_ | refine SubE.cons (lk_int rfl (by rfl)) ?_ | refine SubE.cons (lk_eq rfl (by rfl)) ?_)
              · first | (repeat (first | exact SubL.nil | refine SubL.consOwn rfl rfl ?_ | refine SubL.consBlk rfl ?_)); fail_if_success focus skip | repeat (first | exact SubL.nil | refine SubL.consOwn (by first | rfl | omega | (simp only [List.length_append, List.length_cons, List.length_nil]; omega) | (rw [hsh, ofInt_nat, ← be8_at N8 i (by omega), ← hB, bvs_snoc2 (by omega)])) (by first | rfl | (rw [hsh, ofInt_nat, ← be8_at N8 i (by omega), ← hB, bvs_snoc2 (by omega)])) ?_ | refine SubL.consBlk (by first | rfl | (rw [hsh, ofInt_nat, ← be8_at N8 i (by omega), ← hB, bvs_snoc2 (by omega)])) ?_ | refine SubL.consMap (by first | rfl | omega) (by first | rfl | (rw [hsh, ofInt_nat, ← be8_at N8 i (by omega), ← hB, bvs_snoc2 (by omega)])) ?_)
          · first
            | ((exfalso; (first | with_reducible contradiction | omega | (simp at hc1; done))))
            | skip
              refine wc_exit ?_
              refine q_thenExit ?_
              refine q_thenExit ?_
              refine q_blockExit ?_
              refine q_then ?_
              refine wc_seq ?_
              refine wc_region ?_
              refine wl_val rfl rfl rfl (y_move rfl) ?_
              refine wl_val rfl rfl rfl (y_assign rfl) ?_
              refine wl_nil ?_
              refine q_then ?_
              refine wc_ret ?_
              obtain rfl : i = 8 := by omega
              rw [List.take_of_length_le (by omega)]
              have hpl : (l ++ [0x80] ++ zeros j ++ B).length = l.length + 1 + j + 8 := by simp [zeros, hb8]; omega
              apply q_retg (res1 Try.results96 rfl) -- ret 0
              case hΨ =>
                rw [hpl]
              case hs =>
                (repeat (first | exact SubL.nil | refine SubL.consOwn rfl rfl ?_ | refine SubL.consBlk rfl ?_)); fail_if_success focus skip
end Go.Proofs.Ytdgmkbjopcopcaa
