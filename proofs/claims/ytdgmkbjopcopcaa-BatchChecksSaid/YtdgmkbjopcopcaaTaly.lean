/- Walks of layer 1 (tally). Own work. -/
import Derived.Test.YtdgmkbjopcopcaaTy
import Derived.Test.YtdgmkbjopcopcaaEngg
import Derived.Test.YtdgmkbjopcopcaaPla
set_option linter.unusedVariables false
set_option linter.unusedSimpArgs false
set_option maxRecDepth 100000
namespace Go.Proofs.Ytdgmkbjopcopcaa
open Go.RowKit

theorem shr8 (n : Nat) : ((n : Int).fdiv (2 ^ (min (8 : Int).toNat IntKind.i64.bits))) = ((n / 256 : Nat) : Int) := by
  have e : (2 : Int) ^ (min (8 : Int).toNat IntKind.i64.bits) = 256 := by decide
  rw [e, Int.fdiv_eq_ediv_of_nonneg _ (by omega)]
  omega
theorem c_Size (n : Nat) (hn : n ≤ 9223372036854775807) (w : World) : Calls Try.prog 106 #[.int .i64 (n : Int)] w (RV w (.int .i64 ((dig n).length + 1 : Nat))) := by
  refine enter (N := 13) Try.func106 rfl Try.ntmps106 rfl (Has.nil _) ?_
  refine wc_seq ?_
  refine wc_region ?_
  refine wl_val rfl rfl rfl (y_assign rfl) ?_
  refine wl_nil ?_
  refine q_then ?_
  refine wc_seq ?_
  refine wc_seq ?_
  refine wc_region ?_
  refine wl_val rfl rfl rfl (y_move rfl) ?_
  refine wl_val rfl rfl rfl (y_lss rfl rfl) ?_
  refine wl_nil ?_
  refine q_then ?_
  refine wc_cond rfl (fun hc0 => ?_) (fun hc0 => ?_)
  · ((exfalso; (first | with_reducible contradiction | omega | (simp at hc0; done))))
  · first
    | ((exfalso; (first | with_reducible contradiction | omega | (simp at hc0; done))))
    | skip
      refine wc_skip ?_
      refine q_then ?_
      refine wc_seq ?_
      refine wc_region ?_
      refine wl_val rfl rfl rfl (y_assign rfl) ?_
      refine wl_nil ?_
      refine q_then ?_
      refine wc_seq ?_
      refine wc_block ?_
      refine wc_loop2 (X0 := Nat) (X1 := Nat) (fun m k => [(0, .int .i64 (m : Int)), (3, .int .i64 (k : Int))]) (fun _ _ => []) (fun m k => k + (dig m).length = (dig n).length + 1 ∧ m ≤ n ∧ k ≤ 100) (fun m k => m) (n) (1) ?_ ?_ ?_ ?_
      · refine ⟨?_, ?_, ?_⟩ <;> omega
      · repeat (first | exact SubE.nil | refine SubE.cons rfl ?_ | refine SubE.cons (lk_int rfl (by omega)) ?_ | refine SubE.cons (lk_int rfl (by rfl)) ?_ | refine SubE.cons (lk_eq rfl (by rfl)) ?_)
      · (repeat (first | exact SubL.nil | refine SubL.consOwn rfl rfl ?_ | refine SubL.consBlk rfl ?_)); fail_if_success focus skip
      · skip
        rintro m k ⟨h1, h2, h3⟩
        refine wc_seq ?_
        refine wc_seq ?_
        refine wc_region ?_
        refine wl_val rfl rfl rfl (y_move rfl) ?_
        refine wl_val rfl rfl rfl (y_gtr rfl rfl) ?_
        refine wl_nil ?_
        refine q_then ?_
        refine wc_cond rfl (fun hc1 => ?_) (fun hc1 => ?_)
        · first
          | ((exfalso; (first | with_reducible contradiction | omega | (simp at hc1; done))))
          | skip
            refine wc_skip ?_
            refine q_then ?_
            refine wc_seq ?_
            refine wc_block ?_
            refine wc_region ?_
            refine wl_val rfl rfl rfl (y_move rfl) ?_
            refine wl_val rfl rfl rfl (y_addn rfl rfl (by omega)) ?_
            refine wl_val rfl rfl rfl (y_assign rfl) ?_
            refine wl_nil ?_
            refine q_blockNormal ?_
            refine q_then ?_
            refine wc_region ?_
            refine wl_val rfl rfl rfl (y_move rfl) ?_
            refine wl_val rfl rfl rfl (y_shr rfl rfl (by omega)) ?_
            refine wl_val rfl rfl rfl (y_assign rfl) ?_
            refine wl_nil ?_
            refine q_again2 (m / 256) (k + 1) ?_ ?_ ?_ ?_
            · have := dig_pos (n := m) (by omega); have h9 := dig_len8 (n := n) hn; rw [this] at h1; simp at h1; refine ⟨?_, ?_, ?_⟩ <;> omega
            · first | omega | (simp; omega) | (simp only []; omega)
            · repeat (first | exact SubE.nil | refine SubE.cons rfl ?_ | refine SubE.cons (lk_int rfl (by omega)) ?_ | refine SubE.cons (lk_int rfl (by exact shr8 m)) ?_ | refine SubE.cons (lk_eq rfl (by exact shr8 m)) ?_)
            · (repeat (first | exact SubL.nil | refine SubL.consOwn rfl rfl ?_ | refine SubL.consBlk rfl ?_)); fail_if_success focus skip
        · first
          | ((exfalso; (first | with_reducible contradiction | omega | (simp at hc1; done))))
          | skip
            refine wc_exit ?_
            refine q_thenExit ?_
            refine q_thenExit ?_
            refine q_blockExit ?_
            refine q_then ?_
            refine wc_seq ?_
            refine wc_region ?_
            refine wl_val rfl rfl rfl (y_move rfl) ?_
            refine wl_val rfl rfl rfl (y_assign rfl) ?_
            refine wl_nil ?_
            refine q_then ?_
            refine wc_ret ?_
            have h0 : m = 0 := by omega
            subst h0
            have h4 : k = (dig n).length + 1 := by simpa [dig_zero] using h1
            subst h4
            apply q_retg (res1 Try.results106 rfl) -- ret 1
            case hΨ =>
              first | exact ⟨rfl, rfl⟩ | exact rfl
            case hs =>
              (repeat (first | exact SubL.nil | refine SubL.consOwn rfl rfl ?_ | refine SubL.consBlk rfl ?_)); fail_if_success focus skip

theorem c_SizeNeg (n : Int) (hn : n < 0) (w : World) : Calls Try.prog 106 #[.int .i64 n] w (RV w (.int .i64 0)) := by
  refine enter (N := 13) Try.func106 rfl Try.ntmps106 rfl (Has.nil _) ?_
  refine wc_seq ?_
  refine wc_region ?_
  refine wl_val rfl rfl rfl (y_assign rfl) ?_
  refine wl_nil ?_
  refine q_then ?_
  refine wc_seq ?_
  refine wc_seq ?_
  refine wc_region ?_
  refine wl_val rfl rfl rfl (y_move rfl) ?_
  refine wl_val rfl rfl rfl (y_lss rfl rfl) ?_
  refine wl_nil ?_
  refine q_then ?_
  refine wc_cond rfl (fun hc0 => ?_) (fun hc0 => ?_)
  · first
    | ((exfalso; (first | with_reducible contradiction | omega | (simp at hc0; done))))
    | skip
      refine wc_seq ?_
      refine wc_region ?_
      refine wl_val rfl rfl rfl (y_assign rfl) ?_
      refine wl_nil ?_
      refine q_then ?_
      refine wc_ret ?_
      refine q_thenRet ?_
      apply q_retg (res1 Try.results106 rfl) -- ret 0
      case hΨ =>
        first | exact ⟨rfl, rfl⟩ | exact rfl
      case hs =>
        (repeat (first | exact SubL.nil | refine SubL.consOwn rfl rfl ?_ | refine SubL.consBlk rfl ?_)); fail_if_success focus skip
  · exfalso; omega
theorem ofInt_nat (n : Nat) : UInt8.ofInt (n : Int) = UInt8.ofNat n := by
  apply UInt8.toNat.inj
  simp [UInt8.ofInt]
  omega
theorem shr_pow (n j : Nat) (hj : j ≤ 7) : ((n : Int).fdiv (2 ^ (min (8 * (j : Int)).toNat IntKind.i64.bits))) = ((n / 256 ^ j : Nat) : Int) := by
  have e : min (8 * (j : Int)).toNat IntKind.i64.bits = 8 * j := by simp only [IntKind.bits]; omega
  have e2 : ((2 : Int) ^ (8 * j)) = ((256 ^ j : Nat) : Int) := by
    rw [show (256 : Nat) = 2 ^ 8 from rfl, ← Nat.pow_mul]
    simp
  rw [e, e2, Int.fdiv_eq_ediv_of_nonneg _ (Int.natCast_nonneg _)]
  simp
theorem shr_u8 (n k : Nat) (hk : k < (dig n).length) (h8 : (dig n).length ≤ 8) : UInt8.ofInt ((n : Int).fdiv (2 ^ (min (8 * (((dig n).length : Int) - 1 - (k : Int))).toNat IntKind.i64.bits))) = UInt8.ofNat (n / 256 ^ ((dig n).length - 1 - k)) := by
  rw [show ((dig n).length : Int) - 1 - (k : Int) = (((dig n).length - 1 - k : Nat) : Int) from by omega, shr_pow _ _ (by omega), ofInt_nat]
theorem c_PutNeg (vb : Value) (m : Nat) (xs : List Value) (n : Int) (hn : n < 0) (w : World) (hr : RdI w [] vb 1 m xs) : Calls Try.prog 82 #[vb, .int .i64 n] w (RV w (fullv vb m)) := by
  refine enter (N := 41) Try.func82 rfl Try.ntmps82 rfl (Has.nil _) ?_
  refine wc_seq ?_
  refine wc_region ?_
  refine wl_val rfl rfl rfl (y_assign rfl) ?_
  refine wl_nil ?_
  refine q_then ?_
  refine wc_seq ?_
  refine wc_region ?_
  refine wl_val rfl rfl rfl (y_move rfl) ?_
  refine wl_val rfl rfl rfl (y_move rfl) ?_
  refine wl_val rfl rfl rfl (y_lenRd Try.underlying99 rfl (by first | exact rd_own | exact rd_in (by assumption) | assumption)) ?_
  refine wl_val rfl rfl rfl (y_move rfl) ?_
  refine wl_val rfl rfl rfl (y_lenRd Try.underlying99 rfl (by first | exact rd_own | exact rd_in (by assumption) | assumption)) ?_
  refine wl_val rfl rfl rfl (y_slice3 Try.underlying99 siz5 rfl (by first | exact rd_own | exact rd_in (by assumption) | assumption) rfl rfl) ?_
  refine wl_val rfl rfl rfl (y_assign rfl) ?_
  refine wl_nil ?_
  refine q_then ?_
  refine wc_seq ?_
  refine wc_seq ?_
  refine wc_region ?_
  refine wl_val rfl rfl rfl (y_move rfl) ?_
  refine wl_val rfl rfl rfl (y_lss rfl rfl) ?_
  refine wl_nil ?_
  refine q_then ?_
  refine wc_cond rfl (fun hc0 => ?_) (fun hc0 => ?_)
  · first
    | ((exfalso; (first | with_reducible contradiction | omega | (simp at hc0; done))))
    | skip
      refine wc_seq ?_
      refine wc_region ?_
      refine wl_val rfl rfl rfl (y_move rfl) ?_
      refine wl_val rfl rfl rfl (y_assign rfl) ?_
      refine wl_nil ?_
      refine q_then ?_
      refine wc_ret ?_
      refine q_thenRet ?_
      apply q_retg (res1 Try.results82 rfl) -- ret 0
      case hΨ =>
        first | exact ⟨rfl, rfl⟩ | exact rfl
      case hs =>
        (repeat (first | exact SubL.nil | refine SubL.consOwn rfl rfl ?_ | refine SubL.consBlk rfl ?_)); fail_if_success focus skip
  · exfalso; omega
theorem c_Put (vb : Value) (m : Nat) (xs : List Value) (n : Nat) (hn : n ≤ 9223372036854775807) (w : World) (hr : RdI w [] vb 1 m xs) (hm : m ≤ 140737488355000) : Calls Try.prog 82 #[vb, .int .i64 (n : Int)] w (RO w 5 1 (m + (enc n).length) (xs ++ bvs (enc n))) := by
  have h8 := dig_len8 hn
  refine enter (N := 41) Try.func82 rfl Try.ntmps82 rfl (Has.nil _) ?_
  refine wc_seq ?_
  refine wc_region ?_
  refine wl_val rfl rfl rfl (y_assign rfl) ?_
  refine wl_nil ?_
  refine q_then ?_
  refine wc_seq ?_
  refine wc_region ?_
  refine wl_val rfl rfl rfl (y_move rfl) ?_
  refine wl_val rfl rfl rfl (y_move rfl) ?_
  refine wl_val rfl rfl rfl (y_lenRd Try.underlying99 rfl (by first | exact rd_own | exact rd_in (by assumption) | assumption)) ?_
  refine wl_val rfl rfl rfl (y_move rfl) ?_
  refine wl_val rfl rfl rfl (y_lenRd Try.underlying99 rfl (by first | exact rd_own | exact rd_in (by assumption) | assumption)) ?_
  refine wl_val rfl rfl rfl (y_slice3 Try.underlying99 siz5 rfl (by first | exact rd_own | exact rd_in (by assumption) | assumption) rfl rfl) ?_
  refine wl_val rfl rfl rfl (y_assign rfl) ?_
  refine wl_nil ?_
  refine q_then ?_
  refine wc_seq ?_
  refine wc_seq ?_
  refine wc_region ?_
  refine wl_val rfl rfl rfl (y_move rfl) ?_
  refine wl_val rfl rfl rfl (y_lss rfl rfl) ?_
  refine wl_nil ?_
  refine q_then ?_
  refine wc_cond rfl (fun hc0 => ?_) (fun hc0 => ?_)
  · exfalso; omega
  · first
    | ((exfalso; (first | with_reducible contradiction | omega | (simp at hc0; done))))
    | skip
      refine wc_skip ?_
      refine q_then ?_
      refine wc_seq ?_
      refine wc_region ?_
      refine wl_val rfl rfl rfl (y_move rfl) ?_
      (refine wl_ef rfl (ef_callv0 rfl fun106 rfl (fun _ hw => (c_Size n hn _))) ?_; rintro _ _ ⟨rfl, rfl⟩)
      refine wl_val rfl rfl rfl (y_subn rfl rfl (by omega)) ?_
      refine wl_val rfl rfl rfl (y_assign rfl) ?_
      refine wl_nil ?_
      refine q_then ?_
      refine wc_seq ?_
      refine wc_region ?_
      refine wl_val rfl rfl rfl (y_move rfl) ?_
      refine wl_val rfl rfl rfl (y_move rfl) ?_
      refine wl_val rfl rfl rfl (y_convByte Try.underlying3 Try.underlying5 rfl) ?_
      (refine wl_ef rfl (ef_lit1 rfl Try.underlying99 siz5 zer5 rfl rfl) ?_; rintro _ _ ⟨v22, rfl, rfl⟩)
      first | (refine wl_ef rfl (ef_append rfl Try.underlying99 inf5 rfl rfl rfl (by first | exact src_own Try.underlying99 (by (repeat (first | exact OneAll.nil | refine OneAll.cons rfl ?_ | exact bvs_one _ | refine OneAll.app ?_ ?_ | exact OneAll.map _ (fun _ => rfl) | assumption)); fail_if_success focus skip) | exact src_in Try.underlying99 (by assumption) (by (repeat (first | exact OneAll.nil | refine OneAll.cons rfl ?_ | exact bvs_one _ | refine OneAll.app ?_ ?_ | exact OneAll.map _ (fun _ => rfl) | assumption)); fail_if_success focus skip)) (by omega) (by omega)) ?_; rintro _ _ ⟨v23, rfl, rfl⟩) | (refine wl_ef rfl (ef_appendFull rfl Try.underlying99 inf5 rfl rfl (by first | exact rd_own | exact rd_in (by assumption) | assumption) rfl (by first | exact src_own Try.underlying99 (by (repeat (first | exact OneAll.nil | refine OneAll.cons rfl ?_ | exact bvs_one _ | refine OneAll.app ?_ ?_ | exact OneAll.map _ (fun _ => rfl) | assumption)); fail_if_success focus skip) | exact src_in Try.underlying99 (by assumption) (by (repeat (first | exact OneAll.nil | refine OneAll.cons rfl ?_ | exact bvs_one _ | refine OneAll.app ?_ ?_ | exact OneAll.map _ (fun _ => rfl) | assumption)); fail_if_success focus skip)) (by omega) (by omega) (by omega)) ?_; rintro _ _ ⟨v23, rfl, rfl⟩)
      refine wl_val rfl rfl rfl (y_assign rfl) ?_
      refine wl_nil ?_
      refine q_then ?_
      refine wc_seq ?_
      refine wc_seq ?_
      refine wc_region ?_
      refine wl_val rfl rfl rfl (y_move rfl) ?_
      refine wl_val rfl rfl rfl (y_move rfl) ?_
      refine wl_nil ?_
      refine q_then ?_
      refine wc_block ?_
      refine wc_loop2 (X0 := Nat) (X1 := Value) (fun k v => [(0, v), (1, .int .i64 (n : Int)), (5, .int .i64 ((dig n).length : Int)), (24, .int .i64 ((dig n).length : Int)), (25, .int .i64 (k : Int))]) (fun k v => [.own v 5 1 (m + 1 + k) (xs ++ bvs (UInt8.ofNat (dig n).length :: (dig n).take k))]) (fun k v => k ≤ (dig n).length) (fun k v => (dig n).length - k) (0) (v23) ?_ ?_ ?_ ?_
      · first | trivial | omega | simp
      · repeat (first | exact SubE.nil | refine SubE.cons rfl ?_ | refine SubE.cons (lk_int rfl (by omega)) ?_ | refine SubE.cons (lk_int rfl (by rfl)) ?_ | refine SubE.cons (lk_eq rfl (by rfl)) ?_)
      · first | (repeat (first | exact SubL.nil | refine SubL.consOwn rfl rfl ?_ | refine SubL.consBlk rfl ?_)); fail_if_success focus skip | repeat (first | exact SubL.nil | refine SubL.consOwn (by first | rfl | omega | (simp only [List.length_append, List.length_cons, List.length_nil]; omega) | (simp [bvs, ofInt_nat])) (by first | rfl | (simp [bvs, ofInt_nat])) ?_ | refine SubL.consBlk (by first | rfl | (simp [bvs, ofInt_nat])) ?_ | refine SubL.consMap (by first | rfl | omega) (by first | rfl | (simp [bvs, ofInt_nat])) ?_)
      · skip
        intro k v hk
        refine wc_seq ?_
        refine wc_region ?_
        refine wl_val rfl rfl rfl (y_lss rfl rfl) ?_
        refine wl_nil ?_
        refine q_then ?_
        refine wc_seq ?_
        refine wc_cond rfl (fun hc1 => ?_) (fun hc1 => ?_)
        · first
          | ((exfalso; (first | with_reducible contradiction | omega | (simp at hc1; done))))
          | skip
            refine wc_skip ?_
            refine q_then ?_
            refine wc_seq ?_
            refine wc_block ?_
            refine wc_seq ?_
            refine wc_region ?_
            refine wl_val rfl rfl rfl (y_move rfl) ?_
            refine wl_val rfl rfl rfl (y_assign rfl) ?_
            refine wl_nil ?_
            refine q_then ?_
            refine wc_region ?_
            refine wl_val rfl rfl rfl (y_move rfl) ?_
            refine wl_val rfl rfl rfl (y_move rfl) ?_
            refine wl_val rfl rfl rfl (y_move rfl) ?_
            refine wl_val rfl rfl rfl (y_subn rfl rfl (by omega)) ?_
            refine wl_val rfl rfl rfl (y_move rfl) ?_
            refine wl_val rfl rfl rfl (y_subn rfl rfl (by omega)) ?_
            refine wl_val rfl rfl rfl (y_muln rfl rfl (by omega)) ?_
            refine wl_val rfl rfl rfl (y_shr rfl rfl (by omega)) ?_
            refine wl_val rfl rfl rfl (y_convByte Try.underlying3 Try.underlying5 rfl) ?_
            (refine wl_ef rfl (ef_lit1 rfl Try.underlying99 siz5 zer5 rfl rfl) ?_; rintro _ _ ⟨v37, rfl, rfl⟩)
            (refine wl_ef rfl (ef_append rfl Try.underlying99 inf5 rfl rfl rfl (by first | exact src_own Try.underlying99 (by (repeat (first | exact OneAll.nil | refine OneAll.cons rfl ?_ | exact bvs_one _ | refine OneAll.app ?_ ?_ | exact OneAll.map _ (fun _ => rfl) | assumption)); fail_if_success focus skip) | exact src_in Try.underlying99 (by assumption) (by (repeat (first | exact OneAll.nil | refine OneAll.cons rfl ?_ | exact bvs_one _ | refine OneAll.app ?_ ?_ | exact OneAll.map _ (fun _ => rfl) | assumption)); fail_if_success focus skip)) (by omega) (by omega)) ?_; rintro _ _ ⟨v38, rfl, rfl⟩)
            refine wl_val rfl rfl rfl (y_assign rfl) ?_
            refine wl_nil ?_
            refine q_blockNormal ?_
            refine q_then ?_
            refine wc_region ?_
            refine wl_val rfl rfl rfl (y_addn rfl rfl (by omega)) ?_
            refine wl_val rfl rfl rfl (y_move rfl) ?_
            refine wl_nil ?_
            refine q_again2 (k + 1) (v38) ?_ ?_ ?_ ?_
            · first | omega | (refine ⟨?_, ?_⟩ <;> omega)
            · first | omega | (simp; omega) | (simp only []; omega)
            · repeat (first | exact SubE.nil | refine SubE.cons rfl ?_ | refine SubE.cons (lk_int rfl (by omega)) ?_ | refine SubE.cons (lk_int rfl (by rfl)) ?_ | refine SubE.cons (lk_eq rfl (by rfl)) ?_)
            · first | (repeat (first | exact SubL.nil | refine SubL.consOwn rfl rfl ?_ | refine SubL.consBlk rfl ?_)); fail_if_success focus skip | repeat (first | exact SubL.nil | refine SubL.consOwn (by first | rfl | omega | (simp only [List.length_append, List.length_cons, List.length_nil]; omega) | (rw [dig_take (by omega)]; simp [bvs]; exact congrArg bv (shr_u8 n k (by omega) (by omega)))) (by first | rfl | (rw [dig_take (by omega)]; simp [bvs]; exact congrArg bv (shr_u8 n k (by omega) (by omega)))) ?_ | refine SubL.consBlk (by first | rfl | (rw [dig_take (by omega)]; simp [bvs]; exact congrArg bv (shr_u8 n k (by omega) (by omega)))) ?_ | refine SubL.consMap (by first | rfl | omega) (by first | rfl | (rw [dig_take (by omega)]; simp [bvs]; exact congrArg bv (shr_u8 n k (by omega) (by omega)))) ?_)
        · first
          | ((exfalso; (first | with_reducible contradiction | omega | (simp at hc1; done))))
          | skip
            refine wc_exit ?_
            refine q_thenExit ?_
            refine q_thenExit ?_
            refine q_blockExit ?_
            refine q_then ?_
            refine wc_seq ?_
            refine wc_region ?_
            refine wl_val rfl rfl rfl (y_move rfl) ?_
            refine wl_val rfl rfl rfl (y_assign rfl) ?_
            refine wl_nil ?_
            refine q_then ?_
            refine wc_ret ?_
            have hk' : k = (dig n).length := by omega
            subst hk'
            rw [List.take_length]
            have h9 : m + 1 + (dig n).length = m + (enc n).length := by rw [enc_len]; omega
            apply q_retg (res1 Try.results82 rfl) -- ret 1
            case hΨ =>
              first | exact ⟨rfl, rfl⟩ | exact rfl
            case hs =>
              first | (repeat (first | exact SubL.nil | refine SubL.consOwn rfl rfl ?_ | refine SubL.consBlk rfl ?_)); fail_if_success focus skip | repeat (first | exact SubL.nil | refine SubL.consOwn (by first | rfl | omega | (simp only [List.length_append, List.length_cons, List.length_nil]; omega) | (first | rfl | assumption | (simp; done))) (by first | rfl | (first | rfl | assumption | (simp; done))) ?_ | refine SubL.consBlk (by first | rfl | (first | rfl | assumption | (simp; done))) ?_ | refine SubL.consMap (by first | rfl | omega) (by first | rfl | (first | rfl | assumption | (simp; done))) ?_)
end Go.Proofs.Ytdgmkbjopcopcaa
