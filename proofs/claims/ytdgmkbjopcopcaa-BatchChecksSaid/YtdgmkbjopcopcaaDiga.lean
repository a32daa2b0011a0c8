/- Walks of layer 3 (digest), the small functions. Own work. -/
import Derived.Test.YtdgmkbjopcopcaaTy
import Derived.Test.YtdgmkbjopcopcaaEngh
import Derived.Test.YtdgmkbjopcopcaaPlb
set_option linter.unusedVariables false
set_option linter.unusedSimpArgs false
set_option maxRecDepth 100000
namespace Go.Proofs.Ytdgmkbjopcopcaa
open Go.RowKit

theorem and31 (P : Program) (a : Nat) (h0 : 0 < a) (h1 : a < 32) (w : World) : (Op.intBits .and .u64 (IntKind.u64.wrap (-(a : Int))) 31).run P w = .ok (.int .u64 ((32 - a : Nat) : Int)) w := by
  have e : IntKind.u64.wrap (-(a : Int)) = ((18446744073709551616 - a : Nat) : Int) := by
    simp only [IntKind.wrap, IntKind.bits, IntKind.signed]
    simp
    omega
  rw [e]
  have := bits_of (P := P) .u64 (18446744073709551616 - a) 31 .and _ rfl (by simp [IntKind.bits]; omega) (by decide) rfl w
  rw [show ((31 : Nat) : Int) = 31 from rfl] at this
  rw [this]
  congr 3
  rw [show (31 : Nat) = 2 ^ 5 - 1 from rfl, Nat.and_two_pow_sub_one_eq_mod]
  omega
theorem sub32 (a : Nat) (h0 : 0 < a) (h1 : a < 32) : (.int .u64 (IntKind.u64.wrap (32 - ((32 - a : Nat) : Int))) : Value) = .int .u64 (a : Int) := by
  congr 1
  simp only [IntKind.wrap, IntKind.bits, IntKind.signed]
  simp
  omega
theorem c_Rot (x : UInt32) (a : Nat) (h0 : 0 < a) (h1 : a < 32) (w : World) : Calls Try.prog 121 #[wv x, .int .i64 (-(a : Int))] w (RV w (wv (rr x a))) := by
  refine enter (N := 17) Try.func121 rfl Try.ntmps121 rfl (Has.nil _) ?_
  refine wc_seq ?_
  refine wc_region ?_
  refine wl_val rfl rfl rfl (y_assign rfl) ?_
  refine wl_nil ?_
  refine q_then ?_
  refine wc_seq ?_
  refine wc_region ?_
  refine wl_val rfl rfl rfl (y_move rfl) ?_
  refine wl_val rfl rfl rfl (y_conv Try.underlying3 Try.underlying77 rfl) ?_
  refine wl_val rfl rfl rfl (y_bits rfl rfl rfl (and31 _ a h0 h1)) ?_
  refine wl_val rfl rfl rfl (y_assign rfl) ?_
  refine wl_nil ?_
  refine q_then ?_
  refine wc_seq ?_
  refine wc_region ?_
  refine wl_val rfl rfl rfl (y_move rfl) ?_
  refine wl_val rfl rfl rfl (y_move rfl) ?_
  refine wl_val rfl rfl rfl (y_shlW rfl rfl (by omega)) ?_
  refine wl_val rfl rfl rfl (y_move rfl) ?_
  refine wl_val rfl rfl rfl (y_move rfl) ?_
  refine wl_val rfl rfl rfl (yl_is (y_sub rfl rfl) (sub32 a h0 h1)) ?_
  refine wl_val rfl rfl rfl (y_shrW rfl rfl (by omega)) ?_
  refine wl_val rfl rfl rfl (y_or_u32 rfl rfl) ?_
  refine wl_val rfl rfl rfl (y_assign rfl) ?_
  refine wl_nil ?_
  refine q_then ?_
  refine wc_ret ?_
  apply q_retg (res1 Try.results121 rfl) -- ret 0
  case hΨ =>
    exact ⟨by simp only [rr]; rw [UInt32.or_comm], rfl⟩
  case hs =>
    (repeat (first | exact SubL.nil | refine SubL.consOwn rfl rfl ?_ | refine SubL.consBlk rfl ?_)); fail_if_success focus skip
theorem c_turns (x : UInt32) (a b c : Nat) (ha : 0 < a ∧ a < 32) (hb : 0 < b ∧ b < 32) (hc : 0 < c ∧ c < 32) (w : World) : Calls Try.prog 118 #[wv x, .int .i64 (a : Int), .int .i64 (b : Int), .int .i64 (c : Int)] w (RV w (wv (turnW x a b c))) := by
  refine enter (N := 23) Try.func118 rfl Try.ntmps118 rfl (Has.nil _) ?_
  refine wc_seq ?_
  refine wc_region ?_
  refine wl_val rfl rfl rfl (y_assign rfl) ?_
  refine wl_nil ?_
  refine q_then ?_
  refine wc_seq ?_
  refine wc_region ?_
  refine wl_val rfl rfl rfl (y_move rfl) ?_
  refine wl_val rfl rfl rfl (y_move rfl) ?_
  refine wl_val rfl rfl rfl (y_negn rfl (by omega)) ?_
  (refine wl_ef rfl (ef_callv0 rfl fun121 rfl (fun _ hw => (c_Rot x _ (by omega) (by omega) _))) ?_; rintro _ _ ⟨rfl, rfl⟩)
  refine wl_val rfl rfl rfl (y_move rfl) ?_
  refine wl_val rfl rfl rfl (y_move rfl) ?_
  refine wl_val rfl rfl rfl (y_negn rfl (by omega)) ?_
  (refine wl_ef rfl (ef_callv0 rfl fun121 rfl (fun _ hw => (c_Rot x _ (by omega) (by omega) _))) ?_; rintro _ _ ⟨rfl, rfl⟩)
  refine wl_val rfl rfl rfl (y_xor_u32 rfl rfl) ?_
  refine wl_val rfl rfl rfl (y_move rfl) ?_
  refine wl_val rfl rfl rfl (y_move rfl) ?_
  refine wl_val rfl rfl rfl (y_negn rfl (by omega)) ?_
  (refine wl_ef rfl (ef_callv0 rfl fun121 rfl (fun _ hw => (c_Rot x _ (by omega) (by omega) _))) ?_; rintro _ _ ⟨rfl, rfl⟩)
  refine wl_val rfl rfl rfl (y_xor_u32 rfl rfl) ?_
  refine wl_val rfl rfl rfl (y_assign rfl) ?_
  refine wl_nil ?_
  refine q_then ?_
  refine wc_ret ?_
  apply q_retg (res1 Try.results118 rfl) -- ret 0
  case hΨ =>
    first | exact ⟨rfl, rfl⟩ | exact rfl
  case hs =>
    (repeat (first | exact SubL.nil | refine SubL.consOwn rfl rfl ?_ | refine SubL.consBlk rfl ?_)); fail_if_success focus skip
theorem c_mix (x : UInt32) (a b c : Nat) (ha : 0 < a ∧ a < 32) (hb : 0 < b ∧ b < 32) (hc : c < 32) (w : World) : Calls Try.prog 120 #[wv x, .int .i64 (a : Int), .int .i64 (b : Int), .int .i64 (c : Int)] w (RV w (wv (mixW x a b c))) := by
  refine enter (N := 22) Try.func120 rfl Try.ntmps120 rfl (Has.nil _) ?_
  refine wc_seq ?_
  refine wc_region ?_
  refine wl_val rfl rfl rfl (y_assign rfl) ?_
  refine wl_nil ?_
  refine q_then ?_
  refine wc_seq ?_
  refine wa_begin_all (n := 14) (b := #[false, false, false, false, false, false, false, false, false, false, false, false, false, false]) mixed rfl rfl ?_
  all_goals refine wa_take (i := 0) (listed' := #[true, false, false, false, false, false, false, false, false, false, false, false, false, false]) rfl (by kernel_rfl) (by kernel_rfl) (by kernel_rfl) (by (repeat (first | exact calm_body | refine calm_then ?_ | refine calm_block ?_))) rfl rfl rfl (by (repeat (first | exact SubL.nil | refine SubL.consOwn rfl rfl ?_ | refine SubL.consBlk rfl ?_ | refine SubL.consMap rfl rfl ?_)); fail_if_success focus skip) (y_move rfl) rfl ?_
  all_goals refine wa_take (i := 1) (listed' := #[true, true, false, false, false, false, false, false, false, false, false, false, false, false]) rfl (by kernel_rfl) (by kernel_rfl) (by kernel_rfl) (by (repeat (first | exact calm_body | refine calm_then ?_ | refine calm_block ?_))) rfl rfl rfl (by (repeat (first | exact SubL.nil | refine SubL.consOwn rfl rfl ?_ | refine SubL.consBlk rfl ?_ | refine SubL.consMap rfl rfl ?_)); fail_if_success focus skip) (y_move rfl) rfl ?_
  all_goals refine wa_take (i := 2) (listed' := #[true, true, true, false, false, false, false, false, false, false, false, false, false, false]) rfl (by kernel_rfl) (by kernel_rfl) (by kernel_rfl) (by (repeat (first | exact calm_body | refine calm_then ?_ | refine calm_block ?_))) rfl rfl rfl (by (repeat (first | exact SubL.nil | refine SubL.consOwn rfl rfl ?_ | refine SubL.consBlk rfl ?_ | refine SubL.consMap rfl rfl ?_)); fail_if_success focus skip) (y_negn rfl (by omega)) rfl ?_
  all_goals refine wa_take (i := 4) (listed' := #[true, true, true, false, true, false, false, false, false, false, false, false, false, false]) rfl (by kernel_rfl) (by kernel_rfl) (by kernel_rfl) (by (repeat (first | exact calm_body | refine calm_then ?_ | refine calm_block ?_))) rfl rfl rfl (by (repeat (first | exact SubL.nil | refine SubL.consOwn rfl rfl ?_ | refine SubL.consBlk rfl ?_ | refine SubL.consMap rfl rfl ?_)); fail_if_success focus skip) (y_move rfl) rfl ?_
  all_goals refine wa_take (i := 5) (listed' := #[true, true, true, false, true, true, false, false, false, false, false, false, false, false]) rfl (by kernel_rfl) (by kernel_rfl) (by kernel_rfl) (by (repeat (first | exact calm_body | refine calm_then ?_ | refine calm_block ?_))) rfl rfl rfl (by (repeat (first | exact SubL.nil | refine SubL.consOwn rfl rfl ?_ | refine SubL.consBlk rfl ?_ | refine SubL.consMap rfl rfl ?_)); fail_if_success focus skip) (y_move rfl) rfl ?_
  all_goals refine wa_take (i := 6) (listed' := #[true, true, true, false, true, true, true, false, false, false, false, false, false, false]) rfl (by kernel_rfl) (by kernel_rfl) (by kernel_rfl) (by (repeat (first | exact calm_body | refine calm_then ?_ | refine calm_block ?_))) rfl rfl rfl (by (repeat (first | exact SubL.nil | refine SubL.consOwn rfl rfl ?_ | refine SubL.consBlk rfl ?_ | refine SubL.consMap rfl rfl ?_)); fail_if_success focus skip) (y_negn rfl (by omega)) rfl ?_
  all_goals refine wa_take (i := 9) (listed' := #[true, true, true, false, true, true, true, false, false, true, false, false, false, false]) rfl (by kernel_rfl) (by kernel_rfl) (by kernel_rfl) (by (repeat (first | exact calm_body | refine calm_then ?_ | refine calm_block ?_))) rfl rfl rfl (by (repeat (first | exact SubL.nil | refine SubL.consOwn rfl rfl ?_ | refine SubL.consBlk rfl ?_ | refine SubL.consMap rfl rfl ?_)); fail_if_success focus skip) (y_move rfl) rfl ?_
  all_goals refine wa_take (i := 10) (listed' := #[true, true, true, false, true, true, true, false, false, true, true, false, false, false]) rfl (by kernel_rfl) (by kernel_rfl) (by kernel_rfl) (by (repeat (first | exact calm_body | refine calm_then ?_ | refine calm_block ?_))) rfl rfl rfl (by (repeat (first | exact SubL.nil | refine SubL.consOwn rfl rfl ?_ | refine SubL.consBlk rfl ?_ | refine SubL.consMap rfl rfl ?_)); fail_if_success focus skip) (y_move rfl) rfl ?_
  all_goals refine wa_take (i := 11) (listed' := #[true, true, true, false, true, true, true, false, false, true, true, true, false, false]) rfl (by kernel_rfl) (by kernel_rfl) (by kernel_rfl) (by (repeat (first | exact calm_body | refine calm_then ?_ | refine calm_block ?_))) rfl rfl rfl (by (repeat (first | exact SubL.nil | refine SubL.consOwn rfl rfl ?_ | refine SubL.consBlk rfl ?_ | refine SubL.consMap rfl rfl ?_)); fail_if_success focus skip) (y_shrW rfl rfl (by omega)) rfl ?_
  all_goals (refine wa_ef (i := 3) (listed' := #[true, true, true, true, true, true, true, false, false, true, true, true, false, false]) (by kernel_rfl) rfl rfl rfl (ef_callv0 rfl fun121 rfl (fun _ hw => (c_Rot x _ (by omega) (by omega) _))) ?_; rintro _ _ ⟨rfl, rfl⟩; refine ⟨.inr (by (repeat (first | exact SubL.nil | refine SubL.consOwn rfl rfl ?_ | refine SubL.consBlk rfl ?_ | refine SubL.consMap rfl rfl ?_)); fail_if_success focus skip), ?_⟩)
  all_goals (refine wa_ef (i := 7) (listed' := #[true, true, true, true, true, true, true, true, false, true, true, true, false, false]) (by kernel_rfl) rfl rfl rfl (ef_callv0 rfl fun121 rfl (fun _ hw => (c_Rot x _ (by omega) (by omega) _))) ?_; rintro _ _ ⟨rfl, rfl⟩; refine ⟨.inr (by (repeat (first | exact SubL.nil | refine SubL.consOwn rfl rfl ?_ | refine SubL.consBlk rfl ?_ | refine SubL.consMap rfl rfl ?_)); fail_if_success focus skip), ?_⟩)
  all_goals refine wa_take (i := 8) (listed' := #[true, true, true, true, true, true, true, true, true, true, true, true, false, false]) rfl (by kernel_rfl) (by kernel_rfl) (by kernel_rfl) (by (repeat (first | exact calm_body | refine calm_then ?_ | refine calm_block ?_))) rfl rfl rfl (by (repeat (first | exact SubL.nil | refine SubL.consOwn rfl rfl ?_ | refine SubL.consBlk rfl ?_ | refine SubL.consMap rfl rfl ?_)); fail_if_success focus skip) (y_xor_u32 rfl rfl) rfl ?_
  all_goals refine wa_take (i := 12) (listed' := #[true, true, true, true, true, true, true, true, true, true, true, true, true, false]) rfl (by kernel_rfl) (by kernel_rfl) (by kernel_rfl) (by (repeat (first | exact calm_body | refine calm_then ?_ | refine calm_block ?_))) rfl rfl rfl (by (repeat (first | exact SubL.nil | refine SubL.consOwn rfl rfl ?_ | refine SubL.consBlk rfl ?_ | refine SubL.consMap rfl rfl ?_)); fail_if_success focus skip) (y_xor_u32 rfl rfl) rfl ?_
  all_goals refine wa_take (i := 13) (listed' := #[true, true, true, true, true, true, true, true, true, true, true, true, true, true]) rfl (by kernel_rfl) (by kernel_rfl) (by kernel_rfl) (by (repeat (first | exact calm_body | refine calm_then ?_ | refine calm_block ?_))) rfl rfl rfl (by (repeat (first | exact SubL.nil | refine SubL.consOwn rfl rfl ?_ | refine SubL.consBlk rfl ?_ | refine SubL.consMap rfl rfl ?_)); fail_if_success focus skip) (y_assign rfl) rfl ?_
  all_goals refine wa_done (by kernel_rfl) ?_
  refine q_then ?_
  refine wc_ret ?_
  apply q_retg (res1 Try.results120 rfl) -- ret 0
  case hΨ =>
    first | exact ⟨rfl, rfl⟩ | exact rfl
  case hs =>
    (repeat (first | exact SubL.nil | refine SubL.consOwn rfl rfl ?_ | refine SubL.consBlk rfl ?_)); fail_if_success focus skip
theorem c_ror (x : UInt32) (n : Nat) (h0 : 0 < n) (h1 : n < 32) (w : World) : Calls Try.prog 113 #[wv x, .int .i64 (n : Int)] w (RV w (wv (rr x n))) := by
  refine enter (N := 13) Try.func113 rfl Try.ntmps113 rfl (Has.nil _) ?_
  refine wc_seq ?_
  refine wc_region ?_
  refine wl_val rfl rfl rfl (y_assign rfl) ?_
  refine wl_nil ?_
  refine q_then ?_
  refine wc_seq ?_
  refine wa_begin_all (n := 9) (b := #[false, false, false, false, false, false, false, false, false]) mixed rfl rfl ?_
  all_goals refine wa_take (i := 0) (listed' := #[true, false, false, false, false, false, false, false, false]) rfl (by kernel_rfl) (by kernel_rfl) (by kernel_rfl) (by (repeat (first | exact calm_body | refine calm_then ?_ | refine calm_block ?_))) rfl rfl rfl (by (repeat (first | exact SubL.nil | refine SubL.consOwn rfl rfl ?_ | refine SubL.consBlk rfl ?_ | refine SubL.consMap rfl rfl ?_)); fail_if_success focus skip) (y_move rfl) rfl ?_
  all_goals refine wa_take (i := 1) (listed' := #[true, true, false, false, false, false, false, false, false]) rfl (by kernel_rfl) (by kernel_rfl) (by kernel_rfl) (by (repeat (first | exact calm_body | refine calm_then ?_ | refine calm_block ?_))) rfl rfl rfl (by (repeat (first | exact SubL.nil | refine SubL.consOwn rfl rfl ?_ | refine SubL.consBlk rfl ?_ | refine SubL.consMap rfl rfl ?_)); fail_if_success focus skip) (y_move rfl) rfl ?_
  all_goals refine wa_take (i := 2) (listed' := #[true, true, true, false, false, false, false, false, false]) rfl (by kernel_rfl) (by kernel_rfl) (by kernel_rfl) (by (repeat (first | exact calm_body | refine calm_then ?_ | refine calm_block ?_))) rfl rfl rfl (by (repeat (first | exact SubL.nil | refine SubL.consOwn rfl rfl ?_ | refine SubL.consBlk rfl ?_ | refine SubL.consMap rfl rfl ?_)); fail_if_success focus skip) (y_shrW rfl rfl (by omega)) rfl ?_
  all_goals refine wa_take (i := 3) (listed' := #[true, true, true, true, false, false, false, false, false]) rfl (by kernel_rfl) (by kernel_rfl) (by kernel_rfl) (by (repeat (first | exact calm_body | refine calm_then ?_ | refine calm_block ?_))) rfl rfl rfl (by (repeat (first | exact SubL.nil | refine SubL.consOwn rfl rfl ?_ | refine SubL.consBlk rfl ?_ | refine SubL.consMap rfl rfl ?_)); fail_if_success focus skip) (y_move rfl) rfl ?_
  all_goals refine wa_take (i := 4) (listed' := #[true, true, true, true, true, false, false, false, false]) rfl (by kernel_rfl) (by kernel_rfl) (by kernel_rfl) (by (repeat (first | exact calm_body | refine calm_then ?_ | refine calm_block ?_))) rfl rfl rfl (by (repeat (first | exact SubL.nil | refine SubL.consOwn rfl rfl ?_ | refine SubL.consBlk rfl ?_ | refine SubL.consMap rfl rfl ?_)); fail_if_success focus skip) (y_move rfl) rfl ?_
  all_goals refine wa_take (i := 5) (listed' := #[true, true, true, true, true, true, false, false, false]) rfl (by kernel_rfl) (by kernel_rfl) (by kernel_rfl) (by (repeat (first | exact calm_body | refine calm_then ?_ | refine calm_block ?_))) rfl rfl rfl (by (repeat (first | exact SubL.nil | refine SubL.consOwn rfl rfl ?_ | refine SubL.consBlk rfl ?_ | refine SubL.consMap rfl rfl ?_)); fail_if_success focus skip) (yl_is (v := .int .i64 ((32 - n : Nat) : Int)) (y_subn rfl rfl (by omega)) (by congr 1; omega)) rfl ?_
  all_goals refine wa_take (i := 6) (listed' := #[true, true, true, true, true, true, true, false, false]) rfl (by kernel_rfl) (by kernel_rfl) (by kernel_rfl) (by (repeat (first | exact calm_body | refine calm_then ?_ | refine calm_block ?_))) rfl rfl rfl (by (repeat (first | exact SubL.nil | refine SubL.consOwn rfl rfl ?_ | refine SubL.consBlk rfl ?_ | refine SubL.consMap rfl rfl ?_)); fail_if_success focus skip) (y_shlW rfl rfl (by omega)) rfl ?_
  all_goals refine wa_take (i := 7) (listed' := #[true, true, true, true, true, true, true, true, false]) rfl (by kernel_rfl) (by kernel_rfl) (by kernel_rfl) (by (repeat (first | exact calm_body | refine calm_then ?_ | refine calm_block ?_))) rfl rfl rfl (by (repeat (first | exact SubL.nil | refine SubL.consOwn rfl rfl ?_ | refine SubL.consBlk rfl ?_ | refine SubL.consMap rfl rfl ?_)); fail_if_success focus skip) (y_or_u32 rfl rfl) rfl ?_
  all_goals refine wa_take (i := 8) (listed' := #[true, true, true, true, true, true, true, true, true]) rfl (by kernel_rfl) (by kernel_rfl) (by kernel_rfl) (by (repeat (first | exact calm_body | refine calm_then ?_ | refine calm_block ?_))) rfl rfl rfl (by (repeat (first | exact SubL.nil | refine SubL.consOwn rfl rfl ?_ | refine SubL.consBlk rfl ?_ | refine SubL.consMap rfl rfl ?_)); fail_if_success focus skip) (y_assign rfl) rfl ?_
  all_goals refine wa_done (by kernel_rfl) ?_
  refine q_then ?_
  refine wc_ret ?_
  apply q_retg (res1 Try.results113 rfl) -- ret 0
  case hΨ =>
    first | exact ⟨rfl, rfl⟩ | exact rfl
  case hs =>
    (repeat (first | exact SubL.nil | refine SubL.consOwn rfl rfl ?_ | refine SubL.consBlk rfl ?_)); fail_if_success focus skip
end Go.Proofs.Ytdgmkbjopcopcaa
