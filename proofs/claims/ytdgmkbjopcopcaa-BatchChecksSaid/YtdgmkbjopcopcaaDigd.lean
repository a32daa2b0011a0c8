/- Walks of layer 3 (digest): the program's stream. Own work. -/
import Derived.Test.YtdgmkbjopcopcaaDigc
import Derived.Test.YtdgmkbjopcopcaaPlc
set_option linter.unusedVariables false
set_option linter.unusedSimpArgs false
set_option maxRecDepth 100000
set_option maxHeartbeats 8000000
namespace Go.Proofs.Ytdgmkbjopcopcaa
open Go.RowKit

theorem RdI.cut {w : World} {M : List Nat} {v : Value} {sz n l h : Nat} {xs : List Value} (hr : RdI w M v sz n xs) (h1 : l ≤ h) (h2 : h ≤ n) : RdI w M (cutv v l h sz) sz (h - l) ((xs.drop (l * sz)).take ((h - l) * sz)) := by
  refine ⟨hr.rd.cut h1 h2, fun ad k c hv hp => ?_⟩
  obtain ⟨A, cap, rfl, h3, h4, h5, h6⟩ := hr.rd.form
  cases A with
  | none =>
    simp only [cutv] at hv
    injection hv with e1 e2 e3
    split at e1 <;> simp at e1
  | some a =>
    have hb : ad.block = a.block := by
      simp only [cutv] at hv
      injection hv with e1 e2 e3
      split at e1
      · simp at e1; rw [e1]
      · simp at e1
        rw [← e1]
        unfold Addr.add; split <;> rfl
    rw [hb]
    exact hr.apart a n cap rfl (by simp at hp; omega)
theorem bvs_drop (l : List UInt8) (n : Nat) : (bvs l).drop n = bvs (l.drop n) := by simp [bvs]
theorem bvs_take (l : List UInt8) (n : Nat) : (bvs l).take n = bvs (l.take n) := by simp [bvs]
/-- the rest of a slice of bytes -/
theorem RdI.rest {w : World} {M : List Nat} {v : Value} {us : List UInt8} {k : Nat} (hr : RdI w M v 1 us.length (bvs us)) (h1 : k ≤ us.length) : RdI w M (cutv v k us.length 1) 1 (us.drop k).length (bvs (us.drop k)) := by
  have := hr.cut (l := k) (h := us.length) h1 (Nat.le_refl _)
  simp only [Nat.mul_one] at this
  rw [bvs_drop, List.take_of_length_le (by rw [bvs_len]; simp)] at this
  rw [List.length_drop]
  exact this
theorem strm_n {st : S8} {wt : List UInt8} {n : Nat} (h : wt.length = 64) : (strm st wt n)[72]? = some (.int .i64 (n : Int)) := by
  have e : (st.list.map wv).length = 8 := rfl
  rw [strm, List.getElem?_append_right (by omega), e, List.getElem?_append_right (by rw [bvs_len]; omega), bvs_len, h]
  rfl
theorem strm_len {st : S8} {wt : List UInt8} {n : Nat} (h : wt.length = 64) : (strm st wt n).length = 73 := by
  have e : (st.list.map wv).length = 8 := rfl
  rw [strm, List.length_append, e, List.length_append, bvs_len, h]
  rfl
theorem strm_set {st : S8} {wt : List UInt8} {n m : Nat} (h : wt.length = 64) : (strm st wt n).set 72 (.int .i64 (m : Int)) = strm st wt m := by
  have e : (st.list.map wv).length = 8 := rfl
  rw [strm, List.set_append_right _ _ (by omega), e, List.set_append_right _ _ (by rw [bvs_len]; omega), bvs_len, h]
  rfl
theorem strm_put {st : S8} {wt us : List UInt8} {n i : Nat} (h : wt.length = 64) (hi : i + us.length ≤ 64) : splice (strm st wt n) (8 + i * 1) (bvs us) = strm st (putAt wt i us) n := by
  have e : (st.list.map wv).length = 8 := rfl
  have eu := bvs_len us
  have ew := bvs_len wt
  rw [Nat.mul_one, splice, strm, strm]
  rw [List.take_append, e, List.take_of_length_le (by omega), Nat.add_sub_cancel_left, List.take_append_of_le_length (by omega)]
  rw [List.drop_append, e, List.drop_eq_nil_of_le (by omega), List.nil_append, show 8 + i + (bvs us).length - 8 = i + us.length from by omega, List.drop_append_of_le_length (by omega)]
  unfold putAt
  simp [bvs]
theorem rem64 (n : Nat) : (.int .i64 ((n : Int) % 64) : Value) = .int .i64 ((n % 64 : Nat) : Int) := by
  congr 1
/-- A stream that has taken L. -/
def StrAt (w : World) (s : Nat) (wt L : List UInt8) : Prop := w.heap[s]? = some (.cells (strm (sst L) wt L.length).toArray 180 (0, 0))
theorem c_write (s : Nat) (wt L us : List UInt8) (v : Value) (hi : Inv wt L) (hn : L.length + us.length ≤ 1000000000000000000) (w : World) (hs : StrAt w s wt L) (hv : RdI w [s] v 1 us.length (bvs us)) :
    Calls Try.prog 104 #[.pointer (some ⟨s, 0, none⟩), v] w (RP [s] w (fun r L' => ∃ wt', Inv wt' (L ++ us) ∧ r = .tuple #[] ∧ L' = [.blk s (strm (sst (L ++ us)) wt' (L ++ us).length) 180 (0, 0)])) := by
  refine enter (N := 38) Try.func104 rfl Try.ntmps104 rfl (Has.one hs) ?_
  refine wc_block ?_
  refine wc_loop4 (X0 := List UInt8) (X1 := List UInt8) (X2 := Value) (X3 := List UInt8) (fun K r u t => [(0, .pointer (some ⟨s, 0, none⟩)), (1, u)]) (fun K r u t => [.blk s (strm (sst K) t K.length) 180 (0, 0)]) (fun K r u t => L ++ us = K ++ r ∧ RdI w [s] u 1 r.length (bvs r) ∧ Inv t K) (fun K r u t => r.length) (L) (us) (v) (wt) ?_ ?_ ?_ ?_
  · exact ⟨rfl, hv, hi⟩
  · repeat (first | exact SubE.nil | refine SubE.cons rfl ?_ | refine SubE.cons (lk_int rfl (by omega)) ?_ | refine SubE.cons (lk_int rfl (by rfl)) ?_ | refine SubE.cons (lk_eq rfl (by rfl)) ?_)
  · (repeat (first | exact SubL.nil | refine SubL.consOwn rfl rfl ?_ | refine SubL.consBlk rfl ?_)); fail_if_success focus skip
  · skip
    rintro K r u t ⟨hK, hu, hI⟩
    have h64 := hI.1
    have hsn := strm_n (st := sst K) (n := K.length) h64
    have hln : K.length + r.length ≤ 1000000000000000000 := by have := congrArg List.length hK; simp at this; omega
    refine wc_seq ?_
    refine wc_seq ?_
    refine wc_region ?_
    refine wl_val rfl rfl rfl (y_move rfl) ?_
    refine wl_val rfl rfl rfl (y_lenRd Try.underlying99 rfl (by first | exact rd_own | exact rd_in (by assumption) | assumption)) ?_
    refine wl_val rfl rfl rfl (y_gtr rfl rfl) ?_
    refine wl_nil ?_
    refine q_then ?_
    refine wc_cond rfl (fun hc0 => ?_) (fun hc0 => ?_)
    · first
      | ((exfalso; (first | with_reducible contradiction | omega | (simp at hc0; done))))
      | skip
        refine wc_skip ?_
        refine q_then ?_
        refine wc_block ?_
        refine wc_seq ?_
        refine wa_begin_all (n := 12) (b := #[false, false, false, false, false, false, false, false, false, false, false, false]) mixed rfl rfl ?_
        all_goals refine wa_take (i := 0) (listed' := #[true, false, false, false, false, false, false, false, false, false, false, false]) rfl (by kernel_rfl) (by kernel_rfl) (by kernel_rfl) (by (repeat (first | exact calm_body | refine calm_then ?_ | refine calm_block ?_))) rfl rfl rfl (by (repeat (first | exact SubL.nil | refine SubL.consOwn rfl rfl ?_ | refine SubL.consBlk rfl ?_ | refine SubL.consMap rfl rfl ?_)); fail_if_success focus skip) (y_move rfl) rfl ?_
        all_goals refine wa_take (i := 1) (listed' := #[true, true, false, false, false, false, false, false, false, false, false, false]) rfl (by kernel_rfl) (by kernel_rfl) (by kernel_rfl) (by (repeat (first | exact calm_body | refine calm_then ?_ | refine calm_block ?_))) rfl rfl rfl (by (repeat (first | exact SubL.nil | refine SubL.consOwn rfl rfl ?_ | refine SubL.consBlk rfl ?_ | refine SubL.consMap rfl rfl ?_)); fail_if_success focus skip) (y_nilCheck rfl) rfl ?_
        all_goals refine wa_take (i := 2) (listed' := #[true, true, true, false, false, false, false, false, false, false, false, false]) rfl (by kernel_rfl) (by kernel_rfl) (by kernel_rfl) (by (repeat (first | exact calm_body | refine calm_then ?_ | refine calm_block ?_))) rfl rfl rfl (by (repeat (first | exact SubL.nil | refine SubL.consOwn rfl rfl ?_ | refine SubL.consBlk rfl ?_ | refine SubL.consMap rfl rfl ?_)); fail_if_success focus skip) (y_field0 fa180_1 rfl) rfl ?_
        all_goals refine wa_take (i := 3) (listed' := #[true, true, true, true, false, false, false, false, false, false, false, false]) rfl (by kernel_rfl) (by kernel_rfl) (by kernel_rfl) (by (repeat (first | exact calm_body | refine calm_then ?_ | refine calm_block ?_))) rfl rfl rfl (by (repeat (first | exact SubL.nil | refine SubL.consOwn rfl rfl ?_ | refine SubL.consBlk rfl ?_ | refine SubL.consMap rfl rfl ?_)); fail_if_success focus skip) (y_move rfl) rfl ?_
        all_goals refine wa_take (i := 4) (listed' := #[true, true, true, true, true, false, false, false, false, false, false, false]) rfl (by kernel_rfl) (by kernel_rfl) (by kernel_rfl) (by (repeat (first | exact calm_body | refine calm_then ?_ | refine calm_block ?_))) rfl rfl rfl (by (repeat (first | exact SubL.nil | refine SubL.consOwn rfl rfl ?_ | refine SubL.consBlk rfl ?_ | refine SubL.consMap rfl rfl ?_)); fail_if_success focus skip) (y_nilCheck rfl) rfl ?_
        all_goals refine wa_take (i := 5) (listed' := #[true, true, true, true, true, true, false, false, false, false, false, false]) rfl (by kernel_rfl) (by kernel_rfl) (by kernel_rfl) (by (repeat (first | exact calm_body | refine calm_then ?_ | refine calm_block ?_))) rfl rfl rfl (by (repeat (first | exact SubL.nil | refine SubL.consOwn rfl rfl ?_ | refine SubL.consBlk rfl ?_ | refine SubL.consMap rfl rfl ?_)); fail_if_success focus skip) (y_field0 fa180_2 rfl) rfl ?_
        all_goals first | refine wa_take (i := 6) (listed' := #[true, true, true, true, true, true, true, false, false, false, false, false]) rfl (by kernel_rfl) (by kernel_rfl) (by kernel_rfl) (by (repeat (first | exact calm_body | refine calm_then ?_ | refine calm_block ?_))) rfl rfl rfl (by (repeat (first | exact SubL.nil | refine SubL.consOwn rfl rfl ?_ | refine SubL.consBlk rfl ?_ | refine SubL.consMap rfl rfl ?_)); fail_if_success focus skip) (y_load one3 rfl (by rfl)) rfl ?_ | refine wa_take (i := 6) (listed' := #[true, true, true, true, true, true, true, false, false, false, false, false]) rfl (by kernel_rfl) (by kernel_rfl) (by kernel_rfl) (by (repeat (first | exact calm_body | refine calm_then ?_ | refine calm_block ?_))) rfl rfl rfl (by (repeat (first | exact SubL.nil | refine SubL.consOwn rfl rfl ?_ | refine SubL.consBlk rfl ?_ | refine SubL.consMap rfl rfl ?_)); fail_if_success focus skip) (y_load one3 rfl (by first | assumption | ((repeat (first | exact at_here | apply at_skip | apply at_over (by first | rfl | assumption | (simp; done) | (simp [*]; done)) rfl)); fail_if_success focus skip) | simp)) rfl ?_
        all_goals refine wa_take (i := 7) (listed' := #[true, true, true, true, true, true, true, true, false, false, false, false]) rfl (by kernel_rfl) (by kernel_rfl) (by kernel_rfl) (by (repeat (first | exact calm_body | refine calm_then ?_ | refine calm_block ?_))) rfl rfl rfl (by (repeat (first | exact SubL.nil | refine SubL.consOwn rfl rfl ?_ | refine SubL.consBlk rfl ?_ | refine SubL.consMap rfl rfl ?_)); fail_if_success focus skip) (yl_is (y_remn rfl rfl (by omega) (by omega)) (rem64 _)) rfl ?_
        all_goals refine wa_take (i := 8) (listed' := #[true, true, true, true, true, true, true, true, true, false, false, false]) rfl (by kernel_rfl) (by kernel_rfl) (by kernel_rfl) (by (repeat (first | exact calm_body | refine calm_then ?_ | refine calm_block ?_))) rfl rfl rfl (by (repeat (first | exact SubL.nil | refine SubL.consOwn rfl rfl ?_ | refine SubL.consBlk rfl ?_ | refine SubL.consMap rfl rfl ?_)); fail_if_success focus skip) (y_sliceA Try.underlying177 siz5 rfl (.inr ⟨_, _, rfl, rfl⟩) (.inl ⟨rfl, rfl⟩) (by omega) (by omega) (by omega)) rfl ?_
        all_goals refine wa_take (i := 9) (listed' := #[true, true, true, true, true, true, true, true, true, true, false, false]) rfl (by kernel_rfl) (by kernel_rfl) (by kernel_rfl) (by (repeat (first | exact calm_body | refine calm_then ?_ | refine calm_block ?_))) rfl rfl rfl (by (repeat (first | exact SubL.nil | refine SubL.consOwn rfl rfl ?_ | refine SubL.consBlk rfl ?_ | refine SubL.consMap rfl rfl ?_)); fail_if_success focus skip) (y_move rfl) rfl ?_
        all_goals (refine wa_ef (i := 10) (listed' := #[true, true, true, true, true, true, true, true, true, true, true, false]) (by kernel_rfl) rfl rfl rfl (ef_copyB rfl Try.underlying99 siz5 rfl rfl (rd_in hu) (bvs_one _) rfl (by rw [strm_len h64]; omega)) ?_; rintro _ _ ⟨rfl, rfl⟩; refine ⟨.inl (by kernel_rfl), ?_⟩)
        rw [bvs_take, strm_put h64 (by simp; omega)]
        obtain ⟨m, hm⟩ : ∃ m, m = min r.length (64 - K.length % 64) := ⟨_, rfl⟩
        obtain ⟨q, hq⟩ : ∃ q, q = putAt t (K.length % 64) (r.take m) := ⟨_, rfl⟩
        rw [← hm, ← hq]
        have hql : q.length = 64 := by rw [hq, putAt_len (by simp; omega), h64]
        have hsn2 := strm_n (st := sst K) (n := K.length) hql
        all_goals first | refine wa_take (i := 11) (listed' := #[true, true, true, true, true, true, true, true, true, true, true, true]) rfl (by kernel_rfl) (by kernel_rfl) (by kernel_rfl) (by (repeat (first | exact calm_body | refine calm_then ?_ | refine calm_block ?_))) rfl rfl rfl (by (repeat (first | exact SubL.nil | refine SubL.consOwn rfl rfl ?_ | refine SubL.consBlk rfl ?_ | refine SubL.consMap rfl rfl ?_)); fail_if_success focus skip) (y_assign rfl) rfl ?_ | (refine wa_ef (i := 11) (listed' := #[true, true, true, true, true, true, true, true, true, true, true, true]) (by kernel_rfl) rfl rfl rfl (ef_of_yl rfl rfl (y_assign rfl)) ?_; rintro _ _ ⟨rfl, rfl⟩; refine ⟨.inl (by kernel_rfl), ?_⟩)
        all_goals refine wa_done (by kernel_rfl) ?_
        refine q_then ?_
        refine wc_seq ?_
        refine wc_region ?_
        refine wl_val rfl rfl rfl (y_move rfl) ?_
        refine wl_val rfl rfl rfl (y_nilCheck rfl) ?_
        refine wl_val rfl rfl rfl (y_field0 fa180_2 rfl) ?_
        first | refine wl_val rfl rfl rfl (y_load one3 rfl (by rfl)) ?_ | refine wl_val rfl rfl rfl (y_load one3 rfl (by first | assumption | ((repeat (first | exact at_here | apply at_skip | apply at_over (by first | rfl | assumption | (simp; done) | (simp [*]; done)) rfl)); fail_if_success focus skip) | simp)) ?_
        refine wl_val rfl rfl rfl (y_move rfl) ?_
        refine wl_val rfl rfl rfl (y_addn rfl rfl (by omega)) ?_
        refine wl_val rfl rfl rfl (y_nilCheck rfl) ?_
        refine wl_val rfl rfl rfl (y_field0 fa180_2 rfl) ?_
        (refine wl_ef rfl (ef_store siz3 rfl rfl rfl (by rw [strm_len hql]; omega)) ?_; rintro _ _ ⟨rfl, rfl⟩)
        rw [show (K.length : Int) + (m : Int) = ((K.length + m : Nat) : Int) from by omega, strm_set hql]
        have hsn3 := strm_n (st := sst K) (n := K.length + m) hql
        refine wl_nil ?_
        refine q_then ?_
        refine wc_seq ?_
        refine wc_region ?_
        refine wl_val rfl rfl rfl (y_move rfl) ?_
        refine wl_val rfl rfl rfl (y_move rfl) ?_
        refine wl_val rfl rfl rfl (y_sliceS Try.underlying99 siz5 rfl (by first | exact rd_own | exact rd_in (by assumption) | assumption) (.inr ⟨_, _, rfl, rfl⟩) (.inl ⟨rfl, rfl⟩) (by omega) (by omega)) ?_
        refine wl_val rfl rfl rfl (y_assign rfl) ?_
        refine wl_nil ?_
        refine q_then ?_
        refine wc_seq ?_
        have hl' : (K ++ r.take m).length = K.length + m := by simp; omega
        have hr0 : 0 < r.length := by omega
        have hle : (r.take m).length = m := by simp; omega
        refine wc_region ?_
        refine wl_val rfl rfl rfl (y_move rfl) ?_
        refine wl_val rfl rfl rfl (y_nilCheck rfl) ?_
        refine wl_val rfl rfl rfl (y_field0 fa180_2 rfl) ?_
        first | refine wl_val rfl rfl rfl (y_load one3 rfl (by rfl)) ?_ | refine wl_val rfl rfl rfl (y_load one3 rfl (by first | assumption | ((repeat (first | exact at_here | apply at_skip | apply at_over (by first | rfl | assumption | (simp; done) | (simp [*]; done)) rfl)); fail_if_success focus skip) | simp)) ?_
        refine wl_val rfl rfl rfl (y_remn rfl rfl (by omega) (by omega)) ?_
        refine wl_val rfl rfl rfl (y_eql rfl rfl) ?_
        refine wl_nil ?_
        refine q_then ?_
        refine wc_cond rfl (fun hc1 => ?_) (fun hc1 => ?_)
        · first
          | ((exfalso; (first | with_reducible contradiction | omega | (simp at hc1; done))))
          | skip
            have hf := inv_full (us := r.take m) hI (by omega)
            rw [← hq] at hf
            obtain ⟨hI', hst⟩ := hf
            refine wc_region ?_
            refine wl_val rfl rfl rfl (y_move rfl) ?_
            (refine wl_ef rfl (ef_call1b rfl fun116 rfl (fun _ hw => (c_block s _ _ _ hql _ (blk_at hw)))) ?_; rintro _ _ ⟨rfl, rfl⟩)
            refine wl_nil ?_
            refine q_blockNormal ?_
            refine q_again4 (K ++ r.take m) (r.drop m) (cutv u m r.length 1) (q) ?_ ?_ ?_ ?_
            · refine ⟨?_, hu.rest (by omega), hI'⟩; rw [hK, List.append_assoc, List.take_append_drop]
            · simp; omega
            · repeat (first | exact SubE.nil | refine SubE.cons rfl ?_ | refine SubE.cons (lk_int rfl (by omega)) ?_ | refine SubE.cons (lk_int rfl (by rfl)) ?_ | refine SubE.cons (lk_eq rfl (by rfl)) ?_)
            · first | (repeat (first | exact SubL.nil | refine SubL.consOwn rfl rfl ?_ | refine SubL.consBlk rfl ?_)); fail_if_success focus skip | repeat (first | exact SubL.nil | refine SubL.consOwn (by first | rfl | omega | (simp only [List.length_append, List.length_cons, List.length_nil]; omega) | (rw [hl', hst])) (by first | rfl | (rw [hl', hst])) ?_ | refine SubL.consBlk (by first | rfl | (rw [hl', hst])) ?_ | refine SubL.consMap (by first | rfl | omega) (by first | rfl | (rw [hl', hst])) ?_)
        · first
          | ((exfalso; (first | with_reducible contradiction | omega | (simp at hc1; done))))
          | skip
            have hf := inv_less (us := r.take m) hI (by omega)
            rw [← hq] at hf
            obtain ⟨hI', hst⟩ := hf
            refine wc_skip ?_
            refine q_blockNormal ?_
            refine q_again4 (K ++ r.take m) (r.drop m) (cutv u m r.length 1) (q) ?_ ?_ ?_ ?_
            · refine ⟨?_, hu.rest (by omega), hI'⟩; rw [hK, List.append_assoc, List.take_append_drop]
            · simp; omega
            · repeat (first | exact SubE.nil | refine SubE.cons rfl ?_ | refine SubE.cons (lk_int rfl (by omega)) ?_ | refine SubE.cons (lk_int rfl (by rfl)) ?_ | refine SubE.cons (lk_eq rfl (by rfl)) ?_)
            · first | (repeat (first | exact SubL.nil | refine SubL.consOwn rfl rfl ?_ | refine SubL.consBlk rfl ?_)); fail_if_success focus skip | repeat (first | exact SubL.nil | refine SubL.consOwn (by first | rfl | omega | (simp only [List.length_append, List.length_cons, List.length_nil]; omega) | (rw [hl', hst])) (by first | rfl | (rw [hl', hst])) ?_ | refine SubL.consBlk (by first | rfl | (rw [hl', hst])) ?_ | refine SubL.consMap (by first | rfl | omega) (by first | rfl | (rw [hl', hst])) ?_)
    · first
      | ((exfalso; (first | with_reducible contradiction | omega | (simp at hc0; done))))
      | skip
        refine wc_exit ?_
        refine q_thenExit ?_
        refine q_thenExit ?_
        refine q_blockExit ?_
        obtain rfl : r = [] := List.eq_nil_of_length_eq_zero (by omega)
        rw [List.append_nil] at hK
        subst hK
        apply q_endg (res0 Try.results104) -- ret end
        case hΨ =>
          exact ⟨_, hI, rfl, rfl⟩
        case hs =>
          (repeat (first | exact SubL.nil | refine SubL.consOwn rfl rfl ?_ | refine SubL.consBlk rfl ?_)); fail_if_success focus skip
end Go.Proofs.Ytdgmkbjopcopcaa
