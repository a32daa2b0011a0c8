/- Walks of layer 6 (request): Put. Own work. -/
import Derived.Test.YtdgmkbjopcopcaaTalb
import Derived.Test.YtdgmkbjopcopcaaDigf
set_option linter.unusedVariables false
set_option linter.unusedSimpArgs false
set_option maxRecDepth 100000
set_option maxHeartbeats 8000000
namespace Go.Proofs.Ytdgmkbjopcopcaa
open Go.RowKit

/-- a request -/
structure Req where
  client : Int
  num : Int
  data : ByteArray
  tag : List UInt8
/-- it fits its types, and its data are not more than m bytes -/
structure Req.ok (r : Req) (m : Nat) : Prop where
  tag : r.tag.length = 16
  client : r.client ≤ 9223372036854775807
  num : r.num ≤ 9223372036854775807
  data : r.data.size ≤ m
def reqc (r : Req) : List Value := [.int .i64 r.client, .int .i64 r.num, .string r.data] ++ bvs r.tag
theorem reqc_tag (r : Req) (j : Nat) : (reqc r)[3 + j]? = (bvs r.tag)[j]? := by
  rw [reqc, List.getElem?_append_right (by simp)]
  congr 1
  simp
def putReq (r : Req) : List UInt8 := ((encI r.client ++ encI r.num) ++ encT r.data.data.toList) ++ r.tag
theorem encT_len {l : List UInt8} (h : l.length ≤ 9223372036854775807) : (encT l).length ≤ l.length + 9 := by
  have := encI_len (n := (l.length : Int)) (by omega)
  rw [encI_nat] at this
  simp [encT]; omega
theorem putReq_len {r : Req} {m : Nat} (h : r.ok m) (hm : m ≤ 10000000000) : (putReq r).length ≤ m + 43 := by
  have h1 := encI_len h.client
  have h2 := encI_len h.num
  have h3 := encT_len (l := r.data.data.toList) (by have := h.data; simp; omega)
  have h4 := h.data
  have h5 := h.tag
  simp only [putReq, List.length_append, h5]
  simp at h3
  omega
theorem c_reqPut (vb : Value) (l : List UInt8) (r : Req) (hr : r.ok 10000000000) (w : World) (h : OwnR w 5 1 vb l.length (bvs l)) (hm : l.length ≤ 80000000000) : Calls Try.prog 60 #[vb, .agg (reqc r).toArray] w (RC w vb (l ++ putReq r)) := by
  have h1 := encI_len hr.client
  have h2 := encI_len hr.num
  have hc := hr.client
  have hn := hr.num
  have hd := hr.data
  have h3 := encT_len (l := r.data.data.toList) (by simp; omega)
  have ht := hr.tag
  have hbt : (bvs r.tag).length = 16 := by rw [bvs_len, ht]
  have hsz : r.data.data.toList.length = r.data.size := by simp
  rw [hsz] at h3
  refine enter (N := 19) Try.func60 rfl Try.ntmps60 rfl (Has.oneOwn h) ?_
  refine wc_seq ?_
  refine wc_region ?_
  (refine wl_ef rfl (ef_box rfl rfl rfl) ?_; rintro _ _ ⟨b3, rfl, rfl⟩)
  refine wl_val rfl rfl rfl (y_assign rfl) ?_
  refine wl_nil ?_
  refine q_then ?_
  refine wc_seq ?_
  refine wa_begin (Lk := [.blk b3 (reqc r) 71 (0, 0)]) (n := 11) (b := #[false, false, false, false, false, false, false, false, false, false, false]) mixed rfl rfl ?_
  all_goals refine wa_take (i := 0) (listed' := #[true, false, false, false, false, false, false, false, false, false, false]) rfl (by kernel_rfl) (by kernel_rfl) (by kernel_rfl) (by (repeat (first | exact calm_body | refine calm_then ?_ | refine calm_block ?_))) rfl rfl rfl (by (repeat (first | exact SubL.nil | refine SubL.consOwn rfl rfl ?_ | refine SubL.consBlk rfl ?_ | refine SubL.consMap rfl rfl ?_)); fail_if_success focus skip) (y_move rfl) rfl ?_
  all_goals refine wa_take (i := 1) (listed' := #[true, true, false, false, false, false, false, false, false, false, false]) rfl (by kernel_rfl) (by kernel_rfl) (by kernel_rfl) (by (repeat (first | exact calm_body | refine calm_then ?_ | refine calm_block ?_))) rfl rfl rfl (by (repeat (first | exact SubL.nil | refine SubL.consOwn rfl rfl ?_ | refine SubL.consBlk rfl ?_ | refine SubL.consMap rfl rfl ?_)); fail_if_success focus skip) (y_field0 fa71_0 rfl) rfl ?_
  all_goals refine wa_take (i := 2) (listed' := #[true, true, true, false, false, false, false, false, false, false, false]) rfl (by kernel_rfl) (by kernel_rfl) (by kernel_rfl) (by (repeat (first | exact calm_body | refine calm_then ?_ | refine calm_block ?_))) rfl rfl rfl (by (repeat (first | exact SubL.nil | refine SubL.consOwn rfl rfl ?_ | refine SubL.consBlk rfl ?_ | refine SubL.consMap rfl rfl ?_)); fail_if_success focus skip) (y_load one3 rfl (by rfl)) rfl ?_
  all_goals refine wa_take (i := 4) (listed' := #[true, true, true, false, true, false, false, false, false, false, false]) rfl (by kernel_rfl) (by kernel_rfl) (by kernel_rfl) (by (repeat (first | exact calm_body | refine calm_then ?_ | refine calm_block ?_))) rfl rfl rfl (by (repeat (first | exact SubL.nil | refine SubL.consOwn rfl rfl ?_ | refine SubL.consBlk rfl ?_ | refine SubL.consMap rfl rfl ?_)); fail_if_success focus skip) (y_field0 fa71_1 rfl) rfl ?_
  all_goals refine wa_take (i := 5) (listed' := #[true, true, true, false, true, true, false, false, false, false, false]) rfl (by kernel_rfl) (by kernel_rfl) (by kernel_rfl) (by (repeat (first | exact calm_body | refine calm_then ?_ | refine calm_block ?_))) rfl rfl rfl (by (repeat (first | exact SubL.nil | refine SubL.consOwn rfl rfl ?_ | refine SubL.consBlk rfl ?_ | refine SubL.consMap rfl rfl ?_)); fail_if_success focus skip) (y_load one3 rfl (by rfl)) rfl ?_
  all_goals refine wa_take (i := 7) (listed' := #[true, true, true, false, true, true, false, true, false, false, false]) rfl (by kernel_rfl) (by kernel_rfl) (by kernel_rfl) (by (repeat (first | exact calm_body | refine calm_then ?_ | refine calm_block ?_))) rfl rfl rfl (by (repeat (first | exact SubL.nil | refine SubL.consOwn rfl rfl ?_ | refine SubL.consBlk rfl ?_ | refine SubL.consMap rfl rfl ?_)); fail_if_success focus skip) (y_field0 fa71_2 rfl) rfl ?_
  all_goals refine wa_take (i := 8) (listed' := #[true, true, true, false, true, true, false, true, true, false, false]) rfl (by kernel_rfl) (by kernel_rfl) (by kernel_rfl) (by (repeat (first | exact calm_body | refine calm_then ?_ | refine calm_block ?_))) rfl rfl rfl (by (repeat (first | exact SubL.nil | refine SubL.consOwn rfl rfl ?_ | refine SubL.consBlk rfl ?_ | refine SubL.consMap rfl rfl ?_)); fail_if_success focus skip) (y_load one9 rfl (by rfl)) rfl ?_
  all_goals (refine wa_ef (i := 3) (listed' := #[true, true, true, true, true, true, false, true, true, false, false]) (by kernel_rfl) rfl rfl rfl (ef_callc rfl fun82 rfl (fun _ hw => (c_PutOwn _ l _ hc _ (own_at hw) (by omega)))) ?_; rintro _ _ ⟨v8, rfl, rfl⟩; refine ⟨.inr (by (repeat (first | exact SubL.nil | refine SubL.consOwn rfl rfl ?_ | refine SubL.consBlk rfl ?_ | refine SubL.consMap rfl rfl ?_)); fail_if_success focus skip), ?_⟩)
  all_goals (refine wa_ef (i := 6) (listed' := #[true, true, true, true, true, true, true, true, true, false, false]) (by kernel_rfl) rfl rfl rfl (ef_callc rfl fun82 rfl (fun _ hw => (c_PutOwn _ (l ++ encI r.client) _ hn _ (own_at hw) (by rw [List.length_append]; omega)))) ?_; rintro _ _ ⟨v11, rfl, rfl⟩; refine ⟨.inr (by (repeat (first | exact SubL.nil | refine SubL.consOwn rfl rfl ?_ | refine SubL.consBlk rfl ?_ | refine SubL.consMap rfl rfl ?_)); fail_if_success focus skip), ?_⟩)
  all_goals (refine wa_ef (i := 9) (listed' := #[true, true, true, true, true, true, true, true, true, true, false]) (by kernel_rfl) rfl rfl rfl (ef_callc rfl fun83 rfl (fun _ hw => (c_PutText _ ((l ++ encI r.client) ++ encI r.num) _ _ (own_at hw) (by rw [List.length_append, List.length_append]; omega) (by omega)))) ?_; rintro _ _ ⟨v14, rfl, rfl⟩; refine ⟨.inl (by kernel_rfl), ?_⟩)
  all_goals refine wa_take (i := 10) (listed' := #[true, true, true, true, true, true, true, true, true, true, true]) rfl (by kernel_rfl) (by kernel_rfl) (by kernel_rfl) (by (repeat (first | exact calm_body | refine calm_then ?_ | refine calm_block ?_))) rfl rfl rfl (by (repeat (first | exact SubL.nil | refine SubL.consOwn rfl rfl ?_ | refine SubL.consBlk rfl ?_ | refine SubL.consMap rfl rfl ?_)); fail_if_success focus skip) (y_assign rfl) rfl ?_
  all_goals refine wa_done (by kernel_rfl) ?_
  refine q_then ?_
  refine wc_seq ?_
  refine wc_region ?_
  refine wl_val rfl rfl rfl (y_move rfl) ?_
  refine wl_val rfl rfl rfl (y_field0 fa71_3 rfl) ?_
  refine wl_val rfl rfl rfl (y_sliceA Try.underlying69 siz5 rfl (.inl ⟨rfl, rfl⟩) (.inl ⟨rfl, rfl⟩) (by omega) (by omega) (by omega)) ?_
  have hL : (((l ++ encI r.client) ++ encI r.num) ++ encT r.data.data.toList).length ≤ 140000000000 := by rw [List.length_append, List.length_append, List.length_append]; omega
  (refine wl_ef rfl (ef_append rfl Try.underlying99 inf5 rfl rfl rfl (fun w' hw' => src_rd (us := bvs r.tag) Try.underlying99 (rd_blk (blk_at hw') (fun j u hu => (reqc_tag r j).trans hu) hbt (Nat.le_refl _) (by decide)) (bvs_one _)) (by omega) (by omega)) ?_; rintro _ _ ⟨v18, rfl, rfl⟩)
  refine wl_val rfl rfl rfl (y_assign rfl) ?_
  refine wl_nil ?_
  refine q_then ?_
  refine wc_ret ?_
  apply q_retg (res1 Try.results60 rfl) -- ret 0
  case hΨ =>
    rfl
  case hs =>
    first | (repeat (first | exact SubL.nil | refine SubL.consOwn rfl rfl ?_ | refine SubL.consBlk rfl ?_)); fail_if_success focus skip | repeat (first | exact SubL.nil | refine SubL.consOwn (by first | rfl | omega | (simp only [List.length_append, List.length_cons, List.length_nil]; omega) | (first | (simp [putReq, bvs]; done) | (simp [putReq, ht]; omega))) (by first | rfl | (first | (simp [putReq, bvs]; done) | (simp [putReq, ht]; omega))) ?_ | refine SubL.consBlk (by first | rfl | (first | (simp [putReq, bvs]; done) | (simp [putReq, ht]; omega))) ?_ | refine SubL.consMap (by first | rfl | omega) (by first | rfl | (first | (simp [putReq, bvs]; done) | (simp [putReq, ht]; omega))) ?_)
theorem c_refreqPut (vb : Value) (l : List UInt8) (r : Req) (hr : r.ok 10000000000) (w : World) (h : RdI w [] vb 1 l.length (bvs l)) (hm : l.length ≤ 80000000000) : Calls Try.prog 87 #[vb, .agg (reqc r).toArray] w (RB w (l ++ putReq r)) := by
  have h1 := encI_len hr.client
  have h2 := encI_len hr.num
  have hc := hr.client
  have hn := hr.num
  have hd := hr.data
  have h3 := encT_len (l := r.data.data.toList) (by simp; omega)
  have ht := hr.tag
  have hbt : (bvs r.tag).length = 16 := by rw [bvs_len, ht]
  have hsz : r.data.data.toList.length = r.data.size := by simp
  rw [hsz] at h3
  obtain ⟨B, hB⟩ : ∃ B, B = ((l ++ encI r.client) ++ encI r.num) ++ encT r.data.data.toList := ⟨_, rfl⟩
  have hBl : B.length ≤ 140000000000 := by rw [hB, List.length_append, List.length_append, List.length_append]; omega
  have cT : ∀ (v : Value) (w : World), RdI w [] v 1 ((l ++ encI r.client) ++ encI r.num).length (bvs ((l ++ encI r.client) ++ encI r.num)) → Calls Try.prog 76 #[v, .string r.data] w (RB w B) := fun v w hr => by
    rw [hB]
    exact c_refPutText v _ _ w hr (by rw [List.length_append, List.length_append]; omega) (by omega)
  have hres : l ++ putReq r = B ++ r.tag := by rw [hB]; simp [putReq]
  rw [hres]
  refine enter (N := 28) Try.func87 rfl Try.ntmps87 rfl (Has.nil _) ?_
  refine wc_seq ?_
  refine wc_region ?_
  (refine wl_ef rfl (ef_box rfl rfl rfl) ?_; rintro _ _ ⟨b3, rfl, rfl⟩)
  refine wl_val rfl rfl rfl (y_assign rfl) ?_
  refine wl_nil ?_
  refine q_then ?_
  refine wc_seq ?_
  refine wa_begin_all (n := 11) (b := #[false, false, false, false, false, false, false, false, false, false, false]) mixed rfl rfl ?_
  all_goals refine wa_take (i := 0) (listed' := #[true, false, false, false, false, false, false, false, false, false, false]) rfl (by kernel_rfl) (by kernel_rfl) (by kernel_rfl) (by (repeat (first | exact calm_body | refine calm_then ?_ | refine calm_block ?_))) rfl rfl rfl (by (repeat (first | exact SubL.nil | refine SubL.consOwn rfl rfl ?_ | refine SubL.consBlk rfl ?_ | refine SubL.consMap rfl rfl ?_)); fail_if_success focus skip) (y_move rfl) rfl ?_
  all_goals refine wa_take (i := 1) (listed' := #[true, true, false, false, false, false, false, false, false, false, false]) rfl (by kernel_rfl) (by kernel_rfl) (by kernel_rfl) (by (repeat (first | exact calm_body | refine calm_then ?_ | refine calm_block ?_))) rfl rfl rfl (by (repeat (first | exact SubL.nil | refine SubL.consOwn rfl rfl ?_ | refine SubL.consBlk rfl ?_ | refine SubL.consMap rfl rfl ?_)); fail_if_success focus skip) (y_field0 fa71_0 rfl) rfl ?_
  all_goals refine wa_take (i := 2) (listed' := #[true, true, true, false, false, false, false, false, false, false, false]) rfl (by kernel_rfl) (by kernel_rfl) (by kernel_rfl) (by (repeat (first | exact calm_body | refine calm_then ?_ | refine calm_block ?_))) rfl rfl rfl (by (repeat (first | exact SubL.nil | refine SubL.consOwn rfl rfl ?_ | refine SubL.consBlk rfl ?_ | refine SubL.consMap rfl rfl ?_)); fail_if_success focus skip) (y_load one3 rfl (by rfl)) rfl ?_
  all_goals refine wa_take (i := 4) (listed' := #[true, true, true, false, true, false, false, false, false, false, false]) rfl (by kernel_rfl) (by kernel_rfl) (by kernel_rfl) (by (repeat (first | exact calm_body | refine calm_then ?_ | refine calm_block ?_))) rfl rfl rfl (by (repeat (first | exact SubL.nil | refine SubL.consOwn rfl rfl ?_ | refine SubL.consBlk rfl ?_ | refine SubL.consMap rfl rfl ?_)); fail_if_success focus skip) (y_field0 fa71_1 rfl) rfl ?_
  all_goals refine wa_take (i := 5) (listed' := #[true, true, true, false, true, true, false, false, false, false, false]) rfl (by kernel_rfl) (by kernel_rfl) (by kernel_rfl) (by (repeat (first | exact calm_body | refine calm_then ?_ | refine calm_block ?_))) rfl rfl rfl (by (repeat (first | exact SubL.nil | refine SubL.consOwn rfl rfl ?_ | refine SubL.consBlk rfl ?_ | refine SubL.consMap rfl rfl ?_)); fail_if_success focus skip) (y_load one3 rfl (by rfl)) rfl ?_
  all_goals refine wa_take (i := 7) (listed' := #[true, true, true, false, true, true, false, true, false, false, false]) rfl (by kernel_rfl) (by kernel_rfl) (by kernel_rfl) (by (repeat (first | exact calm_body | refine calm_then ?_ | refine calm_block ?_))) rfl rfl rfl (by (repeat (first | exact SubL.nil | refine SubL.consOwn rfl rfl ?_ | refine SubL.consBlk rfl ?_ | refine SubL.consMap rfl rfl ?_)); fail_if_success focus skip) (y_field0 fa71_2 rfl) rfl ?_
  all_goals refine wa_take (i := 8) (listed' := #[true, true, true, false, true, true, false, true, true, false, false]) rfl (by kernel_rfl) (by kernel_rfl) (by kernel_rfl) (by (repeat (first | exact calm_body | refine calm_then ?_ | refine calm_block ?_))) rfl rfl rfl (by (repeat (first | exact SubL.nil | refine SubL.consOwn rfl rfl ?_ | refine SubL.consBlk rfl ?_ | refine SubL.consMap rfl rfl ?_)); fail_if_success focus skip) (y_load one9 rfl (by rfl)) rfl ?_
  all_goals (refine wa_ef (i := 3) (listed' := #[true, true, true, true, true, true, false, true, true, false, false]) (by kernel_rfl) rfl rfl rfl (ef_callo rfl fun77 rfl (fun _ hw => (c_refPut _ l _ hc _ (rdI_in0 hw h) (by omega)))) ?_; rintro _ _ ⟨v9, rfl, rfl⟩; refine ⟨.inr (by (repeat (first | exact SubL.nil | refine SubL.consOwn rfl rfl ?_ | refine SubL.consBlk rfl ?_ | refine SubL.consMap rfl rfl ?_)); fail_if_success focus skip), ?_⟩)
  all_goals (refine wa_ef (i := 6) (listed' := #[true, true, true, true, true, true, true, true, true, false, false]) (by kernel_rfl) rfl rfl rfl (ef_callo rfl fun77 rfl (fun _ hw => (c_refPut _ (l ++ encI r.client) _ hn _ (rdI_own0 hw) (by rw [List.length_append]; omega)))) ?_; rintro _ _ ⟨v12, rfl, rfl⟩; refine ⟨.inr (by (repeat (first | exact SubL.nil | refine SubL.consOwn rfl rfl ?_ | refine SubL.consBlk rfl ?_ | refine SubL.consMap rfl rfl ?_)); fail_if_success focus skip), ?_⟩)
  all_goals (refine wa_ef (i := 9) (listed' := #[true, true, true, true, true, true, true, true, true, true, false]) (by kernel_rfl) rfl rfl rfl (ef_callo rfl fun76 rfl (fun _ hw => (cT _ _ (rdI_own0 hw)))) ?_; rintro _ _ ⟨v15, rfl, rfl⟩; refine ⟨.inl (by kernel_rfl), ?_⟩)
  all_goals refine wa_take (i := 10) (listed' := #[true, true, true, true, true, true, true, true, true, true, true]) rfl (by kernel_rfl) (by kernel_rfl) (by kernel_rfl) (by (repeat (first | exact calm_body | refine calm_then ?_ | refine calm_block ?_))) rfl rfl rfl (by (repeat (first | exact SubL.nil | refine SubL.consOwn rfl rfl ?_ | refine SubL.consBlk rfl ?_ | refine SubL.consMap rfl rfl ?_)); fail_if_success focus skip) (y_assign rfl) rfl ?_
  all_goals refine wa_done (by kernel_rfl) ?_
  refine q_then ?_
  refine wc_seq ?_
  refine wc_seq ?_
  refine wc_region ?_
  refine wl_val rfl rfl rfl (y_assign rfl) ?_
  refine wl_nil ?_
  refine q_then ?_
  refine wc_block ?_
  refine wc_loop2 (X0 := Nat) (X1 := Value) (fun k v => [(0, v), (3, .pointer (some ⟨b3, 0, none⟩)), (5, .int .i64 (k : Int))]) (fun k v => [.own v 5 1 (B.length + k) (bvs (B ++ r.tag.take k)), .blk b3 (reqc r) 71 (0, 0)]) (fun k v => k ≤ 16) (fun k v => 16 - k) (0) (v15) ?_ ?_ ?_ ?_
  · first | trivial | omega | simp
  · repeat (first | exact SubE.nil | refine SubE.cons rfl ?_ | refine SubE.cons (lk_int rfl (by omega)) ?_ | refine SubE.cons (lk_int rfl (by rfl)) ?_ | refine SubE.cons (lk_eq rfl (by rfl)) ?_)
  · first | (repeat (first | exact SubL.nil | refine SubL.consOwn rfl rfl ?_ | refine SubL.consBlk rfl ?_)); fail_if_success focus skip | repeat (first | exact SubL.nil | refine SubL.consOwn (by first | rfl | omega | (simp only [List.length_append, List.length_cons, List.length_nil]; omega) | (simp)) (by first | rfl | (simp)) ?_ | refine SubL.consBlk (by first | rfl | (simp)) ?_ | refine SubL.consMap (by first | rfl | omega) (by first | rfl | (simp)) ?_)
  · skip
    intro k v hk
    refine wc_seq ?_
    refine wc_seq ?_
    refine wc_region ?_
    refine wl_val rfl rfl rfl (y_move rfl) ?_
    refine wl_val rfl rfl rfl (y_lss rfl rfl) ?_
    refine wl_nil ?_
    refine q_then ?_
    refine wc_cond rfl (fun hc0 => ?_) (fun hc0 => ?_)
    · first
      | ((exfalso; (first | with_reducible contradiction | omega | (simp at hc0; done))))
      | skip
        refine wc_skip ?_
        refine q_then ?_
        refine wc_seq ?_
        refine wc_block ?_
        refine wc_region ?_
        refine wl_val rfl rfl rfl (y_move rfl) ?_
        refine wl_val rfl rfl rfl (y_move rfl) ?_
        refine wl_val rfl rfl rfl (y_field0 fa71_3 rfl) ?_
        refine wl_val rfl rfl rfl (yl_is (v := .pointer (some ⟨b3, 3 + k, none⟩)) (y_indexA (i := (k : Int)) Try.underlying69 siz5 rfl rfl (by omega) (by omega)) (by simp)) ?_
        refine wl_val rfl rfl rfl (y_load one5 rfl ((reqc_tag r k).trans (b8_at rfl (by omega)))) ?_
        (refine wl_ef rfl (ef_lit1 rfl Try.underlying99 siz5 zer5 rfl rfl) ?_; rintro _ _ ⟨v25, rfl, rfl⟩)
        (refine wl_ef rfl (ef_append rfl Try.underlying99 inf5 rfl rfl rfl (by first | exact src_own Try.underlying99 (by (repeat (first | exact OneAll.nil | refine OneAll.cons rfl ?_ | exact bvs_one _ | refine OneAll.app ?_ ?_ | exact OneAll.map _ (fun _ => rfl) | assumption)); fail_if_success focus skip) | exact src_in Try.underlying99 (by assumption) (by (repeat (first | exact OneAll.nil | refine OneAll.cons rfl ?_ | exact bvs_one _ | refine OneAll.app ?_ ?_ | exact OneAll.map _ (fun _ => rfl) | assumption)); fail_if_success focus skip)) (by omega) (by omega)) ?_; rintro _ _ ⟨v26, rfl, rfl⟩)
        refine wl_val rfl rfl rfl (y_assign rfl) ?_
        refine wl_nil ?_
        refine q_blockNormal ?_
        refine q_then ?_
        refine wc_region ?_
        refine wl_val rfl rfl rfl (y_move rfl) ?_
        refine wl_val rfl rfl rfl (y_addn rfl rfl (by omega)) ?_
        refine wl_val rfl rfl rfl (y_assign rfl) ?_
        refine wl_nil ?_
        refine q_again2 (k + 1) (v26) ?_ ?_ ?_ ?_
        · first | omega | (refine ⟨?_, ?_⟩ <;> omega)
        · first | omega | (simp; omega) | (simp only []; omega)
        · repeat (first | exact SubE.nil | refine SubE.cons rfl ?_ | refine SubE.cons (lk_int rfl (by omega)) ?_ | refine SubE.cons (lk_int rfl (by rfl)) ?_ | refine SubE.cons (lk_eq rfl (by rfl)) ?_)
        · first | (repeat (first | exact SubL.nil | refine SubL.consOwn rfl rfl ?_ | refine SubL.consBlk rfl ?_)); fail_if_success focus skip | repeat (first | exact SubL.nil | refine SubL.consOwn (by first | rfl | omega | (simp only [List.length_append, List.length_cons, List.length_nil]; omega) | (exact bvs_snoc2 (by omega))) (by first | rfl | (exact bvs_snoc2 (by omega))) ?_ | refine SubL.consBlk (by first | rfl | (exact bvs_snoc2 (by omega))) ?_ | refine SubL.consMap (by first | rfl | omega) (by first | rfl | (exact bvs_snoc2 (by omega))) ?_)
    · first
      | ((exfalso; (first | with_reducible contradiction | omega | (simp at hc0; done))))
      | skip
        refine wc_exit ?_
        refine q_thenExit ?_
        refine q_thenExit ?_
        refine q_blockExit ?_
        refine q_then ?_
        refine wc_seq ?_
        refine wc_region ?_
        refine wl_val rfl rfl rfl (y_move rfl) ?_
        refine wl_val rfl rfl rfl (y_assign rfl) ?_
        refine wl_nil ?_
        refine q_then ?_
        refine wc_ret ?_
        obtain rfl : k = 16 := by omega
        rw [List.take_of_length_le (by omega)]
        apply q_retg (res1 Try.results87 rfl) -- ret 0
        case hΨ =>
          rfl
        case hs =>
          first | (repeat (first | exact SubL.nil | refine SubL.consOwn rfl rfl ?_ | refine SubL.consBlk rfl ?_)); fail_if_success focus skip | repeat (first | exact SubL.nil | refine SubL.consOwn (by first | rfl | omega | (simp only [List.length_append, List.length_cons, List.length_nil]; omega) | (rw [List.length_append, ht])) (by first | rfl | (rw [List.length_append, ht])) ?_ | refine SubL.consBlk (by first | rfl | (rw [List.length_append, ht])) ?_ | refine SubL.consMap (by first | rfl | omega) (by first | rfl | (rw [List.length_append, ht])) ?_)
end Go.Proofs.Ytdgmkbjopcopcaa
