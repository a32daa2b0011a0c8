/- Layer 7 (batch): batch.Good, the document's Good; keys, the chapter's example; BatchChecks, BatchOnce: the walks. Own work. -/
import Derived.Test.YtdgmkbjopcopcaaBtd
import Derived.Test.YtdgmkbjopcopcaaSlte
import Derived.Test.YtdgmkbjopcopcaaRqd
set_option linter.unusedVariables false
set_option linter.unusedSimpArgs false
set_option maxRecDepth 100000
set_option maxHeartbeats 2000000
namespace Go.Proofs.Ytdgmkbjopcopcaa
open Go.RowKit
-- flat
-- zero 26 Bt0.cells
-- use zerRq zerRq
-- use zerBt zerBt
-- use zerDg zerDg
-- use zerTg zerTg
-- use zerKs zerKs
-- use zerPr zerPr
-- build 26 bldBt
-- build 71 bldRq
-- build 141 bldPr
theorem twF_snoc (l : List Pr) (p : Pr) : ∀ n i, l.length - i = n → i ≤ l.length → twF (l ++ [p]) i = if 0 ≤ twF l i then twF l i else if p ∈ l then (l.length : Int) else -1 := by
  intro n
  induction n with
  | zero =>
    intro i h1 h2
    obtain rfl : i = l.length := by omega
    rw [twF_end (l := l) (by omega), twF_at (p := p) (by simp), twF_end (l := l ++ [p]) (by simp)]
    simp
  | succ n ih =>
    intro i h1 h2
    have hlt : i < l.length := by omega
    have hq : l[i]? = some l[i] := List.getElem?_eq_getElem hlt
    have hq2 : (l ++ [p])[i]? = some l[i] := by rw [List.getElem?_append_left hlt]; exact hq
    have ht : (l ++ [p]).take i = l.take i := List.take_append_of_le_length (by omega)
    rw [twF_at hq, twF_at hq2, ht]
    by_cases hm : l[i] ∈ l.take i
    · rw [if_pos hm, if_pos hm, if_pos (by omega)]
    · rw [if_neg hm, if_neg hm, ih (i + 1) (by omega) (by omega)]
theorem twF_nil : twF [] 0 = -1 := twF_end (by simp)
/-- whether the list may be: the first that is not good, or was there already -/
def gdF (k : Ks) (nodes clients : Int) (qs : List Rq) (i : Nat) : Int := if h : i < qs.length then (if gd k nodes clients qs[i] ≠ 0 then gd k nodes clients qs[i] else if qs[i].pr ∈ (prs qs).take i then 202 else gdF k nodes clients qs (i + 1)) else 0
termination_by qs.length - i
theorem gdF_at {k : Ks} {nodes clients : Int} {qs : List Rq} {i : Nat} {q : Rq} (h : qs[i]? = some q) : gdF k nodes clients qs i = if gd k nodes clients q ≠ 0 then gd k nodes clients q else if q.pr ∈ (prs qs).take i then 202 else gdF k nodes clients qs (i + 1) := by
  have hlt := (List.getElem?_eq_some_iff.1 h).1
  have hg := (List.getElem?_eq_some_iff.1 h).2
  rw [gdF, dif_pos hlt, hg]
theorem gdF_end {k : Ks} {nodes clients : Int} {qs : List Rq} {i : Nat} (h : qs.length ≤ i) : gdF k nodes clients qs i = 0 := by rw [gdF, dif_neg (by omega)]
def gdB (k : Ks) (nodes clients most : Int) (noop : Bool) (qs : List Rq) : Int := if (noop = true ∧ (0 : Int) < qs.length) ∨ most < qs.length then 70 else gdF k nodes clients qs 0
/-- the batch's requests as requests with tags of sixteen bytes -/
theorem rqs_of : ∀ {rs : List Req}, (∀ r ∈ rs, r.tag.length = 16) → ∃ qs : List Rq, rs = qs.map Rq.req
  | [], _ => ⟨[], rfl⟩
  | r :: rs, h => by
    obtain ⟨qs, hq⟩ := rqs_of (rs := rs) fun x hx => h x (by simp [hx])
    exact ⟨⟨r.client, r.num, r.data, ⟨r.tag, h r (by simp)⟩⟩ :: qs, congrArg (List.cons r) hq⟩
theorem reqsC_of (qs : List Rq) : reqsC (qs.map Rq.req) = qs.flatMap Rq.cells := by
  induction qs with
  | nil => rfl
  | cons q qs ih =>
    simp only [reqsC, List.map_cons, List.flatMap_cons] at ih ⊢
    rw [ih, Rq.reqc]
abbrev btc (noop : Bool) (v : Value) : Value := .agg [.bool noop, v].toArray
theorem c_btGood (b : Nat) (k : Ks) (nodes clients most : Int) (noop : Bool) (vl : Value) (qs : List Rq) (w : World) (hk : InB w b k.cells) (ho : KsOk k) (hcl : clients ≤ 9223372036854775807) (hl : RdI w [] vl 19 qs.length (qs.flatMap Rq.cells)) :
    Calls Try.prog 44 #[.pointer (some ⟨b, 0, none⟩), .int .i64 nodes, .int .i64 clients, .int .i64 most, btc noop vl] w (RV w (.int .i64 (gdB k nodes clients most noop qs))) := by
  obtain ⟨A0, cap0, hv0, hle1, hle2, _⟩ := hl.rd.form
  simp only [maxLen] at hle2
  subst hv0
  refine enter (N := 54) Try.func44 rfl Try.ntmps44 rfl (Has.nil _) ?_
  refine wc_seq ?_
  refine wc_region ?_
  (refine wl_ef rfl (ef_box rfl rfl rfl) ?_; rintro _ _ ⟨b9, rfl, rfl⟩)
  refine wl_val rfl rfl rfl (y_assign rfl) ?_
  refine wl_nil ?_
  refine q_then ?_
  refine wc_seq ?_
  refine wc_seq ?_
  refine wc_region ?_
  refine wl_val rfl rfl rfl (y_field0 fa26_0 rfl) ?_
  first | refine wl_val rfl rfl rfl (y_loadA one4 rfl) ?_ | refine wl_val rfl rfl rfl (y_load one4 rfl (by rfl)) ?_
  refine wl_val rfl rfl rfl (y_move rfl) ?_
  first | apply wl_andp (d := 22) | apply wl_and (d := 22)
  case ht =>
    intro hg1 hK1
    first
      | (refine wl_dead ?_ hK1 rfl; first | with_reducible contradiction | omega | (simp at hg1; done))
      | skip
        try simp only [bsA, ne_eq] at hg1
        refine wl_gval rfl rfl rfl rfl rfl rfl rfl (y_field0 fa26_1 rfl) ?_
        first | refine wl_gval rfl rfl rfl rfl rfl rfl rfl (y_loadA one24 rfl) ?_ | refine wl_gval rfl rfl rfl rfl rfl rfl rfl (y_load one24 rfl (by rfl)) ?_
        refine wl_gval rfl rfl rfl rfl rfl rfl rfl (y_lenSl Try.underlying24 rfl) ?_
        refine wl_gval rfl rfl rfl rfl rfl rfl rfl (y_gtr rfl rfl) ?_
        refine wl_val rfl rfl rfl (y_pickt rfl rfl) ?_
        exact wl_leR hK1 (.cons rfl (by repeat (first | refine LeE.skip ?_ rfl | exact LeE.refl _)))
  case hf =>
    intro hg1 hK1
    first
      | (refine wl_dead ?_ hK1 rfl; first | with_reducible contradiction | omega | (simp at hg1; done))
      | skip
        try simp only [bsA, ne_eq] at hg1
        refine wl_gskip rfl rfl rfl rfl rfl rfl rfl ?_
        refine wl_gskip rfl rfl rfl rfl rfl rfl rfl ?_
        refine wl_gskip rfl rfl rfl rfl rfl rfl rfl ?_
        refine wl_gskip rfl rfl rfl rfl rfl rfl rfl ?_
        first | refine wl_val rfl rfl rfl (y_pickt rfl rfl) ?_ | refine wl_val rfl rfl rfl (y_pickf rfl rfl) ?_
        exact wl_leR hK1 (.cons rfl (by repeat (first | refine LeE.skip ?_ rfl | exact LeE.refl _)))
  refine wl_val rfl rfl rfl (y_move rfl) ?_
  first | apply wl_orp (d := 29) | apply wl_or (d := 29)
  case ht =>
    intro hg2 hK2
    first
      | (refine wl_dead ?_ hK2 rfl; first | with_reducible contradiction | omega | (simp at hg2; done))
      | skip
        try simp only [bsA, ne_eq] at hg2
        refine wl_gskip rfl rfl rfl rfl rfl rfl rfl ?_
        refine wl_gskip rfl rfl rfl rfl rfl rfl rfl ?_
        refine wl_gskip rfl rfl rfl rfl rfl rfl rfl ?_
        refine wl_gskip rfl rfl rfl rfl rfl rfl rfl ?_
        refine wl_gskip rfl rfl rfl rfl rfl rfl rfl ?_
        refine wl_val rfl rfl rfl (y_pickt rfl rfl) ?_
        exact wl_leR hK2 (.cons rfl (by repeat (first | refine LeE.skip ?_ rfl | exact LeE.refl _)))
  case hf =>
    intro hg2 hK2
    first
      | (refine wl_dead ?_ hK2 rfl; first | with_reducible contradiction | omega | (simp at hg2; done))
      | skip
        try simp only [bsA, ne_eq] at hg2
        refine wl_gval rfl rfl rfl rfl rfl rfl rfl (y_field0 fa26_1 rfl) ?_
        first | refine wl_gval rfl rfl rfl rfl rfl rfl rfl (y_loadA one24 rfl) ?_ | refine wl_gval rfl rfl rfl rfl rfl rfl rfl (y_load one24 rfl (by rfl)) ?_
        refine wl_gval rfl rfl rfl rfl rfl rfl rfl (y_lenSl Try.underlying24 rfl) ?_
        refine wl_gval rfl rfl rfl rfl rfl rfl rfl (y_move rfl) ?_
        refine wl_gval rfl rfl rfl rfl rfl rfl rfl (y_gtr rfl rfl) ?_
        first | refine wl_val rfl rfl rfl (y_pickt rfl rfl) ?_ | refine wl_val rfl rfl rfl (y_pickf rfl rfl) ?_
        exact wl_leR hK2 (.cons rfl (by repeat (first | refine LeE.skip ?_ rfl | exact LeE.refl _)))
  refine wl_nil ?_
  refine q_then ?_
  first | refine wc_cond rfl (fun hc0 => ?_) (fun hc0 => ?_) | refine wc_condb rfl (fun hc0 => ?_) (fun hc0 => ?_)
  · first
    | ((try simp only [bsA, ne_eq] at hc0); exfalso; (first | with_reducible contradiction | omega | (simp at hc0; done)))
    | skip
      try simp only [bsA, ne_eq] at hc0
      have hg : gdB k nodes clients most noop qs = 70 := by rw [gdB, if_pos (by grind)]
      refine wc_seq ?_
      refine wc_region ?_
      refine wl_val rfl rfl rfl (y_assign rfl) ?_
      refine wl_nil ?_
      refine q_then ?_
      refine wc_ret ?_
      refine q_thenRet ?_
      apply q_retg (res1 Try.results44 rfl) -- ret 0
      case hΨ =>
        exact ⟨by rw [hg], rfl⟩
      case hs =>
        exact SubC.out
  · first
    | ((try simp only [bsA, ne_eq] at hc0); exfalso; (first | with_reducible contradiction | omega | (simp at hc0; done)))
    | skip
      try simp only [bsA, ne_eq] at hc0
      have hg : gdB k nodes clients most noop qs = gdF k nodes clients qs 0 := by rw [gdB, if_neg (by grind)]
      refine wc_skip ?_
      refine q_then ?_
      refine wc_seq ?_
      refine wc_region ?_
      (refine wl_ef rfl (ef_makeMap rfl) ?_; rintro _ _ ⟨b30, rfl, rfl⟩)
      refine wl_val rfl rfl rfl (y_assign rfl) ?_
      refine wl_nil ?_
      refine q_then ?_
      refine wc_seq ?_
      refine wc_seq ?_
      refine wc_region ?_
      refine wl_val rfl rfl rfl (y_field0 fa26_1 rfl) ?_
      first | refine wl_val rfl rfl rfl (y_loadA one24 rfl) ?_ | refine wl_val rfl rfl rfl (y_load one24 rfl (by rfl)) ?_
      refine wl_val rfl rfl rfl (y_lenSl Try.underlying24 rfl) ?_
      refine wl_val rfl rfl rfl (y_move rfl) ?_
      refine wl_nil ?_
      refine q_then ?_
      refine wc_block ?_
      refine wc_loop (X := Nat) (fun i => [(0, .pointer (some ⟨b, 0, none⟩)), (1, .int .i64 nodes), (2, .int .i64 clients), (11, .map (some b30)), (32, .slice A0 qs.length cap0), (33, .int .i64 (qs.length : Int)), (34, .int .i64 (i : Int))]) (fun i => [.map b30 (ents kP (trues ((prs qs).take i))) (trues ((prs qs).take i)).length]) (fun i => i ≤ qs.length ∧ gdB k nodes clients most noop qs = gdF k nodes clients qs i) (fun i => qs.length - i) (0) ?_ ?_ ?_ ?_
      · exact ⟨by omega, hg⟩
      · repeat (first | exact SubE.nil | refine SubE.cons rfl ?_ | refine SubE.cons (lk_int rfl (by omega)) ?_ | refine SubE.cons (lk_int rfl (by rfl)) ?_ | refine SubE.cons (lk_eq rfl (by rfl)) ?_)
      · first | exact SubC.out | repeat (first | exact SubL.nil | refine SubL.consOwn (by first | rfl | omega | (simp only [List.length_append, List.length_cons, List.length_nil]; omega) | (first | rfl | assumption | (simp; done))) (by first | rfl | (first | rfl | assumption | (simp; done))) ?_ | refine SubL.consBlk (by first | rfl | (first | rfl | assumption | (simp; done))) ?_ | refine SubL.consMap (by first | rfl | omega) (by first | rfl | (first | rfl | assumption | (simp; done))) ?_)
      · skip
        rintro i ⟨hi, htw⟩
        refine wc_seq ?_
        refine wc_region ?_
        refine wl_val rfl rfl rfl (y_lss rfl rfl) ?_
        refine wl_nil ?_
        refine q_then ?_
        refine wc_seq ?_
        refine wc_cond rfl (fun hc1 => ?_) (fun hc1 => ?_)
        · first
          | ((try simp only [bsA, ne_eq] at hc1); exfalso; (first | with_reducible contradiction | omega | (simp at hc1; done)))
          | skip
            try simp only [bsA, ne_eq] at hc1
            obtain ⟨q, hq⟩ : ∃ q, qs[i]? = some q := ⟨qs[i]'(by omega), List.getElem?_eq_getElem (by omega)⟩
            rw [gdF_at hq] at htw
            refine wc_skip ?_
            refine q_then ?_
            refine wc_seq ?_
            refine wc_block ?_
            refine wc_seq ?_
            refine wc_region ?_
            refine wl_val rfl rfl rfl (y_indexEn Try.underlying24 siz71 rfl rfl (by first | exact rd_own | exact rd_in (by assumption) | assumption) (by omega)) ?_
            refine wl_val rfl rfl rfl (y_loadNE (us := q.cells) agg71 rfl (rd_in hl) (rq_part hq) q.len (by decide)) ?_
            (refine wl_ef rfl (ef_alloc rfl zerRq) ?_; rintro _ _ ⟨b13, rfl, rfl⟩)
            (refine wl_ef rfl (ef_storeC siz71 rfl rfl rfl) ?_; rintro _ _ ⟨rfl, rfl⟩)
            refine wl_nil ?_
            refine q_then ?_
            refine wc_seq ?_
            refine wc_seq ?_
            refine wc_region ?_
            refine wl_val rfl rfl rfl (y_move rfl) ?_
            refine wl_val rfl rfl rfl (y_move rfl) ?_
            refine wl_val rfl rfl rfl (y_move rfl) ?_
            refine wl_val rfl rfl rfl (y_loadC agg71 rfl) ?_
            (refine wl_ef rfl (ef_callv0 rfl fun30 rfl (fun _ hw => (c_Good b k _ _ q _ (hk.go hw) ho hcl))) ?_; rintro _ _ ⟨rfl, rfl⟩)
            refine wl_val rfl rfl rfl (y_assign rfl) ?_
            refine wl_nil ?_
            refine q_then ?_
            refine wc_seq ?_
            refine wc_region ?_
            refine wl_val rfl rfl rfl (y_move rfl) ?_
            refine wl_val rfl rfl rfl (y_neq rfl rfl) ?_
            refine wl_nil ?_
            refine q_then ?_
            refine wc_cond rfl (fun hc2 => ?_) (fun hc2 => ?_)
            · first
              | ((try simp only [bsA, ne_eq] at hc2); exfalso; (first | with_reducible contradiction | omega | (simp at hc2; done)))
              | skip
                try simp only [bsA, ne_eq] at hc2
                refine wc_seq ?_
                refine wc_region ?_
                refine wl_val rfl rfl rfl (y_move rfl) ?_
                refine wl_val rfl rfl rfl (y_assign rfl) ?_
                refine wl_nil ?_
                refine q_then ?_
                refine wc_ret ?_
                refine q_thenRet ?_
                refine q_blockRet ?_
                refine q_thenRet ?_
                refine q_thenRet ?_
                refine q_blockRet ?_
                refine q_thenRet ?_
                apply q_retg (res1 Try.results44 rfl) -- ret 1
                case hΨ =>
                  exact ⟨by rw [htw, if_pos (by simpa using hc2)], rfl⟩
                case hs =>
                  exact SubC.out
            · first
              | ((try simp only [bsA, ne_eq] at hc2); exfalso; (first | with_reducible contradiction | omega | (simp at hc2; done)))
              | skip
                try simp only [bsA, ne_eq] at hc2
                refine wc_skip ?_
                refine q_then ?_
                refine wc_seq ?_
                refine wc_seq ?_
                refine wc_region ?_
                refine wl_val rfl rfl rfl (y_move rfl) ?_
                refine wl_val rfl rfl rfl (y_loadC agg71 rfl) ?_
                (refine wl_ef rfl (ef_callv0 rfl fun86 rfl (fun _ hw => (c_of q _))) ?_; rintro _ _ ⟨rfl, rfl⟩)
                refine wl_val rfl rfl rfl (yl_is (y_lookup Try.underlying139 keyPr zvBool rfl rfl) (assoc_trues _ _)) ?_
                refine wl_nil ?_
                refine q_then ?_
                refine wc_cond rfl (fun hc3 => ?_) (fun hc3 => ?_)
                · first
                  | ((try simp only [bsA, ne_eq] at hc3); exfalso; (first | with_reducible contradiction | omega | (simp at hc3; done)))
                  | skip
                    try simp only [bsA, ne_eq] at hc3
                    refine wc_seq ?_
                    refine wc_region ?_
                    refine wl_val rfl rfl rfl (y_assign rfl) ?_
                    refine wl_nil ?_
                    refine q_then ?_
                    refine wc_ret ?_
                    refine q_thenRet ?_
                    refine q_blockRet ?_
                    refine q_thenRet ?_
                    refine q_thenRet ?_
                    refine q_blockRet ?_
                    refine q_thenRet ?_
                    apply q_retg (res1 Try.results44 rfl) -- ret 2
                    case hΨ =>
                      exact ⟨by rw [htw, if_neg (by simpa using hc2), if_pos hc3], rfl⟩
                    case hs =>
                      exact SubC.out
                · first
                  | ((try simp only [bsA, ne_eq] at hc3); exfalso; (first | with_reducible contradiction | omega | (simp at hc3; done)))
                  | skip
                    try simp only [bsA, ne_eq] at hc3
                    refine wc_skip ?_
                    refine q_then ?_
                    refine wc_region ?_
                    refine wl_val rfl rfl rfl (y_move rfl) ?_
                    refine wl_val rfl rfl rfl (y_loadC agg71 rfl) ?_
                    (refine wl_ef rfl (ef_callv0 rfl fun86 rfl (fun _ hw => (c_of q _))) ?_; rintro _ _ ⟨rfl, rfl⟩)
                    (refine wl_ef rfl (ef_mapUpdate Try.underlying139 keyPr rfl rfl rfl) ?_; rintro _ _ ⟨rfl, rfl⟩)
                    refine wl_turn (L' := _) (fun w h => by rw [upd_trues hc3, ← prs_take hq] at h; exact h) ?_
                    refine wl_nil ?_
                    refine q_blockNormal ?_
                    refine q_then ?_
                    refine wc_region ?_
                    refine wl_val rfl rfl rfl (y_addn rfl rfl (by omega)) ?_
                    refine wl_val rfl rfl rfl (y_move rfl) ?_
                    refine wl_nil ?_
                    refine q_again (i + 1) ?_ ?_ ?_ ?_
                    · exact ⟨by omega, by rw [htw, if_neg (by simpa using hc2), if_neg hc3]⟩
                    · first | omega | (simp; omega) | (simp only []; omega)
                    · repeat (first | exact SubE.nil | refine SubE.cons rfl ?_ | refine SubE.cons (lk_int rfl (by omega)) ?_ | refine SubE.cons (lk_int rfl (by rfl)) ?_ | refine SubE.cons (lk_eq rfl (by rfl)) ?_)
                    · exact SubC.out
        · first
          | ((try simp only [bsA, ne_eq] at hc1); exfalso; (first | with_reducible contradiction | omega | (simp at hc1; done)))
          | skip
            try simp only [bsA, ne_eq] at hc1
            refine wc_exit ?_
            refine q_thenExit ?_
            refine q_thenExit ?_
            refine q_blockExit ?_
            refine q_then ?_
            refine wc_seq ?_
            refine wc_region ?_
            refine wl_val rfl rfl rfl (y_assign rfl) ?_
            refine wl_nil ?_
            refine q_then ?_
            refine wc_ret ?_
            apply q_retg (res1 Try.results44 rfl) -- ret 3
            case hΨ =>
              exact ⟨by rw [htw, gdF_end (by omega)], rfl⟩
            case hs =>
              exact SubC.out
theorem cut_prs {qs : List Rq} {i : Nat} {w : World} {v : Value} (hl : RdI w [] v 19 qs.length (qs.flatMap Rq.cells)) (hi : i ≤ qs.length) : RdI w [] (cutv v 0 i 19) 19 (qs.take i).length ((qs.take i).flatMap Rq.cells) := by
  have h := hl.cut (l := 0) (h := i) (by omega) hi
  have e : (qs.take i).length = i := by simp; omega
  have e2 : ((qs.flatMap Rq.cells).drop (0 * 19)).take ((i - 0) * 19) = (qs.take i).flatMap Rq.cells := by
    rw [Nat.zero_mul, List.drop_zero, Nat.sub_zero]
    have h1 : qs.flatMap Rq.cells = (qs.take i).flatMap Rq.cells ++ (qs.drop i).flatMap Rq.cells := by
      rw [← List.flatMap_append, List.take_append_drop]
    have h2 : ((qs.take i).flatMap Rq.cells).length = i * 19 := by rw [flat_len (n := 19) fun x _ => x.len, e]
    rw [h1, List.take_left' h2]
  rw [e2] at h
  rw [e]
  exact h
theorem c_refBtGood (k : Ks) (nodes clients most : Int) (noop : Bool) (vl : Value) (qs : List Rq) (w : World) (ho : KsOk k) (hcl : clients ≤ 9223372036854775807) (hl : RdI w [] vl 19 qs.length (qs.flatMap Rq.cells)) :
    Calls Try.prog 45 #[.agg k.cells.toArray, .int .i64 nodes, .int .i64 clients, .int .i64 most, btc noop vl] w (RV w (.int .i64 (gdB k nodes clients most noop qs))) := by
  obtain ⟨A0, cap0, hv0, hle1, hle2, _⟩ := hl.rd.form
  simp only [maxLen] at hle2
  subst hv0
  refine enter (N := 54) Try.func45 rfl Try.ntmps45 rfl (Has.nil _) ?_
  refine wc_seq ?_
  refine wc_region ?_
  (refine wl_ef rfl (ef_box rfl rfl rfl) ?_; rintro _ _ ⟨b5, rfl, rfl⟩)
  (refine wl_ef rfl (ef_box rfl rfl rfl) ?_; rintro _ _ ⟨b9, rfl, rfl⟩)
  refine wl_val rfl rfl rfl (y_assign rfl) ?_
  refine wl_nil ?_
  refine q_then ?_
  refine wc_seq ?_
  refine wc_seq ?_
  refine wc_region ?_
  refine wl_val rfl rfl rfl (y_field0 fa26_0 rfl) ?_
  first | refine wl_val rfl rfl rfl (y_loadA one4 rfl) ?_ | refine wl_val rfl rfl rfl (y_load one4 rfl (by rfl)) ?_
  refine wl_val rfl rfl rfl (y_move rfl) ?_
  first | apply wl_andp (d := 20) | apply wl_and (d := 20)
  case ht =>
    intro hg1 hK1
    first
      | (refine wl_dead ?_ hK1 rfl; first | with_reducible contradiction | omega | (simp at hg1; done))
      | skip
        try simp only [bsA, ne_eq] at hg1
        refine wl_gval rfl rfl rfl rfl rfl rfl rfl (y_field0 fa26_1 rfl) ?_
        first | refine wl_gval rfl rfl rfl rfl rfl rfl rfl (y_loadA one24 rfl) ?_ | refine wl_gval rfl rfl rfl rfl rfl rfl rfl (y_load one24 rfl (by rfl)) ?_
        refine wl_gval rfl rfl rfl rfl rfl rfl rfl (y_lenSl Try.underlying24 rfl) ?_
        refine wl_gval rfl rfl rfl rfl rfl rfl rfl (y_gtr rfl rfl) ?_
        refine wl_val rfl rfl rfl (y_pickt rfl rfl) ?_
        exact wl_leR hK1 (.cons rfl (by repeat (first | refine LeE.skip ?_ rfl | exact LeE.refl _)))
  case hf =>
    intro hg1 hK1
    first
      | (refine wl_dead ?_ hK1 rfl; first | with_reducible contradiction | omega | (simp at hg1; done))
      | skip
        try simp only [bsA, ne_eq] at hg1
        refine wl_gskip rfl rfl rfl rfl rfl rfl rfl ?_
        refine wl_gskip rfl rfl rfl rfl rfl rfl rfl ?_
        refine wl_gskip rfl rfl rfl rfl rfl rfl rfl ?_
        refine wl_gskip rfl rfl rfl rfl rfl rfl rfl ?_
        first | refine wl_val rfl rfl rfl (y_pickt rfl rfl) ?_ | refine wl_val rfl rfl rfl (y_pickf rfl rfl) ?_
        exact wl_leR hK1 (.cons rfl (by repeat (first | refine LeE.skip ?_ rfl | exact LeE.refl _)))
  refine wl_val rfl rfl rfl (y_move rfl) ?_
  first | apply wl_orp (d := 27) | apply wl_or (d := 27)
  case ht =>
    intro hg2 hK2
    first
      | (refine wl_dead ?_ hK2 rfl; first | with_reducible contradiction | omega | (simp at hg2; done))
      | skip
        try simp only [bsA, ne_eq] at hg2
        refine wl_gskip rfl rfl rfl rfl rfl rfl rfl ?_
        refine wl_gskip rfl rfl rfl rfl rfl rfl rfl ?_
        refine wl_gskip rfl rfl rfl rfl rfl rfl rfl ?_
        refine wl_gskip rfl rfl rfl rfl rfl rfl rfl ?_
        refine wl_gskip rfl rfl rfl rfl rfl rfl rfl ?_
        refine wl_val rfl rfl rfl (y_pickt rfl rfl) ?_
        exact wl_leR hK2 (.cons rfl (by repeat (first | refine LeE.skip ?_ rfl | exact LeE.refl _)))
  case hf =>
    intro hg2 hK2
    first
      | (refine wl_dead ?_ hK2 rfl; first | with_reducible contradiction | omega | (simp at hg2; done))
      | skip
        try simp only [bsA, ne_eq] at hg2
        refine wl_gval rfl rfl rfl rfl rfl rfl rfl (y_field0 fa26_1 rfl) ?_
        first | refine wl_gval rfl rfl rfl rfl rfl rfl rfl (y_loadA one24 rfl) ?_ | refine wl_gval rfl rfl rfl rfl rfl rfl rfl (y_load one24 rfl (by rfl)) ?_
        refine wl_gval rfl rfl rfl rfl rfl rfl rfl (y_lenSl Try.underlying24 rfl) ?_
        refine wl_gval rfl rfl rfl rfl rfl rfl rfl (y_move rfl) ?_
        refine wl_gval rfl rfl rfl rfl rfl rfl rfl (y_gtr rfl rfl) ?_
        first | refine wl_val rfl rfl rfl (y_pickt rfl rfl) ?_ | refine wl_val rfl rfl rfl (y_pickf rfl rfl) ?_
        exact wl_leR hK2 (.cons rfl (by repeat (first | refine LeE.skip ?_ rfl | exact LeE.refl _)))
  refine wl_nil ?_
  refine q_then ?_
  first | refine wc_cond rfl (fun hc0 => ?_) (fun hc0 => ?_) | refine wc_condb rfl (fun hc0 => ?_) (fun hc0 => ?_)
  · first
    | ((try simp only [bsA, ne_eq] at hc0); exfalso; (first | with_reducible contradiction | omega | (simp at hc0; done)))
    | skip
      try simp only [bsA, ne_eq] at hc0
      have hg : gdB k nodes clients most noop qs = 70 := by rw [gdB, if_pos (by grind)]
      refine wc_seq ?_
      refine wc_region ?_
      refine wl_val rfl rfl rfl (y_assign rfl) ?_
      refine wl_nil ?_
      refine q_then ?_
      refine wc_ret ?_
      refine q_thenRet ?_
      apply q_retg (res1 Try.results45 rfl) -- ret 0
      case hΨ =>
        exact ⟨by rw [hg], rfl⟩
      case hs =>
        exact SubC.out
  · first
    | ((try simp only [bsA, ne_eq] at hc0); exfalso; (first | with_reducible contradiction | omega | (simp at hc0; done)))
    | skip
      try simp only [bsA, ne_eq] at hc0
      have hg : gdB k nodes clients most noop qs = gdF k nodes clients qs 0 := by rw [gdB, if_neg (by grind)]
      refine wc_skip ?_
      refine q_then ?_
      refine wc_seq ?_
      refine wc_seq ?_
      refine wc_region ?_
      refine wl_val rfl rfl rfl (y_assign rfl) ?_
      refine wl_nil ?_
      refine q_then ?_
      refine wc_block ?_
      refine wc_loop (X := Nat) (fun i => [(1, .int .i64 nodes), (2, .int .i64 clients), (5, .pointer (some ⟨b5, 0, none⟩)), (9, .pointer (some ⟨b9, 0, none⟩)), (11, .int .i64 (i : Int))]) (fun i => [.blk b5 k.cells 65 (0, 0), .blk b9 [.bool noop, .slice A0 qs.length cap0] 26 (0, 0)]) (fun i => i ≤ qs.length ∧ gdB k nodes clients most noop qs = gdF k nodes clients qs i ∧ twF (prs (qs.take i)) 0 < 0) (fun i => qs.length - i) (0) ?_ ?_ ?_ ?_
      · exact ⟨by omega, hg, by simp [twF_nil]⟩
      · repeat (first | exact SubE.nil | refine SubE.cons rfl ?_ | refine SubE.cons (lk_int rfl (by omega)) ?_ | refine SubE.cons (lk_int rfl (by rfl)) ?_ | refine SubE.cons (lk_eq rfl (by rfl)) ?_)
      · exact SubC.out
      · skip
        rintro i ⟨hi, htw, hlo⟩
        refine wc_seq ?_
        refine wc_seq ?_
        refine wc_region ?_
        refine wl_val rfl rfl rfl (y_move rfl) ?_
        refine wl_val rfl rfl rfl (y_field0 fa26_1 rfl) ?_
        first | refine wl_val rfl rfl rfl (y_loadA one24 rfl) ?_ | refine wl_val rfl rfl rfl (y_load one24 rfl (by rfl)) ?_
        refine wl_val rfl rfl rfl (y_lenSl Try.underlying24 rfl) ?_
        refine wl_val rfl rfl rfl (y_lss rfl rfl) ?_
        refine wl_nil ?_
        refine q_then ?_
        refine wc_cond rfl (fun hc1 => ?_) (fun hc1 => ?_)
        · first
          | ((try simp only [bsA, ne_eq] at hc1); exfalso; (first | with_reducible contradiction | omega | (simp at hc1; done)))
          | skip
            try simp only [bsA, ne_eq] at hc1
            obtain ⟨q, hq⟩ : ∃ q, qs[i]? = some q := ⟨qs[i]'(by omega), List.getElem?_eq_getElem (by omega)⟩
            rw [gdF_at hq] at htw
            have hsn : prs (qs.take (i + 1)) = prs (qs.take i) ++ [q.pr] := by rw [List.take_add_one, hq]; simp
            have hpt : prs (qs.take i) = (prs qs).take i := List.map_take
            have htq : twF (prs (qs.take (i + 1))) 0 = if q.pr ∈ (prs qs).take i then (i : Int) else -1 := by
              rw [hsn, twF_snoc _ _ _ 0 rfl (by omega), if_neg (by omega), hpt]
              have : ((prs qs).take i).length = i := by simp; omega
              rw [this]
            have hcut := cut_prs (i := i + 1) hl (by omega)
            refine wc_skip ?_
            refine q_then ?_
            refine wc_seq ?_
            refine wc_block ?_
            refine wc_seq ?_
            refine wa_begin_all (n := 10) (b := #[false, false, false, false, false, false, false, false, false, false]) mixed rfl rfl ?_
            refine wa_t 0 (by kernel_rfl) rfl rfl rfl rfl (y_loadC agg65 rfl) ?_
            refine wa_t 1 (by kernel_rfl) rfl rfl rfl rfl (y_move rfl) ?_
            refine wa_t 2 (by kernel_rfl) rfl rfl rfl rfl (y_move rfl) ?_
            refine wa_t 3 (by kernel_rfl) rfl rfl rfl rfl (y_field0 fa26_1 rfl) ?_
            first | refine wa_t 4 (by kernel_rfl) rfl rfl rfl rfl (y_loadA one24 rfl) ?_ | refine wa_t 4 (by kernel_rfl) rfl rfl rfl rfl (y_load one24 rfl (by rfl)) ?_
            refine wa_t 5 (by kernel_rfl) rfl rfl rfl rfl (y_move rfl) ?_
            refine wa_t 6 (by kernel_rfl) rfl rfl rfl rfl (y_indexEn Try.underlying24 siz71 rfl rfl (by first | exact rd_own | exact rd_in (by assumption) | assumption) (by omega)) ?_
            refine wa_t 7 (by kernel_rfl) rfl rfl rfl rfl (y_loadNE (us := q.cells) agg71 rfl (rd_in hl) (rq_part hq) q.len (by decide)) ?_
            (refine wa_e 8 (by kernel_rfl) rfl rfl (ef_callv0 rfl fun40 rfl (fun _ hw => (c_refGood k _ _ q _ ho hcl))) ?_; rintro _ _ ⟨rfl, rfl⟩; refine ⟨.inl (by kernel_rfl), ?_⟩)
            refine wa_t 9 (by kernel_rfl) rfl rfl rfl rfl (y_assign rfl) ?_
            refine wa_done (by kernel_rfl) ?_
            refine q_then ?_
            refine wc_seq ?_
            refine wc_seq ?_
            refine wc_region ?_
            refine wl_val rfl rfl rfl (y_move rfl) ?_
            refine wl_val rfl rfl rfl (y_neq rfl rfl) ?_
            refine wl_nil ?_
            refine q_then ?_
            refine wc_cond rfl (fun hc2 => ?_) (fun hc2 => ?_)
            · first
              | ((try simp only [bsA, ne_eq] at hc2); exfalso; (first | with_reducible contradiction | omega | (simp at hc2; done)))
              | skip
                try simp only [bsA, ne_eq] at hc2
                refine wc_seq ?_
                refine wc_region ?_
                refine wl_val rfl rfl rfl (y_move rfl) ?_
                refine wl_val rfl rfl rfl (y_assign rfl) ?_
                refine wl_nil ?_
                refine q_then ?_
                refine wc_ret ?_
                refine q_thenRet ?_
                refine q_blockRet ?_
                refine q_thenRet ?_
                refine q_thenRet ?_
                refine q_blockRet ?_
                refine q_thenRet ?_
                apply q_retg (res1 Try.results45 rfl) -- ret 1
                case hΨ =>
                  exact ⟨by rw [htw, if_pos (by simpa using hc2)], rfl⟩
                case hs =>
                  exact SubC.out
            · first
              | ((try simp only [bsA, ne_eq] at hc2); exfalso; (first | with_reducible contradiction | omega | (simp at hc2; done)))
              | skip
                try simp only [bsA, ne_eq] at hc2
                refine wc_skip ?_
                refine q_then ?_
                refine wc_seq ?_
                refine wc_region ?_
                refine wl_val rfl rfl rfl (y_field0 fa26_1 rfl) ?_
                first | refine wl_val rfl rfl rfl (y_loadA one24 rfl) ?_ | refine wl_val rfl rfl rfl (y_load one24 rfl (by rfl)) ?_
                refine wl_val rfl rfl rfl (y_move rfl) ?_
                refine wl_val rfl rfl rfl (y_addn rfl rfl (by omega)) ?_
                refine wl_val rfl rfl rfl (y_sliceS (h := i + 1) Try.underlying24 siz71 rfl (rd_in hl) (.inl ⟨rfl, rfl⟩) (.inr ⟨_, _, rfl, rfl⟩) (by omega) (by omega)) ?_
                (refine wl_ef rfl (ef_callv0 rfl fun47 rfl (fun _ hw => (c_refTwice _ _ _ (rdI_in0 hw hcut)))) ?_; rintro _ _ ⟨rfl, rfl⟩)
                refine wl_val rfl rfl rfl (y_geq rfl rfl) ?_
                refine wl_nil ?_
                refine q_then ?_
                refine wc_cond rfl (fun hc3 => ?_) (fun hc3 => ?_)
                · first
                  | ((try simp only [bsA, ne_eq] at hc3); exfalso; (first | with_reducible contradiction | omega | (simp at hc3; done)))
                  | skip
                    try simp only [bsA, ne_eq] at hc3
                    refine wc_seq ?_
                    refine wc_region ?_
                    refine wl_val rfl rfl rfl (y_assign rfl) ?_
                    refine wl_nil ?_
                    refine q_then ?_
                    refine wc_ret ?_
                    refine q_blockRet ?_
                    refine q_thenRet ?_
                    refine q_thenRet ?_
                    refine q_blockRet ?_
                    refine q_thenRet ?_
                    apply q_retg (res1 Try.results45 rfl) -- ret 2
                    case hΨ =>
                      exact ⟨by rw [htq] at hc3; rw [htw, if_neg (by simpa using hc2), if_pos (by grind)], rfl⟩
                    case hs =>
                      exact SubC.out
                · first
                  | ((try simp only [bsA, ne_eq] at hc3); exfalso; (first | with_reducible contradiction | omega | (simp at hc3; done)))
                  | skip
                    try simp only [bsA, ne_eq] at hc3
                    refine wc_skip ?_
                    refine q_blockNormal ?_
                    refine q_then ?_
                    refine wc_region ?_
                    refine wl_val rfl rfl rfl (y_move rfl) ?_
                    refine wl_val rfl rfl rfl (y_addn rfl rfl (by omega)) ?_
                    refine wl_val rfl rfl rfl (y_assign rfl) ?_
                    refine wl_nil ?_
                    refine q_again (i + 1) ?_ ?_ ?_ ?_
                    · exact ⟨by omega, by rw [htq] at hc3; rw [htw, if_neg (by simpa using hc2), if_neg (by grind)], by omega⟩
                    · first | omega | (simp; omega) | (simp only []; omega)
                    · repeat (first | exact SubE.nil | refine SubE.cons rfl ?_ | refine SubE.cons (lk_int rfl (by omega)) ?_ | refine SubE.cons (lk_int rfl (by rfl)) ?_ | refine SubE.cons (lk_eq rfl (by rfl)) ?_)
                    · exact SubC.out
        · first
          | ((try simp only [bsA, ne_eq] at hc1); exfalso; (first | with_reducible contradiction | omega | (simp at hc1; done)))
          | skip
            try simp only [bsA, ne_eq] at hc1
            refine wc_exit ?_
            refine q_thenExit ?_
            refine q_thenExit ?_
            refine q_blockExit ?_
            refine q_then ?_
            refine wc_seq ?_
            refine wc_region ?_
            refine wl_val rfl rfl rfl (y_assign rfl) ?_
            refine wl_nil ?_
            refine q_then ?_
            refine wc_ret ?_
            apply q_retg (res1 Try.results45 rfl) -- ret 3
            case hΨ =>
              exact ⟨by rw [htw, gdF_end (by omega)], rfl⟩
            case hs =>
              exact SubC.out
theorem c_keys07 (w : World) : Calls Try.prog 43 #[] w (RP [] w (fun v L => ∃ b, v = .tuple #[.pointer (some ⟨b, 0, none⟩), .agg K0.cells.toArray] ∧ L = [.blk b K0.cells 156 (0, 0)])) := by
  have d1 : ∀ w, Calls Try.prog 68 #[.string rS, .int .i64 72] w (RV w (.tuple #[.agg K0.cells.toArray, .bool true])) := fun w => c_refDerive rS 72 w (by omega) (by decide)
  have d2 : ∀ w, Calls Try.prog 69 #[.string rS, .int .i64 72] w (RP [] w (fun v L => ∃ b, v = .pointer (some ⟨b, 0, none⟩) ∧ L = [.blk b K0.cells 156 (0, 0)])) := fun w => c_Derive rS 72 w (by omega) (by decide)
  refine enter (N := 10) Try.func43 rfl Try.ntmps43 rfl (Has.nil _) ?_
  refine wc_seq ?_
  refine wc_region ?_
  refine wl_val rfl rfl rfl (y_assign rfl) ?_
  (refine wl_ef rfl (ef_alloc rfl zerKs) ?_; rintro _ _ ⟨b1, rfl, rfl⟩)
  refine wl_nil ?_
  refine q_then ?_
  refine wc_seq ?_
  refine wc_region ?_
  (refine wl_ef rfl (ef_callv0 rfl fun68 rfl (fun _ hw => (d1 _))) ?_; rintro _ _ ⟨rfl, rfl⟩)
  refine wl_val rfl rfl rfl (y_move rfl) ?_
  refine wl_val rfl rfl rfl (y_extract rfl rfl) ?_
  refine wl_val rfl rfl rfl (y_extract rfl rfl) ?_
  (refine wl_ef rfl (ef_alloc rfl zerKs) ?_; rintro _ _ ⟨b2, rfl, rfl⟩)
  (refine wl_ef rfl (ef_storeC siz65 rfl rfl rfl) ?_; rintro _ _ ⟨rfl, rfl⟩)
  refine wl_val rfl rfl rfl (y_assign rfl) ?_
  refine wl_nil ?_
  refine q_then ?_
  refine wc_seq ?_
  refine wa_begin_all (n := 4) (b := #[false, false, false, false]) mixed rfl rfl ?_
  refine wa_t 1 (by kernel_rfl) rfl rfl rfl rfl (y_loadC agg65 rfl) ?_
  (refine wa_e 0 (by kernel_rfl) rfl rfl (ef_callf rfl fun69 rfl (fun _ hw => (d2 _))) ?_; rintro _ _ ⟨b8, rfl, rfl⟩; refine ⟨.inr SubC.out, ?_⟩)
  refine wa_t 2 (by kernel_rfl) rfl rfl rfl rfl (y_assign rfl) ?_
  (refine wa_e 3 (by kernel_rfl) rfl rfl (ef_storeC siz65 rfl rfl rfl) ?_; rintro _ _ ⟨rfl, rfl⟩; refine ⟨.inl (by kernel_rfl), ?_⟩)
  refine wa_done (by kernel_rfl) ?_
  refine q_then ?_
  refine wc_ret ?_
  apply q_retg (rescTC Try.results43 rfl rfl agg65) -- ret 0
  case hΨ =>
    exact ⟨_, rfl, rfl⟩
  case hs =>
    exact SubC.out
theorem putBN : putBat true [] = [0] := by first | rfl | decide +kernel
theorem putB0 : putBat false [] = [1, 1] := by first | rfl | decide +kernel
theorem digs_apart : BtN.dig ≠ Bt0.dig := by
  intro h
  have h1 : sha [0x42, 0] = sha [0x42, 1, 1] := by
    have := congrArg Subtype.val h
    simp only [Bt.dig, digB, BtN, Bt0] at this
    rw [putBN, putB0] at this
    exact this
  revert h1
  decide +kernel
theorem c_lives07 (w : World) : Calls Try.prog 42 #[] w (RV w (.bool true)) := by
  have hap := digs_apart
  obtain ⟨DN, hDN⟩ : ∃ D, D = BtN.dig := ⟨_, rfl⟩
  obtain ⟨D0, hD0⟩ : ∃ D, D = Bt0.dig := ⟨_, rfl⟩
  rw [← hDN, ← hD0] at hap
  have dN : ∀ w, Calls Try.prog 53 #[.agg BtN.cells.toArray] w (RV w (.agg (bvs DN.1).toArray)) := fun w => hDN ▸ c_dig BtN w (btN_ok w)
  have d0 : ∀ w, Calls Try.prog 53 #[.agg Bt0.cells.toArray] w (RV w (.agg (bvs D0.1).toArray)) := fun w => hD0 ▸ c_dig Bt0 w (bt0_ok w)
  have pN : ∀ w, Calls Try.prog 51 #[.slice none 0 0, .agg BtN.cells.toArray] w (RB w [0]) := fun w => by
    have := c_batPut (.slice none 0 0) (.slice none 0 0) [] true [] ⟨by simp, by simp⟩ w (OwnR.nil _ _ _) (RdI.of_nil _ _ _) (by simp)
    rw [List.nil_append, putBN] at this
    exact this
  have p0 : ∀ w, Calls Try.prog 51 #[.slice none 0 0, .agg Bt0.cells.toArray] w (RB w [1, 1]) := fun w => by
    have := c_batPut (.slice none 0 0) (.slice none 0 0) [] false [] ⟨by simp, by simp⟩ w (OwnR.nil _ _ _) (RdI.of_nil _ _ _) (by simp)
    rw [List.nil_append, putB0] at this
    exact this
  refine enter (N := 18) Try.func42 rfl Try.ntmps42 rfl (Has.nil _) ?_
  refine wc_seq ?_
  refine wc_region ?_
  refine wl_val rfl rfl rfl (y_assign rfl) ?_
  refine wl_nil ?_
  refine q_then ?_
  refine wc_seq ?_
  refine wc_region ?_
  (refine wl_ef rfl (ef_callv0 rfl fun48 rfl (fun _ hw => (c_None _))) ?_; rintro _ _ ⟨rfl, rfl⟩)
  (refine wl_ef rfl (ef_callo rfl fun51 rfl (fun _ hw => (pN _))) ?_; rintro _ _ ⟨v2, rfl, rfl⟩)
  refine wl_val rfl rfl rfl (y_str Try.underlying99 Try.underlying9 Try.underlying5 rfl (by first | exact rd_own | exact rd_in (by assumption) | assumption)) ?_
  refine wl_val rfl rfl rfl (y_eqlStr rfl rfl) ?_
  refine wl_val rfl rfl rfl (y_move rfl) ?_
  apply wl_andp (d := 10)
  case ht =>
    intro hg1 hK1
    first
      | (refine wl_dead ?_ hK1 rfl; first | with_reducible contradiction | omega | (simp at hg1; done))
      | skip
        try simp only [bsA, ne_eq] at hg1
        refine wl_gval rfl rfl rfl rfl rfl rfl rfl (y_buildc (cs := Bt0.cells) rfl (fun w => by kernel_rfl)) ?_
        (refine wl_gef rfl rfl rfl rfl rfl (ef_callo rfl fun51 rfl (fun _ hw => (p0 _))) ?_; rintro _ _ ⟨v7, rfl, rfl⟩)
        refine wl_gval rfl rfl rfl rfl rfl rfl rfl (y_str Try.underlying99 Try.underlying9 Try.underlying5 rfl (by first | exact rd_own | exact rd_in (by assumption) | assumption)) ?_
        refine wl_gval rfl rfl rfl rfl rfl rfl rfl (y_eqlStr rfl rfl) ?_
        refine wl_val rfl rfl rfl (y_pickt rfl rfl) ?_
        first | exact wl_leR hK1 (.cons rfl (by repeat (first | refine LeE.skip ?_ rfl | exact LeE.refl _))) | exact wl_le hK1 (.cons rfl (by repeat (first | refine LeE.skip ?_ rfl | exact LeE.refl _))) SubC.out
  case hf =>
    intro hg1 hK1
    (refine wl_dead ?_ hK1 rfl; first | with_reducible contradiction | omega | (simp at hg1; done))
  refine wl_val rfl rfl rfl (y_move rfl) ?_
  first | apply wl_andp (d := 17) | apply wl_and (d := 17)
  case ht =>
    intro hg2 hK2
    first
      | (refine wl_dead ?_ hK2 rfl; first | with_reducible contradiction | omega | (simp at hg2; done))
      | skip
        try simp only [bsA, ne_eq] at hg2
        (refine wl_gef rfl rfl rfl rfl rfl (ef_callv0 rfl fun48 rfl (fun _ hw => (c_None _))) ?_; rintro _ _ ⟨rfl, rfl⟩)
        (refine wl_gef rfl rfl rfl rfl rfl (ef_callv0 rfl fun53 rfl (fun _ hw => (dN _))) ?_; rintro _ _ ⟨rfl, rfl⟩)
        refine wl_gval rfl rfl rfl rfl rfl rfl rfl (y_buildc (cs := Bt0.cells) rfl (fun w => by kernel_rfl)) ?_
        (refine wl_gef rfl rfl rfl rfl rfl (ef_callv0 rfl fun53 rfl (fun _ hw => (d0 _))) ?_; rintro _ _ ⟨rfl, rfl⟩)
        refine wl_gval rfl rfl rfl rfl rfl rfl rfl (y_neqAgg Try.eqGuardType28 rfl rfl (eq_dg _ _) (by omega)) ?_
        refine wl_val rfl rfl rfl (y_pickt rfl rfl) ?_
        exact wl_leR hK2 (.cons rfl (by repeat (first | refine LeE.skip ?_ rfl | exact LeE.refl _)))
  case hf =>
    intro hg2 hK2
    (refine wl_dead ?_ hK2 rfl; first | with_reducible contradiction | omega | (simp at hg2; done))
  refine wl_val rfl rfl rfl (y_assign rfl) ?_
  refine wl_nil ?_
  refine q_then ?_
  refine wc_ret ?_
  apply q_retg (res1 Try.results42 rfl) -- ret 0
  case hΨ =>
    exact ⟨by simp [hap]; try decide, rfl⟩
  case hs =>
    exact SubC.out
theorem prs_once {qs : List Rq} {k : Ks} {nodes clients : Int} : ∀ n i, qs.length - i = n → gdF k nodes clients qs i = 0 → ∀ j q, i ≤ j → qs[j]? = some q → gd k nodes clients q = 0 ∧ q.pr ∉ (prs qs).take j := by
  intro n
  induction n with
  | zero =>
    intro i h1 h j q hij hq
    have := (List.getElem?_eq_some_iff.1 hq).1
    omega
  | succ n ih =>
    intro i h1 h j q hij hq
    have hlt : i < qs.length := by omega
    rw [gdF_at (List.getElem?_eq_getElem hlt)] at h
    split at h
    · omega
    · rename_i h2
      split at h
      · omega
      · rename_i h3
        rcases Nat.lt_or_eq_of_le hij with h4 | rfl
        · exact ih (i + 1) (by omega) h j q h4 hq
        · have := (List.getElem?_eq_some_iff.1 hq).2
          rw [this] at h2 h3
          exact ⟨by omega, h3⟩
theorem c_BatchChecks (x : Bt) (clients most : Int) (w : World) (hx : BtIn w [] x) (hcl : clients ≤ 9223372036854775807) : Calls Try.prog 10 #[.agg x.cells.toArray, .int .i64 clients, .int .i64 most] w (RV w (.bool true)) := by
  have hbs : ∀ b ∈ [x], BtIn w [] b := by
    intro b hb
    simp only [List.mem_cons, List.not_mem_nil, or_false] at hb
    subst hb
    exact hx
  have hB1 : BtOk w { Bt0 with noop := true } := ⟨RdI.of_nil _ _ _, ⟨by simp [Bt0], by simp [Bt0]⟩⟩
  refine enter (N := 46) Try.func10 rfl Try.ntmps10 rfl (Has.nil _) ?_
  refine wc_seq ?_
  refine wc_region ?_
  (refine wl_ef rfl (ef_box rfl rfl rfl) ?_; rintro _ _ ⟨b3, rfl, rfl⟩)
  refine wl_val rfl rfl rfl (y_assign rfl) ?_
  refine wl_nil ?_
  refine q_then ?_
  refine wc_seq ?_
  refine wc_seq ?_
  refine wc_region ?_
  refine wl_val rfl rfl rfl (y_loadC agg26 rfl) ?_
  (refine wl_ef rfl (ef_litN rfl Try.underlying117 siz26 zerBt rfl rfl rfl) ?_; rintro _ _ ⟨v10, rfl, rfl⟩)
  (refine wl_ef rfl (ef_callv0 rfl fun15 rfl (fun _ hw => (c_Light _ [x] _ (rd_bts hw rfl (by simp)) (fun b hb => (hbs b hb).go hw)))) ?_; rintro _ _ ⟨rfl, rfl⟩)
  refine wl_val rfl rfl rfl (y_not rfl) ?_
  refine wl_nil ?_
  refine q_then ?_
  refine wc_cond rfl (fun hc0 => ?_) (fun hc0 => ?_)
  · first
    | ((try simp only [bsA, ne_eq] at hc0); exfalso; (first | with_reducible contradiction | omega | (simp at hc0; done)))
    | skip
      try simp only [bsA, ne_eq] at hc0
      refine wc_seq ?_
      refine wc_region ?_
      (refine wl_ef rfl (ef_callv0 rfl fun42 rfl (fun _ hw => (c_lives07 _))) ?_; rintro _ _ ⟨rfl, rfl⟩)
      refine wl_val rfl rfl rfl (y_assign rfl) ?_
      refine wl_nil ?_
      refine q_then ?_
      refine wc_ret ?_
      refine q_thenRet ?_
      apply q_retg (res1 Try.results10 rfl) -- ret 0
      case hΨ =>
        exact ⟨by simp [btS, BtN, Bt0], rfl⟩
      case hs =>
        exact SubC.out
  · first
    | ((try simp only [bsA, ne_eq] at hc0); exfalso; (first | with_reducible contradiction | omega | (simp at hc0; done)))
    | skip
      try simp only [bsA, ne_eq] at hc0
      have hxo := bt_light hx (List.mem_singleton.2 rfl) (by simpa [lightB] using hc0)
      obtain ⟨qs, hqs⟩ := rqs_of hxo.tag
      have hqn : qs.length = x.rs.length := by rw [hqs, List.length_map]
      have hrd : RdI w [] x.v 19 qs.length (qs.flatMap Rq.cells) := by
        have := hxo.rd
        rwa [hqs, reqsC_of, List.length_map] at this
      have cg : ∀ (b : Nat) (w' : World), InB w' b K0.cells → RdI w' [] x.v 19 qs.length (qs.flatMap Rq.cells) → Calls Try.prog 44 #[.pointer (some ⟨b, 0, none⟩), .int .i64 4, .int .i64 clients, .int .i64 most, .agg x.cells.toArray] w' (RV w' (.int .i64 (gdB K0 4 clients most x.noop qs))) := fun b w' h hr => c_btGood b K0 4 clients most x.noop x.v qs w' h k0_ok hcl hr
      have cr : ∀ (w' : World), RdI w' [] x.v 19 qs.length (qs.flatMap Rq.cells) → Calls Try.prog 45 #[.agg K0.cells.toArray, .int .i64 4, .int .i64 clients, .int .i64 most, .agg x.cells.toArray] w' (RV w' (.int .i64 (gdB K0 4 clients most x.noop qs))) := fun w' hr => c_refBtGood K0 4 clients most x.noop x.v qs w' k0_ok hcl hr
      refine wc_skip ?_
      refine q_then ?_
      refine wc_seq ?_
      refine wc_region ?_
      (refine wl_ef rfl (ef_callg (fun b => .tuple #[.pointer (some ⟨b, 0, none⟩), .agg K0.cells.toArray]) rfl fun43 rfl (fun _ hw => c_keys07 _)) ?_; rintro _ _ ⟨b17, rfl, rfl⟩)
      refine wl_val rfl rfl rfl (y_move rfl) ?_
      refine wl_val rfl rfl rfl (y_extract rfl rfl) ?_
      refine wl_val rfl rfl rfl (y_extract rfl rfl) ?_
      (refine wl_ef rfl (ef_alloc rfl zerKs) ?_; rintro _ _ ⟨b8, rfl, rfl⟩)
      refine wl_val rfl rfl rfl (y_assign rfl) ?_
      (refine wl_ef rfl (ef_storeC siz65 rfl rfl rfl) ?_; rintro _ _ ⟨rfl, rfl⟩)
      refine wl_nil ?_
      refine q_then ?_
      refine wc_seq ?_
      refine wa_begin_all (n := 29) (b := #[false, false, false, false, false, false, false, false, false, false, false, false, false, false, false, false, false, false, false, false, false, false, false, false, false, false, false, false, false]) mixed rfl rfl ?_
      refine wa_t 0 (by kernel_rfl) rfl rfl rfl rfl (y_move rfl) ?_
      refine wa_t 1 (by kernel_rfl) rfl rfl rfl rfl (y_move rfl) ?_
      refine wa_t 2 (by kernel_rfl) rfl rfl rfl rfl (y_move rfl) ?_
      refine wa_t 3 (by kernel_rfl) rfl rfl rfl rfl (y_loadC agg26 rfl) ?_
      refine wa_t 5 (by kernel_rfl) rfl rfl rfl rfl (y_loadC agg65 rfl) ?_
      refine wa_t 6 (by kernel_rfl) rfl rfl rfl rfl (y_move rfl) ?_
      refine wa_t 7 (by kernel_rfl) rfl rfl rfl rfl (y_move rfl) ?_
      refine wa_t 8 (by kernel_rfl) rfl rfl rfl rfl (y_loadC agg26 rfl) ?_
      (refine wa_e 4 (by kernel_rfl) rfl rfl (ef_callv0 rfl fun44 rfl (fun _ hw => (cg b17 _ (inB_own hw) (rdI_in0 hw hrd)))) ?_; rintro _ _ ⟨rfl, rfl⟩; refine ⟨.inr SubC.out, ?_⟩)
      (refine wa_e 9 (by kernel_rfl) rfl rfl (ef_callv0 rfl fun45 rfl (fun _ hw => (cr _ (rdI_in0 hw hrd)))) ?_; rintro _ _ ⟨rfl, rfl⟩; refine ⟨.inl (by kernel_rfl), ?_⟩)
      refine wa_t 10 (by kernel_rfl) rfl rfl rfl rfl (y_eql rfl rfl) ?_
      refine wa_t 11 (by kernel_rfl) rfl rfl rfl rfl (y_move rfl) ?_
      apply wa_andp (d := 37)
      case ht =>
        intro hg1 hK1
        first
          | (refine wa_dead ?_ hK1 rfl; first | with_reducible contradiction | omega | (simp at hg1; done))
          | skip
            try simp only [bsA, ne_eq] at hg1
            refine wa_gt 12 (by kernel_rfl) rfl rfl rfl rfl rfl rfl rfl rfl (y_field0 fa26_1 rfl) ?_
            refine wa_gt 13 (by kernel_rfl) rfl rfl rfl rfl rfl rfl rfl rfl (y_loadA one24 rfl) ?_
            refine wa_gt 15 (by kernel_rfl) rfl rfl rfl rfl rfl rfl rfl rfl (y_field0 fa26_1 rfl) ?_
            refine wa_gt 16 (by kernel_rfl) rfl rfl rfl rfl rfl rfl rfl rfl (y_loadA one24 rfl) ?_
            (refine wa_ge 14 (by kernel_rfl) rfl rfl rfl rfl rfl rfl (ef_callv0 rfl fun46 rfl (fun _ hw => (c_Twice _ qs _ (rdI_in0 hw hrd)))) ?_; rintro _ _ ⟨rfl, rfl⟩; refine ⟨.inr SubC.out, ?_⟩)
            (refine wa_ge 17 (by kernel_rfl) rfl rfl rfl rfl rfl rfl (ef_callv0 rfl fun47 rfl (fun _ hw => (c_refTwice _ qs _ (rdI_in0 hw hrd)))) ?_; rintro _ _ ⟨rfl, rfl⟩; refine ⟨.inl (by kernel_rfl), ?_⟩)
            refine wa_gt 18 (by kernel_rfl) rfl rfl rfl rfl rfl rfl rfl rfl (y_eql rfl rfl) ?_
            refine wa_t 19 (by kernel_rfl) rfl rfl rfl rfl (y_pickt rfl rfl) ?_
            exact wa_leR hK1 (.cons rfl (by repeat (first | refine LeE.skip ?_ rfl | exact LeE.refl _)))
      case hf =>
        intro hg1 hK1
        (refine wa_dead ?_ hK1 rfl; first | with_reducible contradiction | omega | (simp at hg1; done))
      refine wa_t 20 (by kernel_rfl) rfl rfl rfl rfl (y_move rfl) ?_
      first | apply wa_andp (d := 42) | apply wa_and (d := 42)
      case ht =>
        intro hg2 hK2
        first
          | (refine wa_dead ?_ hK2 rfl; first | with_reducible contradiction | omega | (simp at hg2; done))
          | skip
            try simp only [bsA, ne_eq] at hg2
            refine wa_gt 22 (by kernel_rfl) rfl rfl rfl rfl rfl rfl rfl rfl (y_buildS bldBt rfl) ?_
            (refine wa_ge 21 (by kernel_rfl) rfl rfl rfl rfl rfl rfl (ef_callv0 rfl fun48 rfl (fun _ hw => (c_None _))) ?_; rintro _ _ ⟨rfl, rfl⟩; refine ⟨.inr SubC.out, ?_⟩)
            (refine wa_ge 23 (by kernel_rfl) rfl rfl rfl rfl rfl rfl (ef_callv0 rfl fun25 rfl (fun _ hw => (c_refBtSame BtN { Bt0 with noop := true } _ (btN_ok _) (hB1.go hw)))) ?_; rintro _ _ ⟨rfl, rfl⟩; refine ⟨.inl (by kernel_rfl), ?_⟩)
            refine wa_t 24 (by kernel_rfl) rfl rfl rfl rfl (y_pickt rfl rfl) ?_
            exact wa_leR hK2 (.cons rfl (by repeat (first | refine LeE.skip ?_ rfl | exact LeE.refl _)))
      case hf =>
        intro hg2 hK2
        (refine wa_dead ?_ hK2 rfl; first | with_reducible contradiction | omega | (simp at hg2; done))
      refine wa_t 25 (by kernel_rfl) rfl rfl rfl rfl (y_move rfl) ?_
      first | apply wa_andp (d := 45) | apply wa_and (d := 45)
      case ht =>
        intro hg3 hK3
        first
          | (refine wa_dead ?_ hK3 rfl; first | with_reducible contradiction | omega | (simp at hg3; done))
          | skip
            try simp only [bsA, ne_eq] at hg3
            (refine wa_ge 26 (by kernel_rfl) rfl rfl rfl rfl rfl rfl (ef_callv0 rfl fun42 rfl (fun _ hw => (c_lives07 _))) ?_; rintro _ _ ⟨rfl, rfl⟩; refine ⟨.inr SubC.out, ?_⟩)
            refine wa_t 27 (by kernel_rfl) rfl rfl rfl rfl (y_pickt rfl rfl) ?_
            exact wa_leR hK3 (.cons rfl (by repeat (first | refine LeE.skip ?_ rfl | exact LeE.refl _)))
      case hf =>
        intro hg3 hK3
        first
          | (refine wa_dead ?_ hK3 rfl; first | with_reducible contradiction | omega | (simp at hg3; done))
          | skip
            try simp only [bsA, ne_eq] at hg3
            refine wa_gs 26 (by kernel_rfl) rfl rfl rfl rfl rfl rfl rfl rfl ?_
            first | refine wa_t 27 (by kernel_rfl) rfl rfl rfl rfl (y_pickt rfl rfl) ?_ | refine wa_t 27 (by kernel_rfl) rfl rfl rfl rfl (y_pickf rfl rfl) ?_
            exact wa_leR hK3 (.cons rfl (by repeat (first | refine LeE.skip ?_ rfl | exact LeE.refl _)))
      refine wa_t 28 (by kernel_rfl) rfl rfl rfl rfl (y_assign rfl) ?_
      refine wa_done (by kernel_rfl) ?_
      refine q_then ?_
      refine wc_ret ?_
      apply q_retg (res1 Try.results10 rfl) -- ret 1
      case hΨ =>
        exact ⟨by simp [btS, BtN, Bt0], rfl⟩
      case hs =>
        exact SubC.out
theorem c_BatchOnce (x : Bt) (clients : Int) (w : World) (hx : BtIn w [] x) (hcl : clients ≤ 9223372036854775807) : Calls Try.prog 9 #[.agg x.cells.toArray, .int .i64 clients] w (RV w (.bool true)) := by
  have hbs : ∀ b ∈ [x], BtIn w [] b := by
    intro b hb
    simp only [List.mem_cons, List.not_mem_nil, or_false] at hb
    subst hb
    exact hx
  refine enter (N := 63) Try.func9 rfl Try.ntmps9 rfl (Has.nil _) ?_
  refine wc_seq ?_
  refine wc_region ?_
  (refine wl_ef rfl (ef_box rfl rfl rfl) ?_; rintro _ _ ⟨b2, rfl, rfl⟩)
  refine wl_val rfl rfl rfl (y_assign rfl) ?_
  refine wl_nil ?_
  refine q_then ?_
  refine wc_seq ?_
  refine wc_seq ?_
  refine wc_region ?_
  refine wl_val rfl rfl rfl (y_loadC agg26 rfl) ?_
  (refine wl_ef rfl (ef_litN rfl Try.underlying117 siz26 zerBt rfl rfl rfl) ?_; rintro _ _ ⟨v12, rfl, rfl⟩)
  (refine wl_ef rfl (ef_callv0 rfl fun15 rfl (fun _ hw => (c_Light _ [x] _ (rd_bts hw rfl (by simp)) (fun b hb => (hbs b hb).go hw)))) ?_; rintro _ _ ⟨rfl, rfl⟩)
  refine wl_val rfl rfl rfl (y_not rfl) ?_
  refine wl_nil ?_
  refine q_then ?_
  refine wc_cond rfl (fun hc0 => ?_) (fun hc0 => ?_)
  · first
    | ((try simp only [bsA, ne_eq] at hc0); exfalso; (first | with_reducible contradiction | omega | (simp at hc0; done)))
    | skip
      try simp only [bsA, ne_eq] at hc0
      refine wc_seq ?_
      refine wc_region ?_
      (refine wl_ef rfl (ef_callv0 rfl fun42 rfl (fun _ hw => (c_lives07 _))) ?_; rintro _ _ ⟨rfl, rfl⟩)
      refine wl_val rfl rfl rfl (y_assign rfl) ?_
      refine wl_nil ?_
      refine q_then ?_
      refine wc_ret ?_
      refine q_thenRet ?_
      apply q_retg (res1 Try.results9 rfl) -- ret 0
      case hΨ =>
        first | exact ⟨rfl, rfl⟩ | exact rfl
      case hs =>
        exact SubC.out
  · first
    | ((try simp only [bsA, ne_eq] at hc0); exfalso; (first | with_reducible contradiction | omega | (simp at hc0; done)))
    | skip
      try simp only [bsA, ne_eq] at hc0
      have hxo := bt_light hx (List.mem_singleton.2 rfl) (by simpa [lightB] using hc0)
      obtain ⟨qs, hqs⟩ := rqs_of hxo.tag
      have hqn : qs.length = x.rs.length := by rw [hqs, List.length_map]
      have hrd : RdI w [] x.v 19 qs.length (qs.flatMap Rq.cells) := by
        have := hxo.rd
        rwa [hqs, reqsC_of, List.length_map] at this
      have hln : qs.length ≤ 1000 := by have := hxo.reqs.many; omega
      have cg : ∀ (b : Nat) (w' : World), InB w' b K0.cells → RdI w' [] x.v 19 qs.length (qs.flatMap Rq.cells) → Calls Try.prog 44 #[.pointer (some ⟨b, 0, none⟩), .int .i64 4, .int .i64 clients, .int .i64 100, .agg x.cells.toArray] w' (RV w' (.int .i64 (gdB K0 4 clients 100 x.noop qs))) := fun b w' h hr => c_btGood b K0 4 clients 100 x.noop x.v qs w' h k0_ok hcl hr
      refine wc_skip ?_
      refine q_then ?_
      refine wc_seq ?_
      refine wc_region ?_
      (refine wl_ef rfl (ef_callg (fun b => .tuple #[.pointer (some ⟨b, 0, none⟩), .agg K0.cells.toArray]) rfl fun43 rfl (fun _ hw => c_keys07 _)) ?_; rintro _ _ ⟨b17, rfl, rfl⟩)
      refine wl_val rfl rfl rfl (y_move rfl) ?_
      refine wl_val rfl rfl rfl (y_extract rfl rfl) ?_
      refine wl_val rfl rfl rfl (y_extract rfl rfl) ?_
      (refine wl_ef rfl (ef_alloc rfl zerKs) ?_; rintro _ _ ⟨b6, rfl, rfl⟩)
      refine wl_val rfl rfl rfl (y_assign rfl) ?_
      (refine wl_ef rfl (ef_storeC siz65 rfl rfl rfl) ?_; rintro _ _ ⟨rfl, rfl⟩)
      refine wl_nil ?_
      refine q_then ?_
      refine wc_seq ?_
      refine wc_seq ?_
      refine wc_region ?_
      refine wl_val rfl rfl rfl (y_move rfl) ?_
      refine wl_val rfl rfl rfl (y_move rfl) ?_
      refine wl_val rfl rfl rfl (y_loadC agg26 rfl) ?_
      (refine wl_ef rfl (ef_callv0 rfl fun44 rfl (fun _ hw => (cg b17 _ (inB_own hw) (rdI_in0 hw hrd)))) ?_; rintro _ _ ⟨rfl, rfl⟩)
      refine wl_val rfl rfl rfl (y_neq rfl rfl) ?_
      refine wl_nil ?_
      refine q_then ?_
      refine wc_cond rfl (fun hc1 => ?_) (fun hc1 => ?_)
      · first
        | ((try simp only [bsA, ne_eq] at hc1); exfalso; (first | with_reducible contradiction | omega | (simp at hc1; done)))
        | skip
          try simp only [bsA, ne_eq] at hc1
          refine wc_seq ?_
          refine wc_region ?_
          (refine wl_ef rfl (ef_callv0 rfl fun42 rfl (fun _ hw => (c_lives07 _))) ?_; rintro _ _ ⟨rfl, rfl⟩)
          refine wl_val rfl rfl rfl (y_assign rfl) ?_
          refine wl_nil ?_
          refine q_then ?_
          refine wc_ret ?_
          refine q_thenRet ?_
          apply q_retg (res1 Try.results9 rfl) -- ret 1
          case hΨ =>
            first | exact ⟨rfl, rfl⟩ | exact rfl
          case hs =>
            exact SubC.out
      · first
        | ((try simp only [bsA, ne_eq] at hc1); exfalso; (first | with_reducible contradiction | omega | (simp at hc1; done)))
        | skip
          try simp only [bsA, ne_eq] at hc1
          have hgF : gdF K0 4 clients qs 0 = 0 := by
            have h1 := hc1
            rw [gdB] at h1
            split at h1
            · simp at h1
            · simpa using h1
          have hon := prs_once _ 0 rfl hgF
          obtain ⟨A0, cap0, hv0, hle1, hle2, _⟩ := hrd.rd.form
          simp only [maxLen] at hle2
          refine wc_skip ?_
          refine q_then ?_
          refine wc_seq ?_
          refine wc_seq ?_
          refine wc_region ?_
          refine wl_val rfl rfl rfl (y_field0 fa26_1 rfl) ?_
          refine wl_val rfl rfl rfl (y_loadA one24 rfl) ?_
          refine wl_val rfl rfl rfl (y_lenRd Try.underlying24 rfl (rd_in hrd)) ?_
          refine wl_val rfl rfl rfl (y_move rfl) ?_
          refine wl_nil ?_
          refine q_then ?_
          refine wc_block ?_
          refine wc_loop (X := Nat) (fun i => [(1, .int .i64 clients), (2, .pointer (some ⟨b2, 0, none⟩)), (5, .pointer (some ⟨b17, 0, none⟩)), (27, x.v), (28, .int .i64 (qs.length : Int)), (29, .int .i64 (i : Int))]) (fun i => [.blk b2 x.cells 26 (0, 0), .blk b17 K0.cells 156 (0, 0)]) (fun i => i ≤ qs.length) (fun i => qs.length - i) (0) ?_ ?_ ?_ ?_
          · omega
          · repeat (first | exact SubE.nil | refine SubE.cons rfl ?_ | refine SubE.cons (lk_int rfl (by omega)) ?_ | refine SubE.cons (lk_int rfl (by rfl)) ?_ | refine SubE.cons (lk_eq rfl (by rfl)) ?_)
          · exact SubC.out
          · skip
            intro i hi
            refine wc_seq ?_
            refine wc_region ?_
            refine wl_val rfl rfl rfl (y_lss rfl rfl) ?_
            refine wl_nil ?_
            refine q_then ?_
            refine wc_seq ?_
            refine wc_cond rfl (fun hc2 => ?_) (fun hc2 => ?_)
            · first
              | ((try simp only [bsA, ne_eq] at hc2); exfalso; (first | with_reducible contradiction | omega | (simp at hc2; done)))
              | skip
                try simp only [bsA, ne_eq] at hc2
                obtain ⟨q, hq⟩ : ∃ q, qs[i]? = some q := ⟨qs[i]'(by omega), List.getElem?_eq_getElem (by omega)⟩
                obtain ⟨hq0, hqp⟩ := hon i q (by omega) hq
                have hcut := cut_prs (i := i) hrd (by omega)
                have htl : (qs.take i).length = i := by simp; omega
                obtain ⟨cv, hcv⟩ : ∃ cv, cv = cutv x.v 0 i 19 := ⟨_, rfl⟩
                rw [← hcv, htl] at hcut
                have cgq : ∀ (b : Nat) (w' : World), InB w' b K0.cells → Calls Try.prog 30 #[.pointer (some ⟨b, 0, none⟩), .int .i64 4, .int .i64 clients, .agg q.cells.toArray] w' (RV w' (.int .i64 0)) := fun b w' h => by
                  have := c_Good b K0 4 clients q w' h k0_ok hcl
                  rwa [hq0] at this
                refine wc_skip ?_
                refine q_then ?_
                refine wc_seq ?_
                refine wc_block ?_
                refine wc_seq ?_
                refine wc_region ?_
                refine wl_val rfl rfl rfl (y_move rfl) ?_
                refine wl_val rfl rfl rfl (y_indexEn Try.underlying24 siz71 rfl rfl (by first | exact rd_own | exact rd_in (by assumption) | assumption) (by omega)) ?_
                refine wl_val rfl rfl rfl (y_loadNE (us := q.cells) agg71 rfl (rd_in hrd) (rq_part hq) q.len (by decide)) ?_
                (refine wl_ef rfl (ef_alloc rfl zerRq) ?_; rintro _ _ ⟨b8, rfl, rfl⟩)
                refine wl_val rfl rfl rfl (y_assign rfl) ?_
                (refine wl_ef rfl (ef_storeC siz71 rfl rfl rfl) ?_; rintro _ _ ⟨rfl, rfl⟩)
                refine wl_nil ?_
                refine q_then ?_
                refine wc_seq ?_
                refine wc_seq ?_
                refine wc_region ?_
                refine wl_val rfl rfl rfl (y_move rfl) ?_
                refine wl_val rfl rfl rfl (y_move rfl) ?_
                refine wl_val rfl rfl rfl (y_loadC agg71 rfl) ?_
                (refine wl_ef rfl (ef_callv0 rfl fun30 rfl (fun _ hw => (cgq b17 _ (inB_own hw)))) ?_; rintro _ _ ⟨rfl, rfl⟩)
                refine wl_val rfl rfl rfl (y_neq rfl rfl) ?_
                refine wl_nil ?_
                refine q_then ?_
                refine wc_cond rfl (fun hc3 => ?_) (fun hc3 => ?_)
                · exfalso; (try simp only [bsA, ne_eq] at hc3); simp at hc3
                · first
                  | ((try simp only [bsA, ne_eq] at hc3); exfalso; (first | with_reducible contradiction | omega | (simp at hc3; done)))
                  | skip
                    try simp only [bsA, ne_eq] at hc3
                    refine wc_skip ?_
                    refine q_then ?_
                    refine wc_seq ?_
                    refine wc_region ?_
                    refine wl_val rfl rfl rfl (y_field0 fa26_1 rfl) ?_
                    refine wl_val rfl rfl rfl (y_loadA one24 rfl) ?_
                    refine wl_val rfl rfl rfl (y_move rfl) ?_
                    refine wl_val rfl rfl rfl (yl_is (y_sliceS (h := i) Try.underlying24 siz71 rfl (rd_in hrd) (.inl ⟨rfl, rfl⟩) (.inr ⟨_, _, rfl, rfl⟩) (by omega) (by omega)) hcv.symm) ?_
                    refine wl_val rfl rfl rfl (y_lenRd Try.underlying24 rfl (rd_in hcut)) ?_
                    refine wl_val rfl rfl rfl (y_move rfl) ?_
                    refine wl_nil ?_
                    refine q_then ?_
                    refine wc_block ?_
                    refine wc_loop (X := Nat) (fun k => [(1, .int .i64 clients), (2, .pointer (some ⟨b2, 0, none⟩)), (5, .pointer (some ⟨b17, 0, none⟩)), (8, .pointer (some ⟨b8, 0, none⟩)), (27, x.v), (28, .int .i64 (qs.length : Int)), (29, .int .i64 (i : Int)), (42, cv), (43, .int .i64 (i : Int)), (44, .int .i64 (k : Int))]) (fun k => [.blk b2 x.cells 26 (0, 0), .blk b17 K0.cells 156 (0, 0), .blk b8 q.cells 71 (0, 0)]) (fun k => k ≤ i) (fun k => i - k) (0) ?_ ?_ ?_ ?_
                    · omega
                    · repeat (first | exact SubE.nil | refine SubE.cons rfl ?_ | refine SubE.cons (lk_int rfl (by omega)) ?_ | refine SubE.cons (lk_int rfl (by rfl)) ?_ | refine SubE.cons (lk_eq rfl (by rfl)) ?_)
                    · exact SubC.out
                    · skip
                      intro k hk
                      refine wc_seq ?_
                      refine wc_region ?_
                      refine wl_val rfl rfl rfl (y_lss rfl rfl) ?_
                      refine wl_nil ?_
                      refine q_then ?_
                      refine wc_seq ?_
                      refine wc_cond rfl (fun hc4 => ?_) (fun hc4 => ?_)
                      · first
                        | ((try simp only [bsA, ne_eq] at hc4); exfalso; (first | with_reducible contradiction | omega | (simp at hc4; done)))
                        | skip
                          try simp only [bsA, ne_eq] at hc4
                          obtain ⟨u, hu⟩ : ∃ u, qs[k]? = some u := ⟨qs[k]'(by omega), List.getElem?_eq_getElem (by omega)⟩
                          have hut : (qs.take i)[k]? = some u := by rw [List.getElem?_take, if_pos (by omega)]; exact hu
                          have hne : ¬ (u.client = q.client ∧ u.num = q.num) := by
                            intro h
                            apply hqp
                            have hpq : q.pr = u.pr := by simp only [Rq.pr, Pr.mk.injEq]; exact ⟨h.1.symm, h.2.symm⟩
                            rw [hpq]
                            exact List.mem_take_iff_getElem.2 ⟨k, by simp; omega, by have := prs_at hu; exact (List.getElem?_eq_some_iff.1 this).2⟩
                          refine wc_skip ?_
                          refine q_then ?_
                          refine wc_seq ?_
                          refine wc_block ?_
                          refine wc_seq ?_
                          refine wc_region ?_
                          refine wl_val rfl rfl rfl (y_indexEn Try.underlying24 siz71 rfl rfl (by first | exact rd_own | exact rd_in (by assumption) | assumption) (by omega)) ?_
                          refine wl_val rfl rfl rfl (y_loadNE (us := u.cells) agg71 rfl (rd_in hcut) (rq_part hut) u.len (by decide)) ?_
                          (refine wl_ef rfl (ef_alloc rfl zerRq) ?_; rintro _ _ ⟨b10, rfl, rfl⟩)
                          (refine wl_ef rfl (ef_storeC siz71 rfl rfl rfl) ?_; rintro _ _ ⟨rfl, rfl⟩)
                          refine wl_nil ?_
                          refine q_then ?_
                          refine wc_seq ?_
                          refine wc_region ?_
                          refine wl_val rfl rfl rfl (y_field0 fa71_0 rfl) ?_
                          refine wl_val rfl rfl rfl (y_loadA one3 rfl) ?_
                          refine wl_val rfl rfl rfl (y_field0 fa71_0 rfl) ?_
                          refine wl_val rfl rfl rfl (y_loadA one3 rfl) ?_
                          refine wl_val rfl rfl rfl (y_eql rfl rfl) ?_
                          refine wl_val rfl rfl rfl (y_move rfl) ?_
                          apply wl_andp (d := 59)
                          case ht =>
                            intro hg1 hK1
                            first
                              | (refine wl_dead ?_ hK1 rfl; first | with_reducible contradiction | omega | (simp at hg1; done))
                              | skip
                                try simp only [bsA, ne_eq] at hg1
                                refine wl_gval rfl rfl rfl rfl rfl rfl rfl (y_field0 fa71_1 rfl) ?_
                                refine wl_gval rfl rfl rfl rfl rfl rfl rfl (y_loadA one3 rfl) ?_
                                refine wl_gval rfl rfl rfl rfl rfl rfl rfl (y_field0 fa71_1 rfl) ?_
                                refine wl_gval rfl rfl rfl rfl rfl rfl rfl (y_loadA one3 rfl) ?_
                                refine wl_gval rfl rfl rfl rfl rfl rfl rfl (y_eql rfl rfl) ?_
                                refine wl_val rfl rfl rfl (y_pickt rfl rfl) ?_
                                exact wl_leR hK1 (.cons rfl (by repeat (first | refine LeE.skip ?_ rfl | exact LeE.refl _)))
                          case hf =>
                            intro hg1 hK1
                            first
                              | (refine wl_dead ?_ hK1 rfl; first | with_reducible contradiction | omega | (simp at hg1; done))
                              | skip
                                try simp only [bsA, ne_eq] at hg1
                                refine wl_gskip rfl rfl rfl rfl rfl rfl rfl ?_
                                refine wl_gskip rfl rfl rfl rfl rfl rfl rfl ?_
                                refine wl_gskip rfl rfl rfl rfl rfl rfl rfl ?_
                                refine wl_gskip rfl rfl rfl rfl rfl rfl rfl ?_
                                refine wl_gskip rfl rfl rfl rfl rfl rfl rfl ?_
                                first | refine wl_val rfl rfl rfl (y_pickt rfl rfl) ?_ | refine wl_val rfl rfl rfl (y_pickf rfl rfl) ?_
                                exact wl_leR hK1 (.cons rfl (by repeat (first | refine LeE.skip ?_ rfl | exact LeE.refl _)))
                          refine wl_nil ?_
                          refine q_then ?_
                          first | refine wc_cond rfl (fun hc5 => ?_) (fun hc5 => ?_) | refine wc_condb rfl (fun hc5 => ?_) (fun hc5 => ?_)
                          · exfalso; (try simp only [bsA, ne_eq] at hc5); exact hne (by first | exact hc5 | (simp at hc5; done) | omega | (simp at hc5; omega) | grind)
                          · first
                            | ((try simp only [bsA, ne_eq] at hc5); exfalso; (first | with_reducible contradiction | omega | (simp at hc5; done)))
                            | skip
                              try simp only [bsA, ne_eq] at hc5
                              refine wc_skip ?_
                              refine q_blockNormal ?_
                              refine q_then ?_
                              refine wc_region ?_
                              refine wl_val rfl rfl rfl (y_addn rfl rfl (by omega)) ?_
                              refine wl_val rfl rfl rfl (y_move rfl) ?_
                              refine wl_nil ?_
                              refine q_again (k + 1) ?_ ?_ ?_ ?_
                              · omega
                              · first | omega | (simp; omega) | (simp only []; omega)
                              · repeat (first | exact SubE.nil | refine SubE.cons rfl ?_ | refine SubE.cons (lk_int rfl (by omega)) ?_ | refine SubE.cons (lk_int rfl (by rfl)) ?_ | refine SubE.cons (lk_eq rfl (by rfl)) ?_)
                              · exact SubC.out
                      · first
                        | ((try simp only [bsA, ne_eq] at hc4); exfalso; (first | with_reducible contradiction | omega | (simp at hc4; done)))
                        | skip
                          try simp only [bsA, ne_eq] at hc4
                          refine wc_exit ?_
                          refine q_thenExit ?_
                          refine q_thenExit ?_
                          refine q_blockExit ?_
                          refine q_blockNormal ?_
                          refine q_then ?_
                          refine wc_region ?_
                          refine wl_val rfl rfl rfl (y_addn rfl rfl (by omega)) ?_
                          refine wl_val rfl rfl rfl (y_move rfl) ?_
                          refine wl_nil ?_
                          refine q_again (i + 1) ?_ ?_ ?_ ?_
                          · omega
                          · first | omega | (simp; omega) | (simp only []; omega)
                          · repeat (first | exact SubE.nil | refine SubE.cons rfl ?_ | refine SubE.cons (lk_int rfl (by omega)) ?_ | refine SubE.cons (lk_int rfl (by rfl)) ?_ | refine SubE.cons (lk_eq rfl (by rfl)) ?_)
                          · exact SubC.out
            · first
              | ((try simp only [bsA, ne_eq] at hc2); exfalso; (first | with_reducible contradiction | omega | (simp at hc2; done)))
              | skip
                try simp only [bsA, ne_eq] at hc2
                refine wc_exit ?_
                refine q_thenExit ?_
                refine q_thenExit ?_
                refine q_blockExit ?_
                refine q_then ?_
                refine wc_seq ?_
                refine wc_region ?_
                (refine wl_ef rfl (ef_callv0 rfl fun42 rfl (fun _ hw => (c_lives07 _))) ?_; rintro _ _ ⟨rfl, rfl⟩)
                refine wl_val rfl rfl rfl (y_assign rfl) ?_
                refine wl_nil ?_
                refine q_then ?_
                refine wc_ret ?_
                apply q_retg (res1 Try.results9 rfl) -- ret 4
                case hΨ =>
                  first | exact ⟨rfl, rfl⟩ | exact rfl
                case hs =>
                  exact SubC.out
end Go.Proofs.Ytdgmkbjopcopcaa
