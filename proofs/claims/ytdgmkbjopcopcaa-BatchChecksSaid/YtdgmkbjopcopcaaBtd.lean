/- Layer 7 (batch): pairs; what stands in a list twice, of both sides. Own work. -/
import Derived.Test.YtdgmkbjopcopcaaRqc
import Derived.Test.YtdgmkbjopcopcaaBata
set_option linter.unusedVariables false
set_option linter.unusedSimpArgs false
set_option maxRecDepth 100000
set_option maxHeartbeats 2000000
namespace Go.Proofs.Ytdgmkbjopcopcaa
open Go.RowKit
-- flat
-- use zerRq zerRq
-- use zerPr zerPr
-- build 141 bldPr
structure Pr where
  client : Int
  num : Int
deriving DecidableEq
def Pr.cells (p : Pr) : List Value := [.int .i64 p.client, .int .i64 p.num]
def Pr0 : Pr := ⟨0, 0⟩
instance iPr1 {s : Pr} : PartC s.cells 0 2 s.cells := .whole rfl
instance iPr2 {s t : Pr} : SplC s.cells 0 t.cells t.cells := .whole rfl
instance iPr3 {s : Pr} : OneC s.cells := ⟨OneAll.cons rfl (OneAll.cons rfl OneAll.nil)⟩
instance iPr4 {s : Pr} {n : Int} : SplC s.cells 0 [.int .i64 n] (Pr.cells { s with client := n }) := SplN.c (.cons .nil)
instance iPr5 {s : Pr} {n : Int} : SplC s.cells 1 [.int .i64 n] (Pr.cells { s with num := n }) := SplN.c (.skip (.cons .nil))
theorem zerPr : Zer Try.prog 141 Pr0.cells := zer_of (z := .agg #[.int .i64 0, .int .i64 0]) (by kernel_rfl) rfl
theorem sizPr : Siz Try.prog 141 2 := siz_of (by kernel_rfl)
theorem aggPr : AggOf Try.prog 141 2 := agg_of Try.underlying141 rfl (by kernel_rfl)
theorem bldPr : BldS Try.prog 141 [(0, 1), (1, 1)] Pr0.cells := bld_struct Try.underlying141 zerPr (.cons siz3 (.cons siz3 .nil))
abbrev Rq.pr (r : Rq) : Pr := ⟨r.client, r.num⟩
theorem eq_pr (a b : Pr) : Eqs Try.prog 2 141 (.agg a.cells.toArray) (.agg b.cells.toArray) (decide (a = b)) := by
  refine Eqs.is (b := decide (a.client = b.client) && (decide (a.num = b.num) && true)) ?_ ?_
  · refine eqs_struct (k := 1) (by simp [Program.fieldsOf, Try.underlying141]) Try.stoodInHeld141 ?_
    simp only [Program.fieldsOf, Try.underlying141]
    refine EqF.cons (by decide) (part1 one3 rfl) (part1 one3 rfl) (eqs_int Try.underlying3) ?_
    refine EqF.cons (by decide) (part1 one3 rfl) (part1 one3 rfl) (eqs_int Try.underlying3) EqF.nil
  · cases a; cases b
    simp only [Pr.mk.injEq, Bool.decide_and, Bool.and_true]
abbrev kP : Pr → Value := fun p => .agg p.cells.toArray
theorem eqPr (x y : Pr) (w : World) : (Op.equal 141 (kP x) (kP y)).run Try.prog w = .ok (decide (x = y)) w := by
  have := ((eq_pr x y).up (k' := 10000) (by omega)) 0 w
  rw [Nat.zero_add] at this
  exact this
theorem keyPr : KeyOk Try.prog 141 kP where
  check e x w := by kernel_rfl
  find x n l w := by
    have h := findAsking_of (key := kP) eqPr x w l n 0
    cases l with
    | nil => simp [Instr.findKey, entsAt, fnd, run_underlying Try.underlying141, Instr.findNow]
    | cons p l =>
      simp only [Instr.findKey, Sem.run_bind, run_underlying Try.underlying141, Result.andThen_ok]
      simp only [entsAt, Instr.findNow, Instr.sameNow] at h ⊢
      exact h
  bits x := by
    rw [show (10000 : Nat) = 9999 + 1 from rfl, Instr.sameBits]
    simp [Pr.cells]
    constructor <;> (rw [Instr.sameBits]; simp)
theorem c_of (r : Rq) (w : World) : Calls Try.prog 86 #[.agg r.cells.toArray] w (RV w (kP r.pr)) := by
  refine enter (N := 8) Try.func86 rfl Try.ntmps86 rfl (Has.nil _) ?_
  refine wc_seq ?_
  refine wc_region ?_
  (refine wl_ef rfl (ef_box rfl rfl rfl) ?_; rintro _ _ ⟨b1, rfl, rfl⟩)
  (refine wl_ef rfl (ef_alloc rfl zerPr) ?_; rintro _ _ ⟨b2, rfl, rfl⟩)
  refine wl_nil ?_
  refine q_then ?_
  refine wc_seq ?_
  refine wc_region ?_
  refine wl_val rfl rfl rfl (y_field0 fa71_0 rfl) ?_
  refine wl_val rfl rfl rfl (y_loadA one3 rfl) ?_
  refine wl_val rfl rfl rfl (y_field0 fa71_1 rfl) ?_
  refine wl_val rfl rfl rfl (y_loadA one3 rfl) ?_
  refine wl_val rfl rfl rfl (y_buildS bldPr rfl) ?_
  (refine wl_ef rfl (ef_storeC siz141 rfl rfl rfl) ?_; rintro _ _ ⟨rfl, rfl⟩)
  refine wl_nil ?_
  refine q_then ?_
  refine wc_ret ?_
  apply q_retg (rescC Try.results86 rfl aggPr) -- ret 0
  case hΨ =>
    first | exact ⟨rfl, rfl⟩ | exact rfl
  case hs =>
    exact SubC.out
/-! the first that was there already -/
def twF (l : List Pr) (i : Nat) : Int := if h : i < l.length then (if l[i] ∈ l.take i then (i : Int) else twF l (i + 1)) else -1
termination_by l.length - i
theorem twF_at {l : List Pr} {i : Nat} {p : Pr} (h : l[i]? = some p) : twF l i = if p ∈ l.take i then (i : Int) else twF l (i + 1) := by
  have hlt := (List.getElem?_eq_some_iff.1 h).1
  have hg := (List.getElem?_eq_some_iff.1 h).2
  rw [twF, dif_pos hlt, hg]
theorem twF_end {l : List Pr} {i : Nat} (h : l.length ≤ i) : twF l i = -1 := by rw [twF, dif_neg (by omega)]
/-- what is in the map when the first are through: each but once -/
def trues (l : List Pr) : List (Pr × Value) := l.map fun p => (p, .bool true)
theorem assoc_trues (l : List Pr) (p : Pr) : (assoc (trues l) p).getD (.bool false) = .bool (decide (p ∈ l)) := by
  induction l with
  | nil => rfl
  | cons q l ih =>
    simp only [trues, List.map_cons, assoc] at ih ⊢
    split
    · rename_i h; subst h; simp
    · rename_i h
      rw [ih]
      have : ¬ p = q := fun e => h e.symm
      simp [this]
theorem upd_trues {l : List Pr} {p : Pr} (h : p ∉ l) : upd (trues l) p (.bool true) = trues (l ++ [p]) := by
  induction l with
  | nil => rfl
  | cons q l ih =>
    simp only [List.mem_cons, not_or] at h
    have h1 : ¬ q = p := fun e => h.1 e.symm
    have := ih h.2
    simp only [trues, List.map_cons, upd, h1, if_false, List.cons_append] at this ⊢
    rw [this]
theorem trues_len (l : List Pr) : (trues l).length = l.length := by simp [trues]
abbrev prs (qs : List Rq) : List Pr := qs.map Rq.pr
theorem prs_at {qs : List Rq} {i : Nat} {q : Rq} (h : qs[i]? = some q) : (prs qs)[i]? = some q.pr := by simp [h]
theorem prs_take {qs : List Rq} {i : Nat} {q : Rq} (h : qs[i]? = some q) : (prs qs).take (i + 1) = (prs qs).take i ++ [q.pr] := by
  rw [List.take_add_one, prs_at h]
  rfl
theorem zvBool (w : World) : (zeroValue 4).run Try.prog w = .ok (.bool false) w := by kernel_rfl
theorem rq_part {l : List Rq} {i : Nat} {x : Rq} (h : l[i]? = some x) : PartOf (l.flatMap Rq.cells) (i * 19) x.cells := flat_part (fun x _ => x.len) h
theorem c_Twice (vl : Value) (qs : List Rq) (w : World) (hl : RdI w [] vl 19 qs.length (qs.flatMap Rq.cells)) : Calls Try.prog 46 #[vl] w (RV w (.int .i64 (twF (prs qs) 0))) := by
  obtain ⟨A0, cap0, hv0, hle1, hle2, _⟩ := hl.rd.form
  simp only [maxLen] at hle2
  subst hv0
  refine enter (N := 23) Try.func46 rfl Try.ntmps46 rfl (Has.nil _) ?_
  refine wc_seq ?_
  refine wc_region ?_
  refine wl_val rfl rfl rfl (y_assign rfl) ?_
  refine wl_nil ?_
  refine q_then ?_
  refine wc_seq ?_
  refine wc_region ?_
  (refine wl_ef rfl (ef_makeMap rfl) ?_; rintro _ _ ⟨b6, rfl, rfl⟩)
  refine wl_val rfl rfl rfl (y_assign rfl) ?_
  refine wl_nil ?_
  refine q_then ?_
  refine wc_seq ?_
  refine wc_seq ?_
  refine wc_region ?_
  refine wl_val rfl rfl rfl (y_move rfl) ?_
  refine wl_val rfl rfl rfl (y_lenSl Try.underlying24 rfl) ?_
  refine wl_val rfl rfl rfl (y_move rfl) ?_
  refine wl_nil ?_
  refine q_then ?_
  refine wc_block ?_
  refine wc_loop (X := Nat) (fun i => [(3, .map (some b6)), (7, .slice A0 qs.length cap0), (8, .int .i64 (qs.length : Int)), (9, .int .i64 (i : Int))]) (fun i => [.map b6 (ents kP (trues ((prs qs).take i))) (trues ((prs qs).take i)).length]) (fun i => i ≤ qs.length ∧ twF (prs qs) 0 = twF (prs qs) i) (fun i => qs.length - i) (0) ?_ ?_ ?_ ?_
  · exact ⟨by omega, rfl⟩
  · repeat (first | exact SubE.nil | refine SubE.cons rfl ?_ | refine SubE.cons (lk_int rfl (by omega)) ?_ | refine SubE.cons (lk_int rfl (by rfl)) ?_ | refine SubE.cons (lk_eq rfl (by rfl)) ?_)
  · first | exact SubC.out | repeat (first | exact SubL.nil | refine SubL.consOwn (by first | rfl | omega | (simp only [List.length_append, List.length_cons, List.length_nil]; omega) | (first | rfl | assumption | (simp; done))) (by first | rfl | (first | rfl | assumption | (simp; done))) ?_ | refine SubL.consBlk (by first | rfl | (first | rfl | assumption | (simp; done))) ?_ | refine SubL.consMap (by first | rfl | omega) (by first | rfl | (first | rfl | assumption | (simp; done))) ?_)
  · skip
    rintro i ⟨hi, htw⟩
    refine wc_seq ?_
    refine wc_region ?_
    refine wl_val rfl rfl rfl (y_lss rfl rfl) ?_
    refine wl_nil ?_
    refine q_then ?_
    refine wc_seq ?_
    refine wc_cond rfl (fun hc0 => ?_) (fun hc0 => ?_)
    · first
      | ((try simp only [bsA, ne_eq] at hc0); exfalso; (first | with_reducible contradiction | omega | (simp at hc0; done)))
      | skip
        try simp only [bsA, ne_eq] at hc0
        obtain ⟨q, hq⟩ : ∃ q, qs[i]? = some q := ⟨qs[i]'(by omega), List.getElem?_eq_getElem (by omega)⟩
        rw [twF_at (prs_at hq)] at htw
        refine wc_skip ?_
        refine q_then ?_
        refine wc_seq ?_
        refine wc_block ?_
        refine wc_seq ?_
        refine wc_region ?_
        refine wl_val rfl rfl rfl (y_move rfl) ?_
        refine wl_val rfl rfl rfl (y_indexEn Try.underlying24 siz71 rfl rfl (by first | exact rd_own | exact rd_in (by assumption) | assumption) (by omega)) ?_
        refine wl_val rfl rfl rfl (y_loadNE (us := q.cells) agg71 rfl (rd_in hl) (rq_part hq) q.len (by decide)) ?_
        (refine wl_ef rfl (ef_alloc rfl zerRq) ?_; rintro _ _ ⟨b5, rfl, rfl⟩)
        refine wl_val rfl rfl rfl (y_assign rfl) ?_
        (refine wl_ef rfl (ef_storeC siz71 rfl rfl rfl) ?_; rintro _ _ ⟨rfl, rfl⟩)
        refine wl_nil ?_
        refine q_then ?_
        refine wc_seq ?_
        refine wc_seq ?_
        refine wc_region ?_
        refine wl_val rfl rfl rfl (y_move rfl) ?_
        refine wl_val rfl rfl rfl (y_loadC agg71 rfl) ?_
        (refine wl_ef rfl (ef_callv0 rfl fun86 rfl (fun _ hw => (c_of q _))) ?_; rintro _ _ ⟨rfl, rfl⟩)
        refine wl_val rfl rfl rfl (yl_is (y_lookup Try.underlying139 keyPr zvBool rfl rfl) (assoc_trues _ _)) ?_
        refine wl_nil ?_
        refine q_then ?_
        refine wc_cond rfl (fun hc1 => ?_) (fun hc1 => ?_)
        · first
          | ((try simp only [bsA, ne_eq] at hc1); exfalso; (first | with_reducible contradiction | omega | (simp at hc1; done)))
          | skip
            try simp only [bsA, ne_eq] at hc1
            refine wc_seq ?_
            refine wc_region ?_
            refine wl_val rfl rfl rfl (y_move rfl) ?_
            refine wl_val rfl rfl rfl (y_assign rfl) ?_
            refine wl_nil ?_
            refine q_then ?_
            refine wc_ret ?_
            refine q_thenRet ?_
            refine q_blockRet ?_
            refine q_thenRet ?_
            refine q_thenRet ?_
            refine q_blockRet ?_
            refine q_thenRet ?_
            apply q_retg (res1 Try.results46 rfl) -- ret 0
            case hΨ =>
              exact ⟨by rw [htw, if_pos hc1], rfl⟩
            case hs =>
              exact SubC.out
        · first
          | ((try simp only [bsA, ne_eq] at hc1); exfalso; (first | with_reducible contradiction | omega | (simp at hc1; done)))
          | skip
            try simp only [bsA, ne_eq] at hc1
            refine wc_skip ?_
            refine q_then ?_
            refine wc_region ?_
            refine wl_val rfl rfl rfl (y_move rfl) ?_
            refine wl_val rfl rfl rfl (y_loadC agg71 rfl) ?_
            (refine wl_ef rfl (ef_callv0 rfl fun86 rfl (fun _ hw => (c_of q _))) ?_; rintro _ _ ⟨rfl, rfl⟩)
            (refine wl_ef rfl (ef_mapUpdate Try.underlying139 keyPr rfl rfl rfl) ?_; rintro _ _ ⟨rfl, rfl⟩)
            refine wl_turn (L' := _) (fun w h => by rw [upd_trues hc1, ← prs_take hq] at h; exact h) ?_
            refine wl_nil ?_
            refine q_blockNormal ?_
            refine q_then ?_
            refine wc_region ?_
            refine wl_val rfl rfl rfl (y_addn rfl rfl (by omega)) ?_
            refine wl_val rfl rfl rfl (y_move rfl) ?_
            refine wl_nil ?_
            refine q_again (i + 1) ?_ ?_ ?_ ?_
            · exact ⟨by omega, by rw [htw, if_neg hc1]⟩
            · first | omega | (simp; omega) | (simp only []; omega)
            · repeat (first | exact SubE.nil | refine SubE.cons rfl ?_ | refine SubE.cons (lk_int rfl (by omega)) ?_ | refine SubE.cons (lk_int rfl (by rfl)) ?_ | refine SubE.cons (lk_eq rfl (by rfl)) ?_)
            · exact SubC.out
    · first
      | ((try simp only [bsA, ne_eq] at hc0); exfalso; (first | with_reducible contradiction | omega | (simp at hc0; done)))
      | skip
        try simp only [bsA, ne_eq] at hc0
        refine wc_exit ?_
        refine q_thenExit ?_
        refine q_thenExit ?_
        refine q_blockExit ?_
        refine q_then ?_
        refine wc_seq ?_
        refine wc_region ?_
        refine wl_val rfl rfl rfl (y_assign rfl) ?_
        refine wl_nil ?_
        refine q_then ?_
        refine wc_ret ?_
        apply q_retg (res1 Try.results46 rfl) -- ret 1
        case hΨ =>
          exact ⟨by rw [htw, twF_end (by simp; omega)], rfl⟩
        case hs =>
          exact SubC.out
theorem c_refTwice (vl : Value) (qs : List Rq) (w : World) (hl : RdI w [] vl 19 qs.length (qs.flatMap Rq.cells)) : Calls Try.prog 47 #[vl] w (RV w (.int .i64 (twF (prs qs) 0))) := by
  obtain ⟨A0, cap0, hv0, hle1, hle2, _⟩ := hl.rd.form
  simp only [maxLen] at hle2
  subst hv0
  have hln : (qs.flatMap Rq.cells).length = qs.length * 19 := flat_len fun x _ => x.len
  have hk0 : ∀ {i : Nat} {q : Rq}, qs[i]? = some q → (qs.flatMap Rq.cells)[i * 19]? = some (.int .i64 q.client) := fun h => rq_part h 0 _ rfl
  have hk1 : ∀ {i : Nat} {q : Rq}, qs[i]? = some q → (qs.flatMap Rq.cells)[i * 19 + 1]? = some (.int .i64 q.num) := fun h => rq_part h 1 _ rfl
  refine enter (N := 41) Try.func47 rfl Try.ntmps47 rfl (Has.nil _) ?_
  refine wc_seq ?_
  refine wc_region ?_
  refine wl_val rfl rfl rfl (y_assign rfl) ?_
  refine wl_nil ?_
  refine q_then ?_
  refine wc_seq ?_
  refine wc_seq ?_
  refine wc_region ?_
  refine wl_val rfl rfl rfl (y_assign rfl) ?_
  refine wl_nil ?_
  refine q_then ?_
  refine wc_block ?_
  refine wc_loop (X := Nat) (fun i => [(0, .slice A0 qs.length cap0), (3, .int .i64 (i : Int))]) (fun _ => []) (fun i => i ≤ qs.length ∧ twF (prs qs) 0 = twF (prs qs) i) (fun i => qs.length - i) (0) ?_ ?_ ?_ ?_
  · exact ⟨by omega, rfl⟩
  · repeat (first | exact SubE.nil | refine SubE.cons rfl ?_ | refine SubE.cons (lk_int rfl (by omega)) ?_ | refine SubE.cons (lk_int rfl (by rfl)) ?_ | refine SubE.cons (lk_eq rfl (by rfl)) ?_)
  · exact SubC.out
  · skip
    rintro i ⟨hi, htw⟩
    refine wc_seq ?_
    refine wc_seq ?_
    refine wc_region ?_
    refine wl_val rfl rfl rfl (y_move rfl) ?_
    refine wl_val rfl rfl rfl (y_move rfl) ?_
    refine wl_val rfl rfl rfl (y_lenSl Try.underlying24 rfl) ?_
    refine wl_val rfl rfl rfl (y_lss rfl rfl) ?_
    refine wl_nil ?_
    refine q_then ?_
    refine wc_cond rfl (fun hc0 => ?_) (fun hc0 => ?_)
    · first
      | ((try simp only [bsA, ne_eq] at hc0); exfalso; (first | with_reducible contradiction | omega | (simp at hc0; done)))
      | skip
        try simp only [bsA, ne_eq] at hc0
        obtain ⟨q, hq⟩ : ∃ q, qs[i]? = some q := ⟨qs[i]'(by omega), List.getElem?_eq_getElem (by omega)⟩
        rw [twF_at (prs_at hq)] at htw
        refine wc_skip ?_
        refine q_then ?_
        refine wc_seq ?_
        refine wc_block ?_
        refine wc_seq ?_
        refine wc_region ?_
        refine wl_val rfl rfl rfl (y_assign rfl) ?_
        refine wl_nil ?_
        refine q_then ?_
        refine wc_block ?_
        refine wc_loop (X := Nat) (fun k => [(0, .slice A0 qs.length cap0), (3, .int .i64 (i : Int)), (4, .int .i64 (k : Int))]) (fun _ => []) (fun k => k ≤ i ∧ q.pr ∉ (prs qs).take k) (fun k => i - k) (0) ?_ ?_ ?_ ?_
        · exact ⟨by omega, by simp⟩
        · repeat (first | exact SubE.nil | refine SubE.cons rfl ?_ | refine SubE.cons (lk_int rfl (by omega)) ?_ | refine SubE.cons (lk_int rfl (by rfl)) ?_ | refine SubE.cons (lk_eq rfl (by rfl)) ?_)
        · exact SubC.out
        · skip
          rintro k ⟨hk, hnk⟩
          refine wc_seq ?_
          refine wc_seq ?_
          refine wc_region ?_
          refine wl_val rfl rfl rfl (y_move rfl) ?_
          refine wl_val rfl rfl rfl (y_move rfl) ?_
          refine wl_val rfl rfl rfl (y_lss rfl rfl) ?_
          refine wl_nil ?_
          refine q_then ?_
          refine wc_cond rfl (fun hc1 => ?_) (fun hc1 => ?_)
          · first
            | ((try simp only [bsA, ne_eq] at hc1); exfalso; (first | with_reducible contradiction | omega | (simp at hc1; done)))
            | skip
              try simp only [bsA, ne_eq] at hc1
              obtain ⟨u, hu⟩ : ∃ u, qs[k]? = some u := ⟨qs[k]'(by omega), List.getElem?_eq_getElem (by omega)⟩
              refine wc_skip ?_
              refine q_then ?_
              refine wc_seq ?_
              refine wc_block ?_
              refine wc_seq ?_
              refine wa_begin_all (n := 24) (b := #[false, false, false, false, false, false, false, false, false, false, false, false, false, false, false, false, false, false, false, false, false, false, false, false]) mixed rfl rfl ?_
              refine wa_t 0 (by kernel_rfl) rfl rfl rfl rfl (y_move rfl) ?_
              refine wa_t 1 (by kernel_rfl) rfl rfl rfl rfl (y_move rfl) ?_
              refine wa_t 2 (by kernel_rfl) rfl rfl rfl rfl (y_indexEn Try.underlying24 siz71 rfl rfl (by first | exact rd_own | exact rd_in (by assumption) | assumption) (by omega)) ?_
              refine wa_t 3 (by kernel_rfl) rfl rfl rfl rfl (y_fieldE (k := i * 19) fa71_0 rfl (rd_in hl) (by rw [hln]; omega)) ?_
              refine wa_t 4 (by kernel_rfl) rfl rfl rfl rfl (y_loadE one3 rfl (rd_in hl) (hk0 hq)) ?_
              refine wa_t 5 (by kernel_rfl) rfl rfl rfl rfl (y_move rfl) ?_
              refine wa_t 6 (by kernel_rfl) rfl rfl rfl rfl (y_move rfl) ?_
              refine wa_t 7 (by kernel_rfl) rfl rfl rfl rfl (y_indexEn Try.underlying24 siz71 rfl rfl (by first | exact rd_own | exact rd_in (by assumption) | assumption) (by omega)) ?_
              refine wa_t 8 (by kernel_rfl) rfl rfl rfl rfl (y_fieldE (k := k * 19) fa71_0 rfl (rd_in hl) (by rw [hln]; omega)) ?_
              refine wa_t 9 (by kernel_rfl) rfl rfl rfl rfl (y_loadE one3 rfl (rd_in hl) (hk0 hu)) ?_
              refine wa_t 10 (by kernel_rfl) rfl rfl rfl rfl (y_eql rfl rfl) ?_
              refine wa_t 11 (by kernel_rfl) rfl rfl rfl rfl (y_move rfl) ?_
              apply wa_andp (d := 39)
              case ht =>
                intro hg1 hK1
                first
                  | (refine wa_dead ?_ hK1 rfl; first | with_reducible contradiction | omega | (simp at hg1; done))
                  | skip
                    try simp only [bsA, ne_eq] at hg1
                    refine wa_gt 12 (by kernel_rfl) rfl rfl rfl rfl rfl rfl rfl rfl (y_move rfl) ?_
                    refine wa_gt 13 (by kernel_rfl) rfl rfl rfl rfl rfl rfl rfl rfl (y_move rfl) ?_
                    refine wa_gt 14 (by kernel_rfl) rfl rfl rfl rfl rfl rfl rfl rfl (y_indexEn Try.underlying24 siz71 rfl rfl (by first | exact rd_own | exact rd_in (by assumption) | assumption) (by omega)) ?_
                    refine wa_gt 15 (by kernel_rfl) rfl rfl rfl rfl rfl rfl rfl rfl (y_fieldE (k := i * 19) fa71_1 rfl (rd_in hl) (by rw [hln]; omega)) ?_
                    refine wa_gt 16 (by kernel_rfl) rfl rfl rfl rfl rfl rfl rfl rfl (y_loadE one3 rfl (rd_in hl) (hk1 hq)) ?_
                    refine wa_gt 17 (by kernel_rfl) rfl rfl rfl rfl rfl rfl rfl rfl (y_move rfl) ?_
                    refine wa_gt 18 (by kernel_rfl) rfl rfl rfl rfl rfl rfl rfl rfl (y_move rfl) ?_
                    refine wa_gt 19 (by kernel_rfl) rfl rfl rfl rfl rfl rfl rfl rfl (y_indexEn Try.underlying24 siz71 rfl rfl (by first | exact rd_own | exact rd_in (by assumption) | assumption) (by omega)) ?_
                    refine wa_gt 20 (by kernel_rfl) rfl rfl rfl rfl rfl rfl rfl rfl (y_fieldE (k := k * 19) fa71_1 rfl (rd_in hl) (by rw [hln]; omega)) ?_
                    refine wa_gt 21 (by kernel_rfl) rfl rfl rfl rfl rfl rfl rfl rfl (y_loadE one3 rfl (rd_in hl) (hk1 hu)) ?_
                    refine wa_gt 22 (by kernel_rfl) rfl rfl rfl rfl rfl rfl rfl rfl (y_eql rfl rfl) ?_
                    refine wa_t 23 (by kernel_rfl) rfl rfl rfl rfl (y_pickt rfl rfl) ?_
                    exact wa_leR hK1 (.cons rfl (by repeat (first | refine LeE.skip ?_ rfl | exact LeE.refl _)))
              case hf =>
                intro hg1 hK1
                first
                  | (refine wa_dead ?_ hK1 rfl; first | with_reducible contradiction | omega | (simp at hg1; done))
                  | skip
                    try simp only [bsA, ne_eq] at hg1
                    refine wa_gs 12 (by kernel_rfl) rfl rfl rfl rfl rfl rfl rfl rfl ?_
                    refine wa_gs 13 (by kernel_rfl) rfl rfl rfl rfl rfl rfl rfl rfl ?_
                    refine wa_gs 14 (by kernel_rfl) rfl rfl rfl rfl rfl rfl rfl rfl ?_
                    refine wa_gs 15 (by kernel_rfl) rfl rfl rfl rfl rfl rfl rfl rfl ?_
                    refine wa_gs 16 (by kernel_rfl) rfl rfl rfl rfl rfl rfl rfl rfl ?_
                    refine wa_gs 17 (by kernel_rfl) rfl rfl rfl rfl rfl rfl rfl rfl ?_
                    refine wa_gs 18 (by kernel_rfl) rfl rfl rfl rfl rfl rfl rfl rfl ?_
                    refine wa_gs 19 (by kernel_rfl) rfl rfl rfl rfl rfl rfl rfl rfl ?_
                    refine wa_gs 20 (by kernel_rfl) rfl rfl rfl rfl rfl rfl rfl rfl ?_
                    refine wa_gs 21 (by kernel_rfl) rfl rfl rfl rfl rfl rfl rfl rfl ?_
                    refine wa_gs 22 (by kernel_rfl) rfl rfl rfl rfl rfl rfl rfl rfl ?_
                    first | refine wa_t 23 (by kernel_rfl) rfl rfl rfl rfl (y_pickt rfl rfl) ?_ | refine wa_t 23 (by kernel_rfl) rfl rfl rfl rfl (y_pickf rfl rfl) ?_
                    exact wa_leR hK1 (.cons rfl (by repeat (first | refine LeE.skip ?_ rfl | exact LeE.refl _)))
              refine wa_done (by kernel_rfl) ?_
              refine q_then ?_
              first | refine wc_cond rfl (fun hc2 => ?_) (fun hc2 => ?_) | refine wc_condb rfl (fun hc2 => ?_) (fun hc2 => ?_)
              · first
                | ((try simp only [bsA, ne_eq] at hc2); exfalso; (first | with_reducible contradiction | omega | (simp at hc2; done)))
                | skip
                  try simp only [bsA, ne_eq] at hc2
                  refine wc_seq ?_
                  refine wc_region ?_
                  refine wl_val rfl rfl rfl (y_move rfl) ?_
                  refine wl_val rfl rfl rfl (y_assign rfl) ?_
                  refine wl_nil ?_
                  refine q_then ?_
                  refine wc_ret ?_
                  refine q_blockRet ?_
                  refine q_thenRet ?_
                  refine q_thenRet ?_
                  refine q_blockRet ?_
                  refine q_blockRet ?_
                  refine q_thenRet ?_
                  refine q_thenRet ?_
                  refine q_blockRet ?_
                  refine q_thenRet ?_
                  apply q_retg (res1 Try.results47 rfl) -- ret 0
                  case hΨ =>
                    exact ⟨by rw [htw, if_pos]; have hpq : q.pr = u.pr := by { simp only [Rq.pr, Pr.mk.injEq]; omega }; rw [hpq]; exact List.mem_take_iff_getElem.2 ⟨k, by simp; omega, by have := prs_at hu; exact (List.getElem?_eq_some_iff.1 this).2⟩, rfl⟩
                  case hs =>
                    exact SubC.out
              · first
                | ((try simp only [bsA, ne_eq] at hc2); exfalso; (first | with_reducible contradiction | omega | (simp at hc2; done)))
                | skip
                  try simp only [bsA, ne_eq] at hc2
                  refine wc_skip ?_
                  refine q_blockNormal ?_
                  refine q_then ?_
                  refine wc_region ?_
                  refine wl_val rfl rfl rfl (y_move rfl) ?_
                  refine wl_val rfl rfl rfl (y_addn rfl rfl (by omega)) ?_
                  refine wl_val rfl rfl rfl (y_assign rfl) ?_
                  refine wl_nil ?_
                  refine q_again (k + 1) ?_ ?_ ?_ ?_
                  · exact ⟨by omega, by rw [prs_take hu]; simp only [List.mem_append, List.mem_singleton, not_or]; exact ⟨hnk, fun e => by simp only [Rq.pr, Pr.mk.injEq] at e; omega⟩⟩
                  · first | omega | (simp; omega) | (simp only []; omega)
                  · repeat (first | exact SubE.nil | refine SubE.cons rfl ?_ | refine SubE.cons (lk_int rfl (by omega)) ?_ | refine SubE.cons (lk_int rfl (by rfl)) ?_ | refine SubE.cons (lk_eq rfl (by rfl)) ?_)
                  · exact SubC.out
          · first
            | ((try simp only [bsA, ne_eq] at hc1); exfalso; (first | with_reducible contradiction | omega | (simp at hc1; done)))
            | skip
              try simp only [bsA, ne_eq] at hc1
              refine wc_exit ?_
              refine q_thenExit ?_
              refine q_thenExit ?_
              refine q_blockExit ?_
              refine q_blockNormal ?_
              refine q_then ?_
              refine wc_region ?_
              refine wl_val rfl rfl rfl (y_move rfl) ?_
              refine wl_val rfl rfl rfl (y_addn rfl rfl (by omega)) ?_
              refine wl_val rfl rfl rfl (y_assign rfl) ?_
              refine wl_nil ?_
              refine q_again (i + 1) ?_ ?_ ?_ ?_
              · exact ⟨by omega, by obtain rfl : k = i := (by omega); rw [htw, if_neg hnk]⟩
              · first | omega | (simp; omega) | (simp only []; omega)
              · repeat (first | exact SubE.nil | refine SubE.cons rfl ?_ | refine SubE.cons (lk_int rfl (by omega)) ?_ | refine SubE.cons (lk_int rfl (by rfl)) ?_ | refine SubE.cons (lk_eq rfl (by rfl)) ?_)
              · exact SubC.out
    · first
      | ((try simp only [bsA, ne_eq] at hc0); exfalso; (first | with_reducible contradiction | omega | (simp at hc0; done)))
      | skip
        try simp only [bsA, ne_eq] at hc0
        refine wc_exit ?_
        refine q_thenExit ?_
        refine q_thenExit ?_
        refine q_blockExit ?_
        refine q_then ?_
        refine wc_seq ?_
        refine wc_region ?_
        refine wl_val rfl rfl rfl (y_assign rfl) ?_
        refine wl_nil ?_
        refine q_then ?_
        refine wc_ret ?_
        apply q_retg (res1 Try.results47 rfl) -- ret 1
        case hΨ =>
          exact ⟨by rw [htw, twF_end (by simp; omega)], rfl⟩
        case hs =>
          exact SubC.out
end Go.Proofs.Ytdgmkbjopcopcaa
