/- Layer 18 (slot): SlotOnce: what a call keeps; the walk. Own work. -/
import Derived.Test.YtdgmkbjopcopcaaAca
set_option linter.unusedVariables false
set_option linter.unusedSimpArgs false
set_option maxRecDepth 100000
set_option maxHeartbeats 8000000
namespace Go.Proofs.Ytdgmkbjopcopcaa
open Go.RowKit
-- flat
-- zero 42 Sl0.cells
-- zero 50 Sl0.cells
-- zero 26 Bt0.cells
-- use zerSl zerSl
-- use zerAc zerAc
-- use zerRs zerRs
-- use zerBt zerBt
-- use zerDg zerDg
-- use zerIb zerIb
-- build 26 bldBt
-- build 30 bldVt
-- build 33 bldCt
-- build 38 bldHe
-- build 40 bldEn
-- build 124 bldIb




def stp (s : Sl) (a : Ac) : Sl × Int := if a.kind = 0 then acc s a.view a.b else if a.kind = 1 then hld s a.c else dcd s a.b a.c
theorem stp_err {s : Sl} {a : Ac} (h : (stp s a).2 ≠ 0) : (stp s a).1 = Sl0 := by
  simp only [stp, acc, hld, dcd] at h ⊢
  grind
/-- what was there stays; what comes comes as it may -/
theorem stp_ok {s : Sl} {a : Ac} (h : (stp s a).2 = 0) :
    (s.is = true → (stp s a).1.is = true ∧ s.view ≤ (stp s a).1.view) ∧
    (s.holds = true → (stp s a).1.holds = true ∧ s.held.c.vote.view ≤ (stp s a).1.held.c.vote.view) ∧
    (s.decided = true → (stp s a).1.decided = true ∧ (stp s a).1.entry = s.entry) ∧
    ((stp s a).1.is = true → (s.is = true ∧ (stp s a).1.view = s.view ∧ (stp s a).1.batch = s.batch) ∨ s.is = false ∨ s.view < (stp s a).1.view) ∧
    ((stp s a).1.holds = true → (s.holds = true ∧ (stp s a).1.held = s.held) ∨ ((stp s a).1.is = true ∧ (stp s a).1.held.c.vote.view = (stp s a).1.view ∧ (stp s a).1.held.c.vote.dig = (stp s a).1.batch.dig)) ∧
    ((stp s a).1.decided = true → (s.decided = true ∧ (stp s a).1.entry = s.entry) ∨ (stp s a).1.entry.c.vote.dig = (stp s a).1.entry.b.dig) ∧ (s.is = true → (stp s a).1.is = true) := by
  obtain ⟨p, hp⟩ : ∃ p, stp s a = p := ⟨_, rfl⟩
  rw [hp] at h ⊢
  simp only [stp, acc, hld, dcd] at hp
  repeat' split at hp
  all_goals subst hp
  all_goals first | (exact absurd h (by decide)) | skip
  all_goals simp only at h ⊢
  all_goals grind
/-! what was met -/
def dget : List (Int × Dg) → Int → Option Dg
  | [], _ => none
  | (a, d) :: l, x => if a = x then some d else dget l x
def dupd : List (Int × Dg) → Int → Dg → List (Int × Dg)
  | [], x, v => [(x, v)]
  | (a, u) :: l, x, v => if a = x then (a, v) :: l else (a, u) :: dupd l x v
theorem dget_upd (l : List (Int × Dg)) (x y : Int) (v : Dg) : dget (dupd l x v) y = if x = y then some v else dget l y := by
  induction l with
  | nil => simp [dupd, dget]
  | cons p l ih =>
    obtain ⟨a, u⟩ := p
    simp only [dupd]
    split <;> simp only [dget] <;> grind
abbrev kI : Int → Value := fun x => .int .i64 x
def kvm (m : List (Int × Dg)) : List (Int × Value) := m.map fun p => (p.1, .agg (bvs p.2.1).toArray)
theorem assoc_kvm (m : List (Int × Dg)) (x : Int) : assoc (kvm m) x = (dget m x).map fun d => .agg (bvs d.1).toArray := by
  induction m with
  | nil => rfl
  | cons p m ih =>
    obtain ⟨a, d⟩ := p
    simp only [kvm, List.map_cons, assoc, dget] at ih ⊢
    split
    · rfl
    · exact ih
theorem upd_kvm (m : List (Int × Dg)) (x : Int) (d : Dg) : upd (kvm m) x (.agg (bvs d.1).toArray) = kvm (dupd m x d) := by
  induction m with
  | nil => rfl
  | cons p m ih =>
    obtain ⟨a, u⟩ := p
    simp only [kvm, List.map_cons, upd, dupd] at ih ⊢
    split
    · rfl
    · simp only [List.map_cons, ih]
theorem getD_kvm (m : List (Int × Dg)) (x : Int) : (assoc (kvm m) x).getD (.agg (bvs Dg0.1).toArray) = .agg (bvs ((dget m x).getD Dg0).1).toArray := by
  rw [assoc_kvm]
  cases dget m x <;> rfl
theorem isSome_kvm (m : List (Int × Dg)) (x : Int) : (assoc (kvm m) x).isSome = (dget m x).isSome := by
  rw [assoc_kvm]
  cases dget m x <;> rfl
theorem zvDg (w : World) : (zeroValue 28).run Try.prog w = .ok (.agg (bvs Dg0.1).toArray) w := by kernel_rfl
/-- what is known between two calls -/
structure Inv18 (m : List (Int × Dg)) (s : Sl) : Prop where
  is : s.is = true → dget m s.view = some s.batch.dig
  holds : s.holds = true → dget m s.held.c.vote.view = some s.held.c.vote.dig
  dec : s.decided = true → s.entry.c.vote.dig = s.entry.b.dig
  top : ∀ v d, dget m v = some d → s.is = true ∧ v ≤ s.view
def nxt (m : List (Int × Dg)) (x : Sl) : List (Int × Dg) := if x.is = true then dupd m x.view x.batch.dig else m
theorem Inv18.met {m : List (Int × Dg)} {s : Sl} {a : Ac} (h : Inv18 m s) (ho : (stp s a).2 = 0) (hi : (stp s a).1.is = true) : dget m (stp s a).1.view = none ∨ dget m (stp s a).1.view = some (stp s a).1.batch.dig := by
  obtain ⟨_, _, _, h4, _⟩ := stp_ok ho
  rcases h4 hi with ⟨h5, h6, h7⟩ | h5 | h5
  · right; rw [h6, h7]; exact h.is h5
  · left
    cases hd : dget m (stp s a).1.view with
    | none => rfl
    | some d => have := (h.top _ _ hd).1; rw [h5] at this; cases this
  · left
    cases hd : dget m (stp s a).1.view with
    | none => rfl
    | some d => have := (h.top _ _ hd).2; omega
theorem Inv18.next {m : List (Int × Dg)} {s : Sl} {a : Ac} (h : Inv18 m s) (ho : (stp s a).2 = 0) : Inv18 (nxt m (stp s a).1) (stp s a).1 := by
  obtain ⟨h1, h2, h3, h4, h5, h6, h7⟩ := stp_ok ho
  have hm := h.met ho
  have hi := h.is
  have hh := h.holds
  have ht := h.top
  have hd := h.dec
  generalize stp s a = p at *
  obtain ⟨x, e⟩ := p
  simp only at *
  refine ⟨fun hx => ?_, fun hx => ?_, fun hx => ?_, fun v d hv => ?_⟩
  · rw [nxt, if_pos hx, dget_upd, if_pos rfl]
  · rcases h5 hx with ⟨h8, h9⟩ | ⟨h8, h9, h10⟩
    · rw [h9]
      have hhs := hh h8
      have htt := ht _ _ hhs
      have hxi := h7 htt.1
      rw [nxt, if_pos hxi, dget_upd]
      split
      · rename_i he
        rw [← he] at hhs
        rcases hm hxi with h11 | h11
        · rw [h11] at hhs; cases hhs
        · rw [h11] at hhs; exact hhs
      · exact hhs
    · rw [nxt, if_pos h8, dget_upd, h9, if_pos rfl, h10]
  · rcases h6 hx with ⟨h8, h9⟩ | h8
    · rw [h9]; exact hd h8
    · exact h8
  · rw [nxt] at hv
    split at hv
    · rename_i hx
      rw [dget_upd] at hv
      split at hv
      · rename_i he
        exact ⟨hx, by omega⟩
      · have := ht _ _ hv
        exact ⟨hx, by have := (h1 this.1).2; omega⟩
    · have := ht _ _ hv
      rename_i hx
      exact absurd (h7 this.1) hx
theorem inv18_0 : Inv18 [] Sl0 := ⟨by simp [Sl0], by simp [Sl0], by simp [Sl0], by simp [dget]⟩
theorem c_SlotOnce (vl : Value) (al : List Ac) (w : World) (hl : RdI w [] vl 41 al.length (al.flatMap Ac.cells)) (ha : ∀ a ∈ al, AcIn w a) : Calls Try.prog 3 #[vl] w (RV w (.bool true)) := by
  obtain ⟨A0, cap0, hv0, hle1, hle2, _⟩ := hl.rd.form
  simp only [maxLen] at hle2
  subst hv0
  have hpart : ∀ {i : Nat} {a : Ac}, al[i]? = some a → PartOf (al.flatMap Ac.cells) (i * 41) a.cells := fun h => flat_part (fun x _ => x.len) h
  refine enter (N := 194) Try.func3 rfl Try.ntmps3 rfl (Has.nil _) ?_
  refine wc_seq ?_
  refine wc_region ?_
  refine wl_val rfl rfl rfl (y_assign rfl) ?_
  refine wl_nil ?_
  refine q_then ?_
  refine wc_seq ?_
  refine wc_seq ?_
  refine wc_region ?_
  refine wl_val rfl rfl rfl (y_move rfl) ?_
  refine wl_val rfl rfl rfl (y_lenSl Try.underlying22 rfl) ?_
  refine wl_val rfl rfl rfl (y_gtr rfl rfl) ?_
  refine wl_nil ?_
  refine q_then ?_
  refine wc_cond rfl (fun hc0 => ?_) (fun hc0 => ?_)
  · first
    | ((try simp only [bsA, ne_eq] at hc0); exfalso; (first | with_reducible contradiction | omega | (simp at hc0; done)))
    | skip
      try simp only [bsA, ne_eq] at hc0
      refine wc_seq ?_
      refine wc_region ?_
      (refine wl_ef rfl (ef_callv0 rfl fun14 rfl (fun _ hw => (c_lives18 _))) ?_; rintro _ _ ⟨rfl, rfl⟩)
      refine wl_val rfl rfl rfl (y_assign rfl) ?_
      refine wl_nil ?_
      refine q_then ?_
      refine wc_ret ?_
      refine q_thenRet ?_
      apply q_retg (res1 Try.results3 rfl) -- ret 0
      case hΨ =>
        first | exact ⟨rfl, rfl⟩ | exact rfl
      case hs =>
        exact SubC.out
  · first
    | ((try simp only [bsA, ne_eq] at hc0); exfalso; (first | with_reducible contradiction | omega | (simp at hc0; done)))
    | skip
      try simp only [bsA, ne_eq] at hc0
      refine wc_skip ?_
      refine q_then ?_
      refine wc_seq ?_
      refine wc_seq ?_
      refine wc_region ?_
      refine wl_val rfl rfl rfl (y_move rfl) ?_
      refine wl_val rfl rfl rfl (y_lenSl Try.underlying22 rfl) ?_
      refine wl_val rfl rfl rfl (y_move rfl) ?_
      refine wl_nil ?_
      refine q_then ?_
      refine wc_block ?_
      refine wc_loop (X := Nat) (fun i => [(0, .slice A0 al.length cap0), (18, .slice A0 al.length cap0), (19, .int .i64 (al.length : Int)), (20, .int .i64 (i : Int))]) (fun _ => []) (fun i => i ≤ al.length ∧ ∀ a ∈ al.take i, lightA a) (fun i => al.length - i) (0) ?_ ?_ ?_ ?_
      · exact ⟨by omega, by simp⟩
      · repeat (first | exact SubE.nil | refine SubE.cons rfl ?_ | refine SubE.cons (lk_int rfl (by omega)) ?_ | refine SubE.cons (lk_int rfl (by rfl)) ?_ | refine SubE.cons (lk_eq rfl (by rfl)) ?_)
      · exact SubC.out
      · skip
        rintro i ⟨hi, hli⟩
        refine wc_seq ?_
        refine wc_region ?_
        refine wl_val rfl rfl rfl (y_lss rfl rfl) ?_
        refine wl_nil ?_
        refine q_then ?_
        refine wc_seq ?_
        refine wc_cond rfl (fun hc1 => ?_) (fun hc1 => ?_)
        · first
          | ((try simp only [bsA, ne_eq] at hc1); exfalso; (first | with_reducible contradiction | omega | (simp at hc1; done)))
          | skip
            try simp only [bsA, ne_eq] at hc1
            obtain ⟨a, hai⟩ : ∃ a, al[i]? = some a := ⟨al[i]'(by omega), List.getElem?_eq_getElem (by omega)⟩
            have hao := ha a (List.mem_of_getElem? hai)
            have hbs : ∀ b ∈ [a.b], BtIn w [] b := by
              intro b hb
              simp only [List.mem_cons, List.not_mem_nil, or_false] at hb
              subst hb
              exact hao.b
            refine wc_skip ?_
            refine q_then ?_
            refine wc_seq ?_
            refine wc_block ?_
            refine wc_seq ?_
            refine wc_region ?_
            refine wl_val rfl rfl rfl (y_indexEn Try.underlying22 siz35 rfl rfl (by first | exact rd_own | exact rd_in (by assumption) | assumption) (by omega)) ?_
            refine wl_val rfl rfl rfl (y_loadNE (us := a.cells) agg35 rfl (rd_in hl) (hpart hai) a.len (by decide)) ?_
            (refine wl_ef rfl (ef_alloc rfl zerAc) ?_; rintro _ _ ⟨b4, rfl, rfl⟩)
            (refine wl_ef rfl (ef_storeC siz35 rfl rfl rfl) ?_; rintro _ _ ⟨rfl, rfl⟩)
            refine wl_nil ?_
            refine q_then ?_
            refine wc_seq ?_
            refine wc_region ?_
            refine wl_val rfl rfl rfl (y_field0 fa35_2 rfl) ?_
            refine wl_val rfl rfl rfl (y_loadC agg26 rfl) ?_
            (refine wl_ef rfl (ef_litN rfl Try.underlying117 siz26 zerBt rfl rfl rfl) ?_; rintro _ _ ⟨v26, rfl, rfl⟩)
            (refine wl_ef rfl (ef_callv0 rfl fun15 rfl (fun _ hw => (c_Light _ [a.b] _ (rd_bts hw rfl (by simp)) (fun b hb => (hbs b hb).go hw)))) ?_; rintro _ _ ⟨rfl, rfl⟩)
            refine wl_val rfl rfl rfl (y_not rfl) ?_
            refine wl_val rfl rfl rfl (y_move rfl) ?_
            apply wl_orp (d := 35)
            case ht =>
              intro hg1 hK1
              first
                | (refine wl_dead ?_ hK1 rfl; first | with_reducible contradiction | omega | (simp at hg1; done))
                | skip
                  try simp only [bsA, ne_eq] at hg1
                  refine wl_gskip rfl rfl rfl rfl rfl rfl rfl ?_
                  refine wl_gskip rfl rfl rfl rfl rfl rfl rfl ?_
                  refine wl_gskip rfl rfl rfl rfl rfl rfl rfl ?_
                  refine wl_gskip rfl rfl rfl rfl rfl rfl rfl ?_
                  refine wl_gskip rfl rfl rfl rfl rfl rfl rfl ?_
                  refine wl_val rfl rfl rfl (y_pickt rfl rfl) ?_
                  exact wl_leR hK1 (.cons rfl (by repeat (first | refine LeE.skip ?_ rfl | exact LeE.refl _)))
            case hf =>
              intro hg1 hK1
              first
                | (refine wl_dead ?_ hK1 rfl; first | with_reducible contradiction | omega | (simp at hg1; done))
                | skip
                  try simp only [bsA, ne_eq] at hg1
                  refine wl_gval rfl rfl rfl rfl rfl rfl rfl (y_field0 fa35_3 rfl) ?_
                  first | refine wl_gval rfl rfl rfl rfl rfl rfl rfl (y_field0 fa33_1 rfl) ?_ | refine wl_gval rfl rfl rfl rfl rfl rfl rfl (y_fieldN fa33_1 rfl (by simp only [Nat.reduceAdd]; rfl)) ?_
                  refine wl_gval rfl rfl rfl rfl rfl rfl rfl (y_loadA one31 rfl) ?_
                  refine wl_gval rfl rfl rfl rfl rfl rfl rfl (y_lenSl Try.underlying31 rfl) ?_
                  refine wl_gval rfl rfl rfl rfl rfl rfl rfl (y_gtr rfl rfl) ?_
                  first | refine wl_val rfl rfl rfl (y_pickt rfl rfl) ?_ | refine wl_val rfl rfl rfl (y_pickf rfl rfl) ?_
                  exact wl_leR hK1 (.cons rfl (by repeat (first | refine LeE.skip ?_ rfl | exact LeE.refl _)))
            refine wl_nil ?_
            refine q_then ?_
            first | refine wc_cond rfl (fun hc2 => ?_) (fun hc2 => ?_) | refine wc_condb rfl (fun hc2 => ?_) (fun hc2 => ?_)
            · first
              | ((try simp only [bsA, ne_eq] at hc2); exfalso; (first | with_reducible contradiction | omega | (simp at hc2; done)))
              | skip
                try simp only [bsA, ne_eq] at hc2
                refine wc_seq ?_
                refine wc_region ?_
                (refine wl_ef rfl (ef_callv0 rfl fun14 rfl (fun _ hw => (c_lives18 _))) ?_; rintro _ _ ⟨rfl, rfl⟩)
                refine wl_val rfl rfl rfl (y_assign rfl) ?_
                refine wl_nil ?_
                refine q_then ?_
                refine wc_ret ?_
                refine q_blockRet ?_
                refine q_thenRet ?_
                refine q_thenRet ?_
                refine q_blockRet ?_
                refine q_thenRet ?_
                apply q_retg (res1 Try.results3 rfl) -- ret 1
                case hΨ =>
                  first | exact ⟨rfl, rfl⟩ | exact rfl
                case hs =>
                  exact SubC.out
            · first
              | ((try simp only [bsA, ne_eq] at hc2); exfalso; (first | with_reducible contradiction | omega | (simp at hc2; done)))
              | skip
                try simp only [bsA, ne_eq] at hc2
                refine wc_skip ?_
                refine q_blockNormal ?_
                refine q_then ?_
                refine wc_region ?_
                refine wl_val rfl rfl rfl (y_addn rfl rfl (by omega)) ?_
                refine wl_val rfl rfl rfl (y_move rfl) ?_
                refine wl_nil ?_
                refine q_again (i + 1) ?_ ?_ ?_ ?_
                · exact ⟨by omega, fun x hx => by rw [List.take_add_one, hai] at hx; simp only [Option.toList_some, List.mem_append, List.mem_singleton] at hx; rcases hx with hx | rfl; exact hli x hx; simp only [lightA, lightB, decide_eq_true_eq]; grind⟩
                · first | omega | (simp; omega) | (simp only []; omega)
                · repeat (first | exact SubE.nil | refine SubE.cons rfl ?_ | refine SubE.cons (lk_int rfl (by omega)) ?_ | refine SubE.cons (lk_int rfl (by rfl)) ?_ | refine SubE.cons (lk_eq rfl (by rfl)) ?_)
                · exact SubC.out
        · first
          | ((try simp only [bsA, ne_eq] at hc1); exfalso; (first | with_reducible contradiction | omega | (simp at hc1; done)))
          | skip
            try simp only [bsA, ne_eq] at hc1
            have hall : ∀ a ∈ al, lightA a := by rw [List.take_of_length_le (by omega)] at hli; exact hli
            refine wc_exit ?_
            refine q_thenExit ?_
            refine q_thenExit ?_
            refine q_blockExit ?_
            refine q_then ?_
            refine wc_seq ?_
            refine wc_region ?_
            (refine wl_ef rfl (ef_alloc rfl zerSl) ?_; rintro _ _ ⟨b5, rfl, rfl⟩)
            refine wl_nil ?_
            refine q_then ?_
            refine wc_seq ?_
            refine wc_region ?_
            (refine wl_ef rfl (ef_makeMap rfl) ?_; rintro _ _ ⟨b38, rfl, rfl⟩)
            refine wl_val rfl rfl rfl (y_assign rfl) ?_
            refine wl_nil ?_
            refine q_then ?_
            refine wc_seq ?_
            refine wc_seq ?_
            refine wc_region ?_
            refine wl_val rfl rfl rfl (y_move rfl) ?_
            refine wl_val rfl rfl rfl (y_lenSl Try.underlying22 rfl) ?_
            refine wl_val rfl rfl rfl (y_move rfl) ?_
            refine wl_nil ?_
            refine q_then ?_
            refine wc_block ?_
            refine wc_loop3 (X0 := Nat) (X1 := Sl) (X2 := List (Int × Dg)) (fun i s m => [(5, .pointer (some ⟨b5, 0, none⟩)), (6, .map (some b38)), (39, .slice A0 al.length cap0), (40, .int .i64 (al.length : Int)), (41, .int .i64 (i : Int))]) (fun i s m => [.blk b5 s.cells 42 (0, 0), .map b38 (ents kI (kvm m)) (kvm m).length]) (fun i s m => i ≤ al.length ∧ SlOk w s ∧ Inv18 m s) (fun i s m => al.length - i) (0) (Sl0) ([]) ?_ ?_ ?_ ?_
            · exact ⟨by omega, sl0_ok w, inv18_0⟩
            · repeat (first | exact SubE.nil | refine SubE.cons rfl ?_ | refine SubE.cons (lk_int rfl (by omega)) ?_ | refine SubE.cons (lk_int rfl (by rfl)) ?_ | refine SubE.cons (lk_eq rfl (by rfl)) ?_)
            · first | exact SubC.out | repeat (first | exact SubL.nil | refine SubL.consOwn (by first | rfl | omega | (simp only [List.length_append, List.length_cons, List.length_nil]; omega) | (first | rfl | assumption | (simp; done))) (by first | rfl | (first | rfl | assumption | (simp; done))) ?_ | refine SubL.consBlk (by first | rfl | (first | rfl | assumption | (simp; done))) ?_ | refine SubL.consMap (by first | rfl | omega) (by first | rfl | (first | rfl | assumption | (simp; done))) ?_)
            · skip
              rintro i s m ⟨hi2, hso, hinv⟩
              refine wc_seq ?_
              refine wc_region ?_
              refine wl_val rfl rfl rfl (y_lss rfl rfl) ?_
              refine wl_nil ?_
              refine q_then ?_
              refine wc_seq ?_
              refine wc_cond rfl (fun hc3 => ?_) (fun hc3 => ?_)
              · first
                | ((try simp only [bsA, ne_eq] at hc3); exfalso; (first | with_reducible contradiction | omega | (simp at hc3; done)))
                | skip
                  try simp only [bsA, ne_eq] at hc3
                  obtain ⟨a, hai⟩ : ∃ a, al[i]? = some a := ⟨al[i]'(by omega), List.getElem?_eq_getElem (by omega)⟩
                  have hao := ha a (List.mem_of_getElem? hai)
                  have hla := hall a (List.mem_of_getElem? hai)
                  have hab := bt_light hao.b (List.mem_singleton.2 rfl) hla.1
                  obtain ⟨X, e, hX⟩ : ∃ X e, stp s a = (X, e) := ⟨_, _, rfl⟩
                  have hXo : SlOk w X := by
                    have : SlOk w (stp s a).1 := by
                      rw [stp]
                      split
                      · exact acc_ok hso hab
                      · split
                        · exact hld_ok hso hao.c
                        · exact dcd_ok hso hab hao.c
                    rwa [hX] at this
                  have cA : a.kind = 0 → ∀ w, SlOk w s → BtOk w a.b → Calls Try.prog 16 #[.agg s.cells.toArray, .int .i64 a.view, .agg a.b.cells.toArray] w (RV w (.tuple #[.agg X.cells.toArray, .int .i64 e])) := fun hk w h1 h2 => by
                    have := c_Accept s a.view a.b w h1.b h2
                    rw [stp, if_pos hk] at hX
                    rwa [hX] at this
                  have cH : ¬ a.kind = 0 → a.kind = 1 → ∀ w, SlOk w s → Calls Try.prog 17 #[.agg s.cells.toArray, .agg a.c.cells.toArray] w (RV w (.tuple #[.agg X.cells.toArray, .int .i64 e])) := fun hk hk1 w h1 => by
                    have := c_Hold s a.c w h1.b
                    rw [stp, if_neg hk, if_pos hk1] at hX
                    rwa [hX] at this
                  have cD : ¬ a.kind = 0 → ¬ a.kind = 1 → ∀ w, SlOk w s → BtOk w a.b → Calls Try.prog 18 #[.agg s.cells.toArray, .agg a.b.cells.toArray, .agg a.c.cells.toArray] w (RV w (.tuple #[.agg X.cells.toArray, .int .i64 e])) := fun hk hk1 w h1 h2 => by
                    have := c_Decide s a.b a.c w h1.eb h2
                    rw [stp, if_neg hk, if_neg hk1] at hX
                    rwa [hX] at this
                  refine wc_skip ?_
                  refine q_then ?_
                  refine wc_seq ?_
                  refine wc_block ?_
                  refine wc_seq ?_
                  refine wc_region ?_
                  refine wl_val rfl rfl rfl (y_indexEn Try.underlying22 siz35 rfl rfl (by first | exact rd_own | exact rd_in (by assumption) | assumption) (by omega)) ?_
                  refine wl_val rfl rfl rfl (y_loadNE (us := a.cells) agg35 rfl (rd_in hl) (hpart hai) a.len (by decide)) ?_
                  (refine wl_ef rfl (ef_alloc rfl zerAc) ?_; rintro _ _ ⟨b8, rfl, rfl⟩)
                  (refine wl_ef rfl (ef_storeC siz35 rfl rfl rfl) ?_; rintro _ _ ⟨rfl, rfl⟩)
                  refine wl_nil ?_
                  refine q_then ?_
                  refine wc_seq ?_
                  refine wc_region ?_
                  (refine wl_ef rfl (ef_alloc rfl zerSl) ?_; rintro _ _ ⟨b9, rfl, rfl⟩)
                  refine wl_nil ?_
                  refine q_then ?_
                  refine wc_seq ?_
                  refine wc_region ?_
                  refine wl_val rfl rfl rfl (y_assign rfl) ?_
                  refine wl_nil ?_
                  refine q_then ?_
                  refine wc_cut (X := Nat) (fun _ => [(5, .pointer (some ⟨b5, 0, none⟩)), (6, .map (some b38)), (8, .pointer (some ⟨b8, 0, none⟩)), (9, .pointer (some ⟨b9, 0, none⟩)), (10, .int .i64 e), (39, .slice A0 al.length cap0), (40, .int .i64 (al.length : Int)), (41, .int .i64 (i : Int))]) (fun _ => [.blk b5 s.cells 42 (0, 0), .map b38 (ents kI (kvm m)) (kvm m).length, .blk b8 a.cells 35 (0, 0), .blk b9 X.cells 42 (0, 0)]) (fun _ => True) ?_ ?_
                  · skip
                    refine wc_seq ?_
                    refine wc_region ?_
                    refine wl_val rfl rfl rfl (y_field0 fa35_0 rfl) ?_
                    refine wl_val rfl rfl rfl (y_loadA one3 rfl) ?_
                    refine wl_nil ?_
                    refine q_then ?_
                    refine wc_block ?_
                    refine wc_seq ?_
                    refine wc_region ?_
                    refine wl_val rfl rfl rfl (y_eql rfl rfl) ?_
                    refine wl_val rfl rfl rfl (y_assign rfl) ?_
                    refine wl_nil ?_
                    refine q_then ?_
                    refine wc_cond rfl (fun hc4 => ?_) (fun hc4 => ?_)
                    · first
                      | ((try simp only [bsA, ne_eq] at hc4); exfalso; (first | with_reducible contradiction | omega | (simp at hc4; done)))
                      | skip
                        try simp only [bsA, ne_eq] at hc4
                        refine wc_region ?_
                        refine wl_val rfl rfl rfl (y_loadC agg42 rfl) ?_
                        refine wl_val rfl rfl rfl (y_field0 fa35_1 rfl) ?_
                        refine wl_val rfl rfl rfl (y_loadA one3 rfl) ?_
                        refine wl_val rfl rfl rfl (y_field0 fa35_2 rfl) ?_
                        refine wl_val rfl rfl rfl (y_loadC agg26 rfl) ?_
                        (refine wl_ef rfl (ef_callv0 rfl fun16 rfl (fun _ hw => (cA hc4 _ (hso.go hw) (hab.go hw)))) ?_; rintro _ _ ⟨rfl, rfl⟩)
                        refine wl_val rfl rfl rfl (y_move rfl) ?_
                        refine wl_val rfl rfl rfl (y_extract rfl rfl) ?_
                        refine wl_val rfl rfl rfl (y_extract rfl rfl) ?_
                        (refine wl_ef rfl (ef_storeC siz42 rfl rfl rfl) ?_; rintro _ _ ⟨rfl, rfl⟩)
                        refine wl_val rfl rfl rfl (y_assign rfl) ?_
                        refine wl_nil ?_
                        refine q_blockNormal ?_
                        refine q_meet (0) ?_ ?_ ?_
                        · first | trivial | omega
                        · repeat (first | exact SubE.nil | refine SubE.cons rfl ?_ | refine SubE.cons (lk_int rfl (by omega)) ?_ | refine SubE.cons (lk_int rfl (by rfl)) ?_ | refine SubE.cons (lk_eq rfl (by rfl)) ?_)
                        · exact SubC.out
                    · first
                      | ((try simp only [bsA, ne_eq] at hc4); exfalso; (first | with_reducible contradiction | omega | (simp at hc4; done)))
                      | skip
                        try simp only [bsA, ne_eq] at hc4
                        refine wc_seq ?_
                        refine wc_region ?_
                        refine wl_val rfl rfl rfl (y_eql rfl rfl) ?_
                        refine wl_val rfl rfl rfl (y_assign rfl) ?_
                        refine wl_nil ?_
                        refine q_then ?_
                        refine wc_cond rfl (fun hc5 => ?_) (fun hc5 => ?_)
                        · first
                          | ((try simp only [bsA, ne_eq] at hc5); exfalso; (first | with_reducible contradiction | omega | (simp at hc5; done)))
                          | skip
                            try simp only [bsA, ne_eq] at hc5
                            refine wc_region ?_
                            refine wl_val rfl rfl rfl (y_loadC agg42 rfl) ?_
                            refine wl_val rfl rfl rfl (y_field0 fa35_3 rfl) ?_
                            refine wl_val rfl rfl rfl (y_loadC agg33 rfl) ?_
                            (refine wl_ef rfl (ef_callv0 rfl fun17 rfl (fun _ hw => (cH hc4 hc5 _ (hso.go hw)))) ?_; rintro _ _ ⟨rfl, rfl⟩)
                            refine wl_val rfl rfl rfl (y_move rfl) ?_
                            refine wl_val rfl rfl rfl (y_extract rfl rfl) ?_
                            refine wl_val rfl rfl rfl (y_extract rfl rfl) ?_
                            (refine wl_ef rfl (ef_storeC siz42 rfl rfl rfl) ?_; rintro _ _ ⟨rfl, rfl⟩)
                            refine wl_val rfl rfl rfl (y_assign rfl) ?_
                            refine wl_nil ?_
                            refine q_blockNormal ?_
                            refine q_meet (0) ?_ ?_ ?_
                            · first | trivial | omega
                            · repeat (first | exact SubE.nil | refine SubE.cons rfl ?_ | refine SubE.cons (lk_int rfl (by omega)) ?_ | refine SubE.cons (lk_int rfl (by rfl)) ?_ | refine SubE.cons (lk_eq rfl (by rfl)) ?_)
                            · exact SubC.out
                        · first
                          | ((try simp only [bsA, ne_eq] at hc5); exfalso; (first | with_reducible contradiction | omega | (simp at hc5; done)))
                          | skip
                            try simp only [bsA, ne_eq] at hc5
                            refine wc_region ?_
                            refine wl_val rfl rfl rfl (y_loadC agg42 rfl) ?_
                            refine wl_val rfl rfl rfl (y_field0 fa35_2 rfl) ?_
                            refine wl_val rfl rfl rfl (y_loadC agg26 rfl) ?_
                            refine wl_val rfl rfl rfl (y_field0 fa35_3 rfl) ?_
                            refine wl_val rfl rfl rfl (y_loadC agg33 rfl) ?_
                            (refine wl_ef rfl (ef_callv0 rfl fun18 rfl (fun _ hw => (cD hc4 hc5 _ (hso.go hw) (hab.go hw)))) ?_; rintro _ _ ⟨rfl, rfl⟩)
                            refine wl_val rfl rfl rfl (y_move rfl) ?_
                            refine wl_val rfl rfl rfl (y_extract rfl rfl) ?_
                            refine wl_val rfl rfl rfl (y_extract rfl rfl) ?_
                            (refine wl_ef rfl (ef_storeC siz42 rfl rfl rfl) ?_; rintro _ _ ⟨rfl, rfl⟩)
                            refine wl_val rfl rfl rfl (y_assign rfl) ?_
                            refine wl_nil ?_
                            refine q_blockNormal ?_
                            refine q_meet (0) ?_ ?_ ?_
                            · first | trivial | omega
                            · repeat (first | exact SubE.nil | refine SubE.cons rfl ?_ | refine SubE.cons (lk_int rfl (by omega)) ?_ | refine SubE.cons (lk_int rfl (by rfl)) ?_ | refine SubE.cons (lk_eq rfl (by rfl)) ?_)
                            · exact SubC.out
                  · skip
                    intro x hx
                    refine wc_seq ?_
                    refine wc_seq ?_
                    refine wc_region ?_
                    refine wl_val rfl rfl rfl (y_move rfl) ?_
                    refine wl_val rfl rfl rfl (y_neq rfl rfl) ?_
                    refine wl_nil ?_
                    refine q_then ?_
                    refine wc_cond rfl (fun hc6 => ?_) (fun hc6 => ?_)
                    · first
                      | ((try simp only [bsA, ne_eq] at hc6); exfalso; (first | with_reducible contradiction | omega | (simp at hc6; done)))
                      | skip
                        try simp only [bsA, ne_eq] at hc6
                        have hX0 : X = Sl0 := by
                          have := stp_err (s := s) (a := a) (by rw [hX]; exact hc6)
                          rwa [hX] at this
                        subst hX0
                        obtain ⟨X, hXs⟩ : ∃ X, X = s := ⟨_, rfl⟩
                        subst hXs
                        obtain ⟨M, hMs⟩ : ∃ M, M = m := ⟨_, rfl⟩
                        subst hMs
                        have hXo := hso
                        have hnx := hinv
                        refine wc_seq ?_
                        refine wc_seq ?_
                        refine wc_region ?_
                        refine wl_val rfl rfl rfl (y_loadC agg42 rfl) ?_
                        (refine wl_ef rfl (ef_callv0 rfl fun20 rfl (fun _ hw => (c_Of _ _))) ?_; rintro _ _ ⟨rfl, rfl⟩)
                        refine wl_val rfl rfl rfl (y_buildc (cs := Sl0.cells) rfl (fun w => by kernel_rfl)) ?_
                        (refine wl_ef rfl (ef_callv0 rfl fun19 rfl (fun _ hw => (c_refSlSame _ _ _ (sl0_ok _) (sl0_ok _)))) ?_; rintro _ _ ⟨rfl, rfl⟩)
                        refine wl_val rfl rfl rfl (y_not rfl) ?_
                        refine wl_nil ?_
                        refine q_then ?_
                        refine wc_cond rfl (fun hc7 => ?_) (fun hc7 => ?_)
                        · exfalso; (try simp only [bsA, ne_eq] at hc7); simp [slS] at hc7
                        · first
                          | ((try simp only [bsA, ne_eq] at hc7); exfalso; (first | with_reducible contradiction | omega | (simp at hc7; done)))
                          | skip
                            try simp only [bsA, ne_eq] at hc7
                            refine wc_skip ?_
                            refine q_then ?_
                            refine wc_exit ?_
                            refine q_thenExit ?_
                            refine q_blockExit ?_
                            refine q_then ?_
                            refine wc_region ?_
                            refine wl_val rfl rfl rfl (y_addn rfl rfl (by omega)) ?_
                            refine wl_val rfl rfl rfl (y_move rfl) ?_
                            refine wl_nil ?_
                            refine q_again3 (i + 1) (X) (M) ?_ ?_ ?_ ?_
                            · exact ⟨by omega, hXo, hnx⟩
                            · first | omega | (simp; omega) | (simp only []; omega)
                            · repeat (first | exact SubE.nil | refine SubE.cons rfl ?_ | refine SubE.cons (lk_int rfl (by omega)) ?_ | refine SubE.cons (lk_int rfl (by rfl)) ?_ | refine SubE.cons (lk_eq rfl (by rfl)) ?_)
                            · exact SubC.out
                    · first
                      | ((try simp only [bsA, ne_eq] at hc6); exfalso; (first | with_reducible contradiction | omega | (simp at hc6; done)))
                      | skip
                        try simp only [bsA, ne_eq] at hc6
                        subst hc6
                        have hok := stp_ok (s := s) (a := a) (by rw [hX])
                        have hnx := hinv.next (a := a) (by rw [hX])
                        have hmt := hinv.met (a := a) (by rw [hX])
                        rw [hX] at hok hnx hmt
                        obtain ⟨k1, k2, k3, k4, k5, k6, k7⟩ := hok
                        simp only at k1 k2 k3 k4 k5 k6 k7 hnx hmt
                        refine wc_skip ?_
                        refine q_then ?_
                        refine wc_seq ?_
                        refine wc_seq ?_
                        refine wc_region ?_
                        refine wl_val rfl rfl rfl (y_field0 fa42_2 rfl) ?_
                        refine wl_val rfl rfl rfl (y_loadA one4 rfl) ?_
                        refine wl_val rfl rfl rfl (y_move rfl) ?_
                        first | apply wl_andp (d := 96) | apply wl_and (d := 96)
                        case ht =>
                          intro hg2 hK2
                          first
                            | (refine wl_dead ?_ hK2 rfl; first | with_reducible contradiction | omega | (simp at hg2; done))
                            | skip
                              try simp only [bsA, ne_eq] at hg2
                              refine wl_gval rfl rfl rfl rfl rfl rfl rfl (y_field0 fa42_2 rfl) ?_
                              refine wl_gval rfl rfl rfl rfl rfl rfl rfl (y_loadA one4 rfl) ?_
                              first | refine wl_gval rfl rfl rfl rfl rfl rfl rfl (y_not rfl) ?_ | refine wl_gval rfl rfl rfl rfl rfl rfl rfl (y_nott rfl) ?_ | refine wl_gval rfl rfl rfl rfl rfl rfl rfl (y_notf rfl) ?_ | refine wl_gval rfl rfl rfl rfl rfl rfl rfl (y_notb rfl) ?_
                              refine wl_gval rfl rfl rfl rfl rfl rfl rfl (y_move rfl) ?_
                              first | apply wl_orp (d := 95) | apply wl_or (d := 95)
                              case ht =>
                                intro hg3 hK3
                                first
                                  | (refine wl_dead ?_ hK3 rfl; first | with_reducible contradiction | omega | (simp at hg3; done))
                                  | skip
                                    try simp only [bsA, ne_eq] at hg3
                                    refine wl_gskip rfl rfl rfl rfl rfl rfl rfl ?_
                                    refine wl_gskip rfl rfl rfl rfl rfl rfl rfl ?_
                                    refine wl_gskip rfl rfl rfl rfl rfl rfl rfl ?_
                                    refine wl_gskip rfl rfl rfl rfl rfl rfl rfl ?_
                                    refine wl_gskip rfl rfl rfl rfl rfl rfl rfl ?_
                                    refine wl_gval rfl rfl rfl rfl rfl rfl rfl (y_pickt rfl rfl) ?_
                                    exact wl_leR hK3 (.cons rfl (by repeat (first | refine LeE.skip ?_ rfl | exact LeE.refl _)))
                              case hf =>
                                intro hg3 hK3
                                first
                                  | (refine wl_dead ?_ hK3 rfl; first | with_reducible contradiction | omega | (simp at hg3; done))
                                  | skip
                                    try simp only [bsA, ne_eq] at hg3
                                    refine wl_gval rfl rfl rfl rfl rfl rfl rfl (y_field0 fa42_0 rfl) ?_
                                    refine wl_gval rfl rfl rfl rfl rfl rfl rfl (y_loadA one3 rfl) ?_
                                    refine wl_gval rfl rfl rfl rfl rfl rfl rfl (y_field0 fa42_0 rfl) ?_
                                    refine wl_gval rfl rfl rfl rfl rfl rfl rfl (y_loadA one3 rfl) ?_
                                    refine wl_gval rfl rfl rfl rfl rfl rfl rfl (y_lss rfl rfl) ?_
                                    first | refine wl_gval rfl rfl rfl rfl rfl rfl rfl (y_pickt rfl rfl) ?_ | refine wl_gval rfl rfl rfl rfl rfl rfl rfl (y_pickf rfl rfl) ?_
                                    exact wl_leR hK3 (.cons rfl (by repeat (first | refine LeE.skip ?_ rfl | exact LeE.refl _)))
                              refine wl_val rfl rfl rfl (y_pickt rfl rfl) ?_
                              exact wl_leR hK2 (.cons rfl (by repeat (first | refine LeE.skip ?_ rfl | exact LeE.refl _)))
                        case hf =>
                          intro hg2 hK2
                          first
                            | (refine wl_dead ?_ hK2 rfl; first | with_reducible contradiction | omega | (simp at hg2; done))
                            | skip
                              try simp only [bsA, ne_eq] at hg2
                              refine wl_gskip rfl rfl rfl rfl rfl rfl rfl ?_
                              refine wl_gskip rfl rfl rfl rfl rfl rfl rfl ?_
                              refine wl_gskip rfl rfl rfl rfl rfl rfl rfl ?_
                              refine wl_gskip rfl rfl rfl rfl rfl rfl rfl ?_
                              refine wl_gskip rfl rfl rfl rfl rfl rfl rfl ?_
                              refine wl_gskip rfl rfl rfl rfl rfl rfl rfl ?_
                              refine wl_gskip rfl rfl rfl rfl rfl rfl rfl ?_
                              refine wl_gskip rfl rfl rfl rfl rfl rfl rfl ?_
                              refine wl_gskip rfl rfl rfl rfl rfl rfl rfl ?_
                              refine wl_gskip rfl rfl rfl rfl rfl rfl rfl ?_
                              first | refine wl_val rfl rfl rfl (y_pickt rfl rfl) ?_ | refine wl_val rfl rfl rfl (y_pickf rfl rfl) ?_
                              exact wl_leR hK2 (.cons rfl (by repeat (first | refine LeE.skip ?_ rfl | exact LeE.refl _)))
                        refine wl_val rfl rfl rfl (y_move rfl) ?_
                        first | apply wl_orp (d := 118) | apply wl_or (d := 118)
                        case ht =>
                          intro hg4 hK4
                          first
                            | (refine wl_dead ?_ hK4 rfl; first | with_reducible contradiction | omega | (simp at hg4; done))
                            | skip
                              try simp only [bsA, ne_eq] at hg4
                              refine wl_gskip rfl rfl rfl rfl rfl rfl rfl ?_
                              refine wl_gskip rfl rfl rfl rfl rfl rfl rfl ?_
                              refine wl_gskip rfl rfl rfl rfl rfl rfl rfl ?_
                              refine wl_gskip rfl rfl rfl rfl rfl rfl rfl ?_
                              refine wl_gskip rfl rfl rfl rfl rfl rfl rfl ?_
                              refine wl_gskip rfl rfl rfl rfl rfl rfl rfl ?_
                              refine wl_gskip rfl rfl rfl rfl rfl rfl rfl ?_
                              refine wl_gskip rfl rfl rfl rfl rfl rfl rfl ?_
                              refine wl_gskip rfl rfl rfl rfl rfl rfl rfl ?_
                              refine wl_gskip rfl rfl rfl rfl rfl rfl rfl ?_
                              refine wl_gskip rfl rfl rfl rfl rfl rfl rfl ?_
                              refine wl_gskip rfl rfl rfl rfl rfl rfl rfl ?_
                              refine wl_gskip rfl rfl rfl rfl rfl rfl rfl ?_
                              refine wl_gskip rfl rfl rfl rfl rfl rfl rfl ?_
                              refine wl_gskip rfl rfl rfl rfl rfl rfl rfl ?_
                              refine wl_gskip rfl rfl rfl rfl rfl rfl rfl ?_
                              refine wl_gskip rfl rfl rfl rfl rfl rfl rfl ?_
                              refine wl_gskip rfl rfl rfl rfl rfl rfl rfl ?_
                              refine wl_gskip rfl rfl rfl rfl rfl rfl rfl ?_
                              refine wl_gskip rfl rfl rfl rfl rfl rfl rfl ?_
                              refine wl_val rfl rfl rfl (y_pickt rfl rfl) ?_
                              exact wl_leR hK4 (.cons rfl (by repeat (first | refine LeE.skip ?_ rfl | exact LeE.refl _)))
                        case hf =>
                          intro hg4 hK4
                          first
                            | (refine wl_dead ?_ hK4 rfl; first | with_reducible contradiction | omega | (simp at hg4; done))
                            | skip
                              try simp only [bsA, ne_eq] at hg4
                              refine wl_gval rfl rfl rfl rfl rfl rfl rfl (y_field0 fa42_4 rfl) ?_
                              refine wl_gval rfl rfl rfl rfl rfl rfl rfl (y_loadA one4 rfl) ?_
                              refine wl_gval rfl rfl rfl rfl rfl rfl rfl (y_move rfl) ?_
                              first | apply wl_andp (d := 117) | apply wl_and (d := 117)
                              case ht =>
                                intro hg5 hK5
                                first
                                  | (refine wl_dead ?_ hK5 rfl; first | with_reducible contradiction | omega | (simp at hg5; done))
                                  | skip
                                    try simp only [bsA, ne_eq] at hg5
                                    refine wl_gval rfl rfl rfl rfl rfl rfl rfl (y_field0 fa42_4 rfl) ?_
                                    refine wl_gval rfl rfl rfl rfl rfl rfl rfl (y_loadA one4 rfl) ?_
                                    first | refine wl_gval rfl rfl rfl rfl rfl rfl rfl (y_not rfl) ?_ | refine wl_gval rfl rfl rfl rfl rfl rfl rfl (y_nott rfl) ?_ | refine wl_gval rfl rfl rfl rfl rfl rfl rfl (y_notf rfl) ?_ | refine wl_gval rfl rfl rfl rfl rfl rfl rfl (y_notb rfl) ?_
                                    refine wl_gval rfl rfl rfl rfl rfl rfl rfl (y_move rfl) ?_
                                    first | apply wl_orp (d := 116) | apply wl_or (d := 116)
                                    case ht =>
                                      intro hg6 hK6
                                      first
                                        | (refine wl_dead ?_ hK6 rfl; first | with_reducible contradiction | omega | (simp at hg6; done))
                                        | skip
                                          try simp only [bsA, ne_eq] at hg6
                                          refine wl_gskip rfl rfl rfl rfl rfl rfl rfl ?_
                                          refine wl_gskip rfl rfl rfl rfl rfl rfl rfl ?_
                                          refine wl_gskip rfl rfl rfl rfl rfl rfl rfl ?_
                                          refine wl_gskip rfl rfl rfl rfl rfl rfl rfl ?_
                                          refine wl_gskip rfl rfl rfl rfl rfl rfl rfl ?_
                                          refine wl_gskip rfl rfl rfl rfl rfl rfl rfl ?_
                                          refine wl_gskip rfl rfl rfl rfl rfl rfl rfl ?_
                                          refine wl_gskip rfl rfl rfl rfl rfl rfl rfl ?_
                                          refine wl_gskip rfl rfl rfl rfl rfl rfl rfl ?_
                                          refine wl_gskip rfl rfl rfl rfl rfl rfl rfl ?_
                                          refine wl_gskip rfl rfl rfl rfl rfl rfl rfl ?_
                                          refine wl_gval rfl rfl rfl rfl rfl rfl rfl (y_pickt rfl rfl) ?_
                                          exact wl_leR hK6 (.cons rfl (by repeat (first | refine LeE.skip ?_ rfl | exact LeE.refl _)))
                                    case hf =>
                                      intro hg6 hK6
                                      first
                                        | (refine wl_dead ?_ hK6 rfl; first | with_reducible contradiction | omega | (simp at hg6; done))
                                        | skip
                                          try simp only [bsA, ne_eq] at hg6
                                          refine wl_gval rfl rfl rfl rfl rfl rfl rfl (y_field0 fa42_3 rfl) ?_
                                          first | refine wl_gval rfl rfl rfl rfl rfl rfl rfl (y_field0 fa38_1 rfl) ?_ | refine wl_gval rfl rfl rfl rfl rfl rfl rfl (y_fieldN fa38_1 rfl (by simp only [Nat.reduceAdd]; rfl)) ?_
                                          first | refine wl_gval rfl rfl rfl rfl rfl rfl rfl (y_field0 fa33_0 rfl) ?_ | refine wl_gval rfl rfl rfl rfl rfl rfl rfl (y_fieldN fa33_0 rfl (by simp only [Nat.reduceAdd]; rfl)) ?_
                                          first | refine wl_gval rfl rfl rfl rfl rfl rfl rfl (y_field0 fa30_2 rfl) ?_ | refine wl_gval rfl rfl rfl rfl rfl rfl rfl (y_fieldN fa30_2 rfl (by simp only [Nat.reduceAdd]; rfl)) ?_
                                          refine wl_gval rfl rfl rfl rfl rfl rfl rfl (y_loadA one3 rfl) ?_
                                          refine wl_gval rfl rfl rfl rfl rfl rfl rfl (y_field0 fa42_3 rfl) ?_
                                          first | refine wl_gval rfl rfl rfl rfl rfl rfl rfl (y_field0 fa38_1 rfl) ?_ | refine wl_gval rfl rfl rfl rfl rfl rfl rfl (y_fieldN fa38_1 rfl (by simp only [Nat.reduceAdd]; rfl)) ?_
                                          first | refine wl_gval rfl rfl rfl rfl rfl rfl rfl (y_field0 fa33_0 rfl) ?_ | refine wl_gval rfl rfl rfl rfl rfl rfl rfl (y_fieldN fa33_0 rfl (by simp only [Nat.reduceAdd]; rfl)) ?_
                                          first | refine wl_gval rfl rfl rfl rfl rfl rfl rfl (y_field0 fa30_2 rfl) ?_ | refine wl_gval rfl rfl rfl rfl rfl rfl rfl (y_fieldN fa30_2 rfl (by simp only [Nat.reduceAdd]; rfl)) ?_
                                          refine wl_gval rfl rfl rfl rfl rfl rfl rfl (y_loadA one3 rfl) ?_
                                          refine wl_gval rfl rfl rfl rfl rfl rfl rfl (y_lss rfl rfl) ?_
                                          first | refine wl_gval rfl rfl rfl rfl rfl rfl rfl (y_pickt rfl rfl) ?_ | refine wl_gval rfl rfl rfl rfl rfl rfl rfl (y_pickf rfl rfl) ?_
                                          exact wl_leR hK6 (.cons rfl (by repeat (first | refine LeE.skip ?_ rfl | exact LeE.refl _)))
                                    refine wl_gval rfl rfl rfl rfl rfl rfl rfl (y_pickt rfl rfl) ?_
                                    exact wl_leR hK5 (.cons rfl (by repeat (first | refine LeE.skip ?_ rfl | exact LeE.refl _)))
                              case hf =>
                                intro hg5 hK5
                                first
                                  | (refine wl_dead ?_ hK5 rfl; first | with_reducible contradiction | omega | (simp at hg5; done))
                                  | skip
                                    try simp only [bsA, ne_eq] at hg5
                                    refine wl_gskip rfl rfl rfl rfl rfl rfl rfl ?_
                                    refine wl_gskip rfl rfl rfl rfl rfl rfl rfl ?_
                                    refine wl_gskip rfl rfl rfl rfl rfl rfl rfl ?_
                                    refine wl_gskip rfl rfl rfl rfl rfl rfl rfl ?_
                                    refine wl_gskip rfl rfl rfl rfl rfl rfl rfl ?_
                                    refine wl_gskip rfl rfl rfl rfl rfl rfl rfl ?_
                                    refine wl_gskip rfl rfl rfl rfl rfl rfl rfl ?_
                                    refine wl_gskip rfl rfl rfl rfl rfl rfl rfl ?_
                                    refine wl_gskip rfl rfl rfl rfl rfl rfl rfl ?_
                                    refine wl_gskip rfl rfl rfl rfl rfl rfl rfl ?_
                                    refine wl_gskip rfl rfl rfl rfl rfl rfl rfl ?_
                                    refine wl_gskip rfl rfl rfl rfl rfl rfl rfl ?_
                                    refine wl_gskip rfl rfl rfl rfl rfl rfl rfl ?_
                                    refine wl_gskip rfl rfl rfl rfl rfl rfl rfl ?_
                                    refine wl_gskip rfl rfl rfl rfl rfl rfl rfl ?_
                                    refine wl_gskip rfl rfl rfl rfl rfl rfl rfl ?_
                                    first | refine wl_gval rfl rfl rfl rfl rfl rfl rfl (y_pickt rfl rfl) ?_ | refine wl_gval rfl rfl rfl rfl rfl rfl rfl (y_pickf rfl rfl) ?_
                                    exact wl_leR hK5 (.cons rfl (by repeat (first | refine LeE.skip ?_ rfl | exact LeE.refl _)))
                              first | refine wl_val rfl rfl rfl (y_pickt rfl rfl) ?_ | refine wl_val rfl rfl rfl (y_pickf rfl rfl) ?_
                              exact wl_leR hK4 (.cons rfl (by repeat (first | refine LeE.skip ?_ rfl | exact LeE.refl _)))
                        refine wl_val rfl rfl rfl (y_move rfl) ?_
                        first | apply wl_orp (d := 135) | apply wl_or (d := 135)
                        case ht =>
                          intro hg7 hK7
                          first
                            | (refine wl_dead ?_ hK7 rfl; first | with_reducible contradiction | omega | (simp at hg7; done))
                            | skip
                              try simp only [bsA, ne_eq] at hg7
                              refine wl_gskip rfl rfl rfl rfl rfl rfl rfl ?_
                              refine wl_gskip rfl rfl rfl rfl rfl rfl rfl ?_
                              refine wl_gskip rfl rfl rfl rfl rfl rfl rfl ?_
                              refine wl_gskip rfl rfl rfl rfl rfl rfl rfl ?_
                              refine wl_gskip rfl rfl rfl rfl rfl rfl rfl ?_
                              refine wl_gskip rfl rfl rfl rfl rfl rfl rfl ?_
                              refine wl_gskip rfl rfl rfl rfl rfl rfl rfl ?_
                              refine wl_gskip rfl rfl rfl rfl rfl rfl rfl ?_
                              refine wl_gskip rfl rfl rfl rfl rfl rfl rfl ?_
                              refine wl_gskip rfl rfl rfl rfl rfl rfl rfl ?_
                              refine wl_gskip rfl rfl rfl rfl rfl rfl rfl ?_
                              refine wl_gskip rfl rfl rfl rfl rfl rfl rfl ?_
                              refine wl_gskip rfl rfl rfl rfl rfl rfl rfl ?_
                              refine wl_gskip rfl rfl rfl rfl rfl rfl rfl ?_
                              refine wl_gskip rfl rfl rfl rfl rfl rfl rfl ?_
                              refine wl_val rfl rfl rfl (y_pickt rfl rfl) ?_
                              exact wl_leR hK7 (.cons rfl (by repeat (first | refine LeE.skip ?_ rfl | exact LeE.refl _)))
                        case hf =>
                          intro hg7 hK7
                          first
                            | (refine wl_dead ?_ hK7 rfl; first | with_reducible contradiction | omega | (simp at hg7; done))
                            | skip
                              try simp only [bsA, ne_eq] at hg7
                              refine wl_gval rfl rfl rfl rfl rfl rfl rfl (y_field0 fa42_6 rfl) ?_
                              refine wl_gval rfl rfl rfl rfl rfl rfl rfl (y_loadA one4 rfl) ?_
                              refine wl_gval rfl rfl rfl rfl rfl rfl rfl (y_move rfl) ?_
                              first | apply wl_andp (d := 134) | apply wl_and (d := 134)
                              case ht =>
                                intro hg8 hK8
                                first
                                  | (refine wl_dead ?_ hK8 rfl; first | with_reducible contradiction | omega | (simp at hg8; done))
                                  | skip
                                    try simp only [bsA, ne_eq] at hg8
                                    refine wl_gval rfl rfl rfl rfl rfl rfl rfl (y_field0 fa42_6 rfl) ?_
                                    refine wl_gval rfl rfl rfl rfl rfl rfl rfl (y_loadA one4 rfl) ?_
                                    first | refine wl_gval rfl rfl rfl rfl rfl rfl rfl (y_not rfl) ?_ | refine wl_gval rfl rfl rfl rfl rfl rfl rfl (y_nott rfl) ?_ | refine wl_gval rfl rfl rfl rfl rfl rfl rfl (y_notf rfl) ?_ | refine wl_gval rfl rfl rfl rfl rfl rfl rfl (y_notb rfl) ?_
                                    refine wl_gval rfl rfl rfl rfl rfl rfl rfl (y_move rfl) ?_
                                    first | apply wl_orp (d := 133) | apply wl_or (d := 133)
                                    case ht =>
                                      intro hg9 hK9
                                      first
                                        | (refine wl_dead ?_ hK9 rfl; first | with_reducible contradiction | omega | (simp at hg9; done))
                                        | skip
                                          try simp only [bsA, ne_eq] at hg9
                                          refine wl_gskip rfl rfl rfl rfl rfl rfl rfl ?_
                                          refine wl_gskip rfl rfl rfl rfl rfl rfl rfl ?_
                                          refine wl_gskip rfl rfl rfl rfl rfl rfl rfl ?_
                                          refine wl_gskip rfl rfl rfl rfl rfl rfl rfl ?_
                                          refine wl_gskip rfl rfl rfl rfl rfl rfl rfl ?_
                                          refine wl_gskip rfl rfl rfl rfl rfl rfl rfl ?_
                                          refine wl_gval rfl rfl rfl rfl rfl rfl rfl (y_pickt rfl rfl) ?_
                                          exact wl_leR hK9 (.cons rfl (by repeat (first | refine LeE.skip ?_ rfl | exact LeE.refl _)))
                                    case hf =>
                                      intro hg9 hK9
                                      first
                                        | (refine wl_dead ?_ hK9 rfl; first | with_reducible contradiction | omega | (simp at hg9; done))
                                        | skip
                                          try simp only [bsA, ne_eq] at hg9
                                          refine wl_gval rfl rfl rfl rfl rfl rfl rfl (y_field0 fa42_5 rfl) ?_
                                          refine wl_gval rfl rfl rfl rfl rfl rfl rfl (y_loadC agg40 rfl) ?_
                                          refine wl_gval rfl rfl rfl rfl rfl rfl rfl (y_field0 fa42_5 rfl) ?_
                                          refine wl_gval rfl rfl rfl rfl rfl rfl rfl (y_loadC agg40 rfl) ?_
                                          (refine wl_gef rfl rfl rfl rfl rfl (ef_callv0 rfl fun21 rfl (fun _ hw => (c_SameEntry _ _ _ (hXo.go hw).eb (hso.go hw).eb (hXo.go hw).ec (hso.go hw).ec))) ?_; rintro _ _ ⟨rfl, rfl⟩)
                                          refine wl_gval rfl rfl rfl rfl rfl rfl rfl (y_not rfl) ?_
                                          first | refine wl_gval rfl rfl rfl rfl rfl rfl rfl (y_pickt rfl rfl) ?_ | refine wl_gval rfl rfl rfl rfl rfl rfl rfl (y_pickf rfl rfl) ?_
                                          exact wl_leR hK9 (.cons rfl (by repeat (first | refine LeE.skip ?_ rfl | exact LeE.refl _)))
                                    refine wl_gval rfl rfl rfl rfl rfl rfl rfl (y_pickt rfl rfl) ?_
                                    exact wl_leR hK8 (.cons rfl (by repeat (first | refine LeE.skip ?_ rfl | exact LeE.refl _)))
                              case hf =>
                                intro hg8 hK8
                                first
                                  | (refine wl_dead ?_ hK8 rfl; first | with_reducible contradiction | omega | (simp at hg8; done))
                                  | skip
                                    try simp only [bsA, ne_eq] at hg8
                                    refine wl_gskip rfl rfl rfl rfl rfl rfl rfl ?_
                                    refine wl_gskip rfl rfl rfl rfl rfl rfl rfl ?_
                                    refine wl_gskip rfl rfl rfl rfl rfl rfl rfl ?_
                                    refine wl_gskip rfl rfl rfl rfl rfl rfl rfl ?_
                                    refine wl_gskip rfl rfl rfl rfl rfl rfl rfl ?_
                                    refine wl_gskip rfl rfl rfl rfl rfl rfl rfl ?_
                                    refine wl_gskip rfl rfl rfl rfl rfl rfl rfl ?_
                                    refine wl_gskip rfl rfl rfl rfl rfl rfl rfl ?_
                                    refine wl_gskip rfl rfl rfl rfl rfl rfl rfl ?_
                                    refine wl_gskip rfl rfl rfl rfl rfl rfl rfl ?_
                                    refine wl_gskip rfl rfl rfl rfl rfl rfl rfl ?_
                                    first | refine wl_gval rfl rfl rfl rfl rfl rfl rfl (y_pickt rfl rfl) ?_ | refine wl_gval rfl rfl rfl rfl rfl rfl rfl (y_pickf rfl rfl) ?_
                                    exact wl_leR hK8 (.cons rfl (by repeat (first | refine LeE.skip ?_ rfl | exact LeE.refl _)))
                              first | refine wl_val rfl rfl rfl (y_pickt rfl rfl) ?_ | refine wl_val rfl rfl rfl (y_pickf rfl rfl) ?_
                              exact wl_leR hK7 (.cons rfl (by repeat (first | refine LeE.skip ?_ rfl | exact LeE.refl _)))
                        refine wl_nil ?_
                        refine q_then ?_
                        first | refine wc_cond rfl (fun hc8 => ?_) (fun hc8 => ?_) | refine wc_condb rfl (fun hc8 => ?_) (fun hc8 => ?_)
                        · exfalso; (try simp only [bsA, ne_eq] at hc8); simp only [enS] at hc8; grind
                        · first
                          | ((try simp only [bsA, ne_eq] at hc8); exfalso; (first | with_reducible contradiction | omega | (simp at hc8; done)))
                          | skip
                            try simp only [bsA, ne_eq] at hc8
                            refine wc_skip ?_
                            refine q_then ?_
                            refine wc_seq ?_
                            refine wc_seq ?_
                            refine wc_region ?_
                            refine wl_val rfl rfl rfl (y_field0 fa42_2 rfl) ?_
                            refine wl_val rfl rfl rfl (y_loadA one4 rfl) ?_
                            refine wl_nil ?_
                            refine q_then ?_
                            first | refine wc_cond rfl (fun hc9 => ?_) (fun hc9 => ?_) | refine wc_condb rfl (fun hc9 => ?_) (fun hc9 => ?_)
                            · first
                              | ((try simp only [bsA, ne_eq] at hc9); exfalso; (first | with_reducible contradiction | omega | (simp at hc9; done)))
                              | skip
                                try simp only [bsA, ne_eq] at hc9
                                have hmt2 := hmt hc9
                                obtain ⟨M, hM⟩ : ∃ M, M = dupd m X.view X.batch.dig := ⟨_, rfl⟩
                                have hnx2 : nxt m X = M := by rw [hM]; exact if_pos hc9
                                rw [hnx2] at hnx
                                refine wc_seq ?_
                                refine wc_region ?_
                                refine wl_val rfl rfl rfl (y_field0 fa42_1 rfl) ?_
                                refine wl_val rfl rfl rfl (y_loadC agg26 rfl) ?_
                                (refine wl_ef rfl (ef_callv0 rfl fun22 rfl (fun _ hw => (c_refdig _ _ (hXo.go hw).b))) ?_; rintro _ _ ⟨rfl, rfl⟩)
                                (refine wl_ef rfl (ef_alloc rfl zerDg) ?_; rintro _ _ ⟨b11, rfl, rfl⟩)
                                (refine wl_ef rfl (ef_storeC siz28 rfl rfl rfl) ?_; rintro _ _ ⟨rfl, rfl⟩)
                                refine wl_nil ?_
                                refine q_then ?_
                                refine wc_seq ?_
                                refine wc_seq ?_
                                refine wc_region ?_
                                refine wl_val rfl rfl rfl (y_move rfl) ?_
                                refine wl_val rfl rfl rfl (y_field0 fa42_0 rfl) ?_
                                refine wl_val rfl rfl rfl (y_loadA one3 rfl) ?_
                                refine wl_val rfl rfl rfl (yl_is (v := .tuple #[.agg (bvs ((dget m X.view).getD Dg0).1).toArray, .bool (dget m X.view).isSome]) (y_lookupOk Try.underlying43 (keyInt Try.underlying3) zvDg rfl rfl) (by rw [getD_kvm, isSome_kvm])) ?_
                                refine wl_val rfl rfl rfl (y_move rfl) ?_
                                refine wl_val rfl rfl rfl (y_extract rfl rfl) ?_
                                refine wl_val rfl rfl rfl (y_extract rfl rfl) ?_
                                (refine wl_ef rfl (ef_alloc rfl zerDg) ?_; rintro _ _ ⟨b12, rfl, rfl⟩)
                                (refine wl_ef rfl (ef_storeC siz28 rfl rfl rfl) ?_; rintro _ _ ⟨rfl, rfl⟩)
                                refine wl_val rfl rfl rfl (y_assign rfl) ?_
                                refine wl_nil ?_
                                refine q_then ?_
                                refine wc_seq ?_
                                refine wc_region ?_
                                refine wl_val rfl rfl rfl (y_move rfl) ?_
                                refine wl_val rfl rfl rfl (y_move rfl) ?_
                                first | apply wl_andp (d := 153) | apply wl_and (d := 153)
                                case ht =>
                                  intro hg10 hK10
                                  first
                                    | (refine wl_dead ?_ hK10 rfl; first | with_reducible contradiction | omega | (simp at hg10; done))
                                    | skip
                                      try simp only [bsA, ne_eq] at hg10
                                      refine wl_gval rfl rfl rfl rfl rfl rfl rfl (y_loadC agg28 rfl) ?_
                                      refine wl_gval rfl rfl rfl rfl rfl rfl rfl (y_loadC agg28 rfl) ?_
                                      refine wl_gval rfl rfl rfl rfl rfl rfl rfl (y_neqAgg Try.eqGuardType28 rfl rfl (eq_dg _ _) (by omega)) ?_
                                      refine wl_val rfl rfl rfl (y_pickt rfl rfl) ?_
                                      exact wl_leR hK10 (.cons rfl (by repeat (first | refine LeE.skip ?_ rfl | exact LeE.refl _)))
                                case hf =>
                                  intro hg10 hK10
                                  first
                                    | (refine wl_dead ?_ hK10 rfl; first | with_reducible contradiction | omega | (simp at hg10; done))
                                    | skip
                                      try simp only [bsA, ne_eq] at hg10
                                      refine wl_gskip rfl rfl rfl rfl rfl rfl rfl ?_
                                      refine wl_gskip rfl rfl rfl rfl rfl rfl rfl ?_
                                      refine wl_gskip rfl rfl rfl rfl rfl rfl rfl ?_
                                      first | refine wl_val rfl rfl rfl (y_pickt rfl rfl) ?_ | refine wl_val rfl rfl rfl (y_pickf rfl rfl) ?_
                                      exact wl_leR hK10 (.cons rfl (by repeat (first | refine LeE.skip ?_ rfl | exact LeE.refl _)))
                                refine wl_nil ?_
                                refine q_then ?_
                                first | refine wc_cond rfl (fun hc10 => ?_) (fun hc10 => ?_) | refine wc_condb rfl (fun hc10 => ?_) (fun hc10 => ?_)
                                · exfalso; (try simp only [bsA, ne_eq] at hc10); rcases hmt2 with h | h <;> simp [h] at hc10
                                · first
                                  | ((try simp only [bsA, ne_eq] at hc10); exfalso; (first | with_reducible contradiction | omega | (simp at hc10; done)))
                                  | skip
                                    try simp only [bsA, ne_eq] at hc10
                                    refine wc_skip ?_
                                    refine q_then ?_
                                    refine wc_region ?_
                                    refine wl_val rfl rfl rfl (y_move rfl) ?_
                                    refine wl_val rfl rfl rfl (y_field0 fa42_0 rfl) ?_
                                    refine wl_val rfl rfl rfl (y_loadA one3 rfl) ?_
                                    refine wl_val rfl rfl rfl (y_loadC agg28 rfl) ?_
                                    (refine wl_ef rfl (ef_mapUpdate Try.underlying43 (keyInt Try.underlying3) rfl rfl rfl) ?_; rintro _ _ ⟨rfl, rfl⟩)
                                    refine wl_turn (L' := _) (fun w h => by rw [upd_kvm, ← hM] at h; exact h) ?_
                                    refine wl_nil ?_
                                    refine q_then ?_
                                    refine wc_seq ?_
                                    refine wc_seq ?_
                                    refine wa_begin_all (n := 33) (b := #[false, false, false, false, false, false, false, false, false, false, false, false, false, false, false, false, false, false, false, false, false, false, false, false, false, false, false, false, false, false, false, false, false]) mixed rfl rfl ?_
                                    refine wa_t 0 (by kernel_rfl) rfl rfl rfl rfl (y_field0 fa42_4 rfl) ?_
                                    refine wa_t 1 (by kernel_rfl) rfl rfl rfl rfl (y_loadA one4 rfl) ?_
                                    refine wa_t 2 (by kernel_rfl) rfl rfl rfl rfl (y_move rfl) ?_
                                    first | apply wa_andp (d := 174) | apply wa_and (d := 174)
                                    case ht =>
                                      intro hg11 hK11
                                      first
                                        | (refine wa_dead ?_ hK11 rfl; first | with_reducible contradiction | omega | (simp at hg11; done))
                                        | skip
                                          try simp only [bsA, ne_eq] at hg11
                                          refine wa_gt 3 (by kernel_rfl) rfl rfl rfl rfl rfl rfl rfl rfl (y_field0 fa42_3 rfl) ?_
                                          first | refine wa_gt 4 (by kernel_rfl) rfl rfl rfl rfl rfl rfl rfl rfl (y_field0 fa38_1 rfl) ?_ | refine wa_gt 4 (by kernel_rfl) rfl rfl rfl rfl rfl rfl rfl rfl (y_fieldN fa38_1 rfl (by simp only [Nat.reduceAdd]; rfl)) ?_
                                          first | refine wa_gt 5 (by kernel_rfl) rfl rfl rfl rfl rfl rfl rfl rfl (y_field0 fa33_0 rfl) ?_ | refine wa_gt 5 (by kernel_rfl) rfl rfl rfl rfl rfl rfl rfl rfl (y_fieldN fa33_0 rfl (by simp only [Nat.reduceAdd]; rfl)) ?_
                                          first | refine wa_gt 6 (by kernel_rfl) rfl rfl rfl rfl rfl rfl rfl rfl (y_field0 fa30_4 rfl) ?_ | refine wa_gt 6 (by kernel_rfl) rfl rfl rfl rfl rfl rfl rfl rfl (y_fieldN fa30_4 rfl (by simp only [Nat.reduceAdd]; rfl)) ?_
                                          refine wa_gt 7 (by kernel_rfl) rfl rfl rfl rfl rfl rfl rfl rfl (y_loadC agg28 rfl) ?_
                                          refine wa_gt 8 (by kernel_rfl) rfl rfl rfl rfl rfl rfl rfl rfl (y_move rfl) ?_
                                          refine wa_gt 9 (by kernel_rfl) rfl rfl rfl rfl rfl rfl rfl rfl (y_field0 fa42_3 rfl) ?_
                                          first | refine wa_gt 10 (by kernel_rfl) rfl rfl rfl rfl rfl rfl rfl rfl (y_field0 fa38_1 rfl) ?_ | refine wa_gt 10 (by kernel_rfl) rfl rfl rfl rfl rfl rfl rfl rfl (y_fieldN fa38_1 rfl (by simp only [Nat.reduceAdd]; rfl)) ?_
                                          first | refine wa_gt 11 (by kernel_rfl) rfl rfl rfl rfl rfl rfl rfl rfl (y_field0 fa33_0 rfl) ?_ | refine wa_gt 11 (by kernel_rfl) rfl rfl rfl rfl rfl rfl rfl rfl (y_fieldN fa33_0 rfl (by simp only [Nat.reduceAdd]; rfl)) ?_
                                          first | refine wa_gt 12 (by kernel_rfl) rfl rfl rfl rfl rfl rfl rfl rfl (y_field0 fa30_2 rfl) ?_ | refine wa_gt 12 (by kernel_rfl) rfl rfl rfl rfl rfl rfl rfl rfl (y_fieldN fa30_2 rfl (by simp only [Nat.reduceAdd]; rfl)) ?_
                                          refine wa_gt 13 (by kernel_rfl) rfl rfl rfl rfl rfl rfl rfl rfl (y_loadA one3 rfl) ?_
                                          refine wa_gt 14 (by kernel_rfl) rfl rfl rfl rfl rfl rfl rfl rfl (yl_is (y_lookup Try.underlying43 (keyInt Try.underlying3) zvDg rfl rfl) (getD_kvm _ _)) ?_
                                          refine wa_gt 15 (by kernel_rfl) rfl rfl rfl rfl rfl rfl rfl rfl (y_neqAgg Try.eqGuardType28 rfl rfl (eq_dg _ _) (by omega)) ?_
                                          refine wa_t 16 (by kernel_rfl) rfl rfl rfl rfl (y_pickt rfl rfl) ?_
                                          exact wa_leR hK11 (.cons rfl (by repeat (first | refine LeE.skip ?_ rfl | exact LeE.refl _)))
                                    case hf =>
                                      intro hg11 hK11
                                      first
                                        | (refine wa_dead ?_ hK11 rfl; first | with_reducible contradiction | omega | (simp at hg11; done))
                                        | skip
                                          try simp only [bsA, ne_eq] at hg11
                                          refine wa_gs 3 (by kernel_rfl) rfl rfl rfl rfl rfl rfl rfl rfl ?_
                                          refine wa_gs 4 (by kernel_rfl) rfl rfl rfl rfl rfl rfl rfl rfl ?_
                                          refine wa_gs 5 (by kernel_rfl) rfl rfl rfl rfl rfl rfl rfl rfl ?_
                                          refine wa_gs 6 (by kernel_rfl) rfl rfl rfl rfl rfl rfl rfl rfl ?_
                                          refine wa_gs 7 (by kernel_rfl) rfl rfl rfl rfl rfl rfl rfl rfl ?_
                                          refine wa_gs 8 (by kernel_rfl) rfl rfl rfl rfl rfl rfl rfl rfl ?_
                                          refine wa_gs 9 (by kernel_rfl) rfl rfl rfl rfl rfl rfl rfl rfl ?_
                                          refine wa_gs 10 (by kernel_rfl) rfl rfl rfl rfl rfl rfl rfl rfl ?_
                                          refine wa_gs 11 (by kernel_rfl) rfl rfl rfl rfl rfl rfl rfl rfl ?_
                                          refine wa_gs 12 (by kernel_rfl) rfl rfl rfl rfl rfl rfl rfl rfl ?_
                                          refine wa_gs 13 (by kernel_rfl) rfl rfl rfl rfl rfl rfl rfl rfl ?_
                                          refine wa_gs 14 (by kernel_rfl) rfl rfl rfl rfl rfl rfl rfl rfl ?_
                                          refine wa_gs 15 (by kernel_rfl) rfl rfl rfl rfl rfl rfl rfl rfl ?_
                                          first | refine wa_t 16 (by kernel_rfl) rfl rfl rfl rfl (y_pickt rfl rfl) ?_ | refine wa_t 16 (by kernel_rfl) rfl rfl rfl rfl (y_pickf rfl rfl) ?_
                                          exact wa_leR hK11 (.cons rfl (by repeat (first | refine LeE.skip ?_ rfl | exact LeE.refl _)))
                                    refine wa_t 17 (by kernel_rfl) rfl rfl rfl rfl (y_move rfl) ?_
                                    first | apply wa_orp (d := 190) | apply wa_or (d := 190)
                                    case ht =>
                                      intro hg12 hK12
                                      first
                                        | (refine wa_dead ?_ hK12 rfl; first | with_reducible contradiction | omega | (simp at hg12; done))
                                        | skip
                                          try simp only [bsA, ne_eq] at hg12
                                          refine wa_gs 18 (by kernel_rfl) rfl rfl rfl rfl rfl rfl rfl rfl ?_
                                          refine wa_gs 19 (by kernel_rfl) rfl rfl rfl rfl rfl rfl rfl rfl ?_
                                          refine wa_gs 20 (by kernel_rfl) rfl rfl rfl rfl rfl rfl rfl rfl ?_
                                          refine wa_gs 21 (by kernel_rfl) rfl rfl rfl rfl rfl rfl rfl rfl ?_
                                          refine wa_gs 22 (by kernel_rfl) rfl rfl rfl rfl rfl rfl rfl rfl ?_
                                          refine wa_gs 23 (by kernel_rfl) rfl rfl rfl rfl rfl rfl rfl rfl ?_
                                          refine wa_gs 24 (by kernel_rfl) rfl rfl rfl rfl rfl rfl rfl rfl ?_
                                          refine wa_gs 25 (by kernel_rfl) rfl rfl rfl rfl rfl rfl rfl rfl ?_
                                          refine wa_gs 26 (by kernel_rfl) rfl rfl rfl rfl rfl rfl rfl rfl ?_
                                          refine wa_gs 27 (by kernel_rfl) rfl rfl rfl rfl rfl rfl rfl rfl ?_
                                          refine wa_gs 28 (by kernel_rfl) rfl rfl rfl rfl rfl rfl rfl rfl ?_
                                          refine wa_gs 29 (by kernel_rfl) rfl rfl rfl rfl rfl rfl rfl rfl ?_
                                          refine wa_gs 30 (by kernel_rfl) rfl rfl rfl rfl rfl rfl rfl rfl ?_
                                          refine wa_gs 31 (by kernel_rfl) rfl rfl rfl rfl rfl rfl rfl rfl ?_
                                          refine wa_t 32 (by kernel_rfl) rfl rfl rfl rfl (y_pickt rfl rfl) ?_
                                          exact wa_leR hK12 (.cons rfl (by repeat (first | refine LeE.skip ?_ rfl | exact LeE.refl _)))
                                    case hf =>
                                      intro hg12 hK12
                                      first
                                        | (refine wa_dead ?_ hK12 rfl; first | with_reducible contradiction | omega | (simp at hg12; done))
                                        | skip
                                          try simp only [bsA, ne_eq] at hg12
                                          refine wa_gt 18 (by kernel_rfl) rfl rfl rfl rfl rfl rfl rfl rfl (y_field0 fa42_6 rfl) ?_
                                          refine wa_gt 19 (by kernel_rfl) rfl rfl rfl rfl rfl rfl rfl rfl (y_loadA one4 rfl) ?_
                                          refine wa_gt 20 (by kernel_rfl) rfl rfl rfl rfl rfl rfl rfl rfl (y_move rfl) ?_
                                          first | apply wa_andp (d := 189) | apply wa_and (d := 189)
                                          case ht =>
                                            intro hg13 hK13
                                            first
                                              | (refine wa_dead ?_ hK13 rfl; first | with_reducible contradiction | omega | (simp at hg13; done))
                                              | skip
                                                try simp only [bsA, ne_eq] at hg13
                                                refine wa_gt 21 (by kernel_rfl) rfl rfl rfl rfl rfl rfl rfl rfl (y_field0 fa42_5 rfl) ?_
                                                first | refine wa_gt 22 (by kernel_rfl) rfl rfl rfl rfl rfl rfl rfl rfl (y_field0 fa40_2 rfl) ?_ | refine wa_gt 22 (by kernel_rfl) rfl rfl rfl rfl rfl rfl rfl rfl (y_fieldN fa40_2 rfl (by simp only [Nat.reduceAdd]; rfl)) ?_
                                                first | refine wa_gt 23 (by kernel_rfl) rfl rfl rfl rfl rfl rfl rfl rfl (y_field0 fa33_0 rfl) ?_ | refine wa_gt 23 (by kernel_rfl) rfl rfl rfl rfl rfl rfl rfl rfl (y_fieldN fa33_0 rfl (by simp only [Nat.reduceAdd]; rfl)) ?_
                                                first | refine wa_gt 24 (by kernel_rfl) rfl rfl rfl rfl rfl rfl rfl rfl (y_field0 fa30_4 rfl) ?_ | refine wa_gt 24 (by kernel_rfl) rfl rfl rfl rfl rfl rfl rfl rfl (y_fieldN fa30_4 rfl (by simp only [Nat.reduceAdd]; rfl)) ?_
                                                refine wa_gt 25 (by kernel_rfl) rfl rfl rfl rfl rfl rfl rfl rfl (y_loadC agg28 rfl) ?_
                                                refine wa_gt 26 (by kernel_rfl) rfl rfl rfl rfl rfl rfl rfl rfl (y_field0 fa42_5 rfl) ?_
                                                first | refine wa_gt 27 (by kernel_rfl) rfl rfl rfl rfl rfl rfl rfl rfl (y_field0 fa40_1 rfl) ?_ | refine wa_gt 27 (by kernel_rfl) rfl rfl rfl rfl rfl rfl rfl rfl (y_fieldN fa40_1 rfl (by simp only [Nat.reduceAdd]; rfl)) ?_
                                                refine wa_gt 28 (by kernel_rfl) rfl rfl rfl rfl rfl rfl rfl rfl (y_loadC agg26 rfl) ?_
                                                (refine wa_ge 29 (by kernel_rfl) rfl rfl rfl rfl rfl rfl (ef_callv0 rfl fun22 rfl (fun _ hw => (c_refdig _ _ (hXo.go hw).eb))) ?_; rintro _ _ ⟨rfl, rfl⟩; refine ⟨.inr SubC.out, ?_⟩)
                                                refine wa_gt 30 (by kernel_rfl) rfl rfl rfl rfl rfl rfl rfl rfl (y_neqAgg Try.eqGuardType28 rfl rfl (eq_dg _ _) (by omega)) ?_
                                                refine wa_gt 31 (by kernel_rfl) rfl rfl rfl rfl rfl rfl rfl rfl (y_pickt rfl rfl) ?_
                                                exact wa_leR hK13 (.cons rfl (by repeat (first | refine LeE.skip ?_ rfl | exact LeE.refl _)))
                                          case hf =>
                                            intro hg13 hK13
                                            first
                                              | (refine wa_dead ?_ hK13 rfl; first | with_reducible contradiction | omega | (simp at hg13; done))
                                              | skip
                                                try simp only [bsA, ne_eq] at hg13
                                                refine wa_gs 21 (by kernel_rfl) rfl rfl rfl rfl rfl rfl rfl rfl ?_
                                                refine wa_gs 22 (by kernel_rfl) rfl rfl rfl rfl rfl rfl rfl rfl ?_
                                                refine wa_gs 23 (by kernel_rfl) rfl rfl rfl rfl rfl rfl rfl rfl ?_
                                                refine wa_gs 24 (by kernel_rfl) rfl rfl rfl rfl rfl rfl rfl rfl ?_
                                                refine wa_gs 25 (by kernel_rfl) rfl rfl rfl rfl rfl rfl rfl rfl ?_
                                                refine wa_gs 26 (by kernel_rfl) rfl rfl rfl rfl rfl rfl rfl rfl ?_
                                                refine wa_gs 27 (by kernel_rfl) rfl rfl rfl rfl rfl rfl rfl rfl ?_
                                                refine wa_gs 28 (by kernel_rfl) rfl rfl rfl rfl rfl rfl rfl rfl ?_
                                                refine wa_gs 29 (by kernel_rfl) rfl rfl rfl rfl rfl rfl rfl rfl ?_
                                                refine wa_gs 30 (by kernel_rfl) rfl rfl rfl rfl rfl rfl rfl rfl ?_
                                                first | refine wa_gt 31 (by kernel_rfl) rfl rfl rfl rfl rfl rfl rfl rfl (y_pickt rfl rfl) ?_ | refine wa_gt 31 (by kernel_rfl) rfl rfl rfl rfl rfl rfl rfl rfl (y_pickf rfl rfl) ?_
                                                exact wa_leR hK13 (.cons rfl (by repeat (first | refine LeE.skip ?_ rfl | exact LeE.refl _)))
                                          first | refine wa_t 32 (by kernel_rfl) rfl rfl rfl rfl (y_pickt rfl rfl) ?_ | refine wa_t 32 (by kernel_rfl) rfl rfl rfl rfl (y_pickf rfl rfl) ?_
                                          exact wa_leR hK12 (.cons rfl (by repeat (first | refine LeE.skip ?_ rfl | exact LeE.refl _)))
                                    refine wa_done (by kernel_rfl) ?_
                                    refine q_then ?_
                                    first | refine wc_cond rfl (fun hc11 => ?_) (fun hc11 => ?_) | refine wc_condb rfl (fun hc11 => ?_) (fun hc11 => ?_)
                                    · exfalso; (try simp only [bsA, ne_eq] at hc11); have q1 := hnx.holds; have q2 := hnx.dec; grind
                                    · first
                                      | ((try simp only [bsA, ne_eq] at hc11); exfalso; (first | with_reducible contradiction | omega | (simp at hc11; done)))
                                      | skip
                                        try simp only [bsA, ne_eq] at hc11
                                        refine wc_skip ?_
                                        refine q_then ?_
                                        refine wc_region ?_
                                        refine wl_val rfl rfl rfl (y_loadC agg42 rfl) ?_
                                        (refine wl_ef rfl (ef_storeC siz42 rfl rfl rfl) ?_; rintro _ _ ⟨rfl, rfl⟩)
                                        refine wl_nil ?_
                                        refine q_blockNormal ?_
                                        refine q_then ?_
                                        refine wc_region ?_
                                        refine wl_val rfl rfl rfl (y_addn rfl rfl (by omega)) ?_
                                        refine wl_val rfl rfl rfl (y_move rfl) ?_
                                        refine wl_nil ?_
                                        refine q_again3 (i + 1) (X) (M) ?_ ?_ ?_ ?_
                                        · exact ⟨by omega, hXo, hnx⟩
                                        · first | omega | (simp; omega) | (simp only []; omega)
                                        · repeat (first | exact SubE.nil | refine SubE.cons rfl ?_ | refine SubE.cons (lk_int rfl (by omega)) ?_ | refine SubE.cons (lk_int rfl (by rfl)) ?_ | refine SubE.cons (lk_eq rfl (by rfl)) ?_)
                                        · exact SubC.out
                            · first
                              | ((try simp only [bsA, ne_eq] at hc9); exfalso; (first | with_reducible contradiction | omega | (simp at hc9; done)))
                              | skip
                                try simp only [bsA, ne_eq] at hc9
                                have hnx2 : nxt m X = m := if_neg (by simp [hc9])
                                rw [hnx2] at hnx
                                obtain ⟨M, hMs⟩ : ∃ M, M = m := ⟨_, rfl⟩
                                subst hMs
                                refine wc_skip ?_
                                refine q_then ?_
                                refine wc_seq ?_
                                refine wc_seq ?_
                                refine wa_begin_all (n := 33) (b := #[false, false, false, false, false, false, false, false, false, false, false, false, false, false, false, false, false, false, false, false, false, false, false, false, false, false, false, false, false, false, false, false, false]) mixed rfl rfl ?_
                                refine wa_t 0 (by kernel_rfl) rfl rfl rfl rfl (y_field0 fa42_4 rfl) ?_
                                refine wa_t 1 (by kernel_rfl) rfl rfl rfl rfl (y_loadA one4 rfl) ?_
                                refine wa_t 2 (by kernel_rfl) rfl rfl rfl rfl (y_move rfl) ?_
                                first | apply wa_andp (d := 174) | apply wa_and (d := 174)
                                case ht =>
                                  intro hg14 hK14
                                  first
                                    | (refine wa_dead ?_ hK14 rfl; first | with_reducible contradiction | omega | (simp at hg14; done))
                                    | skip
                                      try simp only [bsA, ne_eq] at hg14
                                      refine wa_gt 3 (by kernel_rfl) rfl rfl rfl rfl rfl rfl rfl rfl (y_field0 fa42_3 rfl) ?_
                                      first | refine wa_gt 4 (by kernel_rfl) rfl rfl rfl rfl rfl rfl rfl rfl (y_field0 fa38_1 rfl) ?_ | refine wa_gt 4 (by kernel_rfl) rfl rfl rfl rfl rfl rfl rfl rfl (y_fieldN fa38_1 rfl (by simp only [Nat.reduceAdd]; rfl)) ?_
                                      first | refine wa_gt 5 (by kernel_rfl) rfl rfl rfl rfl rfl rfl rfl rfl (y_field0 fa33_0 rfl) ?_ | refine wa_gt 5 (by kernel_rfl) rfl rfl rfl rfl rfl rfl rfl rfl (y_fieldN fa33_0 rfl (by simp only [Nat.reduceAdd]; rfl)) ?_
                                      first | refine wa_gt 6 (by kernel_rfl) rfl rfl rfl rfl rfl rfl rfl rfl (y_field0 fa30_4 rfl) ?_ | refine wa_gt 6 (by kernel_rfl) rfl rfl rfl rfl rfl rfl rfl rfl (y_fieldN fa30_4 rfl (by simp only [Nat.reduceAdd]; rfl)) ?_
                                      refine wa_gt 7 (by kernel_rfl) rfl rfl rfl rfl rfl rfl rfl rfl (y_loadC agg28 rfl) ?_
                                      refine wa_gt 8 (by kernel_rfl) rfl rfl rfl rfl rfl rfl rfl rfl (y_move rfl) ?_
                                      refine wa_gt 9 (by kernel_rfl) rfl rfl rfl rfl rfl rfl rfl rfl (y_field0 fa42_3 rfl) ?_
                                      first | refine wa_gt 10 (by kernel_rfl) rfl rfl rfl rfl rfl rfl rfl rfl (y_field0 fa38_1 rfl) ?_ | refine wa_gt 10 (by kernel_rfl) rfl rfl rfl rfl rfl rfl rfl rfl (y_fieldN fa38_1 rfl (by simp only [Nat.reduceAdd]; rfl)) ?_
                                      first | refine wa_gt 11 (by kernel_rfl) rfl rfl rfl rfl rfl rfl rfl rfl (y_field0 fa33_0 rfl) ?_ | refine wa_gt 11 (by kernel_rfl) rfl rfl rfl rfl rfl rfl rfl rfl (y_fieldN fa33_0 rfl (by simp only [Nat.reduceAdd]; rfl)) ?_
                                      first | refine wa_gt 12 (by kernel_rfl) rfl rfl rfl rfl rfl rfl rfl rfl (y_field0 fa30_2 rfl) ?_ | refine wa_gt 12 (by kernel_rfl) rfl rfl rfl rfl rfl rfl rfl rfl (y_fieldN fa30_2 rfl (by simp only [Nat.reduceAdd]; rfl)) ?_
                                      refine wa_gt 13 (by kernel_rfl) rfl rfl rfl rfl rfl rfl rfl rfl (y_loadA one3 rfl) ?_
                                      refine wa_gt 14 (by kernel_rfl) rfl rfl rfl rfl rfl rfl rfl rfl (yl_is (y_lookup Try.underlying43 (keyInt Try.underlying3) zvDg rfl rfl) (getD_kvm _ _)) ?_
                                      refine wa_gt 15 (by kernel_rfl) rfl rfl rfl rfl rfl rfl rfl rfl (y_neqAgg Try.eqGuardType28 rfl rfl (eq_dg _ _) (by omega)) ?_
                                      refine wa_t 16 (by kernel_rfl) rfl rfl rfl rfl (y_pickt rfl rfl) ?_
                                      exact wa_leR hK14 (.cons rfl (by repeat (first | refine LeE.skip ?_ rfl | exact LeE.refl _)))
                                case hf =>
                                  intro hg14 hK14
                                  first
                                    | (refine wa_dead ?_ hK14 rfl; first | with_reducible contradiction | omega | (simp at hg14; done))
                                    | skip
                                      try simp only [bsA, ne_eq] at hg14
                                      refine wa_gs 3 (by kernel_rfl) rfl rfl rfl rfl rfl rfl rfl rfl ?_
                                      refine wa_gs 4 (by kernel_rfl) rfl rfl rfl rfl rfl rfl rfl rfl ?_
                                      refine wa_gs 5 (by kernel_rfl) rfl rfl rfl rfl rfl rfl rfl rfl ?_
                                      refine wa_gs 6 (by kernel_rfl) rfl rfl rfl rfl rfl rfl rfl rfl ?_
                                      refine wa_gs 7 (by kernel_rfl) rfl rfl rfl rfl rfl rfl rfl rfl ?_
                                      refine wa_gs 8 (by kernel_rfl) rfl rfl rfl rfl rfl rfl rfl rfl ?_
                                      refine wa_gs 9 (by kernel_rfl) rfl rfl rfl rfl rfl rfl rfl rfl ?_
                                      refine wa_gs 10 (by kernel_rfl) rfl rfl rfl rfl rfl rfl rfl rfl ?_
                                      refine wa_gs 11 (by kernel_rfl) rfl rfl rfl rfl rfl rfl rfl rfl ?_
                                      refine wa_gs 12 (by kernel_rfl) rfl rfl rfl rfl rfl rfl rfl rfl ?_
                                      refine wa_gs 13 (by kernel_rfl) rfl rfl rfl rfl rfl rfl rfl rfl ?_
                                      refine wa_gs 14 (by kernel_rfl) rfl rfl rfl rfl rfl rfl rfl rfl ?_
                                      refine wa_gs 15 (by kernel_rfl) rfl rfl rfl rfl rfl rfl rfl rfl ?_
                                      first | refine wa_t 16 (by kernel_rfl) rfl rfl rfl rfl (y_pickt rfl rfl) ?_ | refine wa_t 16 (by kernel_rfl) rfl rfl rfl rfl (y_pickf rfl rfl) ?_
                                      exact wa_leR hK14 (.cons rfl (by repeat (first | refine LeE.skip ?_ rfl | exact LeE.refl _)))
                                refine wa_t 17 (by kernel_rfl) rfl rfl rfl rfl (y_move rfl) ?_
                                first | apply wa_orp (d := 190) | apply wa_or (d := 190)
                                case ht =>
                                  intro hg15 hK15
                                  first
                                    | (refine wa_dead ?_ hK15 rfl; first | with_reducible contradiction | omega | (simp at hg15; done))
                                    | skip
                                      try simp only [bsA, ne_eq] at hg15
                                      refine wa_gs 18 (by kernel_rfl) rfl rfl rfl rfl rfl rfl rfl rfl ?_
                                      refine wa_gs 19 (by kernel_rfl) rfl rfl rfl rfl rfl rfl rfl rfl ?_
                                      refine wa_gs 20 (by kernel_rfl) rfl rfl rfl rfl rfl rfl rfl rfl ?_
                                      refine wa_gs 21 (by kernel_rfl) rfl rfl rfl rfl rfl rfl rfl rfl ?_
                                      refine wa_gs 22 (by kernel_rfl) rfl rfl rfl rfl rfl rfl rfl rfl ?_
                                      refine wa_gs 23 (by kernel_rfl) rfl rfl rfl rfl rfl rfl rfl rfl ?_
                                      refine wa_gs 24 (by kernel_rfl) rfl rfl rfl rfl rfl rfl rfl rfl ?_
                                      refine wa_gs 25 (by kernel_rfl) rfl rfl rfl rfl rfl rfl rfl rfl ?_
                                      refine wa_gs 26 (by kernel_rfl) rfl rfl rfl rfl rfl rfl rfl rfl ?_
                                      refine wa_gs 27 (by kernel_rfl) rfl rfl rfl rfl rfl rfl rfl rfl ?_
                                      refine wa_gs 28 (by kernel_rfl) rfl rfl rfl rfl rfl rfl rfl rfl ?_
                                      refine wa_gs 29 (by kernel_rfl) rfl rfl rfl rfl rfl rfl rfl rfl ?_
                                      refine wa_gs 30 (by kernel_rfl) rfl rfl rfl rfl rfl rfl rfl rfl ?_
                                      refine wa_gs 31 (by kernel_rfl) rfl rfl rfl rfl rfl rfl rfl rfl ?_
                                      refine wa_t 32 (by kernel_rfl) rfl rfl rfl rfl (y_pickt rfl rfl) ?_
                                      exact wa_leR hK15 (.cons rfl (by repeat (first | refine LeE.skip ?_ rfl | exact LeE.refl _)))
                                case hf =>
                                  intro hg15 hK15
                                  first
                                    | (refine wa_dead ?_ hK15 rfl; first | with_reducible contradiction | omega | (simp at hg15; done))
                                    | skip
                                      try simp only [bsA, ne_eq] at hg15
                                      refine wa_gt 18 (by kernel_rfl) rfl rfl rfl rfl rfl rfl rfl rfl (y_field0 fa42_6 rfl) ?_
                                      refine wa_gt 19 (by kernel_rfl) rfl rfl rfl rfl rfl rfl rfl rfl (y_loadA one4 rfl) ?_
                                      refine wa_gt 20 (by kernel_rfl) rfl rfl rfl rfl rfl rfl rfl rfl (y_move rfl) ?_
                                      first | apply wa_andp (d := 189) | apply wa_and (d := 189)
                                      case ht =>
                                        intro hg16 hK16
                                        first
                                          | (refine wa_dead ?_ hK16 rfl; first | with_reducible contradiction | omega | (simp at hg16; done))
                                          | skip
                                            try simp only [bsA, ne_eq] at hg16
                                            refine wa_gt 21 (by kernel_rfl) rfl rfl rfl rfl rfl rfl rfl rfl (y_field0 fa42_5 rfl) ?_
                                            first | refine wa_gt 22 (by kernel_rfl) rfl rfl rfl rfl rfl rfl rfl rfl (y_field0 fa40_2 rfl) ?_ | refine wa_gt 22 (by kernel_rfl) rfl rfl rfl rfl rfl rfl rfl rfl (y_fieldN fa40_2 rfl (by simp only [Nat.reduceAdd]; rfl)) ?_
                                            first | refine wa_gt 23 (by kernel_rfl) rfl rfl rfl rfl rfl rfl rfl rfl (y_field0 fa33_0 rfl) ?_ | refine wa_gt 23 (by kernel_rfl) rfl rfl rfl rfl rfl rfl rfl rfl (y_fieldN fa33_0 rfl (by simp only [Nat.reduceAdd]; rfl)) ?_
                                            first | refine wa_gt 24 (by kernel_rfl) rfl rfl rfl rfl rfl rfl rfl rfl (y_field0 fa30_4 rfl) ?_ | refine wa_gt 24 (by kernel_rfl) rfl rfl rfl rfl rfl rfl rfl rfl (y_fieldN fa30_4 rfl (by simp only [Nat.reduceAdd]; rfl)) ?_
                                            refine wa_gt 25 (by kernel_rfl) rfl rfl rfl rfl rfl rfl rfl rfl (y_loadC agg28 rfl) ?_
                                            refine wa_gt 26 (by kernel_rfl) rfl rfl rfl rfl rfl rfl rfl rfl (y_field0 fa42_5 rfl) ?_
                                            first | refine wa_gt 27 (by kernel_rfl) rfl rfl rfl rfl rfl rfl rfl rfl (y_field0 fa40_1 rfl) ?_ | refine wa_gt 27 (by kernel_rfl) rfl rfl rfl rfl rfl rfl rfl rfl (y_fieldN fa40_1 rfl (by simp only [Nat.reduceAdd]; rfl)) ?_
                                            refine wa_gt 28 (by kernel_rfl) rfl rfl rfl rfl rfl rfl rfl rfl (y_loadC agg26 rfl) ?_
                                            (refine wa_ge 29 (by kernel_rfl) rfl rfl rfl rfl rfl rfl (ef_callv0 rfl fun22 rfl (fun _ hw => (c_refdig _ _ (hXo.go hw).eb))) ?_; rintro _ _ ⟨rfl, rfl⟩; refine ⟨.inr SubC.out, ?_⟩)
                                            refine wa_gt 30 (by kernel_rfl) rfl rfl rfl rfl rfl rfl rfl rfl (y_neqAgg Try.eqGuardType28 rfl rfl (eq_dg _ _) (by omega)) ?_
                                            refine wa_gt 31 (by kernel_rfl) rfl rfl rfl rfl rfl rfl rfl rfl (y_pickt rfl rfl) ?_
                                            exact wa_leR hK16 (.cons rfl (by repeat (first | refine LeE.skip ?_ rfl | exact LeE.refl _)))
                                      case hf =>
                                        intro hg16 hK16
                                        first
                                          | (refine wa_dead ?_ hK16 rfl; first | with_reducible contradiction | omega | (simp at hg16; done))
                                          | skip
                                            try simp only [bsA, ne_eq] at hg16
                                            refine wa_gs 21 (by kernel_rfl) rfl rfl rfl rfl rfl rfl rfl rfl ?_
                                            refine wa_gs 22 (by kernel_rfl) rfl rfl rfl rfl rfl rfl rfl rfl ?_
                                            refine wa_gs 23 (by kernel_rfl) rfl rfl rfl rfl rfl rfl rfl rfl ?_
                                            refine wa_gs 24 (by kernel_rfl) rfl rfl rfl rfl rfl rfl rfl rfl ?_
                                            refine wa_gs 25 (by kernel_rfl) rfl rfl rfl rfl rfl rfl rfl rfl ?_
                                            refine wa_gs 26 (by kernel_rfl) rfl rfl rfl rfl rfl rfl rfl rfl ?_
                                            refine wa_gs 27 (by kernel_rfl) rfl rfl rfl rfl rfl rfl rfl rfl ?_
                                            refine wa_gs 28 (by kernel_rfl) rfl rfl rfl rfl rfl rfl rfl rfl ?_
                                            refine wa_gs 29 (by kernel_rfl) rfl rfl rfl rfl rfl rfl rfl rfl ?_
                                            refine wa_gs 30 (by kernel_rfl) rfl rfl rfl rfl rfl rfl rfl rfl ?_
                                            first | refine wa_gt 31 (by kernel_rfl) rfl rfl rfl rfl rfl rfl rfl rfl (y_pickt rfl rfl) ?_ | refine wa_gt 31 (by kernel_rfl) rfl rfl rfl rfl rfl rfl rfl rfl (y_pickf rfl rfl) ?_
                                            exact wa_leR hK16 (.cons rfl (by repeat (first | refine LeE.skip ?_ rfl | exact LeE.refl _)))
                                      first | refine wa_t 32 (by kernel_rfl) rfl rfl rfl rfl (y_pickt rfl rfl) ?_ | refine wa_t 32 (by kernel_rfl) rfl rfl rfl rfl (y_pickf rfl rfl) ?_
                                      exact wa_leR hK15 (.cons rfl (by repeat (first | refine LeE.skip ?_ rfl | exact LeE.refl _)))
                                refine wa_done (by kernel_rfl) ?_
                                refine q_then ?_
                                first | refine wc_cond rfl (fun hc11 => ?_) (fun hc11 => ?_) | refine wc_condb rfl (fun hc11 => ?_) (fun hc11 => ?_)
                                · exfalso; (try simp only [bsA, ne_eq] at hc11); have q1 := hnx.holds; have q2 := hnx.dec; grind
                                · first
                                  | ((try simp only [bsA, ne_eq] at hc11); exfalso; (first | with_reducible contradiction | omega | (simp at hc11; done)))
                                  | skip
                                    try simp only [bsA, ne_eq] at hc11
                                    refine wc_skip ?_
                                    refine q_then ?_
                                    refine wc_region ?_
                                    refine wl_val rfl rfl rfl (y_loadC agg42 rfl) ?_
                                    (refine wl_ef rfl (ef_storeC siz42 rfl rfl rfl) ?_; rintro _ _ ⟨rfl, rfl⟩)
                                    refine wl_nil ?_
                                    refine q_blockNormal ?_
                                    refine q_then ?_
                                    refine wc_region ?_
                                    refine wl_val rfl rfl rfl (y_addn rfl rfl (by omega)) ?_
                                    refine wl_val rfl rfl rfl (y_move rfl) ?_
                                    refine wl_nil ?_
                                    refine q_again3 (i + 1) (X) (M) ?_ ?_ ?_ ?_
                                    · exact ⟨by omega, hXo, hnx⟩
                                    · first | omega | (simp; omega) | (simp only []; omega)
                                    · repeat (first | exact SubE.nil | refine SubE.cons rfl ?_ | refine SubE.cons (lk_int rfl (by omega)) ?_ | refine SubE.cons (lk_int rfl (by rfl)) ?_ | refine SubE.cons (lk_eq rfl (by rfl)) ?_)
                                    · exact SubC.out
              · first
                | ((try simp only [bsA, ne_eq] at hc3); exfalso; (first | with_reducible contradiction | omega | (simp at hc3; done)))
                | skip
                  try simp only [bsA, ne_eq] at hc3
                  refine wc_exit ?_
                  refine q_thenExit ?_
                  refine q_thenExit ?_
                  refine q_blockExit ?_
                  refine q_then ?_
                  refine wc_seq ?_
                  refine wc_region ?_
                  (refine wl_ef rfl (ef_callv0 rfl fun14 rfl (fun _ hw => (c_lives18 _))) ?_; rintro _ _ ⟨rfl, rfl⟩)
                  refine wl_val rfl rfl rfl (y_assign rfl) ?_
                  refine wl_nil ?_
                  refine q_then ?_
                  refine wc_ret ?_
                  apply q_retg (res1 Try.results3 rfl) -- ret 6
                  case hΨ =>
                    first | exact ⟨rfl, rfl⟩ | exact rfl
                  case hs =>
                    exact SubC.out
end Go.Proofs.Ytdgmkbjopcopcaa
