/- Layer 18 (slot): what the calls tell, of both sides. Own work. -/
import Derived.Test.YtdgmkbjopcopcaaSlta
import Derived.Test.YtdgmkbjopcopcaaSama
set_option linter.unusedVariables false
set_option linter.unusedSimpArgs false
set_option maxRecDepth 100000
set_option maxHeartbeats 8000000
namespace Go.Proofs.Ytdgmkbjopcopcaa
open Go.RowKit
-- flat
-- zero 42 Sl0.cells
-- zero 50 Sl0.cells
-- zero 26 Bt0.cells
-- use zerSl zerSl
-- use zerRs zerRs
-- use zerBt zerBt
-- use zerDg zerDg
-- use zerIb zerIb
-- build 26 bldBt
-- build 30 bldVt
-- build 33 bldCt
-- build 38 bldHe
-- build 40 bldEn
-- build 124 bldIb

/-- a batch that can be read, and is not too large -/
structure BtOk (w : World) (b : Bt) : Prop where
  rd : RdI w [] b.v 19 b.rs.length (reqsC b.rs)
  reqs : Reqs b.rs
def Bt.dig (b : Bt) : Dg := ⟨digB b.noop b.rs, by rw [digB, sha_len]⟩
theorem BtOk.go {w0 w : World} {L : Mem} {b : Bt} (h : BtOk w0 b) (hw : Has w0 [] L w) : BtOk w b := ⟨rdI_in0 hw h.rd, h.reqs⟩
theorem BtOk.tag {w : World} {b : Bt} (h : BtOk w b) : ∀ r ∈ b.rs, r.tag.length = 16 := h.reqs.tag
theorem bt0_ok (w : World) : BtOk w Bt0 := ⟨RdI.of_nil _ _ _, ⟨by simp [Bt0], by simp [Bt0]⟩⟩
def acc (s : Sl) (view : Int) (b : Bt) : Sl × Int :=
  if view < 0 ∨ (s.is = true ∧ view < s.view) then (Sl0, 180)
  else if ¬ (s.is = true ∧ s.view = view) then ({ s with is := true, view := view, batch := b }, 0)
  else if s.batch.dig ≠ b.dig then (Sl0, 181) else (s, 0)
def hld (s : Sl) (c : Ct) : Sl × Int :=
  if c.vote.kind ≠ 1 then (Sl0, 181)
  else if ¬ (s.is = true ∧ s.view = c.vote.view) then (Sl0, 180)
  else if c.vote.dig ≠ s.batch.dig then (Sl0, 181)
  else if s.holds = false ∨ s.held.c.vote.view < c.vote.view then ({ s with holds := true, held := ⟨s.batch, c⟩ }, 0) else (s, 0)
def dcd (s : Sl) (b : Bt) (c : Ct) : Sl × Int :=
  if c.vote.kind ≠ 2 ∨ c.vote.dig ≠ b.dig then (Sl0, 181)
  else if s.decided = true ∧ s.entry.b.dig ≠ b.dig then (Sl0, 181)
  else if s.decided = false then ({ s with decided := true, entry := ⟨c.vote.slot, b, c⟩ }, 0) else (s, 0)
def kns (s : Sl) : List Ib := [⟨s.decided, s.entry.b⟩, ⟨s.is, s.batch⟩, ⟨s.holds, s.held.b⟩]
def knoL : List Ib → Dg → Bt × Bool
  | [], _ => (Bt0, false)
  | x :: l, d => if x.is = true ∧ x.b.dig = d then (x.b, true) else knoL l d
def kno (s : Sl) (d : Dg) : Bt × Bool := knoL (kns s) d
theorem c_dig (b : Bt) (w : World) (h : BtOk w b) : Calls Try.prog 53 #[.agg b.cells.toArray] w (RV w (.agg (bvs b.dig.1).toArray)) := c_batDigest b.v b.noop b.rs h.reqs w h.rd
theorem c_refdig (b : Bt) (w : World) (h : BtOk w b) : Calls Try.prog 22 #[.agg b.cells.toArray] w (RV w (.agg (bvs b.dig.1).toArray)) := c_refbatDigest b.v b.noop b.rs h.reqs w h.rd
theorem eq_dg (l m : Dg) : Eqs Try.prog 2 28 (.agg (bvs l.1).toArray) (.agg (bvs m.1).toArray) (decide (l = m)) := (eq_dig l.2 m.2).is (by simp [Subtype.ext_iff])
theorem c_in (s : Sl) (view : Int) (w : World) : Calls Try.prog 63 #[.agg s.cells.toArray, .int .i64 view] w (RV w (.bool (s.is && decide (s.view = view)))) := by
  refine enter (N := 13) Try.func63 rfl Try.ntmps63 rfl (Has.nil _) ?_
  refine wc_seq ?_
  refine wc_region ?_
  (refine wl_ef rfl (ef_box rfl rfl rfl) ?_; rintro _ _ ⟨b2, rfl, rfl⟩)
  refine wl_val rfl rfl rfl (y_assign rfl) ?_
  refine wl_nil ?_
  refine q_then ?_
  refine wc_seq ?_
  refine wc_region ?_
  refine wl_val rfl rfl rfl (y_field0 fa42_2 rfl) ?_
  refine wl_val rfl rfl rfl (y_loadA one4 rfl) ?_
  refine wl_val rfl rfl rfl (y_move rfl) ?_
  first | apply wl_andp (d := 12) | apply wl_and (d := 12)
  case ht =>
    intro hg1 hK1
    first
      | (refine wl_dead ?_ hK1 rfl; first | with_reducible contradiction | omega | (simp at hg1; done))
      | skip
        try simp only [bsA, ne_eq] at hg1
        refine wl_gval rfl rfl rfl rfl rfl rfl rfl (y_field0 fa42_0 rfl) ?_
        refine wl_gval rfl rfl rfl rfl rfl rfl rfl (y_loadA one3 rfl) ?_
        refine wl_gval rfl rfl rfl rfl rfl rfl rfl (y_move rfl) ?_
        refine wl_gval rfl rfl rfl rfl rfl rfl rfl (y_eql rfl rfl) ?_
        refine wl_val rfl rfl rfl (y_pickt rfl rfl) ?_
        exact wl_leR hK1 (.cons rfl (by repeat (first | refine LeE.skip ?_ rfl | exact LeE.refl _)))
  case hf =>
    intro hg1 hK1
    first
      | (refine wl_dead ?_ hK1 rfl; first | with_reducible contradiction | omega | (simp at hg1; done))
      | skip
        try simp only [bsA, ne_eq] at hg1
        refine wl_gskip rfl rfl rfl rfl rfl rfl rfl ?_
        refine wl_gskip rfl rfl rfl rfl rfl rfl rfl ?_
        refine wl_gskip rfl rfl rfl rfl rfl rfl rfl ?_
        refine wl_gskip rfl rfl rfl rfl rfl rfl rfl ?_
        first | refine wl_val rfl rfl rfl (y_pickt rfl rfl) ?_ | refine wl_val rfl rfl rfl (y_pickf rfl rfl) ?_
        exact wl_leR hK1 (.cons rfl (by repeat (first | refine LeE.skip ?_ rfl | exact LeE.refl _)))
  refine wl_val rfl rfl rfl (y_assign rfl) ?_
  refine wl_nil ?_
  refine q_then ?_
  refine wc_ret ?_
  apply q_retg (res1 Try.results63 rfl) -- ret 0
  case hΨ =>
    exact ⟨rfl, rfl⟩
  case hs =>
    exact SubC.out
theorem c_Accept (s : Sl) (view : Int) (b : Bt) (w : World) (hs : BtOk w s.batch) (hb : BtOk w b) :
    Calls Try.prog 16 #[.agg s.cells.toArray, .int .i64 view, .agg b.cells.toArray] w (RV w (.tuple #[.agg (acc s view b).1.cells.toArray, .int .i64 (acc s view b).2])) := by
  refine enter (N := 40) Try.func16 rfl Try.ntmps16 rfl (Has.nil _) ?_
  refine wc_seq ?_
  refine wc_region ?_
  (refine wl_ef rfl (ef_box rfl rfl rfl) ?_; rintro _ _ ⟨b3, rfl, rfl⟩)
  (refine wl_ef rfl (ef_box rfl rfl rfl) ?_; rintro _ _ ⟨b5, rfl, rfl⟩)
  (refine wl_ef rfl (ef_alloc rfl zerSl) ?_; rintro _ _ ⟨b6, rfl, rfl⟩)
  refine wl_val rfl rfl rfl (y_assign rfl) ?_
  refine wl_nil ?_
  refine q_then ?_
  refine wc_seq ?_
  refine wc_block ?_
  refine wc_seq ?_
  refine wc_block ?_
  refine wc_seq ?_
  refine wc_block ?_
  refine wc_seq ?_
  refine wc_block ?_
  refine wc_block ?_
  refine wc_seq ?_
  refine wc_seq ?_
  refine wc_seq ?_
  refine wc_region ?_
  refine wl_val rfl rfl rfl (y_move rfl) ?_
  refine wl_val rfl rfl rfl (y_lss rfl rfl) ?_
  refine wl_val rfl rfl rfl (y_assign rfl) ?_
  refine wl_nil ?_
  refine q_then ?_
  refine wc_cond rfl (fun hc0 => ?_) (fun hc0 => ?_)
  · first
    | ((try simp only [bsA, ne_eq] at hc0); exfalso; (first | with_reducible contradiction | omega | (simp at hc0; done)))
    | skip
      try simp only [bsA, ne_eq] at hc0
      refine wc_exit ?_
      refine q_thenExit ?_
      refine q_thenExit ?_
      refine q_blockExit ?_
      refine q_blockNormal ?_
      refine q_then ?_
      refine wc_seq ?_
      refine wc_seq ?_
      refine wc_region ?_
      refine wl_val rfl rfl rfl (y_buildc (cs := Sl0.cells) rfl (fun w => by kernel_rfl)) ?_
      (refine wl_ef rfl (ef_storeC siz42 rfl rfl rfl) ?_; rintro _ _ ⟨rfl, rfl⟩)
      refine wl_val rfl rfl rfl (y_assign rfl) ?_
      refine wl_nil ?_
      refine q_then ?_
      refine wc_ret ?_
      refine q_thenRet ?_
      refine q_blockRet ?_
      refine q_thenRet ?_
      refine q_blockRet ?_
      refine q_thenRet ?_
      refine q_blockRet ?_
      refine q_thenRet ?_
      apply q_retg (rescC2 Try.results16 rfl rfl agg42) -- ret 0
      case hΨ =>
        exact ⟨by simp only [acc]; split <;> (try split) <;> (try split) <;> first | rfl | (exfalso; grind), rfl⟩
      case hs =>
        exact SubC.out
  · first
    | ((try simp only [bsA, ne_eq] at hc0); exfalso; (first | with_reducible contradiction | omega | (simp at hc0; done)))
    | skip
      try simp only [bsA, ne_eq] at hc0
      refine wc_skip ?_
      refine q_then ?_
      refine wc_seq ?_
      refine wc_seq ?_
      refine wc_region ?_
      refine wl_val rfl rfl rfl (y_field0 fa42_2 rfl) ?_
      refine wl_val rfl rfl rfl (y_loadA one4 rfl) ?_
      refine wl_val rfl rfl rfl (y_move rfl) ?_
      first | apply wl_andp (d := 19) | apply wl_and (d := 19)
      case ht =>
        intro hg1 hK1
        first
          | (refine wl_dead ?_ hK1 rfl; first | with_reducible contradiction | omega | (simp at hg1; done))
          | skip
            try simp only [bsA, ne_eq] at hg1
            refine wl_gval rfl rfl rfl rfl rfl rfl rfl (y_field0 fa42_0 rfl) ?_
            refine wl_gval rfl rfl rfl rfl rfl rfl rfl (y_loadA one3 rfl) ?_
            refine wl_gval rfl rfl rfl rfl rfl rfl rfl (y_move rfl) ?_
            refine wl_gval rfl rfl rfl rfl rfl rfl rfl (y_gtr rfl rfl) ?_
            refine wl_val rfl rfl rfl (y_pickt rfl rfl) ?_
            exact wl_leR hK1 (.cons rfl (by repeat (first | refine LeE.skip ?_ rfl | exact LeE.refl _)))
      case hf =>
        intro hg1 hK1
        first
          | (refine wl_dead ?_ hK1 rfl; first | with_reducible contradiction | omega | (simp at hg1; done))
          | skip
            try simp only [bsA, ne_eq] at hg1
            refine wl_gskip rfl rfl rfl rfl rfl rfl rfl ?_
            refine wl_gskip rfl rfl rfl rfl rfl rfl rfl ?_
            refine wl_gskip rfl rfl rfl rfl rfl rfl rfl ?_
            refine wl_gskip rfl rfl rfl rfl rfl rfl rfl ?_
            first | refine wl_val rfl rfl rfl (y_pickt rfl rfl) ?_ | refine wl_val rfl rfl rfl (y_pickf rfl rfl) ?_
            exact wl_leR hK1 (.cons rfl (by repeat (first | refine LeE.skip ?_ rfl | exact LeE.refl _)))
      refine wl_val rfl rfl rfl (y_assign rfl) ?_
      refine wl_nil ?_
      refine q_then ?_
      first | refine wc_cond rfl (fun hc1 => ?_) (fun hc1 => ?_) | refine wc_condb rfl (fun hc1 => ?_) (fun hc1 => ?_)
      · first
        | ((try simp only [bsA, ne_eq] at hc1); exfalso; (first | with_reducible contradiction | omega | (simp at hc1; done)))
        | skip
          try simp only [bsA, ne_eq] at hc1
          refine wc_exit ?_
          refine q_thenExit ?_
          refine q_thenExit ?_
          refine q_blockOther rfl ?_
          refine q_blockExit ?_
          refine q_then ?_
          refine wc_seq ?_
          refine wc_seq ?_
          refine wc_region ?_
          refine wl_val rfl rfl rfl (y_buildc (cs := Sl0.cells) rfl (fun w => by kernel_rfl)) ?_
          (refine wl_ef rfl (ef_storeC siz42 rfl rfl rfl) ?_; rintro _ _ ⟨rfl, rfl⟩)
          refine wl_val rfl rfl rfl (y_assign rfl) ?_
          refine wl_nil ?_
          refine q_then ?_
          refine wc_ret ?_
          refine q_thenRet ?_
          refine q_blockRet ?_
          refine q_thenRet ?_
          refine q_blockRet ?_
          refine q_thenRet ?_
          refine q_blockRet ?_
          refine q_thenRet ?_
          apply q_retg (rescC2 Try.results16 rfl rfl agg42) -- ret 0
          case hΨ =>
            exact ⟨by simp only [acc]; split <;> (try split) <;> (try split) <;> first | rfl | (exfalso; grind), rfl⟩
          case hs =>
            exact SubC.out
      · first
        | ((try simp only [bsA, ne_eq] at hc1); exfalso; (first | with_reducible contradiction | omega | (simp at hc1; done)))
        | skip
          try simp only [bsA, ne_eq] at hc1
          refine wc_skip ?_
          refine q_then ?_
          refine wc_seq ?_
          refine wc_seq ?_
          refine wc_region ?_
          refine wl_val rfl rfl rfl (y_loadC agg42 rfl) ?_
          refine wl_val rfl rfl rfl (y_move rfl) ?_
          (refine wl_ef rfl (ef_callv0 rfl fun63 rfl (fun _ hw => (c_in s view _))) ?_; rintro _ _ ⟨rfl, rfl⟩)
          first | refine wl_val rfl rfl rfl (y_not rfl) ?_ | refine wl_val rfl rfl rfl (y_nott rfl) ?_ | refine wl_val rfl rfl rfl (y_notf rfl) ?_ | refine wl_val rfl rfl rfl (y_notb rfl) ?_
          refine wl_val rfl rfl rfl (y_assign rfl) ?_
          refine wl_nil ?_
          refine q_then ?_
          first | refine wc_cond rfl (fun hc2 => ?_) (fun hc2 => ?_) | refine wc_condb rfl (fun hc2 => ?_) (fun hc2 => ?_)
          · first
            | ((try simp only [bsA, ne_eq] at hc2); exfalso; (first | with_reducible contradiction | omega | (simp at hc2; done)))
            | skip
              try simp only [bsA, ne_eq] at hc2
              refine wc_exit ?_
              refine q_thenExit ?_
              refine q_thenExit ?_
              refine q_blockOther rfl ?_
              refine q_blockOther rfl ?_
              refine q_thenExit ?_
              refine q_blockExit ?_
              refine q_then ?_
              refine wc_seq ?_
              refine wa_begin1 b3 (n := 8) (bs := #[false, false, false, false, false, false, false, false]) mixed rfl rfl ?_
              refine wa_t 0 (by kernel_rfl) rfl rfl rfl rfl (y_move rfl) ?_
              refine wa_t 1 (by kernel_rfl) rfl rfl rfl rfl (y_loadC agg26 rfl) ?_
              refine wa_t 2 (by kernel_rfl) rfl rfl rfl rfl (y_field0 fa42_2 rfl) ?_
              (refine wa_e 3 (by kernel_rfl) rfl rfl (ef_storeC siz4 rfl rfl rfl) ?_; rintro _ _ ⟨rfl, rfl⟩; refine ⟨.inr SubC.out, ?_⟩)
              refine wa_t 4 (by kernel_rfl) rfl rfl rfl rfl (y_field0 fa42_0 rfl) ?_
              (refine wa_e 5 (by kernel_rfl) rfl rfl (ef_storeC siz3 rfl rfl rfl) ?_; rintro _ _ ⟨rfl, rfl⟩; refine ⟨.inr SubC.out, ?_⟩)
              refine wa_t 6 (by kernel_rfl) rfl rfl rfl rfl (y_field0 fa42_1 rfl) ?_
              (refine wa_e 7 (by kernel_rfl) rfl rfl (ef_storeC siz26 rfl rfl rfl) ?_; rintro _ _ ⟨rfl, rfl⟩; refine ⟨.inl (by kernel_rfl), ?_⟩)
              refine wa_done (by kernel_rfl) ?_
              refine q_then ?_
              refine wc_exit ?_
              refine q_blockOther rfl ?_
              refine q_thenExit ?_
              refine q_blockExit ?_
              refine q_then ?_
              refine wc_seq ?_
              refine wc_region ?_
              refine wl_val rfl rfl rfl (y_loadC agg42 rfl) ?_
              (refine wl_ef rfl (ef_storeC siz42 rfl rfl rfl) ?_; rintro _ _ ⟨rfl, rfl⟩)
              refine wl_val rfl rfl rfl (y_assign rfl) ?_
              refine wl_nil ?_
              refine q_then ?_
              refine wc_ret ?_
              apply q_retg (rescC2 Try.results16 rfl rfl agg42) -- ret 2
              case hΨ =>
                exact ⟨by simp only [acc]; split <;> (try split) <;> (try split) <;> first | rfl | (exfalso; grind), rfl⟩
              case hs =>
                exact SubC.out
          · first
            | ((try simp only [bsA, ne_eq] at hc2); exfalso; (first | with_reducible contradiction | omega | (simp at hc2; done)))
            | skip
              try simp only [bsA, ne_eq] at hc2
              refine wc_skip ?_
              refine q_then ?_
              refine wc_seq ?_
              refine wa_begin_all (n := 7) (b := #[false, false, false, false, false, false, false]) mixed rfl rfl ?_
              refine wa_t 0 (by kernel_rfl) rfl rfl rfl rfl (y_field0 fa42_1 rfl) ?_
              refine wa_t 1 (by kernel_rfl) rfl rfl rfl rfl (y_loadC agg26 rfl) ?_
              refine wa_t 3 (by kernel_rfl) rfl rfl rfl rfl (y_loadC agg26 rfl) ?_
              (refine wa_e 2 (by kernel_rfl) rfl rfl (ef_callv0 rfl fun53 rfl (fun _ hw => (c_dig _ _ (hs.go hw)))) ?_; rintro _ _ ⟨rfl, rfl⟩; refine ⟨.inr SubC.out, ?_⟩)
              first | (refine wa_e 4 (by kernel_rfl) rfl rfl (ef_callv0 rfl fun53 rfl (fun _ hw => (c_dig _ _ (hs.go hw)))) ?_; rintro _ _ ⟨rfl, rfl⟩; refine ⟨.inl (by kernel_rfl), ?_⟩) | (refine wa_e 4 (by kernel_rfl) rfl rfl (ef_callv0 rfl fun53 rfl (fun _ hw => (c_dig _ _ (hb.go hw)))) ?_; rintro _ _ ⟨rfl, rfl⟩; refine ⟨.inl (by kernel_rfl), ?_⟩)
              refine wa_t 5 (by kernel_rfl) rfl rfl rfl rfl (y_neqAgg Try.eqGuardType28 rfl rfl (eq_dg _ _) (by omega)) ?_
              refine wa_t 6 (by kernel_rfl) rfl rfl rfl rfl (y_assign rfl) ?_
              refine wa_done (by kernel_rfl) ?_
              refine q_then ?_
              first | refine wc_cond rfl (fun hc3 => ?_) (fun hc3 => ?_) | refine wc_condb rfl (fun hc3 => ?_) (fun hc3 => ?_)
              · first
                | ((try simp only [bsA, ne_eq] at hc3); exfalso; (first | with_reducible contradiction | omega | (simp at hc3; done)))
                | skip
                  try simp only [bsA, ne_eq] at hc3
                  refine wc_exit ?_
                  refine q_thenExit ?_
                  refine q_blockOther rfl ?_
                  refine q_blockOther rfl ?_
                  refine q_thenExit ?_
                  refine q_blockOther rfl ?_
                  refine q_thenExit ?_
                  refine q_blockExit ?_
                  refine q_then ?_
                  refine wc_seq ?_
                  refine wc_seq ?_
                  refine wc_region ?_
                  refine wl_val rfl rfl rfl (y_buildc (cs := Sl0.cells) rfl (fun w => by kernel_rfl)) ?_
                  (refine wl_ef rfl (ef_storeC siz42 rfl rfl rfl) ?_; rintro _ _ ⟨rfl, rfl⟩)
                  refine wl_val rfl rfl rfl (y_assign rfl) ?_
                  refine wl_nil ?_
                  refine q_then ?_
                  refine wc_ret ?_
                  refine q_thenRet ?_
                  refine q_blockRet ?_
                  refine q_thenRet ?_
                  apply q_retg (rescC2 Try.results16 rfl rfl agg42) -- ret 1
                  case hΨ =>
                    exact ⟨by simp only [acc]; split <;> (try split) <;> (try split) <;> first | rfl | (exfalso; grind), rfl⟩
                  case hs =>
                    exact SubC.out
              · first
                | ((try simp only [bsA, ne_eq] at hc3); exfalso; (first | with_reducible contradiction | omega | (simp at hc3; done)))
                | skip
                  try simp only [bsA, ne_eq] at hc3
                  refine wc_skip ?_
                  refine q_then ?_
                  refine wc_exit ?_
                  refine q_blockOther rfl ?_
                  refine q_blockOther rfl ?_
                  refine q_thenExit ?_
                  refine q_blockOther rfl ?_
                  refine q_thenExit ?_
                  refine q_blockOther rfl ?_
                  refine q_thenExit ?_
                  refine q_blockExit ?_
                  refine q_then ?_
                  refine wc_seq ?_
                  refine wc_region ?_
                  refine wl_val rfl rfl rfl (y_loadC agg42 rfl) ?_
                  (refine wl_ef rfl (ef_storeC siz42 rfl rfl rfl) ?_; rintro _ _ ⟨rfl, rfl⟩)
                  refine wl_val rfl rfl rfl (y_assign rfl) ?_
                  refine wl_nil ?_
                  refine q_then ?_
                  refine wc_ret ?_
                  apply q_retg (rescC2 Try.results16 rfl rfl agg42) -- ret 2
                  case hΨ =>
                    exact ⟨by simp only [acc]; split <;> (try split) <;> (try split) <;> first | rfl | (exfalso; grind), rfl⟩
                  case hs =>
                    exact SubC.out
theorem c_refAccept (s : Sl) (view : Int) (b : Bt) (w : World) (hs : BtOk w s.batch) (hb : BtOk w b) :
    Calls Try.prog 33 #[.agg s.cells.toArray, .int .i64 view, .agg b.cells.toArray] w (RV w (.tuple #[.agg (acc s view b).1.cells.toArray, .int .i64 (acc s view b).2])) := by
  refine enter (N := 43) Try.func33 rfl Try.ntmps33 rfl (Has.nil _) ?_
  refine wc_seq ?_
  refine wc_region ?_
  (refine wl_ef rfl (ef_box rfl rfl rfl) ?_; rintro _ _ ⟨b3, rfl, rfl⟩)
  (refine wl_ef rfl (ef_box rfl rfl rfl) ?_; rintro _ _ ⟨b5, rfl, rfl⟩)
  (refine wl_ef rfl (ef_alloc rfl zerRs) ?_; rintro _ _ ⟨b6, rfl, rfl⟩)
  refine wl_val rfl rfl rfl (y_assign rfl) ?_
  refine wl_nil ?_
  refine q_then ?_
  refine wc_seq ?_
  refine wc_seq ?_
  refine wc_region ?_
  refine wl_val rfl rfl rfl (y_move rfl) ?_
  refine wl_val rfl rfl rfl (y_lss rfl rfl) ?_
  refine wl_val rfl rfl rfl (y_move rfl) ?_
  apply wl_orp (d := 19)
  case ht =>
    intro hg1 hK1
    first
      | (refine wl_dead ?_ hK1 rfl; first | with_reducible contradiction | omega | (simp at hg1; done))
      | skip
        try simp only [bsA, ne_eq] at hg1
        refine wl_gskip rfl rfl rfl rfl rfl rfl rfl ?_
        refine wl_gskip rfl rfl rfl rfl rfl rfl rfl ?_
        refine wl_gskip rfl rfl rfl rfl rfl rfl rfl ?_
        refine wl_gskip rfl rfl rfl rfl rfl rfl rfl ?_
        refine wl_gskip rfl rfl rfl rfl rfl rfl rfl ?_
        refine wl_gskip rfl rfl rfl rfl rfl rfl rfl ?_
        refine wl_gskip rfl rfl rfl rfl rfl rfl rfl ?_
        refine wl_gskip rfl rfl rfl rfl rfl rfl rfl ?_
        refine wl_val rfl rfl rfl (y_pickt rfl rfl) ?_
        exact wl_leR hK1 (.cons rfl (by repeat (first | refine LeE.skip ?_ rfl | exact LeE.refl _)))
  case hf =>
    intro hg1 hK1
    first
      | (refine wl_dead ?_ hK1 rfl; first | with_reducible contradiction | omega | (simp at hg1; done))
      | skip
        try simp only [bsA, ne_eq] at hg1
        refine wl_gval rfl rfl rfl rfl rfl rfl rfl (y_field0 fa50_2 rfl) ?_
        refine wl_gval rfl rfl rfl rfl rfl rfl rfl (y_loadA one4 rfl) ?_
        refine wl_gval rfl rfl rfl rfl rfl rfl rfl (y_move rfl) ?_
        first | apply wl_andp (d := 18) | apply wl_and (d := 18)
        case ht =>
          intro hg2 hK2
          first
            | (refine wl_dead ?_ hK2 rfl; first | with_reducible contradiction | omega | (simp at hg2; done))
            | skip
              try simp only [bsA, ne_eq] at hg2
              refine wl_gval rfl rfl rfl rfl rfl rfl rfl (y_field0 fa50_0 rfl) ?_
              refine wl_gval rfl rfl rfl rfl rfl rfl rfl (y_loadA one3 rfl) ?_
              refine wl_gval rfl rfl rfl rfl rfl rfl rfl (y_move rfl) ?_
              refine wl_gval rfl rfl rfl rfl rfl rfl rfl (y_gtr rfl rfl) ?_
              refine wl_gval rfl rfl rfl rfl rfl rfl rfl (y_pickt rfl rfl) ?_
              exact wl_leR hK2 (.cons rfl (by repeat (first | refine LeE.skip ?_ rfl | exact LeE.refl _)))
        case hf =>
          intro hg2 hK2
          first
            | (refine wl_dead ?_ hK2 rfl; first | with_reducible contradiction | omega | (simp at hg2; done))
            | skip
              try simp only [bsA, ne_eq] at hg2
              refine wl_gskip rfl rfl rfl rfl rfl rfl rfl ?_
              refine wl_gskip rfl rfl rfl rfl rfl rfl rfl ?_
              refine wl_gskip rfl rfl rfl rfl rfl rfl rfl ?_
              refine wl_gskip rfl rfl rfl rfl rfl rfl rfl ?_
              first | refine wl_gval rfl rfl rfl rfl rfl rfl rfl (y_pickt rfl rfl) ?_ | refine wl_gval rfl rfl rfl rfl rfl rfl rfl (y_pickf rfl rfl) ?_
              exact wl_leR hK2 (.cons rfl (by repeat (first | refine LeE.skip ?_ rfl | exact LeE.refl _)))
        first | refine wl_val rfl rfl rfl (y_pickt rfl rfl) ?_ | refine wl_val rfl rfl rfl (y_pickf rfl rfl) ?_
        exact wl_leR hK1 (.cons rfl (by repeat (first | refine LeE.skip ?_ rfl | exact LeE.refl _)))
  refine wl_nil ?_
  refine q_then ?_
  first | refine wc_cond rfl (fun hc0 => ?_) (fun hc0 => ?_) | refine wc_condb rfl (fun hc0 => ?_) (fun hc0 => ?_)
  · first
    | ((try simp only [bsA, ne_eq] at hc0); exfalso; (first | with_reducible contradiction | omega | (simp at hc0; done)))
    | skip
      try simp only [bsA, ne_eq] at hc0
      refine wc_seq ?_
      refine wc_region ?_
      refine wl_val rfl rfl rfl (y_buildc (cs := Sl0.cells) rfl (fun w => by kernel_rfl)) ?_
      (refine wl_ef rfl (ef_storeC siz50 rfl rfl rfl) ?_; rintro _ _ ⟨rfl, rfl⟩)
      refine wl_val rfl rfl rfl (y_assign rfl) ?_
      refine wl_nil ?_
      refine q_then ?_
      refine wc_ret ?_
      refine q_thenRet ?_
      apply q_retg (rescC2 Try.results33 rfl rfl agg50) -- ret 0
      case hΨ =>
        exact ⟨by simp only [acc]; split <;> (try split) <;> (try split) <;> first | rfl | (exfalso; grind), rfl⟩
      case hs =>
        exact SubC.out
  · first
    | ((try simp only [bsA, ne_eq] at hc0); exfalso; (first | with_reducible contradiction | omega | (simp at hc0; done)))
    | skip
      try simp only [bsA, ne_eq] at hc0
      refine wc_skip ?_
      refine q_then ?_
      refine wc_seq ?_
      refine wc_seq ?_
      refine wc_region ?_
      refine wl_val rfl rfl rfl (y_field0 fa50_2 rfl) ?_
      refine wl_val rfl rfl rfl (y_loadA one4 rfl) ?_
      refine wl_val rfl rfl rfl (y_move rfl) ?_
      first | apply wl_andp (d := 28) | apply wl_and (d := 28)
      case ht =>
        intro hg3 hK3
        first
          | (refine wl_dead ?_ hK3 rfl; first | with_reducible contradiction | omega | (simp at hg3; done))
          | skip
            try simp only [bsA, ne_eq] at hg3
            refine wl_gval rfl rfl rfl rfl rfl rfl rfl (y_field0 fa50_0 rfl) ?_
            refine wl_gval rfl rfl rfl rfl rfl rfl rfl (y_loadA one3 rfl) ?_
            refine wl_gval rfl rfl rfl rfl rfl rfl rfl (y_move rfl) ?_
            refine wl_gval rfl rfl rfl rfl rfl rfl rfl (y_eql rfl rfl) ?_
            refine wl_val rfl rfl rfl (y_pickt rfl rfl) ?_
            exact wl_leR hK3 (.cons rfl (by repeat (first | refine LeE.skip ?_ rfl | exact LeE.refl _)))
      case hf =>
        intro hg3 hK3
        first
          | (refine wl_dead ?_ hK3 rfl; first | with_reducible contradiction | omega | (simp at hg3; done))
          | skip
            try simp only [bsA, ne_eq] at hg3
            refine wl_gskip rfl rfl rfl rfl rfl rfl rfl ?_
            refine wl_gskip rfl rfl rfl rfl rfl rfl rfl ?_
            refine wl_gskip rfl rfl rfl rfl rfl rfl rfl ?_
            refine wl_gskip rfl rfl rfl rfl rfl rfl rfl ?_
            first | refine wl_val rfl rfl rfl (y_pickt rfl rfl) ?_ | refine wl_val rfl rfl rfl (y_pickf rfl rfl) ?_
            exact wl_leR hK3 (.cons rfl (by repeat (first | refine LeE.skip ?_ rfl | exact LeE.refl _)))
      refine wl_nil ?_
      refine q_then ?_
      first | refine wc_cond rfl (fun hc1 => ?_) (fun hc1 => ?_) | refine wc_condb rfl (fun hc1 => ?_) (fun hc1 => ?_)
      · first
        | ((try simp only [bsA, ne_eq] at hc1); exfalso; (first | with_reducible contradiction | omega | (simp at hc1; done)))
        | skip
          try simp only [bsA, ne_eq] at hc1
          refine wc_seq ?_
          refine wc_seq ?_
          refine wa_begin_all (n := 6) (b := #[false, false, false, false, false, false]) mixed rfl rfl ?_
          refine wa_t 0 (by kernel_rfl) rfl rfl rfl rfl (y_field0 fa50_1 rfl) ?_
          refine wa_t 1 (by kernel_rfl) rfl rfl rfl rfl (y_loadC agg26 rfl) ?_
          refine wa_t 3 (by kernel_rfl) rfl rfl rfl rfl (y_loadC agg26 rfl) ?_
          (refine wa_e 2 (by kernel_rfl) rfl rfl (ef_callv0 rfl fun22 rfl (fun _ hw => (c_refdig _ _ (hs.go hw)))) ?_; rintro _ _ ⟨rfl, rfl⟩; refine ⟨.inr SubC.out, ?_⟩)
          first | (refine wa_e 4 (by kernel_rfl) rfl rfl (ef_callv0 rfl fun22 rfl (fun _ hw => (c_refdig _ _ (hs.go hw)))) ?_; rintro _ _ ⟨rfl, rfl⟩; refine ⟨.inl (by kernel_rfl), ?_⟩) | (refine wa_e 4 (by kernel_rfl) rfl rfl (ef_callv0 rfl fun22 rfl (fun _ hw => (c_refdig _ _ (hb.go hw)))) ?_; rintro _ _ ⟨rfl, rfl⟩; refine ⟨.inl (by kernel_rfl), ?_⟩)
          refine wa_t 5 (by kernel_rfl) rfl rfl rfl rfl (y_neqAgg Try.eqGuardType28 rfl rfl (eq_dg _ _) (by omega)) ?_
          refine wa_done (by kernel_rfl) ?_
          refine q_then ?_
          first | refine wc_cond rfl (fun hc2 => ?_) (fun hc2 => ?_) | refine wc_condb rfl (fun hc2 => ?_) (fun hc2 => ?_)
          · first
            | ((try simp only [bsA, ne_eq] at hc2); exfalso; (first | with_reducible contradiction | omega | (simp at hc2; done)))
            | skip
              try simp only [bsA, ne_eq] at hc2
              refine wc_seq ?_
              refine wc_region ?_
              refine wl_val rfl rfl rfl (y_buildc (cs := Sl0.cells) rfl (fun w => by kernel_rfl)) ?_
              (refine wl_ef rfl (ef_storeC siz50 rfl rfl rfl) ?_; rintro _ _ ⟨rfl, rfl⟩)
              refine wl_val rfl rfl rfl (y_assign rfl) ?_
              refine wl_nil ?_
              refine q_then ?_
              refine wc_ret ?_
              refine q_thenRet ?_
              refine q_thenRet ?_
              apply q_retg (rescC2 Try.results33 rfl rfl agg50) -- ret 1
              case hΨ =>
                exact ⟨by simp only [acc]; split <;> (try split) <;> (try split) <;> first | rfl | (exfalso; grind), rfl⟩
              case hs =>
                exact SubC.out
          · first
            | ((try simp only [bsA, ne_eq] at hc2); exfalso; (first | with_reducible contradiction | omega | (simp at hc2; done)))
            | skip
              try simp only [bsA, ne_eq] at hc2
              refine wc_skip ?_
              refine q_then ?_
              refine wc_seq ?_
              refine wc_region ?_
              refine wl_val rfl rfl rfl (y_loadC agg50 rfl) ?_
              (refine wl_ef rfl (ef_storeC siz50 rfl rfl rfl) ?_; rintro _ _ ⟨rfl, rfl⟩)
              refine wl_val rfl rfl rfl (y_assign rfl) ?_
              refine wl_nil ?_
              refine q_then ?_
              refine wc_ret ?_
              refine q_thenRet ?_
              apply q_retg (rescC2 Try.results33 rfl rfl agg50) -- ret 2
              case hΨ =>
                exact ⟨by simp only [acc]; split <;> (try split) <;> (try split) <;> first | rfl | (exfalso; grind), rfl⟩
              case hs =>
                exact SubC.out
      · first
        | ((try simp only [bsA, ne_eq] at hc1); exfalso; (first | with_reducible contradiction | omega | (simp at hc1; done)))
        | skip
          try simp only [bsA, ne_eq] at hc1
          refine wc_skip ?_
          refine q_then ?_
          refine wc_seq ?_
          refine wc_region ?_
          refine wl_val rfl rfl rfl (y_field0 fa50_2 rfl) ?_
          (refine wl_ef rfl (ef_storeC siz4 rfl rfl rfl) ?_; rintro _ _ ⟨rfl, rfl⟩)
          refine wl_nil ?_
          refine q_then ?_
          refine wc_seq ?_
          refine wc_region ?_
          refine wl_val rfl rfl rfl (y_move rfl) ?_
          refine wl_val rfl rfl rfl (y_field0 fa50_0 rfl) ?_
          (refine wl_ef rfl (ef_storeC siz3 rfl rfl rfl) ?_; rintro _ _ ⟨rfl, rfl⟩)
          refine wl_nil ?_
          refine q_then ?_
          refine wc_seq ?_
          refine wc_region ?_
          refine wl_val rfl rfl rfl (y_loadC agg26 rfl) ?_
          refine wl_val rfl rfl rfl (y_field0 fa50_1 rfl) ?_
          (refine wl_ef rfl (ef_storeC siz26 rfl rfl rfl) ?_; rintro _ _ ⟨rfl, rfl⟩)
          refine wl_nil ?_
          refine q_then ?_
          refine wc_seq ?_
          refine wc_region ?_
          refine wl_val rfl rfl rfl (y_loadC agg50 rfl) ?_
          (refine wl_ef rfl (ef_storeC siz50 rfl rfl rfl) ?_; rintro _ _ ⟨rfl, rfl⟩)
          refine wl_val rfl rfl rfl (y_assign rfl) ?_
          refine wl_nil ?_
          refine q_then ?_
          refine wc_ret ?_
          apply q_retg (rescC2 Try.results33 rfl rfl agg50) -- ret 3
          case hΨ =>
            exact ⟨by simp only [acc]; split <;> (try split) <;> (try split) <;> first | rfl | (exfalso; grind), rfl⟩
          case hs =>
            exact SubC.out
theorem c_Hold (s : Sl) (c : Ct) (w : World) (hs : BtOk w s.batch) :
    Calls Try.prog 17 #[.agg s.cells.toArray, .agg c.cells.toArray] w (RV w (.tuple #[.agg (hld s c).1.cells.toArray, .int .i64 (hld s c).2])) := by
  refine enter (N := 51) Try.func17 rfl Try.ntmps17 rfl (Has.nil _) ?_
  refine wc_seq ?_
  refine wc_region ?_
  (refine wl_ef rfl (ef_box rfl rfl rfl) ?_; rintro _ _ ⟨b2, rfl, rfl⟩)
  (refine wl_ef rfl (ef_box rfl rfl rfl) ?_; rintro _ _ ⟨b3, rfl, rfl⟩)
  (refine wl_ef rfl (ef_alloc rfl zerSl) ?_; rintro _ _ ⟨b4, rfl, rfl⟩)
  refine wl_val rfl rfl rfl (y_assign rfl) ?_
  refine wl_nil ?_
  refine q_then ?_
  refine wc_seq ?_
  refine wc_block ?_
  refine wc_seq ?_
  refine wc_region ?_
  refine wl_val rfl rfl rfl (y_field0 fa33_0 rfl) ?_
  refine wl_val rfl rfl rfl (y_field0 fa30_0 rfl) ?_
  refine wl_val rfl rfl rfl (y_loadA one3 rfl) ?_
  refine wl_val rfl rfl rfl (y_neq rfl rfl) ?_
  refine wl_val rfl rfl rfl (y_assign rfl) ?_
  refine wl_nil ?_
  refine q_then ?_
  refine wc_cond rfl (fun hc0 => ?_) (fun hc0 => ?_)
  · first
    | ((try simp only [bsA, ne_eq] at hc0); exfalso; (first | with_reducible contradiction | omega | (simp at hc0; done)))
    | skip
      try simp only [bsA, ne_eq] at hc0
      refine wc_seq ?_
      refine wc_region ?_
      refine wl_val rfl rfl rfl (y_buildc (cs := Sl0.cells) rfl (fun w => by kernel_rfl)) ?_
      (refine wl_ef rfl (ef_storeC siz42 rfl rfl rfl) ?_; rintro _ _ ⟨rfl, rfl⟩)
      refine wl_val rfl rfl rfl (y_assign rfl) ?_
      refine wl_nil ?_
      refine q_then ?_
      refine wc_ret ?_
      refine q_blockRet ?_
      refine q_thenRet ?_
      apply q_retg (rescC2 Try.results17 rfl rfl agg42) -- ret 0
      case hΨ =>
        exact ⟨by simp only [hld]; split <;> (try split) <;> (try split) <;> (try split) <;> first | rfl | (exfalso; grind), rfl⟩
      case hs =>
        exact SubC.out
  · first
    | ((try simp only [bsA, ne_eq] at hc0); exfalso; (first | with_reducible contradiction | omega | (simp at hc0; done)))
    | skip
      try simp only [bsA, ne_eq] at hc0
      refine wc_seq ?_
      refine wc_region ?_
      refine wl_val rfl rfl rfl (y_loadC agg42 rfl) ?_
      refine wl_val rfl rfl rfl (y_field0 fa33_0 rfl) ?_
      refine wl_val rfl rfl rfl (y_field0 fa30_2 rfl) ?_
      refine wl_val rfl rfl rfl (y_loadA one3 rfl) ?_
      (refine wl_ef rfl (ef_callv0 rfl fun63 rfl (fun _ hw => (c_in s _ _))) ?_; rintro _ _ ⟨rfl, rfl⟩)
      first | refine wl_val rfl rfl rfl (y_not rfl) ?_ | refine wl_val rfl rfl rfl (y_nott rfl) ?_ | refine wl_val rfl rfl rfl (y_notf rfl) ?_ | refine wl_val rfl rfl rfl (y_notb rfl) ?_
      refine wl_val rfl rfl rfl (y_assign rfl) ?_
      refine wl_nil ?_
      refine q_then ?_
      first | refine wc_cond rfl (fun hc1 => ?_) (fun hc1 => ?_) | refine wc_condb rfl (fun hc1 => ?_) (fun hc1 => ?_)
      · first
        | ((try simp only [bsA, ne_eq] at hc1); exfalso; (first | with_reducible contradiction | omega | (simp at hc1; done)))
        | skip
          try simp only [bsA, ne_eq] at hc1
          refine wc_seq ?_
          refine wc_region ?_
          refine wl_val rfl rfl rfl (y_buildc (cs := Sl0.cells) rfl (fun w => by kernel_rfl)) ?_
          (refine wl_ef rfl (ef_storeC siz42 rfl rfl rfl) ?_; rintro _ _ ⟨rfl, rfl⟩)
          refine wl_val rfl rfl rfl (y_assign rfl) ?_
          refine wl_nil ?_
          refine q_then ?_
          refine wc_ret ?_
          refine q_blockRet ?_
          refine q_thenRet ?_
          apply q_retg (rescC2 Try.results17 rfl rfl agg42) -- ret 1
          case hΨ =>
            exact ⟨by simp only [hld]; split <;> (try split) <;> (try split) <;> (try split) <;> first | rfl | (exfalso; grind), rfl⟩
          case hs =>
            exact SubC.out
      · first
        | ((try simp only [bsA, ne_eq] at hc1); exfalso; (first | with_reducible contradiction | omega | (simp at hc1; done)))
        | skip
          try simp only [bsA, ne_eq] at hc1
          refine wc_seq ?_
          refine wa_begin_all (n := 8) (b := #[false, false, false, false, false, false, false, false]) mixed rfl rfl ?_
          refine wa_t 0 (by kernel_rfl) rfl rfl rfl rfl (y_field0 fa33_0 rfl) ?_
          refine wa_t 1 (by kernel_rfl) rfl rfl rfl rfl (y_field0 fa30_4 rfl) ?_
          refine wa_t 2 (by kernel_rfl) rfl rfl rfl rfl (y_loadC agg28 rfl) ?_
          refine wa_t 3 (by kernel_rfl) rfl rfl rfl rfl (y_field0 fa42_1 rfl) ?_
          refine wa_t 4 (by kernel_rfl) rfl rfl rfl rfl (y_loadC agg26 rfl) ?_
          (refine wa_e 5 (by kernel_rfl) rfl rfl (ef_callv0 rfl fun53 rfl (fun _ hw => (c_dig _ _ (hs.go hw)))) ?_; rintro _ _ ⟨rfl, rfl⟩; refine ⟨.inr SubC.out, ?_⟩)
          refine wa_t 6 (by kernel_rfl) rfl rfl rfl rfl (y_neqAgg Try.eqGuardType28 rfl rfl (eq_dg _ _) (by omega)) ?_
          refine wa_t 7 (by kernel_rfl) rfl rfl rfl rfl (y_assign rfl) ?_
          refine wa_done (by kernel_rfl) ?_
          refine q_then ?_
          first | refine wc_cond rfl (fun hc2 => ?_) (fun hc2 => ?_) | refine wc_condb rfl (fun hc2 => ?_) (fun hc2 => ?_)
          · first
            | ((try simp only [bsA, ne_eq] at hc2); exfalso; (first | with_reducible contradiction | omega | (simp at hc2; done)))
            | skip
              try simp only [bsA, ne_eq] at hc2
              refine wc_seq ?_
              refine wc_region ?_
              refine wl_val rfl rfl rfl (y_buildc (cs := Sl0.cells) rfl (fun w => by kernel_rfl)) ?_
              (refine wl_ef rfl (ef_storeC siz42 rfl rfl rfl) ?_; rintro _ _ ⟨rfl, rfl⟩)
              refine wl_val rfl rfl rfl (y_assign rfl) ?_
              refine wl_nil ?_
              refine q_then ?_
              refine wc_ret ?_
              refine q_blockRet ?_
              refine q_thenRet ?_
              apply q_retg (rescC2 Try.results17 rfl rfl agg42) -- ret 2
              case hΨ =>
                exact ⟨by simp only [hld]; split <;> (try split) <;> (try split) <;> (try split) <;> first | rfl | (exfalso; grind), rfl⟩
              case hs =>
                exact SubC.out
          · first
            | ((try simp only [bsA, ne_eq] at hc2); exfalso; (first | with_reducible contradiction | omega | (simp at hc2; done)))
            | skip
              try simp only [bsA, ne_eq] at hc2
              refine wc_seq ?_
              refine wc_region ?_
              refine wl_val rfl rfl rfl (y_field0 fa42_4 rfl) ?_
              refine wl_val rfl rfl rfl (y_loadA one4 rfl) ?_
              first | refine wl_val rfl rfl rfl (y_not rfl) ?_ | refine wl_val rfl rfl rfl (y_nott rfl) ?_ | refine wl_val rfl rfl rfl (y_notf rfl) ?_ | refine wl_val rfl rfl rfl (y_notb rfl) ?_
              refine wl_val rfl rfl rfl (y_move rfl) ?_
              first | apply wl_orp (d := 43) | apply wl_or (d := 43)
              case ht =>
                intro hg1 hK1
                first
                  | (refine wl_dead ?_ hK1 rfl; first | with_reducible contradiction | omega | (simp at hg1; done))
                  | skip
                    try simp only [bsA, ne_eq] at hg1
                    refine wl_gskip rfl rfl rfl rfl rfl rfl rfl ?_
                    refine wl_gskip rfl rfl rfl rfl rfl rfl rfl ?_
                    refine wl_gskip rfl rfl rfl rfl rfl rfl rfl ?_
                    refine wl_gskip rfl rfl rfl rfl rfl rfl rfl ?_
                    refine wl_gskip rfl rfl rfl rfl rfl rfl rfl ?_
                    refine wl_gskip rfl rfl rfl rfl rfl rfl rfl ?_
                    refine wl_gskip rfl rfl rfl rfl rfl rfl rfl ?_
                    refine wl_gskip rfl rfl rfl rfl rfl rfl rfl ?_
                    refine wl_gskip rfl rfl rfl rfl rfl rfl rfl ?_
                    refine wl_val rfl rfl rfl (y_pickt rfl rfl) ?_
                    exact wl_leR hK1 (.cons rfl (by repeat (first | refine LeE.skip ?_ rfl | exact LeE.refl _)))
              case hf =>
                intro hg1 hK1
                first
                  | (refine wl_dead ?_ hK1 rfl; first | with_reducible contradiction | omega | (simp at hg1; done))
                  | skip
                    try simp only [bsA, ne_eq] at hg1
                    refine wl_gval rfl rfl rfl rfl rfl rfl rfl (y_field0 fa42_3 rfl) ?_
                    first | refine wl_gval rfl rfl rfl rfl rfl rfl rfl (y_field0 fa38_1 rfl) ?_ | refine wl_gval rfl rfl rfl rfl rfl rfl rfl (y_fieldN fa38_1 rfl (by simp only [Nat.reduceAdd]; rfl)) ?_
                    first | refine wl_gval rfl rfl rfl rfl rfl rfl rfl (y_field0 fa33_0 rfl) ?_ | refine wl_gval rfl rfl rfl rfl rfl rfl rfl (y_fieldN fa33_0 rfl (by simp only [Nat.reduceAdd]; rfl)) ?_
                    first | refine wl_gval rfl rfl rfl rfl rfl rfl rfl (y_field0 fa30_2 rfl) ?_ | refine wl_gval rfl rfl rfl rfl rfl rfl rfl (y_fieldN fa30_2 rfl (by simp only [Nat.reduceAdd]; rfl)) ?_
                    refine wl_gval rfl rfl rfl rfl rfl rfl rfl (y_loadA one3 rfl) ?_
                    refine wl_gval rfl rfl rfl rfl rfl rfl rfl (y_field0 fa33_0 rfl) ?_
                    refine wl_gval rfl rfl rfl rfl rfl rfl rfl (y_field0 fa30_2 rfl) ?_
                    refine wl_gval rfl rfl rfl rfl rfl rfl rfl (y_loadA one3 rfl) ?_
                    refine wl_gval rfl rfl rfl rfl rfl rfl rfl (y_lss rfl rfl) ?_
                    first | refine wl_val rfl rfl rfl (y_pickt rfl rfl) ?_ | refine wl_val rfl rfl rfl (y_pickf rfl rfl) ?_
                    exact wl_leR hK1 (.cons rfl (by repeat (first | refine LeE.skip ?_ rfl | exact LeE.refl _)))
              refine wl_val rfl rfl rfl (y_assign rfl) ?_
              refine wl_nil ?_
              refine q_then ?_
              first | refine wc_cond rfl (fun hc3 => ?_) (fun hc3 => ?_) | refine wc_condb rfl (fun hc3 => ?_) (fun hc3 => ?_)
              · first
                | ((try simp only [bsA, ne_eq] at hc3); exfalso; (first | with_reducible contradiction | omega | (simp at hc3; done)))
                | skip
                  try simp only [bsA, ne_eq] at hc3
                  refine wa_begin1 b2 (n := 8) (bs := #[false, false, false, false, false, false, false, false]) mixed rfl rfl ?_
                  refine wa_t 0 (by kernel_rfl) rfl rfl rfl rfl (y_field0 fa42_1 rfl) ?_
                  refine wa_t 2 (by kernel_rfl) rfl rfl rfl rfl (y_loadC agg33 rfl) ?_
                  (refine wa_e 1 (by kernel_rfl) rfl rfl (ef_of_yl rfl rfl (y_loadC agg26 rfl)) ?_; rintro _ _ ⟨rfl, rfl⟩; refine ⟨.inr SubC.out, ?_⟩)
                  refine wa_t 3 (by kernel_rfl) rfl rfl rfl rfl (y_buildS bldHe rfl) ?_
                  refine wa_t 4 (by kernel_rfl) rfl rfl rfl rfl (y_field0 fa42_4 rfl) ?_
                  (refine wa_e 5 (by kernel_rfl) rfl rfl (ef_storeC siz4 rfl rfl rfl) ?_; rintro _ _ ⟨rfl, rfl⟩; refine ⟨.inr SubC.out, ?_⟩)
                  refine wa_t 6 (by kernel_rfl) rfl rfl rfl rfl (y_field0 fa42_3 rfl) ?_
                  (refine wa_e 7 (by kernel_rfl) rfl rfl (ef_storeC siz38 rfl rfl rfl) ?_; rintro _ _ ⟨rfl, rfl⟩; refine ⟨.inl (by kernel_rfl), ?_⟩)
                  refine wa_done (by kernel_rfl) ?_
                  refine q_blockNormal ?_
                  refine q_then ?_
                  refine wc_seq ?_
                  refine wc_region ?_
                  refine wl_val rfl rfl rfl (y_loadC agg42 rfl) ?_
                  (refine wl_ef rfl (ef_storeC siz42 rfl rfl rfl) ?_; rintro _ _ ⟨rfl, rfl⟩)
                  refine wl_val rfl rfl rfl (y_assign rfl) ?_
                  refine wl_nil ?_
                  refine q_then ?_
                  refine wc_ret ?_
                  apply q_retg (rescC2 Try.results17 rfl rfl agg42) -- ret 3
                  case hΨ =>
                    exact ⟨by simp only [hld]; split <;> (try split) <;> (try split) <;> (try split) <;> first | rfl | (exfalso; grind), rfl⟩
                  case hs =>
                    exact SubC.out
              · first
                | ((try simp only [bsA, ne_eq] at hc3); exfalso; (first | with_reducible contradiction | omega | (simp at hc3; done)))
                | skip
                  try simp only [bsA, ne_eq] at hc3
                  refine wc_skip ?_
                  refine q_blockNormal ?_
                  refine q_then ?_
                  refine wc_seq ?_
                  refine wc_region ?_
                  refine wl_val rfl rfl rfl (y_loadC agg42 rfl) ?_
                  (refine wl_ef rfl (ef_storeC siz42 rfl rfl rfl) ?_; rintro _ _ ⟨rfl, rfl⟩)
                  refine wl_val rfl rfl rfl (y_assign rfl) ?_
                  refine wl_nil ?_
                  refine q_then ?_
                  refine wc_ret ?_
                  apply q_retg (rescC2 Try.results17 rfl rfl agg42) -- ret 3
                  case hΨ =>
                    exact ⟨by simp only [hld]; split <;> (try split) <;> (try split) <;> (try split) <;> first | rfl | (exfalso; grind), rfl⟩
                  case hs =>
                    exact SubC.out
theorem c_refHold (s : Sl) (c : Ct) (w : World) (hs : BtOk w s.batch) :
    Calls Try.prog 34 #[.agg s.cells.toArray, .agg c.cells.toArray] w (RV w (.tuple #[.agg (hld s c).1.cells.toArray, .int .i64 (hld s c).2])) := by
  refine enter (N := 52) Try.func34 rfl Try.ntmps34 rfl (Has.nil _) ?_
  refine wc_seq ?_
  refine wc_region ?_
  (refine wl_ef rfl (ef_box rfl rfl rfl) ?_; rintro _ _ ⟨b2, rfl, rfl⟩)
  (refine wl_ef rfl (ef_box rfl rfl rfl) ?_; rintro _ _ ⟨b3, rfl, rfl⟩)
  (refine wl_ef rfl (ef_alloc rfl zerRs) ?_; rintro _ _ ⟨b4, rfl, rfl⟩)
  refine wl_val rfl rfl rfl (y_assign rfl) ?_
  refine wl_nil ?_
  refine q_then ?_
  refine wc_seq ?_
  refine wc_seq ?_
  refine wc_region ?_
  refine wl_val rfl rfl rfl (y_field0 fa33_0 rfl) ?_
  refine wl_val rfl rfl rfl (y_field0 fa30_0 rfl) ?_
  refine wl_val rfl rfl rfl (y_loadA one3 rfl) ?_
  refine wl_val rfl rfl rfl (y_neq rfl rfl) ?_
  refine wl_nil ?_
  refine q_then ?_
  refine wc_cond rfl (fun hc0 => ?_) (fun hc0 => ?_)
  · first
    | ((try simp only [bsA, ne_eq] at hc0); exfalso; (first | with_reducible contradiction | omega | (simp at hc0; done)))
    | skip
      try simp only [bsA, ne_eq] at hc0
      refine wc_seq ?_
      refine wc_region ?_
      refine wl_val rfl rfl rfl (y_buildc (cs := Sl0.cells) rfl (fun w => by kernel_rfl)) ?_
      (refine wl_ef rfl (ef_storeC siz50 rfl rfl rfl) ?_; rintro _ _ ⟨rfl, rfl⟩)
      refine wl_val rfl rfl rfl (y_assign rfl) ?_
      refine wl_nil ?_
      refine q_then ?_
      refine wc_ret ?_
      refine q_thenRet ?_
      apply q_retg (rescC2 Try.results34 rfl rfl agg50) -- ret 0
      case hΨ =>
        exact ⟨by simp only [hld]; split <;> (try split) <;> (try split) <;> (try split) <;> first | rfl | (exfalso; grind), rfl⟩
      case hs =>
        exact SubC.out
  · first
    | ((try simp only [bsA, ne_eq] at hc0); exfalso; (first | with_reducible contradiction | omega | (simp at hc0; done)))
    | skip
      try simp only [bsA, ne_eq] at hc0
      refine wc_skip ?_
      refine q_then ?_
      refine wc_seq ?_
      refine wc_seq ?_
      refine wc_region ?_
      refine wl_val rfl rfl rfl (y_field0 fa50_2 rfl) ?_
      refine wl_val rfl rfl rfl (y_loadA one4 rfl) ?_
      first | refine wl_val rfl rfl rfl (y_not rfl) ?_ | refine wl_val rfl rfl rfl (y_nott rfl) ?_ | refine wl_val rfl rfl rfl (y_notf rfl) ?_ | refine wl_val rfl rfl rfl (y_notb rfl) ?_
      refine wl_val rfl rfl rfl (y_move rfl) ?_
      first | apply wl_orp (d := 21) | apply wl_or (d := 21)
      case ht =>
        intro hg1 hK1
        first
          | (refine wl_dead ?_ hK1 rfl; first | with_reducible contradiction | omega | (simp at hg1; done))
          | skip
            try simp only [bsA, ne_eq] at hg1
            refine wl_gskip rfl rfl rfl rfl rfl rfl rfl ?_
            refine wl_gskip rfl rfl rfl rfl rfl rfl rfl ?_
            refine wl_gskip rfl rfl rfl rfl rfl rfl rfl ?_
            refine wl_gskip rfl rfl rfl rfl rfl rfl rfl ?_
            refine wl_gskip rfl rfl rfl rfl rfl rfl rfl ?_
            refine wl_gskip rfl rfl rfl rfl rfl rfl rfl ?_
            refine wl_val rfl rfl rfl (y_pickt rfl rfl) ?_
            exact wl_leR hK1 (.cons rfl (by repeat (first | refine LeE.skip ?_ rfl | exact LeE.refl _)))
      case hf =>
        intro hg1 hK1
        first
          | (refine wl_dead ?_ hK1 rfl; first | with_reducible contradiction | omega | (simp at hg1; done))
          | skip
            try simp only [bsA, ne_eq] at hg1
            refine wl_gval rfl rfl rfl rfl rfl rfl rfl (y_field0 fa33_0 rfl) ?_
            refine wl_gval rfl rfl rfl rfl rfl rfl rfl (y_field0 fa30_2 rfl) ?_
            refine wl_gval rfl rfl rfl rfl rfl rfl rfl (y_loadA one3 rfl) ?_
            refine wl_gval rfl rfl rfl rfl rfl rfl rfl (y_field0 fa50_0 rfl) ?_
            refine wl_gval rfl rfl rfl rfl rfl rfl rfl (y_loadA one3 rfl) ?_
            refine wl_gval rfl rfl rfl rfl rfl rfl rfl (y_neq rfl rfl) ?_
            first | refine wl_val rfl rfl rfl (y_pickt rfl rfl) ?_ | refine wl_val rfl rfl rfl (y_pickf rfl rfl) ?_
            exact wl_leR hK1 (.cons rfl (by repeat (first | refine LeE.skip ?_ rfl | exact LeE.refl _)))
      refine wl_nil ?_
      refine q_then ?_
      first | refine wc_cond rfl (fun hc1 => ?_) (fun hc1 => ?_) | refine wc_condb rfl (fun hc1 => ?_) (fun hc1 => ?_)
      · first
        | ((try simp only [bsA, ne_eq] at hc1); exfalso; (first | with_reducible contradiction | omega | (simp at hc1; done)))
        | skip
          try simp only [bsA, ne_eq] at hc1
          refine wc_seq ?_
          refine wc_region ?_
          refine wl_val rfl rfl rfl (y_buildc (cs := Sl0.cells) rfl (fun w => by kernel_rfl)) ?_
          (refine wl_ef rfl (ef_storeC siz50 rfl rfl rfl) ?_; rintro _ _ ⟨rfl, rfl⟩)
          refine wl_val rfl rfl rfl (y_assign rfl) ?_
          refine wl_nil ?_
          refine q_then ?_
          refine wc_ret ?_
          refine q_thenRet ?_
          apply q_retg (rescC2 Try.results34 rfl rfl agg50) -- ret 1
          case hΨ =>
            exact ⟨by simp only [hld]; split <;> (try split) <;> (try split) <;> (try split) <;> first | rfl | (exfalso; grind), rfl⟩
          case hs =>
            exact SubC.out
      · first
        | ((try simp only [bsA, ne_eq] at hc1); exfalso; (first | with_reducible contradiction | omega | (simp at hc1; done)))
        | skip
          try simp only [bsA, ne_eq] at hc1
          refine wc_skip ?_
          refine q_then ?_
          refine wc_seq ?_
          refine wc_seq ?_
          refine wa_begin_all (n := 7) (b := #[false, false, false, false, false, false, false]) mixed rfl rfl ?_
          refine wa_t 0 (by kernel_rfl) rfl rfl rfl rfl (y_field0 fa33_0 rfl) ?_
          refine wa_t 1 (by kernel_rfl) rfl rfl rfl rfl (y_field0 fa30_4 rfl) ?_
          refine wa_t 2 (by kernel_rfl) rfl rfl rfl rfl (y_loadC agg28 rfl) ?_
          refine wa_t 3 (by kernel_rfl) rfl rfl rfl rfl (y_field0 fa50_1 rfl) ?_
          refine wa_t 4 (by kernel_rfl) rfl rfl rfl rfl (y_loadC agg26 rfl) ?_
          (refine wa_e 5 (by kernel_rfl) rfl rfl (ef_callv0 rfl fun22 rfl (fun _ hw => (c_refdig _ _ (hs.go hw)))) ?_; rintro _ _ ⟨rfl, rfl⟩; refine ⟨.inr SubC.out, ?_⟩)
          refine wa_t 6 (by kernel_rfl) rfl rfl rfl rfl (y_neqAgg Try.eqGuardType28 rfl rfl (eq_dg _ _) (by omega)) ?_
          refine wa_done (by kernel_rfl) ?_
          refine q_then ?_
          first | refine wc_cond rfl (fun hc2 => ?_) (fun hc2 => ?_) | refine wc_condb rfl (fun hc2 => ?_) (fun hc2 => ?_)
          · first
            | ((try simp only [bsA, ne_eq] at hc2); exfalso; (first | with_reducible contradiction | omega | (simp at hc2; done)))
            | skip
              try simp only [bsA, ne_eq] at hc2
              refine wc_seq ?_
              refine wc_region ?_
              refine wl_val rfl rfl rfl (y_buildc (cs := Sl0.cells) rfl (fun w => by kernel_rfl)) ?_
              (refine wl_ef rfl (ef_storeC siz50 rfl rfl rfl) ?_; rintro _ _ ⟨rfl, rfl⟩)
              refine wl_val rfl rfl rfl (y_assign rfl) ?_
              refine wl_nil ?_
              refine q_then ?_
              refine wc_ret ?_
              refine q_thenRet ?_
              apply q_retg (rescC2 Try.results34 rfl rfl agg50) -- ret 2
              case hΨ =>
                exact ⟨by simp only [hld]; split <;> (try split) <;> (try split) <;> (try split) <;> first | rfl | (exfalso; grind), rfl⟩
              case hs =>
                exact SubC.out
          · first
            | ((try simp only [bsA, ne_eq] at hc2); exfalso; (first | with_reducible contradiction | omega | (simp at hc2; done)))
            | skip
              try simp only [bsA, ne_eq] at hc2
              refine wc_skip ?_
              refine q_then ?_
              refine wc_seq ?_
              refine wc_seq ?_
              refine wc_region ?_
              refine wl_val rfl rfl rfl (y_field0 fa50_4 rfl) ?_
              refine wl_val rfl rfl rfl (y_loadA one4 rfl) ?_
              refine wl_val rfl rfl rfl (y_move rfl) ?_
              first | apply wl_andp (d := 43) | apply wl_and (d := 43)
              case ht =>
                intro hg2 hK2
                first
                  | (refine wl_dead ?_ hK2 rfl; first | with_reducible contradiction | omega | (simp at hg2; done))
                  | skip
                    try simp only [bsA, ne_eq] at hg2
                    refine wl_gval rfl rfl rfl rfl rfl rfl rfl (y_field0 fa50_3 rfl) ?_
                    first | refine wl_gval rfl rfl rfl rfl rfl rfl rfl (y_field0 fa38_1 rfl) ?_ | refine wl_gval rfl rfl rfl rfl rfl rfl rfl (y_fieldN fa38_1 rfl (by simp only [Nat.reduceAdd]; rfl)) ?_
                    first | refine wl_gval rfl rfl rfl rfl rfl rfl rfl (y_field0 fa33_0 rfl) ?_ | refine wl_gval rfl rfl rfl rfl rfl rfl rfl (y_fieldN fa33_0 rfl (by simp only [Nat.reduceAdd]; rfl)) ?_
                    first | refine wl_gval rfl rfl rfl rfl rfl rfl rfl (y_field0 fa30_2 rfl) ?_ | refine wl_gval rfl rfl rfl rfl rfl rfl rfl (y_fieldN fa30_2 rfl (by simp only [Nat.reduceAdd]; rfl)) ?_
                    refine wl_gval rfl rfl rfl rfl rfl rfl rfl (y_loadA one3 rfl) ?_
                    refine wl_gval rfl rfl rfl rfl rfl rfl rfl (y_field0 fa33_0 rfl) ?_
                    refine wl_gval rfl rfl rfl rfl rfl rfl rfl (y_field0 fa30_2 rfl) ?_
                    refine wl_gval rfl rfl rfl rfl rfl rfl rfl (y_loadA one3 rfl) ?_
                    refine wl_gval rfl rfl rfl rfl rfl rfl rfl (y_geq rfl rfl) ?_
                    refine wl_val rfl rfl rfl (y_pickt rfl rfl) ?_
                    exact wl_leR hK2 (.cons rfl (by repeat (first | refine LeE.skip ?_ rfl | exact LeE.refl _)))
              case hf =>
                intro hg2 hK2
                first
                  | (refine wl_dead ?_ hK2 rfl; first | with_reducible contradiction | omega | (simp at hg2; done))
                  | skip
                    try simp only [bsA, ne_eq] at hg2
                    refine wl_gskip rfl rfl rfl rfl rfl rfl rfl ?_
                    refine wl_gskip rfl rfl rfl rfl rfl rfl rfl ?_
                    refine wl_gskip rfl rfl rfl rfl rfl rfl rfl ?_
                    refine wl_gskip rfl rfl rfl rfl rfl rfl rfl ?_
                    refine wl_gskip rfl rfl rfl rfl rfl rfl rfl ?_
                    refine wl_gskip rfl rfl rfl rfl rfl rfl rfl ?_
                    refine wl_gskip rfl rfl rfl rfl rfl rfl rfl ?_
                    refine wl_gskip rfl rfl rfl rfl rfl rfl rfl ?_
                    refine wl_gskip rfl rfl rfl rfl rfl rfl rfl ?_
                    first | refine wl_val rfl rfl rfl (y_pickt rfl rfl) ?_ | refine wl_val rfl rfl rfl (y_pickf rfl rfl) ?_
                    exact wl_leR hK2 (.cons rfl (by repeat (first | refine LeE.skip ?_ rfl | exact LeE.refl _)))
              refine wl_nil ?_
              refine q_then ?_
              first | refine wc_cond rfl (fun hc3 => ?_) (fun hc3 => ?_) | refine wc_condb rfl (fun hc3 => ?_) (fun hc3 => ?_)
              · first
                | ((try simp only [bsA, ne_eq] at hc3); exfalso; (first | with_reducible contradiction | omega | (simp at hc3; done)))
                | skip
                  try simp only [bsA, ne_eq] at hc3
                  refine wc_seq ?_
                  refine wc_region ?_
                  refine wl_val rfl rfl rfl (y_loadC agg50 rfl) ?_
                  (refine wl_ef rfl (ef_storeC siz50 rfl rfl rfl) ?_; rintro _ _ ⟨rfl, rfl⟩)
                  refine wl_val rfl rfl rfl (y_assign rfl) ?_
                  refine wl_nil ?_
                  refine q_then ?_
                  refine wc_ret ?_
                  refine q_thenRet ?_
                  apply q_retg (rescC2 Try.results34 rfl rfl agg50) -- ret 3
                  case hΨ =>
                    exact ⟨by simp only [hld]; split <;> (try split) <;> (try split) <;> (try split) <;> first | rfl | (exfalso; grind), rfl⟩
                  case hs =>
                    exact SubC.out
              · first
                | ((try simp only [bsA, ne_eq] at hc3); exfalso; (first | with_reducible contradiction | omega | (simp at hc3; done)))
                | skip
                  try simp only [bsA, ne_eq] at hc3
                  refine wc_skip ?_
                  refine q_then ?_
                  refine wc_seq ?_
                  refine wc_region ?_
                  refine wl_val rfl rfl rfl (y_field0 fa50_4 rfl) ?_
                  (refine wl_ef rfl (ef_storeC siz4 rfl rfl rfl) ?_; rintro _ _ ⟨rfl, rfl⟩)
                  refine wl_nil ?_
                  refine q_then ?_
                  refine wc_seq ?_
                  refine wc_region ?_
                  refine wl_val rfl rfl rfl (y_field0 fa50_1 rfl) ?_
                  refine wl_val rfl rfl rfl (y_loadC agg26 rfl) ?_
                  refine wl_val rfl rfl rfl (y_loadC agg33 rfl) ?_
                  refine wl_val rfl rfl rfl (y_buildS bldHe rfl) ?_
                  refine wl_val rfl rfl rfl (y_field0 fa50_3 rfl) ?_
                  (refine wl_ef rfl (ef_storeC siz38 rfl rfl rfl) ?_; rintro _ _ ⟨rfl, rfl⟩)
                  refine wl_nil ?_
                  refine q_then ?_
                  refine wc_seq ?_
                  refine wc_region ?_
                  refine wl_val rfl rfl rfl (y_loadC agg50 rfl) ?_
                  (refine wl_ef rfl (ef_storeC siz50 rfl rfl rfl) ?_; rintro _ _ ⟨rfl, rfl⟩)
                  refine wl_val rfl rfl rfl (y_assign rfl) ?_
                  refine wl_nil ?_
                  refine q_then ?_
                  refine wc_ret ?_
                  apply q_retg (rescC2 Try.results34 rfl rfl agg50) -- ret 4
                  case hΨ =>
                    exact ⟨by simp only [hld]; split <;> (try split) <;> (try split) <;> (try split) <;> first | rfl | (exfalso; grind), rfl⟩
                  case hs =>
                    exact SubC.out
theorem c_Decide (s : Sl) (b : Bt) (c : Ct) (w : World) (hs : BtOk w s.entry.b) (hb : BtOk w b) :
    Calls Try.prog 18 #[.agg s.cells.toArray, .agg b.cells.toArray, .agg c.cells.toArray] w (RV w (.tuple #[.agg (dcd s b c).1.cells.toArray, .int .i64 (dcd s b c).2])) := by
  refine enter (N := 48) Try.func18 rfl Try.ntmps18 rfl (Has.nil _) ?_
  refine wc_seq ?_
  refine wc_region ?_
  (refine wl_ef rfl (ef_box rfl rfl rfl) ?_; rintro _ _ ⟨b3, rfl, rfl⟩)
  (refine wl_ef rfl (ef_box rfl rfl rfl) ?_; rintro _ _ ⟨b4, rfl, rfl⟩)
  (refine wl_ef rfl (ef_box rfl rfl rfl) ?_; rintro _ _ ⟨b5, rfl, rfl⟩)
  (refine wl_ef rfl (ef_alloc rfl zerSl) ?_; rintro _ _ ⟨b6, rfl, rfl⟩)
  refine wl_val rfl rfl rfl (y_assign rfl) ?_
  refine wl_nil ?_
  refine q_then ?_
  refine wc_seq ?_
  refine wc_region ?_
  refine wl_val rfl rfl rfl (y_loadC agg26 rfl) ?_
  first | (refine wl_ef rfl (ef_callv0 rfl fun53 rfl (fun _ hw => (c_dig _ _ (hs.go hw)))) ?_; rintro _ _ ⟨rfl, rfl⟩) | (refine wl_ef rfl (ef_callv0 rfl fun53 rfl (fun _ hw => (c_dig _ _ (hb.go hw)))) ?_; rintro _ _ ⟨rfl, rfl⟩)
  (refine wl_ef rfl (ef_alloc rfl zerDg) ?_; rintro _ _ ⟨b8, rfl, rfl⟩)
  (refine wl_ef rfl (ef_storeC siz28 rfl rfl rfl) ?_; rintro _ _ ⟨rfl, rfl⟩)
  refine wl_nil ?_
  refine q_then ?_
  refine wc_seq ?_
  refine wc_block ?_
  refine wc_seq ?_
  refine wc_block ?_
  refine wc_seq ?_
  refine wc_block ?_
  refine wc_block ?_
  refine wc_seq ?_
  refine wc_seq ?_
  refine wc_seq ?_
  refine wc_region ?_
  refine wl_val rfl rfl rfl (y_field0 fa33_0 rfl) ?_
  refine wl_val rfl rfl rfl (y_field0 fa30_0 rfl) ?_
  refine wl_val rfl rfl rfl (y_loadA one3 rfl) ?_
  refine wl_val rfl rfl rfl (y_neq rfl rfl) ?_
  refine wl_val rfl rfl rfl (y_move rfl) ?_
  apply wl_orp (d := 22)
  case ht =>
    intro hg1 hK1
    first
      | (refine wl_dead ?_ hK1 rfl; first | with_reducible contradiction | omega | (simp at hg1; done))
      | skip
        try simp only [bsA, ne_eq] at hg1
        refine wl_gskip rfl rfl rfl rfl rfl rfl rfl ?_
        refine wl_gskip rfl rfl rfl rfl rfl rfl rfl ?_
        refine wl_gskip rfl rfl rfl rfl rfl rfl rfl ?_
        refine wl_gskip rfl rfl rfl rfl rfl rfl rfl ?_
        refine wl_gskip rfl rfl rfl rfl rfl rfl rfl ?_
        refine wl_val rfl rfl rfl (y_pickt rfl rfl) ?_
        exact wl_leR hK1 (.cons rfl (by repeat (first | refine LeE.skip ?_ rfl | exact LeE.refl _)))
  case hf =>
    intro hg1 hK1
    first
      | (refine wl_dead ?_ hK1 rfl; first | with_reducible contradiction | omega | (simp at hg1; done))
      | skip
        try simp only [bsA, ne_eq] at hg1
        refine wl_gval rfl rfl rfl rfl rfl rfl rfl (y_field0 fa33_0 rfl) ?_
        refine wl_gval rfl rfl rfl rfl rfl rfl rfl (y_field0 fa30_4 rfl) ?_
        refine wl_gval rfl rfl rfl rfl rfl rfl rfl (y_loadC agg28 rfl) ?_
        refine wl_gval rfl rfl rfl rfl rfl rfl rfl (y_loadC agg28 rfl) ?_
        refine wl_gval rfl rfl rfl rfl rfl rfl rfl (y_neqAgg Try.eqGuardType28 rfl rfl (eq_dg _ _) (by omega)) ?_
        first | refine wl_val rfl rfl rfl (y_pickt rfl rfl) ?_ | refine wl_val rfl rfl rfl (y_pickf rfl rfl) ?_
        exact wl_leR hK1 (.cons rfl (by repeat (first | refine LeE.skip ?_ rfl | exact LeE.refl _)))
  refine wl_val rfl rfl rfl (y_assign rfl) ?_
  refine wl_nil ?_
  refine q_then ?_
  first | refine wc_cond rfl (fun hc0 => ?_) (fun hc0 => ?_) | refine wc_condb rfl (fun hc0 => ?_) (fun hc0 => ?_)
  · first
    | ((try simp only [bsA, ne_eq] at hc0); exfalso; (first | with_reducible contradiction | omega | (simp at hc0; done)))
    | skip
      try simp only [bsA, ne_eq] at hc0
      refine wc_exit ?_
      refine q_thenExit ?_
      refine q_thenExit ?_
      refine q_blockExit ?_
      refine q_blockNormal ?_
      refine q_then ?_
      refine wc_seq ?_
      refine wc_seq ?_
      refine wc_region ?_
      refine wl_val rfl rfl rfl (y_buildc (cs := Sl0.cells) rfl (fun w => by kernel_rfl)) ?_
      (refine wl_ef rfl (ef_storeC siz42 rfl rfl rfl) ?_; rintro _ _ ⟨rfl, rfl⟩)
      refine wl_val rfl rfl rfl (y_assign rfl) ?_
      refine wl_nil ?_
      refine q_then ?_
      refine wc_ret ?_
      refine q_thenRet ?_
      refine q_blockRet ?_
      refine q_thenRet ?_
      refine q_blockRet ?_
      refine q_thenRet ?_
      apply q_retg (rescC2 Try.results18 rfl rfl agg42) -- ret 0
      case hΨ =>
        exact ⟨by simp only [dcd]; split <;> (try split) <;> (try split) <;> (try split) <;> first | rfl | (exfalso; grind), rfl⟩
      case hs =>
        exact SubC.out
  · first
    | ((try simp only [bsA, ne_eq] at hc0); exfalso; (first | with_reducible contradiction | omega | (simp at hc0; done)))
    | skip
      try simp only [bsA, ne_eq] at hc0
      refine wc_skip ?_
      refine q_then ?_
      refine wc_seq ?_
      refine wc_seq ?_
      refine wa_begin_all (n := 11) (b := #[false, false, false, false, false, false, false, false, false, false, false]) mixed rfl rfl ?_
      refine wa_t 0 (by kernel_rfl) rfl rfl rfl rfl (y_field0 fa42_6 rfl) ?_
      refine wa_t 1 (by kernel_rfl) rfl rfl rfl rfl (y_loadA one4 rfl) ?_
      refine wa_t 2 (by kernel_rfl) rfl rfl rfl rfl (y_move rfl) ?_
      first | apply wa_andp (d := 33) | apply wa_and (d := 33)
      case ht =>
        intro hg2 hK2
        first
          | (refine wa_dead ?_ hK2 rfl; first | with_reducible contradiction | omega | (simp at hg2; done))
          | skip
            try simp only [bsA, ne_eq] at hg2
            refine wa_gt 3 (by kernel_rfl) rfl rfl rfl rfl rfl rfl rfl rfl (y_field0 fa42_5 rfl) ?_
            first | refine wa_gt 4 (by kernel_rfl) rfl rfl rfl rfl rfl rfl rfl rfl (y_field0 fa40_1 rfl) ?_ | refine wa_gt 4 (by kernel_rfl) rfl rfl rfl rfl rfl rfl rfl rfl (y_fieldN fa40_1 rfl (by simp only [Nat.reduceAdd]; rfl)) ?_
            refine wa_gt 5 (by kernel_rfl) rfl rfl rfl rfl rfl rfl rfl rfl (y_loadC agg26 rfl) ?_
            refine wa_gt 7 (by kernel_rfl) rfl rfl rfl rfl rfl rfl rfl rfl (y_loadC agg28 rfl) ?_
            (refine wa_ge 6 (by kernel_rfl) rfl rfl rfl rfl rfl rfl (ef_callv0 rfl fun53 rfl (fun _ hw => (c_dig _ _ (hs.go hw)))) ?_; rintro _ _ ⟨rfl, rfl⟩; refine ⟨.inr SubC.out, ?_⟩)
            refine wa_gt 8 (by kernel_rfl) rfl rfl rfl rfl rfl rfl rfl rfl (y_neqAgg Try.eqGuardType28 rfl rfl (eq_dg _ _) (by omega)) ?_
            refine wa_t 9 (by kernel_rfl) rfl rfl rfl rfl (y_pickt rfl rfl) ?_
            exact wa_leR hK2 (.cons rfl (by repeat (first | refine LeE.skip ?_ rfl | exact LeE.refl _)))
      case hf =>
        intro hg2 hK2
        first
          | (refine wa_dead ?_ hK2 rfl; first | with_reducible contradiction | omega | (simp at hg2; done))
          | skip
            try simp only [bsA, ne_eq] at hg2
            refine wa_gs 3 (by kernel_rfl) rfl rfl rfl rfl rfl rfl rfl rfl ?_
            refine wa_gs 4 (by kernel_rfl) rfl rfl rfl rfl rfl rfl rfl rfl ?_
            refine wa_gs 5 (by kernel_rfl) rfl rfl rfl rfl rfl rfl rfl rfl ?_
            refine wa_gs 6 (by kernel_rfl) rfl rfl rfl rfl rfl rfl rfl rfl ?_
            refine wa_gs 7 (by kernel_rfl) rfl rfl rfl rfl rfl rfl rfl rfl ?_
            refine wa_gs 8 (by kernel_rfl) rfl rfl rfl rfl rfl rfl rfl rfl ?_
            first | refine wa_t 9 (by kernel_rfl) rfl rfl rfl rfl (y_pickt rfl rfl) ?_ | refine wa_t 9 (by kernel_rfl) rfl rfl rfl rfl (y_pickf rfl rfl) ?_
            exact wa_leR hK2 (.cons rfl (by repeat (first | refine LeE.skip ?_ rfl | exact LeE.refl _)))
      refine wa_t 10 (by kernel_rfl) rfl rfl rfl rfl (y_assign rfl) ?_
      refine wa_done (by kernel_rfl) ?_
      refine q_then ?_
      first | refine wc_cond rfl (fun hc1 => ?_) (fun hc1 => ?_) | refine wc_condb rfl (fun hc1 => ?_) (fun hc1 => ?_)
      · first
        | ((try simp only [bsA, ne_eq] at hc1); exfalso; (first | with_reducible contradiction | omega | (simp at hc1; done)))
        | skip
          try simp only [bsA, ne_eq] at hc1
          refine wc_exit ?_
          refine q_thenExit ?_
          refine q_thenExit ?_
          refine q_blockOther rfl ?_
          refine q_blockExit ?_
          refine q_then ?_
          refine wc_seq ?_
          refine wc_seq ?_
          refine wc_region ?_
          refine wl_val rfl rfl rfl (y_buildc (cs := Sl0.cells) rfl (fun w => by kernel_rfl)) ?_
          (refine wl_ef rfl (ef_storeC siz42 rfl rfl rfl) ?_; rintro _ _ ⟨rfl, rfl⟩)
          refine wl_val rfl rfl rfl (y_assign rfl) ?_
          refine wl_nil ?_
          refine q_then ?_
          refine wc_ret ?_
          refine q_thenRet ?_
          refine q_blockRet ?_
          refine q_thenRet ?_
          refine q_blockRet ?_
          refine q_thenRet ?_
          apply q_retg (rescC2 Try.results18 rfl rfl agg42) -- ret 0
          case hΨ =>
            exact ⟨by simp only [dcd]; split <;> (try split) <;> (try split) <;> (try split) <;> first | rfl | (exfalso; grind), rfl⟩
          case hs =>
            exact SubC.out
      · first
        | ((try simp only [bsA, ne_eq] at hc1); exfalso; (first | with_reducible contradiction | omega | (simp at hc1; done)))
        | skip
          try simp only [bsA, ne_eq] at hc1
          refine wc_skip ?_
          refine q_then ?_
          refine wc_seq ?_
          refine wc_region ?_
          refine wl_val rfl rfl rfl (y_field0 fa42_6 rfl) ?_
          refine wl_val rfl rfl rfl (y_loadA one4 rfl) ?_
          first | refine wl_val rfl rfl rfl (y_not rfl) ?_ | refine wl_val rfl rfl rfl (y_nott rfl) ?_ | refine wl_val rfl rfl rfl (y_notf rfl) ?_ | refine wl_val rfl rfl rfl (y_notb rfl) ?_
          refine wl_val rfl rfl rfl (y_assign rfl) ?_
          refine wl_nil ?_
          refine q_then ?_
          first | refine wc_cond rfl (fun hc2 => ?_) (fun hc2 => ?_) | refine wc_condb rfl (fun hc2 => ?_) (fun hc2 => ?_)
          · first
            | ((try simp only [bsA, ne_eq] at hc2); exfalso; (first | with_reducible contradiction | omega | (simp at hc2; done)))
            | skip
              try simp only [bsA, ne_eq] at hc2
              refine wc_exit ?_
              refine q_thenExit ?_
              refine q_blockOther rfl ?_
              refine q_blockOther rfl ?_
              refine q_thenExit ?_
              refine q_blockExit ?_
              refine q_then ?_
              refine wc_seq ?_
              refine wa_begin1 b3 (n := 10) (bs := #[false, false, false, false, false, false, false, false, false, false]) mixed rfl rfl ?_
              refine wa_t 0 (by kernel_rfl) rfl rfl rfl rfl (y_field0 fa33_0 rfl) ?_
              refine wa_t 1 (by kernel_rfl) rfl rfl rfl rfl (y_field0 fa30_3 rfl) ?_
              refine wa_t 2 (by kernel_rfl) rfl rfl rfl rfl (y_loadA one3 rfl) ?_
              refine wa_t 3 (by kernel_rfl) rfl rfl rfl rfl (y_loadC agg26 rfl) ?_
              refine wa_t 4 (by kernel_rfl) rfl rfl rfl rfl (y_loadC agg33 rfl) ?_
              refine wa_t 5 (by kernel_rfl) rfl rfl rfl rfl (y_buildS bldEn rfl) ?_
              refine wa_t 6 (by kernel_rfl) rfl rfl rfl rfl (y_field0 fa42_6 rfl) ?_
              (refine wa_e 7 (by kernel_rfl) rfl rfl (ef_storeC siz4 rfl rfl rfl) ?_; rintro _ _ ⟨rfl, rfl⟩; refine ⟨.inr SubC.out, ?_⟩)
              refine wa_t 8 (by kernel_rfl) rfl rfl rfl rfl (y_field0 fa42_5 rfl) ?_
              (refine wa_e 9 (by kernel_rfl) rfl rfl (ef_storeC siz40 rfl rfl rfl) ?_; rintro _ _ ⟨rfl, rfl⟩; refine ⟨.inl (by kernel_rfl), ?_⟩)
              refine wa_done (by kernel_rfl) ?_
              refine q_then ?_
              refine wc_exit ?_
              refine q_blockExit ?_
              refine q_then ?_
              refine wc_seq ?_
              refine wc_region ?_
              refine wl_val rfl rfl rfl (y_loadC agg42 rfl) ?_
              (refine wl_ef rfl (ef_storeC siz42 rfl rfl rfl) ?_; rintro _ _ ⟨rfl, rfl⟩)
              refine wl_val rfl rfl rfl (y_assign rfl) ?_
              refine wl_nil ?_
              refine q_then ?_
              refine wc_ret ?_
              apply q_retg (rescC2 Try.results18 rfl rfl agg42) -- ret 1
              case hΨ =>
                exact ⟨by simp only [dcd]; split <;> (try split) <;> (try split) <;> (try split) <;> first | rfl | (exfalso; grind), rfl⟩
              case hs =>
                exact SubC.out
          · first
            | ((try simp only [bsA, ne_eq] at hc2); exfalso; (first | with_reducible contradiction | omega | (simp at hc2; done)))
            | skip
              try simp only [bsA, ne_eq] at hc2
              refine wc_skip ?_
              refine q_then ?_
              refine wc_exit ?_
              refine q_blockOther rfl ?_
              refine q_blockOther rfl ?_
              refine q_thenExit ?_
              refine q_blockOther rfl ?_
              refine q_thenExit ?_
              refine q_blockExit ?_
              refine q_then ?_
              refine wc_seq ?_
              refine wc_region ?_
              refine wl_val rfl rfl rfl (y_loadC agg42 rfl) ?_
              (refine wl_ef rfl (ef_storeC siz42 rfl rfl rfl) ?_; rintro _ _ ⟨rfl, rfl⟩)
              refine wl_val rfl rfl rfl (y_assign rfl) ?_
              refine wl_nil ?_
              refine q_then ?_
              refine wc_ret ?_
              apply q_retg (rescC2 Try.results18 rfl rfl agg42) -- ret 1
              case hΨ =>
                exact ⟨by simp only [dcd]; split <;> (try split) <;> (try split) <;> (try split) <;> first | rfl | (exfalso; grind), rfl⟩
              case hs =>
                exact SubC.out
theorem c_refDecide (s : Sl) (b : Bt) (c : Ct) (w : World) (hs : BtOk w s.entry.b) (hb : BtOk w b) :
    Calls Try.prog 35 #[.agg s.cells.toArray, .agg b.cells.toArray, .agg c.cells.toArray] w (RV w (.tuple #[.agg (dcd s b c).1.cells.toArray, .int .i64 (dcd s b c).2])) := by
  refine enter (N := 42) Try.func35 rfl Try.ntmps35 rfl (Has.nil _) ?_
  refine wc_seq ?_
  refine wc_region ?_
  (refine wl_ef rfl (ef_box rfl rfl rfl) ?_; rintro _ _ ⟨b3, rfl, rfl⟩)
  (refine wl_ef rfl (ef_box rfl rfl rfl) ?_; rintro _ _ ⟨b4, rfl, rfl⟩)
  (refine wl_ef rfl (ef_box rfl rfl rfl) ?_; rintro _ _ ⟨b5, rfl, rfl⟩)
  (refine wl_ef rfl (ef_alloc rfl zerRs) ?_; rintro _ _ ⟨b6, rfl, rfl⟩)
  refine wl_val rfl rfl rfl (y_assign rfl) ?_
  refine wl_nil ?_
  refine q_then ?_
  refine wc_seq ?_
  refine wc_region ?_
  refine wl_val rfl rfl rfl (y_loadC agg26 rfl) ?_
  first | (refine wl_ef rfl (ef_callv0 rfl fun22 rfl (fun _ hw => (c_refdig _ _ (hs.go hw)))) ?_; rintro _ _ ⟨rfl, rfl⟩) | (refine wl_ef rfl (ef_callv0 rfl fun22 rfl (fun _ hw => (c_refdig _ _ (hb.go hw)))) ?_; rintro _ _ ⟨rfl, rfl⟩)
  (refine wl_ef rfl (ef_alloc rfl zerDg) ?_; rintro _ _ ⟨b8, rfl, rfl⟩)
  (refine wl_ef rfl (ef_storeC siz28 rfl rfl rfl) ?_; rintro _ _ ⟨rfl, rfl⟩)
  refine wl_nil ?_
  refine q_then ?_
  refine wc_seq ?_
  refine wc_seq ?_
  refine wc_region ?_
  refine wl_val rfl rfl rfl (y_field0 fa33_0 rfl) ?_
  refine wl_val rfl rfl rfl (y_field0 fa30_0 rfl) ?_
  refine wl_val rfl rfl rfl (y_loadA one3 rfl) ?_
  refine wl_val rfl rfl rfl (y_neq rfl rfl) ?_
  refine wl_val rfl rfl rfl (y_move rfl) ?_
  apply wl_orp (d := 21)
  case ht =>
    intro hg1 hK1
    first
      | (refine wl_dead ?_ hK1 rfl; first | with_reducible contradiction | omega | (simp at hg1; done))
      | skip
        try simp only [bsA, ne_eq] at hg1
        refine wl_gskip rfl rfl rfl rfl rfl rfl rfl ?_
        refine wl_gskip rfl rfl rfl rfl rfl rfl rfl ?_
        refine wl_gskip rfl rfl rfl rfl rfl rfl rfl ?_
        refine wl_gskip rfl rfl rfl rfl rfl rfl rfl ?_
        refine wl_gskip rfl rfl rfl rfl rfl rfl rfl ?_
        refine wl_val rfl rfl rfl (y_pickt rfl rfl) ?_
        exact wl_leR hK1 (.cons rfl (by repeat (first | refine LeE.skip ?_ rfl | exact LeE.refl _)))
  case hf =>
    intro hg1 hK1
    first
      | (refine wl_dead ?_ hK1 rfl; first | with_reducible contradiction | omega | (simp at hg1; done))
      | skip
        try simp only [bsA, ne_eq] at hg1
        refine wl_gval rfl rfl rfl rfl rfl rfl rfl (y_field0 fa33_0 rfl) ?_
        refine wl_gval rfl rfl rfl rfl rfl rfl rfl (y_field0 fa30_4 rfl) ?_
        refine wl_gval rfl rfl rfl rfl rfl rfl rfl (y_loadC agg28 rfl) ?_
        refine wl_gval rfl rfl rfl rfl rfl rfl rfl (y_loadC agg28 rfl) ?_
        refine wl_gval rfl rfl rfl rfl rfl rfl rfl (y_neqAgg Try.eqGuardType28 rfl rfl (eq_dg _ _) (by omega)) ?_
        first | refine wl_val rfl rfl rfl (y_pickt rfl rfl) ?_ | refine wl_val rfl rfl rfl (y_pickf rfl rfl) ?_
        exact wl_leR hK1 (.cons rfl (by repeat (first | refine LeE.skip ?_ rfl | exact LeE.refl _)))
  refine wl_nil ?_
  refine q_then ?_
  first | refine wc_cond rfl (fun hc0 => ?_) (fun hc0 => ?_) | refine wc_condb rfl (fun hc0 => ?_) (fun hc0 => ?_)
  · first
    | ((try simp only [bsA, ne_eq] at hc0); exfalso; (first | with_reducible contradiction | omega | (simp at hc0; done)))
    | skip
      try simp only [bsA, ne_eq] at hc0
      refine wc_seq ?_
      refine wc_region ?_
      refine wl_val rfl rfl rfl (y_buildc (cs := Sl0.cells) rfl (fun w => by kernel_rfl)) ?_
      (refine wl_ef rfl (ef_storeC siz50 rfl rfl rfl) ?_; rintro _ _ ⟨rfl, rfl⟩)
      refine wl_val rfl rfl rfl (y_assign rfl) ?_
      refine wl_nil ?_
      refine q_then ?_
      refine wc_ret ?_
      refine q_thenRet ?_
      apply q_retg (rescC2 Try.results35 rfl rfl agg50) -- ret 0
      case hΨ =>
        exact ⟨by simp only [dcd]; split <;> (try split) <;> (try split) <;> (try split) <;> first | rfl | (exfalso; grind), rfl⟩
      case hs =>
        exact SubC.out
  · first
    | ((try simp only [bsA, ne_eq] at hc0); exfalso; (first | with_reducible contradiction | omega | (simp at hc0; done)))
    | skip
      try simp only [bsA, ne_eq] at hc0
      refine wc_skip ?_
      refine q_then ?_
      refine wc_seq ?_
      refine wc_seq ?_
      refine wc_region ?_
      refine wl_val rfl rfl rfl (y_field0 fa50_6 rfl) ?_
      refine wl_val rfl rfl rfl (y_loadA one4 rfl) ?_
      refine wl_nil ?_
      refine q_then ?_
      first | refine wc_cond rfl (fun hc1 => ?_) (fun hc1 => ?_) | refine wc_condb rfl (fun hc1 => ?_) (fun hc1 => ?_)
      · first
        | ((try simp only [bsA, ne_eq] at hc1); exfalso; (first | with_reducible contradiction | omega | (simp at hc1; done)))
        | skip
          try simp only [bsA, ne_eq] at hc1
          refine wc_seq ?_
          refine wc_seq ?_
          refine wa_begin_all (n := 6) (b := #[false, false, false, false, false, false]) mixed rfl rfl ?_
          refine wa_t 0 (by kernel_rfl) rfl rfl rfl rfl (y_field0 fa50_5 rfl) ?_
          first | refine wa_t 1 (by kernel_rfl) rfl rfl rfl rfl (y_field0 fa40_1 rfl) ?_ | refine wa_t 1 (by kernel_rfl) rfl rfl rfl rfl (y_fieldN fa40_1 rfl (by simp only [Nat.reduceAdd]; rfl)) ?_
          refine wa_t 2 (by kernel_rfl) rfl rfl rfl rfl (y_loadC agg26 rfl) ?_
          refine wa_t 4 (by kernel_rfl) rfl rfl rfl rfl (y_loadC agg28 rfl) ?_
          (refine wa_e 3 (by kernel_rfl) rfl rfl (ef_callv0 rfl fun22 rfl (fun _ hw => (c_refdig _ _ (hs.go hw)))) ?_; rintro _ _ ⟨rfl, rfl⟩; refine ⟨.inr SubC.out, ?_⟩)
          refine wa_t 5 (by kernel_rfl) rfl rfl rfl rfl (y_neqAgg Try.eqGuardType28 rfl rfl (eq_dg _ _) (by omega)) ?_
          refine wa_done (by kernel_rfl) ?_
          refine q_then ?_
          first | refine wc_cond rfl (fun hc2 => ?_) (fun hc2 => ?_) | refine wc_condb rfl (fun hc2 => ?_) (fun hc2 => ?_)
          · first
            | ((try simp only [bsA, ne_eq] at hc2); exfalso; (first | with_reducible contradiction | omega | (simp at hc2; done)))
            | skip
              try simp only [bsA, ne_eq] at hc2
              refine wc_seq ?_
              refine wc_region ?_
              refine wl_val rfl rfl rfl (y_buildc (cs := Sl0.cells) rfl (fun w => by kernel_rfl)) ?_
              (refine wl_ef rfl (ef_storeC siz50 rfl rfl rfl) ?_; rintro _ _ ⟨rfl, rfl⟩)
              refine wl_val rfl rfl rfl (y_assign rfl) ?_
              refine wl_nil ?_
              refine q_then ?_
              refine wc_ret ?_
              refine q_thenRet ?_
              refine q_thenRet ?_
              apply q_retg (rescC2 Try.results35 rfl rfl agg50) -- ret 1
              case hΨ =>
                exact ⟨by simp only [dcd]; split <;> (try split) <;> (try split) <;> (try split) <;> first | rfl | (exfalso; grind), rfl⟩
              case hs =>
                exact SubC.out
          · first
            | ((try simp only [bsA, ne_eq] at hc2); exfalso; (first | with_reducible contradiction | omega | (simp at hc2; done)))
            | skip
              try simp only [bsA, ne_eq] at hc2
              refine wc_skip ?_
              refine q_then ?_
              refine wc_seq ?_
              refine wc_region ?_
              refine wl_val rfl rfl rfl (y_loadC agg50 rfl) ?_
              (refine wl_ef rfl (ef_storeC siz50 rfl rfl rfl) ?_; rintro _ _ ⟨rfl, rfl⟩)
              refine wl_val rfl rfl rfl (y_assign rfl) ?_
              refine wl_nil ?_
              refine q_then ?_
              refine wc_ret ?_
              refine q_thenRet ?_
              apply q_retg (rescC2 Try.results35 rfl rfl agg50) -- ret 2
              case hΨ =>
                exact ⟨by simp only [dcd]; split <;> (try split) <;> (try split) <;> (try split) <;> first | rfl | (exfalso; grind), rfl⟩
              case hs =>
                exact SubC.out
      · first
        | ((try simp only [bsA, ne_eq] at hc1); exfalso; (first | with_reducible contradiction | omega | (simp at hc1; done)))
        | skip
          try simp only [bsA, ne_eq] at hc1
          refine wc_skip ?_
          refine q_then ?_
          refine wc_seq ?_
          refine wc_region ?_
          refine wl_val rfl rfl rfl (y_field0 fa50_6 rfl) ?_
          (refine wl_ef rfl (ef_storeC siz4 rfl rfl rfl) ?_; rintro _ _ ⟨rfl, rfl⟩)
          refine wl_nil ?_
          refine q_then ?_
          refine wc_seq ?_
          refine wc_region ?_
          refine wl_val rfl rfl rfl (y_field0 fa33_0 rfl) ?_
          refine wl_val rfl rfl rfl (y_field0 fa30_3 rfl) ?_
          refine wl_val rfl rfl rfl (y_loadA one3 rfl) ?_
          refine wl_val rfl rfl rfl (y_loadC agg26 rfl) ?_
          refine wl_val rfl rfl rfl (y_loadC agg33 rfl) ?_
          refine wl_val rfl rfl rfl (y_buildS bldEn rfl) ?_
          refine wl_val rfl rfl rfl (y_field0 fa50_5 rfl) ?_
          (refine wl_ef rfl (ef_storeC siz40 rfl rfl rfl) ?_; rintro _ _ ⟨rfl, rfl⟩)
          refine wl_nil ?_
          refine q_then ?_
          refine wc_seq ?_
          refine wc_region ?_
          refine wl_val rfl rfl rfl (y_loadC agg50 rfl) ?_
          (refine wl_ef rfl (ef_storeC siz50 rfl rfl rfl) ?_; rintro _ _ ⟨rfl, rfl⟩)
          refine wl_val rfl rfl rfl (y_assign rfl) ?_
          refine wl_nil ?_
          refine q_then ?_
          refine wc_ret ?_
          apply q_retg (rescC2 Try.results35 rfl rfl agg50) -- ret 3
          case hΨ =>
            exact ⟨by simp only [dcd]; split <;> (try split) <;> (try split) <;> (try split) <;> first | rfl | (exfalso; grind), rfl⟩
          case hs =>
            exact SubC.out
theorem c_refKnown (s : Sl) (d : Dg) (w : World) (h1 : BtOk w s.entry.b) (h2 : BtOk w s.batch) (h3 : BtOk w s.held.b) :
    Calls Try.prog 36 #[.agg s.cells.toArray, .agg (bvs d.1).toArray] w (RV w (.tuple #[.agg (kno s d).1.cells.toArray, .bool (kno s d).2])) := by
  refine enter (N := 44) Try.func36 rfl Try.ntmps36 rfl (Has.nil _) ?_
  refine wc_seq ?_
  refine wc_region ?_
  (refine wl_ef rfl (ef_box rfl rfl rfl) ?_; rintro _ _ ⟨b2, rfl, rfl⟩)
  (refine wl_ef rfl (ef_box rfl rfl rfl) ?_; rintro _ _ ⟨b3, rfl, rfl⟩)
  (refine wl_ef rfl (ef_alloc rfl zerBt) ?_; rintro _ _ ⟨b4, rfl, rfl⟩)
  refine wl_val rfl rfl rfl (y_assign rfl) ?_
  refine wl_nil ?_
  refine q_then ?_
  refine wc_seq ?_
  refine wc_seq ?_
  refine wa_begin_all (n := 10) (b := #[false, false, false, false, false, false, false, false, false, false]) mixed rfl rfl ?_
  refine wa_t 0 (by kernel_rfl) rfl rfl rfl rfl (y_field0 fa50_6 rfl) ?_
  refine wa_t 1 (by kernel_rfl) rfl rfl rfl rfl (y_loadA one4 rfl) ?_
  refine wa_t 2 (by kernel_rfl) rfl rfl rfl rfl (y_move rfl) ?_
  first | apply wa_andp (d := 15) | apply wa_and (d := 15)
  case ht =>
    intro hg1 hK1
    first
      | (refine wa_dead ?_ hK1 rfl; first | with_reducible contradiction | omega | (simp at hg1; done))
      | skip
        try simp only [bsA, ne_eq] at hg1
        refine wa_gt 3 (by kernel_rfl) rfl rfl rfl rfl rfl rfl rfl rfl (y_field0 fa50_5 rfl) ?_
        first | refine wa_gt 4 (by kernel_rfl) rfl rfl rfl rfl rfl rfl rfl rfl (y_field0 fa40_1 rfl) ?_ | refine wa_gt 4 (by kernel_rfl) rfl rfl rfl rfl rfl rfl rfl rfl (y_fieldN fa40_1 rfl (by simp only [Nat.reduceAdd]; rfl)) ?_
        refine wa_gt 5 (by kernel_rfl) rfl rfl rfl rfl rfl rfl rfl rfl (y_loadC agg26 rfl) ?_
        refine wa_gt 7 (by kernel_rfl) rfl rfl rfl rfl rfl rfl rfl rfl (y_loadC agg28 rfl) ?_
        (refine wa_ge 6 (by kernel_rfl) rfl rfl rfl rfl rfl rfl (ef_callv0 rfl fun22 rfl (fun _ hw => (c_refdig _ _ (h1.go hw)))) ?_; rintro _ _ ⟨rfl, rfl⟩; refine ⟨.inr SubC.out, ?_⟩)
        refine wa_gt 8 (by kernel_rfl) rfl rfl rfl rfl rfl rfl rfl rfl (y_eqlAgg Try.eqGuardType28 rfl rfl (eq_dg _ _) (by omega)) ?_
        refine wa_t 9 (by kernel_rfl) rfl rfl rfl rfl (y_pickt rfl rfl) ?_
        exact wa_leR hK1 (.cons rfl (by repeat (first | refine LeE.skip ?_ rfl | exact LeE.refl _)))
  case hf =>
    intro hg1 hK1
    first
      | (refine wa_dead ?_ hK1 rfl; first | with_reducible contradiction | omega | (simp at hg1; done))
      | skip
        try simp only [bsA, ne_eq] at hg1
        refine wa_gs 3 (by kernel_rfl) rfl rfl rfl rfl rfl rfl rfl rfl ?_
        refine wa_gs 4 (by kernel_rfl) rfl rfl rfl rfl rfl rfl rfl rfl ?_
        refine wa_gs 5 (by kernel_rfl) rfl rfl rfl rfl rfl rfl rfl rfl ?_
        refine wa_gs 6 (by kernel_rfl) rfl rfl rfl rfl rfl rfl rfl rfl ?_
        refine wa_gs 7 (by kernel_rfl) rfl rfl rfl rfl rfl rfl rfl rfl ?_
        refine wa_gs 8 (by kernel_rfl) rfl rfl rfl rfl rfl rfl rfl rfl ?_
        first | refine wa_t 9 (by kernel_rfl) rfl rfl rfl rfl (y_pickt rfl rfl) ?_ | refine wa_t 9 (by kernel_rfl) rfl rfl rfl rfl (y_pickf rfl rfl) ?_
        exact wa_leR hK1 (.cons rfl (by repeat (first | refine LeE.skip ?_ rfl | exact LeE.refl _)))
  refine wa_done (by kernel_rfl) ?_
  refine q_then ?_
  first | refine wc_cond rfl (fun hc0 => ?_) (fun hc0 => ?_) | refine wc_condb rfl (fun hc0 => ?_) (fun hc0 => ?_)
  · first
    | ((try simp only [bsA, ne_eq] at hc0); exfalso; (first | with_reducible contradiction | omega | (simp at hc0; done)))
    | skip
      try simp only [bsA, ne_eq] at hc0
      refine wc_seq ?_
      refine wc_region ?_
      refine wl_val rfl rfl rfl (y_field0 fa50_5 rfl) ?_
      first | refine wl_val rfl rfl rfl (y_field0 fa40_1 rfl) ?_ | refine wl_val rfl rfl rfl (y_fieldN fa40_1 rfl (by simp only [Nat.reduceAdd]; rfl)) ?_
      refine wl_val rfl rfl rfl (y_loadC agg26 rfl) ?_
      (refine wl_ef rfl (ef_storeC siz26 rfl rfl rfl) ?_; rintro _ _ ⟨rfl, rfl⟩)
      refine wl_val rfl rfl rfl (y_assign rfl) ?_
      refine wl_nil ?_
      refine q_then ?_
      refine wc_ret ?_
      refine q_thenRet ?_
      apply q_retg (rescC2 Try.results36 rfl rfl agg26) -- ret 0
      case hΨ =>
        exact ⟨by simp only [kno, kns, knoL]; split <;> (try split) <;> (try split) <;> first | rfl | (exfalso; grind), rfl⟩
      case hs =>
        exact SubC.out
  · first
    | ((try simp only [bsA, ne_eq] at hc0); exfalso; (first | with_reducible contradiction | omega | (simp at hc0; done)))
    | skip
      try simp only [bsA, ne_eq] at hc0
      refine wc_skip ?_
      refine q_then ?_
      refine wc_seq ?_
      refine wc_seq ?_
      refine wa_begin_all (n := 9) (b := #[false, false, false, false, false, false, false, false, false]) mixed rfl rfl ?_
      refine wa_t 0 (by kernel_rfl) rfl rfl rfl rfl (y_field0 fa50_2 rfl) ?_
      refine wa_t 1 (by kernel_rfl) rfl rfl rfl rfl (y_loadA one4 rfl) ?_
      refine wa_t 2 (by kernel_rfl) rfl rfl rfl rfl (y_move rfl) ?_
      first | apply wa_andp (d := 27) | apply wa_and (d := 27)
      case ht =>
        intro hg2 hK2
        first
          | (refine wa_dead ?_ hK2 rfl; first | with_reducible contradiction | omega | (simp at hg2; done))
          | skip
            try simp only [bsA, ne_eq] at hg2
            refine wa_gt 3 (by kernel_rfl) rfl rfl rfl rfl rfl rfl rfl rfl (y_field0 fa50_1 rfl) ?_
            refine wa_gt 4 (by kernel_rfl) rfl rfl rfl rfl rfl rfl rfl rfl (y_loadC agg26 rfl) ?_
            refine wa_gt 6 (by kernel_rfl) rfl rfl rfl rfl rfl rfl rfl rfl (y_loadC agg28 rfl) ?_
            first | (refine wa_ge 5 (by kernel_rfl) rfl rfl rfl rfl rfl rfl (ef_callv0 rfl fun22 rfl (fun _ hw => (c_refdig _ _ (h1.go hw)))) ?_; rintro _ _ ⟨rfl, rfl⟩; refine ⟨.inr SubC.out, ?_⟩) | (refine wa_ge 5 (by kernel_rfl) rfl rfl rfl rfl rfl rfl (ef_callv0 rfl fun22 rfl (fun _ hw => (c_refdig _ _ (h2.go hw)))) ?_; rintro _ _ ⟨rfl, rfl⟩; refine ⟨.inr SubC.out, ?_⟩)
            refine wa_gt 7 (by kernel_rfl) rfl rfl rfl rfl rfl rfl rfl rfl (y_eqlAgg Try.eqGuardType28 rfl rfl (eq_dg _ _) (by omega)) ?_
            refine wa_t 8 (by kernel_rfl) rfl rfl rfl rfl (y_pickt rfl rfl) ?_
            exact wa_leR hK2 (.cons rfl (by repeat (first | refine LeE.skip ?_ rfl | exact LeE.refl _)))
      case hf =>
        intro hg2 hK2
        first
          | (refine wa_dead ?_ hK2 rfl; first | with_reducible contradiction | omega | (simp at hg2; done))
          | skip
            try simp only [bsA, ne_eq] at hg2
            refine wa_gs 3 (by kernel_rfl) rfl rfl rfl rfl rfl rfl rfl rfl ?_
            refine wa_gs 4 (by kernel_rfl) rfl rfl rfl rfl rfl rfl rfl rfl ?_
            refine wa_gs 5 (by kernel_rfl) rfl rfl rfl rfl rfl rfl rfl rfl ?_
            refine wa_gs 6 (by kernel_rfl) rfl rfl rfl rfl rfl rfl rfl rfl ?_
            refine wa_gs 7 (by kernel_rfl) rfl rfl rfl rfl rfl rfl rfl rfl ?_
            first | refine wa_t 8 (by kernel_rfl) rfl rfl rfl rfl (y_pickt rfl rfl) ?_ | refine wa_t 8 (by kernel_rfl) rfl rfl rfl rfl (y_pickf rfl rfl) ?_
            exact wa_leR hK2 (.cons rfl (by repeat (first | refine LeE.skip ?_ rfl | exact LeE.refl _)))
      refine wa_done (by kernel_rfl) ?_
      refine q_then ?_
      first | refine wc_cond rfl (fun hc1 => ?_) (fun hc1 => ?_) | refine wc_condb rfl (fun hc1 => ?_) (fun hc1 => ?_)
      · first
        | ((try simp only [bsA, ne_eq] at hc1); exfalso; (first | with_reducible contradiction | omega | (simp at hc1; done)))
        | skip
          try simp only [bsA, ne_eq] at hc1
          refine wc_seq ?_
          refine wc_region ?_
          refine wl_val rfl rfl rfl (y_field0 fa50_1 rfl) ?_
          refine wl_val rfl rfl rfl (y_loadC agg26 rfl) ?_
          (refine wl_ef rfl (ef_storeC siz26 rfl rfl rfl) ?_; rintro _ _ ⟨rfl, rfl⟩)
          refine wl_val rfl rfl rfl (y_assign rfl) ?_
          refine wl_nil ?_
          refine q_then ?_
          refine wc_ret ?_
          refine q_thenRet ?_
          apply q_retg (rescC2 Try.results36 rfl rfl agg26) -- ret 1
          case hΨ =>
            exact ⟨by simp only [kno, kns, knoL]; split <;> (try split) <;> (try split) <;> first | rfl | (exfalso; grind), rfl⟩
          case hs =>
            exact SubC.out
      · first
        | ((try simp only [bsA, ne_eq] at hc1); exfalso; (first | with_reducible contradiction | omega | (simp at hc1; done)))
        | skip
          try simp only [bsA, ne_eq] at hc1
          refine wc_skip ?_
          refine q_then ?_
          refine wc_seq ?_
          refine wc_seq ?_
          refine wa_begin_all (n := 10) (b := #[false, false, false, false, false, false, false, false, false, false]) mixed rfl rfl ?_
          refine wa_t 0 (by kernel_rfl) rfl rfl rfl rfl (y_field0 fa50_4 rfl) ?_
          refine wa_t 1 (by kernel_rfl) rfl rfl rfl rfl (y_loadA one4 rfl) ?_
          refine wa_t 2 (by kernel_rfl) rfl rfl rfl rfl (y_move rfl) ?_
          first | apply wa_andp (d := 39) | apply wa_and (d := 39)
          case ht =>
            intro hg3 hK3
            first
              | (refine wa_dead ?_ hK3 rfl; first | with_reducible contradiction | omega | (simp at hg3; done))
              | skip
                try simp only [bsA, ne_eq] at hg3
                refine wa_gt 3 (by kernel_rfl) rfl rfl rfl rfl rfl rfl rfl rfl (y_field0 fa50_3 rfl) ?_
                first | refine wa_gt 4 (by kernel_rfl) rfl rfl rfl rfl rfl rfl rfl rfl (y_field0 fa38_0 rfl) ?_ | refine wa_gt 4 (by kernel_rfl) rfl rfl rfl rfl rfl rfl rfl rfl (y_fieldN fa38_0 rfl (by simp only [Nat.reduceAdd]; rfl)) ?_
                refine wa_gt 5 (by kernel_rfl) rfl rfl rfl rfl rfl rfl rfl rfl (y_loadC agg26 rfl) ?_
                refine wa_gt 7 (by kernel_rfl) rfl rfl rfl rfl rfl rfl rfl rfl (y_loadC agg28 rfl) ?_
                first | (refine wa_ge 6 (by kernel_rfl) rfl rfl rfl rfl rfl rfl (ef_callv0 rfl fun22 rfl (fun _ hw => (c_refdig _ _ (h1.go hw)))) ?_; rintro _ _ ⟨rfl, rfl⟩; refine ⟨.inr SubC.out, ?_⟩) | (refine wa_ge 6 (by kernel_rfl) rfl rfl rfl rfl rfl rfl (ef_callv0 rfl fun22 rfl (fun _ hw => (c_refdig _ _ (h2.go hw)))) ?_; rintro _ _ ⟨rfl, rfl⟩; refine ⟨.inr SubC.out, ?_⟩) | (refine wa_ge 6 (by kernel_rfl) rfl rfl rfl rfl rfl rfl (ef_callv0 rfl fun22 rfl (fun _ hw => (c_refdig _ _ (h3.go hw)))) ?_; rintro _ _ ⟨rfl, rfl⟩; refine ⟨.inr SubC.out, ?_⟩)
                refine wa_gt 8 (by kernel_rfl) rfl rfl rfl rfl rfl rfl rfl rfl (y_eqlAgg Try.eqGuardType28 rfl rfl (eq_dg _ _) (by omega)) ?_
                refine wa_t 9 (by kernel_rfl) rfl rfl rfl rfl (y_pickt rfl rfl) ?_
                exact wa_leR hK3 (.cons rfl (by repeat (first | refine LeE.skip ?_ rfl | exact LeE.refl _)))
          case hf =>
            intro hg3 hK3
            first
              | (refine wa_dead ?_ hK3 rfl; first | with_reducible contradiction | omega | (simp at hg3; done))
              | skip
                try simp only [bsA, ne_eq] at hg3
                refine wa_gs 3 (by kernel_rfl) rfl rfl rfl rfl rfl rfl rfl rfl ?_
                refine wa_gs 4 (by kernel_rfl) rfl rfl rfl rfl rfl rfl rfl rfl ?_
                refine wa_gs 5 (by kernel_rfl) rfl rfl rfl rfl rfl rfl rfl rfl ?_
                refine wa_gs 6 (by kernel_rfl) rfl rfl rfl rfl rfl rfl rfl rfl ?_
                refine wa_gs 7 (by kernel_rfl) rfl rfl rfl rfl rfl rfl rfl rfl ?_
                refine wa_gs 8 (by kernel_rfl) rfl rfl rfl rfl rfl rfl rfl rfl ?_
                first | refine wa_t 9 (by kernel_rfl) rfl rfl rfl rfl (y_pickt rfl rfl) ?_ | refine wa_t 9 (by kernel_rfl) rfl rfl rfl rfl (y_pickf rfl rfl) ?_
                exact wa_leR hK3 (.cons rfl (by repeat (first | refine LeE.skip ?_ rfl | exact LeE.refl _)))
          refine wa_done (by kernel_rfl) ?_
          refine q_then ?_
          first | refine wc_cond rfl (fun hc2 => ?_) (fun hc2 => ?_) | refine wc_condb rfl (fun hc2 => ?_) (fun hc2 => ?_)
          · first
            | ((try simp only [bsA, ne_eq] at hc2); exfalso; (first | with_reducible contradiction | omega | (simp at hc2; done)))
            | skip
              try simp only [bsA, ne_eq] at hc2
              refine wc_seq ?_
              refine wc_region ?_
              refine wl_val rfl rfl rfl (y_field0 fa50_3 rfl) ?_
              first | refine wl_val rfl rfl rfl (y_field0 fa38_0 rfl) ?_ | refine wl_val rfl rfl rfl (y_fieldN fa38_0 rfl (by simp only [Nat.reduceAdd]; rfl)) ?_
              refine wl_val rfl rfl rfl (y_loadC agg26 rfl) ?_
              (refine wl_ef rfl (ef_storeC siz26 rfl rfl rfl) ?_; rintro _ _ ⟨rfl, rfl⟩)
              refine wl_val rfl rfl rfl (y_assign rfl) ?_
              refine wl_nil ?_
              refine q_then ?_
              refine wc_ret ?_
              refine q_thenRet ?_
              apply q_retg (rescC2 Try.results36 rfl rfl agg26) -- ret 2
              case hΨ =>
                exact ⟨by simp only [kno, kns, knoL]; split <;> (try split) <;> (try split) <;> first | rfl | (exfalso; grind), rfl⟩
              case hs =>
                exact SubC.out
          · first
            | ((try simp only [bsA, ne_eq] at hc2); exfalso; (first | with_reducible contradiction | omega | (simp at hc2; done)))
            | skip
              try simp only [bsA, ne_eq] at hc2
              refine wc_skip ?_
              refine q_then ?_
              refine wc_seq ?_
              refine wc_region ?_
              refine wl_val rfl rfl rfl (y_buildc (cs := Bt0.cells) rfl (fun w => by kernel_rfl)) ?_
              (refine wl_ef rfl (ef_storeC siz26 rfl rfl rfl) ?_; rintro _ _ ⟨rfl, rfl⟩)
              refine wl_val rfl rfl rfl (y_assign rfl) ?_
              refine wl_nil ?_
              refine q_then ?_
              refine wc_ret ?_
              apply q_retg (rescC2 Try.results36 rfl rfl agg26) -- ret 3
              case hΨ =>
                exact ⟨by simp only [kno, kns, knoL]; split <;> (try split) <;> (try split) <;> first | rfl | (exfalso; grind), rfl⟩
              case hs =>
                exact SubC.out
end Go.Proofs.Ytdgmkbjopcopcaa
