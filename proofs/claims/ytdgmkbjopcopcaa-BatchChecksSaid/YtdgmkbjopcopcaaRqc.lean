/- Layer 6 (request): making and checking, of both sides; the chapter's example. Own work. -/
import Derived.Test.YtdgmkbjopcopcaaRqb
set_option linter.unusedVariables false
set_option linter.unusedSimpArgs false
set_option maxRecDepth 100000
set_option maxHeartbeats 2000000
namespace Go.Proofs.Ytdgmkbjopcopcaa
open Go.RowKit
-- flat
-- zero 71 Rq0.cells
-- use zerRq zerRq
-- use zerTg zerTg
-- use zerDg zerDg
-- use zerKs zerKs
-- build 71 bldRq
/-- keys that are there -/
structure KsOk (k : Ks) : Prop where
  n : 1 ≤ k.n ∧ k.n ≤ 4096
  seed : k.seed.size ≤ 64
abbrev rqOf (client num : Int) (data : ByteArray) : Rq := ⟨client, num, data, Tg0⟩
def mk (k : Ks) (nodes client num : Int) (data : ByteArray) : Rq × Int :=
  if ¬ mayP 8 (rqOf client num data) then (Rq0, 60)
  else if nodes < 0 ∨ 64 < nodes then (Rq0, 2)
  else if (sgn k (nodes + client) (bodyS (rqOf client num data))).2 ≠ 0 then (Rq0, (sgn k (nodes + client) (bodyS (rqOf client num data))).2)
  else (⟨client, num, data, (sgn k (nodes + client) (bodyS (rqOf client num data))).1⟩, 0)
theorem c_Make (b : Nat) (k : Ks) (nodes client num : Int) (data : ByteArray) (w : World) (hk : InB w b k.cells) (ho : KsOk k) :
    Calls Try.prog 28 #[.pointer (some ⟨b, 0, none⟩), .int .i64 nodes, .int .i64 client, .int .i64 num, .string data] w (RV w (.tuple #[.agg (mk k nodes client num data).1.cells.toArray, .int .i64 (mk k nodes client num data).2])) := by
  have hn := ho.n
  obtain ⟨S, hS⟩ : ∃ S, S = sgn k (nodes + client) (bodyS (rqOf client num data)) := ⟨_, rfl⟩
  have cs : mayP 8 (rqOf client num data) → ¬ (nodes < 0 ∨ 64 < nodes) → ∀ w, InB w b k.cells → Calls Try.prog 72 #[.pointer (some ⟨b, 0, none⟩), .int .i64 (nodes + client), .string (bodyS (rqOf client num data))] w (RV w (.tuple #[.agg (bvs S.1.1).toArray, .int .i64 S.2])) := fun hm h2 w h => by
    rw [hS]
    have h3 := hm.1
    have h4 := hm.2.1
    simp only at h3 h4
    exact c_Sign b k _ _ w h (by omega) ho.seed (by omega) (Nat.le_trans (bodyS_len (mayP_ok hm (by omega)) (by omega)) (by omega))
  refine enter (N := 54) Try.func28 rfl Try.ntmps28 rfl (Has.nil _) ?_
  refine wc_seq ?_
  refine wc_region ?_
  (refine wl_ef rfl (ef_alloc rfl zerRq) ?_; rintro _ _ ⟨b10, rfl, rfl⟩)
  refine wl_val rfl rfl rfl (y_assign rfl) ?_
  refine wl_nil ?_
  refine q_then ?_
  refine wc_seq ?_
  refine wc_region ?_
  refine wl_val rfl rfl rfl (y_move rfl) ?_
  refine wl_val rfl rfl rfl (y_move rfl) ?_
  refine wl_val rfl rfl rfl (y_move rfl) ?_
  refine wl_val rfl rfl rfl (y_buildS bldRq rfl) ?_
  (refine wl_ef rfl (ef_alloc rfl zerRq) ?_; rintro _ _ ⟨b12, rfl, rfl⟩)
  (refine wl_ef rfl (ef_storeC siz71 rfl rfl rfl) ?_; rintro _ _ ⟨rfl, rfl⟩)
  refine wl_nil ?_
  refine q_then ?_
  refine wc_seq ?_
  refine wc_block ?_
  refine wc_seq ?_
  refine wc_region ?_
  refine wl_val rfl rfl rfl (y_move rfl) ?_
  (refine wl_ef rfl (ef_callv0 rfl fun70 rfl (fun _ hw => (c_Len b k _ (hk.go hw)))) ?_; rintro _ _ ⟨rfl, rfl⟩)
  refine wl_val rfl rfl rfl (y_eql rfl rfl) ?_
  refine wl_val rfl rfl rfl (y_assign rfl) ?_
  refine wl_nil ?_
  refine q_then ?_
  refine wc_cond rfl (fun hc0 => ?_) (fun hc0 => ?_)
  · exfalso; (try simp only [bsA, ne_eq] at hc0); omega
  · first
    | ((try simp only [bsA, ne_eq] at hc0); exfalso; (first | with_reducible contradiction | omega | (simp at hc0; done)))
    | skip
      try simp only [bsA, ne_eq] at hc0
      refine wc_seq ?_
      refine wc_region ?_
      refine wl_val rfl rfl rfl (y_loadC agg71 rfl) ?_
      (refine wl_ef rfl (ef_callv0 rfl fun71 rfl (fun _ hw => (c_may 8 (rqOf client num data) _))) ?_; rintro _ _ ⟨rfl, rfl⟩)
      refine wl_val rfl rfl rfl (y_not rfl) ?_
      refine wl_val rfl rfl rfl (y_assign rfl) ?_
      refine wl_nil ?_
      refine q_then ?_
      refine wc_cond rfl (fun hc1 => ?_) (fun hc1 => ?_)
      · first
        | ((try simp only [bsA, ne_eq] at hc1); exfalso; (first | with_reducible contradiction | omega | (simp at hc1; done)))
        | skip
          try simp only [bsA, ne_eq] at hc1
          refine wc_seq ?_
          refine wc_region ?_
          refine wl_val rfl rfl rfl (y_buildc (cs := Rq0.cells) rfl (fun w => by kernel_rfl)) ?_
          (refine wl_ef rfl (ef_storeC siz71 rfl rfl rfl) ?_; rintro _ _ ⟨rfl, rfl⟩)
          refine wl_val rfl rfl rfl (y_assign rfl) ?_
          refine wl_nil ?_
          refine q_then ?_
          refine wc_ret ?_
          refine q_blockRet ?_
          refine q_thenRet ?_
          apply q_retg (rescC2 Try.results28 rfl rfl agg71) -- ret 1
          case hΨ =>
            exact ⟨by simp only [mk, ← hS]; split <;> (try split) <;> (try split) <;> first | rfl | (exfalso; grind), rfl⟩
          case hs =>
            exact SubC.out
      · first
        | ((try simp only [bsA, ne_eq] at hc1); exfalso; (first | with_reducible contradiction | omega | (simp at hc1; done)))
        | skip
          try simp only [bsA, ne_eq] at hc1
          have hm1 := hc1.1
          have hm2 := hc1.2.1
          simp only at hm1 hm2
          refine wc_seq ?_
          refine wc_region ?_
          refine wl_val rfl rfl rfl (y_move rfl) ?_
          refine wl_val rfl rfl rfl (y_lss rfl rfl) ?_
          refine wl_val rfl rfl rfl (y_move rfl) ?_
          apply wl_orp (d := 35)
          case ht =>
            intro hg1 hK1
            first
              | (refine wl_dead ?_ hK1 rfl; first | with_reducible contradiction | omega | (simp at hg1; done))
              | skip
                try simp only [bsA, ne_eq] at hg1
                refine wl_gskip rfl rfl rfl rfl rfl rfl rfl ?_
                refine wl_gskip rfl rfl rfl rfl rfl rfl rfl ?_
                refine wl_val rfl rfl rfl (y_pickt rfl rfl) ?_
                exact wl_leR hK1 (.cons rfl (by repeat (first | refine LeE.skip ?_ rfl | exact LeE.refl _)))
          case hf =>
            intro hg1 hK1
            first
              | (refine wl_dead ?_ hK1 rfl; first | with_reducible contradiction | omega | (simp at hg1; done))
              | skip
                try simp only [bsA, ne_eq] at hg1
                refine wl_gval rfl rfl rfl rfl rfl rfl rfl (y_move rfl) ?_
                refine wl_gval rfl rfl rfl rfl rfl rfl rfl (y_gtr rfl rfl) ?_
                first | refine wl_val rfl rfl rfl (y_pickt rfl rfl) ?_ | refine wl_val rfl rfl rfl (y_pickf rfl rfl) ?_
                exact wl_leR hK1 (.cons rfl (by repeat (first | refine LeE.skip ?_ rfl | exact LeE.refl _)))
          refine wl_val rfl rfl rfl (y_assign rfl) ?_
          refine wl_nil ?_
          refine q_then ?_
          first | refine wc_cond rfl (fun hc2 => ?_) (fun hc2 => ?_) | refine wc_condb rfl (fun hc2 => ?_) (fun hc2 => ?_)
          · first
            | ((try simp only [bsA, ne_eq] at hc2); exfalso; (first | with_reducible contradiction | omega | (simp at hc2; done)))
            | skip
              try simp only [bsA, ne_eq] at hc2
              refine wc_seq ?_
              refine wc_region ?_
              refine wl_val rfl rfl rfl (y_buildc (cs := Rq0.cells) rfl (fun w => by kernel_rfl)) ?_
              (refine wl_ef rfl (ef_storeC siz71 rfl rfl rfl) ?_; rintro _ _ ⟨rfl, rfl⟩)
              refine wl_val rfl rfl rfl (y_assign rfl) ?_
              refine wl_nil ?_
              refine q_then ?_
              refine wc_ret ?_
              refine q_blockRet ?_
              refine q_thenRet ?_
              apply q_retg (rescC2 Try.results28 rfl rfl agg71) -- ret 2
              case hΨ =>
                exact ⟨by simp only [mk, ← hS]; split <;> (try split) <;> (try split) <;> first | rfl | (exfalso; grind), rfl⟩
              case hs =>
                exact SubC.out
          · first
            | ((try simp only [bsA, ne_eq] at hc2); exfalso; (first | with_reducible contradiction | omega | (simp at hc2; done)))
            | skip
              try simp only [bsA, ne_eq] at hc2
              refine wc_skip ?_
              refine q_blockNormal ?_
              refine q_then ?_
              refine wc_seq ?_
              refine wc_region ?_
              refine wl_val rfl rfl rfl (y_move rfl) ?_
              refine wl_val rfl rfl rfl (y_move rfl) ?_
              refine wl_val rfl rfl rfl (y_move rfl) ?_
              refine wl_val rfl rfl rfl (y_addn rfl rfl (by omega)) ?_
              refine wl_val rfl rfl rfl (y_loadC agg71 rfl) ?_
              (refine wl_ef rfl (ef_callv0 rfl fun39 rfl (fun _ hw => (c_Body (rqOf client num data) _ (mayP_ok hc1 (by omega))))) ?_; rintro _ _ ⟨rfl, rfl⟩)
              (refine wl_ef rfl (ef_callv0 rfl fun72 rfl (fun _ hw => (cs hc1 (by omega) _ (hk.go hw)))) ?_; rintro _ _ ⟨rfl, rfl⟩)
              refine wl_val rfl rfl rfl (y_move rfl) ?_
              refine wl_val rfl rfl rfl (y_extract rfl rfl) ?_
              refine wl_val rfl rfl rfl (y_extract rfl rfl) ?_
              (refine wl_ef rfl (ef_alloc rfl zerTg) ?_; rintro _ _ ⟨b13, rfl, rfl⟩)
              (refine wl_ef rfl (ef_storeC siz69 rfl rfl rfl) ?_; rintro _ _ ⟨rfl, rfl⟩)
              refine wl_val rfl rfl rfl (y_assign rfl) ?_
              refine wl_nil ?_
              refine q_then ?_
              refine wc_seq ?_
              refine wc_seq ?_
              refine wc_region ?_
              refine wl_val rfl rfl rfl (y_move rfl) ?_
              refine wl_val rfl rfl rfl (y_neq rfl rfl) ?_
              refine wl_nil ?_
              refine q_then ?_
              refine wc_cond rfl (fun hc3 => ?_) (fun hc3 => ?_)
              · first
                | ((try simp only [bsA, ne_eq] at hc3); exfalso; (first | with_reducible contradiction | omega | (simp at hc3; done)))
                | skip
                  try simp only [bsA, ne_eq] at hc3
                  refine wc_seq ?_
                  refine wc_region ?_
                  refine wl_val rfl rfl rfl (y_buildc (cs := Rq0.cells) rfl (fun w => by kernel_rfl)) ?_
                  refine wl_val rfl rfl rfl (y_move rfl) ?_
                  (refine wl_ef rfl (ef_storeC siz71 rfl rfl rfl) ?_; rintro _ _ ⟨rfl, rfl⟩)
                  refine wl_val rfl rfl rfl (y_assign rfl) ?_
                  refine wl_nil ?_
                  refine q_then ?_
                  refine wc_ret ?_
                  refine q_thenRet ?_
                  apply q_retg (rescC2 Try.results28 rfl rfl agg71) -- ret 3
                  case hΨ =>
                    exact ⟨by simp only [mk, ← hS]; split <;> (try split) <;> (try split) <;> first | rfl | (exfalso; grind), rfl⟩
                  case hs =>
                    exact SubC.out
              · first
                | ((try simp only [bsA, ne_eq] at hc3); exfalso; (first | with_reducible contradiction | omega | (simp at hc3; done)))
                | skip
                  try simp only [bsA, ne_eq] at hc3
                  refine wc_skip ?_
                  refine q_then ?_
                  refine wc_seq ?_
                  refine wc_region ?_
                  refine wl_val rfl rfl rfl (y_loadC agg69 rfl) ?_
                  refine wl_val rfl rfl rfl (y_field0 fa71_3 rfl) ?_
                  (refine wl_ef rfl (ef_storeC siz69 rfl rfl rfl) ?_; rintro _ _ ⟨rfl, rfl⟩)
                  refine wl_nil ?_
                  refine q_then ?_
                  refine wc_seq ?_
                  refine wc_region ?_
                  refine wl_val rfl rfl rfl (y_loadC agg71 rfl) ?_
                  (refine wl_ef rfl (ef_storeC siz71 rfl rfl rfl) ?_; rintro _ _ ⟨rfl, rfl⟩)
                  refine wl_val rfl rfl rfl (y_assign rfl) ?_
                  refine wl_nil ?_
                  refine q_then ?_
                  refine wc_ret ?_
                  apply q_retg (rescC2 Try.results28 rfl rfl agg71) -- ret 4
                  case hΨ =>
                    exact ⟨by simp only [mk, ← hS]; split <;> (try split) <;> (try split) <;> first | rfl | (exfalso; grind), rfl⟩
                  case hs =>
                    exact SubC.out
theorem c_refMake (k : Ks) (nodes client num : Int) (data : ByteArray) (w : World) (ho : KsOk k) :
    Calls Try.prog 29 #[.agg k.cells.toArray, .int .i64 nodes, .int .i64 client, .int .i64 num, .string data] w (RV w (.tuple #[.agg (mk k nodes client num data).1.cells.toArray, .int .i64 (mk k nodes client num data).2])) := by
  have hn := ho.n
  obtain ⟨S, hS⟩ : ∃ S, S = sgn k (nodes + client) (bodyS (rqOf client num data)) := ⟨_, rfl⟩
  have cs : mayP 8 (rqOf client num data) → ¬ (nodes < 0 ∨ 64 < nodes) → ∀ w, Calls Try.prog 31 #[.agg k.cells.toArray, .int .i64 (nodes + client), .string (bodyS (rqOf client num data))] w (RV w (.tuple #[.agg (bvs S.1.1).toArray, .int .i64 S.2])) := fun hm h2 w => by
    rw [hS]
    have h3 := hm.1
    have h4 := hm.2.1
    simp only at h3 h4
    exact c_refSign k _ _ w ho.seed (by omega) (Nat.le_trans (bodyS_len (mayP_ok hm (by omega)) (by omega)) (by omega))
  refine enter (N := 47) Try.func29 rfl Try.ntmps29 rfl (Has.nil _) ?_
  refine wc_seq ?_
  refine wc_region ?_
  (refine wl_ef rfl (ef_box rfl rfl rfl) ?_; rintro _ _ ⟨b5, rfl, rfl⟩)
  (refine wl_ef rfl (ef_alloc rfl zerRq) ?_; rintro _ _ ⟨b10, rfl, rfl⟩)
  refine wl_val rfl rfl rfl (y_assign rfl) ?_
  refine wl_nil ?_
  refine q_then ?_
  refine wc_seq ?_
  refine wc_region ?_
  refine wl_val rfl rfl rfl (y_move rfl) ?_
  refine wl_val rfl rfl rfl (y_move rfl) ?_
  refine wl_val rfl rfl rfl (y_move rfl) ?_
  refine wl_val rfl rfl rfl (y_buildS bldRq rfl) ?_
  (refine wl_ef rfl (ef_alloc rfl zerRq) ?_; rintro _ _ ⟨b12, rfl, rfl⟩)
  (refine wl_ef rfl (ef_storeC siz71 rfl rfl rfl) ?_; rintro _ _ ⟨rfl, rfl⟩)
  refine wl_nil ?_
  refine q_then ?_
  refine wc_seq ?_
  refine wc_seq ?_
  refine wc_region ?_
  refine wl_val rfl rfl rfl (y_loadC agg71 rfl) ?_
  (refine wl_ef rfl (ef_callv0 rfl fun73 rfl (fun _ hw => (c_form 8 (rqOf client num data) _))) ?_; rintro _ _ ⟨rfl, rfl⟩)
  refine wl_val rfl rfl rfl (y_not rfl) ?_
  refine wl_nil ?_
  refine q_then ?_
  refine wc_cond rfl (fun hc0 => ?_) (fun hc0 => ?_)
  · first
    | ((try simp only [bsA, ne_eq] at hc0); exfalso; (first | with_reducible contradiction | omega | (simp at hc0; done)))
    | skip
      try simp only [bsA, ne_eq] at hc0
      refine wc_seq ?_
      refine wc_region ?_
      refine wl_val rfl rfl rfl (y_buildc (cs := Rq0.cells) rfl (fun w => by kernel_rfl)) ?_
      (refine wl_ef rfl (ef_storeC siz71 rfl rfl rfl) ?_; rintro _ _ ⟨rfl, rfl⟩)
      refine wl_val rfl rfl rfl (y_assign rfl) ?_
      refine wl_nil ?_
      refine q_then ?_
      refine wc_ret ?_
      refine q_thenRet ?_
      apply q_retg (rescC2 Try.results29 rfl rfl agg71) -- ret 0
      case hΨ =>
        exact ⟨by simp only [mk, ← hS]; split <;> (try split) <;> (try split) <;> first | rfl | (exfalso; grind), rfl⟩
      case hs =>
        exact SubC.out
  · first
    | ((try simp only [bsA, ne_eq] at hc0); exfalso; (first | with_reducible contradiction | omega | (simp at hc0; done)))
    | skip
      try simp only [bsA, ne_eq] at hc0
      have hm1 := hc0.1
      have hm2 := hc0.2.1
      simp only at hm1 hm2
      refine wc_skip ?_
      refine q_then ?_
      refine wc_seq ?_
      refine wc_seq ?_
      refine wc_region ?_
      refine wl_val rfl rfl rfl (y_move rfl) ?_
      refine wl_val rfl rfl rfl (y_lss rfl rfl) ?_
      refine wl_val rfl rfl rfl (y_move rfl) ?_
      apply wl_orp (d := 28)
      case ht =>
        intro hg1 hK1
        first
          | (refine wl_dead ?_ hK1 rfl; first | with_reducible contradiction | omega | (simp at hg1; done))
          | skip
            try simp only [bsA, ne_eq] at hg1
            refine wl_gskip rfl rfl rfl rfl rfl rfl rfl ?_
            refine wl_gskip rfl rfl rfl rfl rfl rfl rfl ?_
            refine wl_val rfl rfl rfl (y_pickt rfl rfl) ?_
            exact wl_leR hK1 (.cons rfl (by repeat (first | refine LeE.skip ?_ rfl | exact LeE.refl _)))
      case hf =>
        intro hg1 hK1
        first
          | (refine wl_dead ?_ hK1 rfl; first | with_reducible contradiction | omega | (simp at hg1; done))
          | skip
            try simp only [bsA, ne_eq] at hg1
            refine wl_gval rfl rfl rfl rfl rfl rfl rfl (y_move rfl) ?_
            refine wl_gval rfl rfl rfl rfl rfl rfl rfl (y_gtr rfl rfl) ?_
            first | refine wl_val rfl rfl rfl (y_pickt rfl rfl) ?_ | refine wl_val rfl rfl rfl (y_pickf rfl rfl) ?_
            exact wl_leR hK1 (.cons rfl (by repeat (first | refine LeE.skip ?_ rfl | exact LeE.refl _)))
      refine wl_nil ?_
      refine q_then ?_
      first | refine wc_cond rfl (fun hc1 => ?_) (fun hc1 => ?_) | refine wc_condb rfl (fun hc1 => ?_) (fun hc1 => ?_)
      · first
        | ((try simp only [bsA, ne_eq] at hc1); exfalso; (first | with_reducible contradiction | omega | (simp at hc1; done)))
        | skip
          try simp only [bsA, ne_eq] at hc1
          refine wc_seq ?_
          refine wc_region ?_
          refine wl_val rfl rfl rfl (y_buildc (cs := Rq0.cells) rfl (fun w => by kernel_rfl)) ?_
          (refine wl_ef rfl (ef_storeC siz71 rfl rfl rfl) ?_; rintro _ _ ⟨rfl, rfl⟩)
          refine wl_val rfl rfl rfl (y_assign rfl) ?_
          refine wl_nil ?_
          refine q_then ?_
          refine wc_ret ?_
          refine q_thenRet ?_
          apply q_retg (rescC2 Try.results29 rfl rfl agg71) -- ret 1
          case hΨ =>
            exact ⟨by simp only [mk, ← hS]; split <;> (try split) <;> (try split) <;> first | rfl | (exfalso; grind), rfl⟩
          case hs =>
            exact SubC.out
      · first
        | ((try simp only [bsA, ne_eq] at hc1); exfalso; (first | with_reducible contradiction | omega | (simp at hc1; done)))
        | skip
          try simp only [bsA, ne_eq] at hc1
          refine wc_skip ?_
          refine q_then ?_
          refine wc_seq ?_
          apply wc_later1
          case h =>
            intro hL6
            refine wa_begin_all (n := 13) (b := #[false, false, false, false, false, false, false, false, false, false, false, false, false]) mixed rfl rfl ?_
            refine wa_t 0 (by kernel_rfl) rfl rfl rfl rfl (y_loadC agg65 rfl) ?_
            refine wa_t 1 (by kernel_rfl) rfl rfl rfl rfl (y_move rfl) ?_
            refine wa_t 2 (by kernel_rfl) rfl rfl rfl rfl (y_move rfl) ?_
            refine wa_t 3 (by kernel_rfl) rfl rfl rfl rfl (y_addn rfl rfl (by omega)) ?_
            refine wa_t 4 (by kernel_rfl) rfl rfl rfl rfl (y_loadC agg71 rfl) ?_
            refine wa_all (rs := [5, 10]) (by kernel_rfl) (by simp) ?_
            intro i hi; simp only [List.mem_cons, List.mem_nil_iff, or_false] at hi
            rcases hi with rfl | rfl
            · (refine wo_e rfl rfl (ef_callv0 rfl fun32 rfl (fun _ hw => (c_refBody (rqOf client num data) _ (mayP_ok hc0 (by omega))))) ?_; rintro _ _ ⟨rfl, rfl⟩; refine ⟨.inr SubC.out, ?_⟩)
              refine wa_all (rs := [6, 10]) (by kernel_rfl) (by simp) ?_
              intro i hi; simp only [List.mem_cons, List.mem_nil_iff, or_false] at hi
              rcases hi with rfl | rfl
              · (refine wo_e rfl rfl (ef_callv0 rfl fun31 rfl (fun _ hw => (cs hc0 (by omega) _))) ?_; rintro _ _ ⟨rfl, rfl⟩; refine ⟨.inr SubC.out, ?_⟩)
                refine wa_t 7 (by kernel_rfl) rfl rfl rfl rfl (y_move rfl) ?_
                refine wa_t 8 (by kernel_rfl) rfl rfl rfl rfl (y_extract rfl rfl) ?_
                refine wa_t 9 (by kernel_rfl) rfl rfl rfl rfl (y_extract rfl rfl) ?_
                (refine wa_e 10 (by kernel_rfl) rfl rfl (ef_alloc rfl zerTg) ?_; rintro _ _ ⟨b13, rfl, rfl⟩; refine ⟨.inr SubC.out, ?_⟩)
                (refine wa_e 11 (by kernel_rfl) rfl rfl (ef_storeC siz69 rfl rfl rfl) ?_; rintro _ _ ⟨rfl, rfl⟩; refine ⟨.inr SubC.out, ?_⟩)
                refine wa_t 12 (by kernel_rfl) rfl rfl rfl rfl (y_assign rfl) ?_
                refine wa_done (by kernel_rfl) ?_
                refine q_then ?_
                exact wc_le (hL6 b13) (LeE.refl _) (SubL.refl _)
              · (refine wo_e rfl rfl (ef_alloc rfl zerTg) ?_; rintro _ _ ⟨b13, rfl, rfl⟩; refine ⟨.inr SubC.out, ?_⟩)
                (refine wa_e 6 (by kernel_rfl) rfl rfl (ef_callv0 rfl fun31 rfl (fun _ hw => (cs hc0 (by omega) _))) ?_; rintro _ _ ⟨rfl, rfl⟩; refine ⟨.inr SubC.out, ?_⟩)
                refine wa_t 7 (by kernel_rfl) rfl rfl rfl rfl (y_move rfl) ?_
                refine wa_t 8 (by kernel_rfl) rfl rfl rfl rfl (y_extract rfl rfl) ?_
                refine wa_t 9 (by kernel_rfl) rfl rfl rfl rfl (y_extract rfl rfl) ?_
                (refine wa_e 11 (by kernel_rfl) rfl rfl (ef_storeC siz69 rfl rfl rfl) ?_; rintro _ _ ⟨rfl, rfl⟩; refine ⟨.inr SubC.out, ?_⟩)
                refine wa_t 12 (by kernel_rfl) rfl rfl rfl rfl (y_assign rfl) ?_
                refine wa_done (by kernel_rfl) ?_
                refine q_then ?_
                first | exact wc_le (hL6 b13) (LeE.refl _) (SubL.refl _) | exact wc_le (hL6 b13) (by repeat (first | (focus ((repeat refine LeE.skip ?_ rfl); exact LeE.refl _)) | refine LeE.cons rfl ?_)) SubC.out
            · (refine wo_e rfl rfl (ef_alloc rfl zerTg) ?_; rintro _ _ ⟨b13, rfl, rfl⟩; refine ⟨.inr SubC.out, ?_⟩)
              (refine wa_e 5 (by kernel_rfl) rfl rfl (ef_callv0 rfl fun32 rfl (fun _ hw => (c_refBody (rqOf client num data) _ (mayP_ok hc0 (by omega))))) ?_; rintro _ _ ⟨rfl, rfl⟩; refine ⟨.inr SubC.out, ?_⟩)
              (refine wa_e 6 (by kernel_rfl) rfl rfl (ef_callv0 rfl fun31 rfl (fun _ hw => (cs hc0 (by omega) _))) ?_; rintro _ _ ⟨rfl, rfl⟩; refine ⟨.inr SubC.out, ?_⟩)
              refine wa_t 7 (by kernel_rfl) rfl rfl rfl rfl (y_move rfl) ?_
              refine wa_t 8 (by kernel_rfl) rfl rfl rfl rfl (y_extract rfl rfl) ?_
              refine wa_t 9 (by kernel_rfl) rfl rfl rfl rfl (y_extract rfl rfl) ?_
              (refine wa_e 11 (by kernel_rfl) rfl rfl (ef_storeC siz69 rfl rfl rfl) ?_; rintro _ _ ⟨rfl, rfl⟩; refine ⟨.inr SubC.out, ?_⟩)
              refine wa_t 12 (by kernel_rfl) rfl rfl rfl rfl (y_assign rfl) ?_
              refine wa_done (by kernel_rfl) ?_
              refine q_then ?_
              first | exact wc_le (hL6 b13) (LeE.refl _) (SubL.refl _) | exact wc_le (hL6 b13) (by repeat (first | (focus ((repeat refine LeE.skip ?_ rfl); exact LeE.refl _)) | refine LeE.cons rfl ?_)) SubC.out
          intro b13
          refine wc_seq ?_
          refine wc_seq ?_
          refine wc_region ?_
          refine wl_val rfl rfl rfl (y_move rfl) ?_
          refine wl_val rfl rfl rfl (y_neq rfl rfl) ?_
          refine wl_nil ?_
          refine q_then ?_
          refine wc_cond rfl (fun hc2 => ?_) (fun hc2 => ?_)
          · first
            | ((try simp only [bsA, ne_eq] at hc2); exfalso; (first | with_reducible contradiction | omega | (simp at hc2; done)))
            | skip
              try simp only [bsA, ne_eq] at hc2
              refine wc_seq ?_
              refine wc_region ?_
              refine wl_val rfl rfl rfl (y_buildc (cs := Rq0.cells) rfl (fun w => by kernel_rfl)) ?_
              refine wl_val rfl rfl rfl (y_move rfl) ?_
              (refine wl_ef rfl (ef_storeC siz71 rfl rfl rfl) ?_; rintro _ _ ⟨rfl, rfl⟩)
              refine wl_val rfl rfl rfl (y_assign rfl) ?_
              refine wl_nil ?_
              refine q_then ?_
              refine wc_ret ?_
              refine q_thenRet ?_
              apply q_retg (rescC2 Try.results29 rfl rfl agg71) -- ret 2
              case hΨ =>
                exact ⟨by simp only [mk, ← hS]; split <;> (try split) <;> (try split) <;> first | rfl | (exfalso; grind), rfl⟩
              case hs =>
                exact SubC.out
          · first
            | ((try simp only [bsA, ne_eq] at hc2); exfalso; (first | with_reducible contradiction | omega | (simp at hc2; done)))
            | skip
              try simp only [bsA, ne_eq] at hc2
              refine wc_skip ?_
              refine q_then ?_
              refine wc_seq ?_
              refine wc_region ?_
              refine wl_val rfl rfl rfl (y_loadC agg69 rfl) ?_
              refine wl_val rfl rfl rfl (y_field0 fa71_3 rfl) ?_
              (refine wl_ef rfl (ef_storeC siz69 rfl rfl rfl) ?_; rintro _ _ ⟨rfl, rfl⟩)
              refine wl_nil ?_
              refine q_then ?_
              refine wc_seq ?_
              refine wc_region ?_
              refine wl_val rfl rfl rfl (y_loadC agg71 rfl) ?_
              (refine wl_ef rfl (ef_storeC siz71 rfl rfl rfl) ?_; rintro _ _ ⟨rfl, rfl⟩)
              refine wl_val rfl rfl rfl (y_assign rfl) ?_
              refine wl_nil ?_
              refine q_then ?_
              refine wc_ret ?_
              apply q_retg (rescC2 Try.results29 rfl rfl agg71) -- ret 3
              case hΨ =>
                exact ⟨by simp only [mk, ← hS]; split <;> (try split) <;> (try split) <;> first | rfl | (exfalso; grind), rfl⟩
              case hs =>
                exact SubC.out
def gd (k : Ks) (nodes clients : Int) (r : Rq) : Int :=
  if ¬ mayP clients r then 60 else if nodes < 0 ∨ 64 < nodes ∨ sgn k (nodes + r.client) (bodyS r) ≠ (r.tag, 0) then 61 else 0
theorem sgn_far {k : Ks} {id : Int} {b : ByteArray} {t : Tg} (h : k.n ≤ id) : sgn k id b ≠ (t, 0) := by
  rw [sgn, if_pos (Or.inr h)]
  simp
theorem c_Good (b : Nat) (k : Ks) (nodes clients : Int) (r : Rq) (w : World) (hk : InB w b k.cells) (ho : KsOk k) (hcl : clients ≤ 9223372036854775807) :
    Calls Try.prog 30 #[.pointer (some ⟨b, 0, none⟩), .int .i64 nodes, .int .i64 clients, .agg r.cells.toArray] w (RV w (.int .i64 (gd k nodes clients r))) := by
  have hn := ho.n
  have cs : mayP clients r → nodes + r.client ≤ 9223372036854775807 → ∀ w, InB w b k.cells → Calls Try.prog 67 #[.pointer (some ⟨b, 0, none⟩), .int .i64 (nodes + r.client), .string (bodyS r), .agg (bvs r.tag.1).toArray] w (RV w (.bool (decide (sgn k (nodes + r.client) (bodyS r) = (r.tag, 0))))) := fun hm h2 w h =>
    c_Check b k _ _ r.tag w h (by omega) ho.seed h2 (Nat.le_trans (bodyS_len (mayP_ok hm hcl) (by omega)) (by omega))
  refine enter (N := 45) Try.func30 rfl Try.ntmps30 rfl (Has.nil _) ?_
  refine wc_seq ?_
  refine wc_region ?_
  (refine wl_ef rfl (ef_box rfl rfl rfl) ?_; rintro _ _ ⟨b7, rfl, rfl⟩)
  refine wl_val rfl rfl rfl (y_assign rfl) ?_
  refine wl_nil ?_
  refine q_then ?_
  refine wc_seq ?_
  refine wc_block ?_
  refine wc_seq ?_
  refine wc_region ?_
  refine wl_val rfl rfl rfl (y_move rfl) ?_
  (refine wl_ef rfl (ef_callv0 rfl fun70 rfl (fun _ hw => (c_Len b k _ (hk.go hw)))) ?_; rintro _ _ ⟨rfl, rfl⟩)
  refine wl_val rfl rfl rfl (y_eql rfl rfl) ?_
  refine wl_val rfl rfl rfl (y_assign rfl) ?_
  refine wl_nil ?_
  refine q_then ?_
  refine wc_cond rfl (fun hc0 => ?_) (fun hc0 => ?_)
  · exfalso; (try simp only [bsA, ne_eq] at hc0); omega
  · first
    | ((try simp only [bsA, ne_eq] at hc0); exfalso; (first | with_reducible contradiction | omega | (simp at hc0; done)))
    | skip
      try simp only [bsA, ne_eq] at hc0
      refine wc_seq ?_
      refine wc_region ?_
      refine wl_val rfl rfl rfl (y_move rfl) ?_
      refine wl_val rfl rfl rfl (y_loadC agg71 rfl) ?_
      (refine wl_ef rfl (ef_callv0 rfl fun71 rfl (fun _ hw => (c_may clients r _))) ?_; rintro _ _ ⟨rfl, rfl⟩)
      refine wl_val rfl rfl rfl (y_not rfl) ?_
      refine wl_val rfl rfl rfl (y_assign rfl) ?_
      refine wl_nil ?_
      refine q_then ?_
      refine wc_cond rfl (fun hc1 => ?_) (fun hc1 => ?_)
      · first
        | ((try simp only [bsA, ne_eq] at hc1); exfalso; (first | with_reducible contradiction | omega | (simp at hc1; done)))
        | skip
          try simp only [bsA, ne_eq] at hc1
          refine wc_seq ?_
          refine wc_region ?_
          refine wl_val rfl rfl rfl (y_assign rfl) ?_
          refine wl_nil ?_
          refine q_then ?_
          refine wc_ret ?_
          refine q_blockRet ?_
          refine q_thenRet ?_
          apply q_retg (res1 Try.results30 rfl) -- ret 1
          case hΨ =>
            exact ⟨by rw [gd, if_pos hc1], rfl⟩
          case hs =>
            exact SubC.out
      · first
        | ((try simp only [bsA, ne_eq] at hc1); exfalso; (first | with_reducible contradiction | omega | (simp at hc1; done)))
        | skip
          try simp only [bsA, ne_eq] at hc1
          have hm1 := hc1.1
          have hm2 := hc1.2.1
          refine wc_seq ?_
          refine wa_begin_all (n := 27) (b := #[false, false, false, false, false, false, false, false, false, false, false, false, false, false, false, false, false, false, false, false, false, false, false, false, false, false, false]) mixed rfl rfl ?_
          refine wa_t 0 (by kernel_rfl) rfl rfl rfl rfl (y_move rfl) ?_
          refine wa_t 1 (by kernel_rfl) rfl rfl rfl rfl (y_lss rfl rfl) ?_
          refine wa_t 2 (by kernel_rfl) rfl rfl rfl rfl (y_move rfl) ?_
          apply wa_orp (d := 24)
          case ht =>
            intro hg1 hK1
            first
              | (refine wa_dead ?_ hK1 rfl; first | with_reducible contradiction | omega | (simp at hg1; done))
              | skip
                try simp only [bsA, ne_eq] at hg1
                refine wa_gs 3 (by kernel_rfl) rfl rfl rfl rfl rfl rfl rfl rfl ?_
                refine wa_gs 4 (by kernel_rfl) rfl rfl rfl rfl rfl rfl rfl rfl ?_
                refine wa_t 5 (by kernel_rfl) rfl rfl rfl rfl (y_pickt rfl rfl) ?_
                exact wa_leR hK1 (.cons rfl (by repeat (first | refine LeE.skip ?_ rfl | exact LeE.refl _)))
          case hf =>
            intro hg1 hK1
            first
              | (refine wa_dead ?_ hK1 rfl; first | with_reducible contradiction | omega | (simp at hg1; done))
              | skip
                try simp only [bsA, ne_eq] at hg1
                refine wa_gt 3 (by kernel_rfl) rfl rfl rfl rfl rfl rfl rfl rfl (y_move rfl) ?_
                refine wa_gt 4 (by kernel_rfl) rfl rfl rfl rfl rfl rfl rfl rfl (y_gtr rfl rfl) ?_
                first | refine wa_t 5 (by kernel_rfl) rfl rfl rfl rfl (y_pickt rfl rfl) ?_ | refine wa_t 5 (by kernel_rfl) rfl rfl rfl rfl (y_pickf rfl rfl) ?_
                exact wa_leR hK1 (.cons rfl (by repeat (first | refine LeE.skip ?_ rfl | exact LeE.refl _)))
          refine wa_t 6 (by kernel_rfl) rfl rfl rfl rfl (y_move rfl) ?_
          first | apply wa_orp (d := 31) | apply wa_or (d := 31)
          case ht =>
            intro hg2 hK2
            first
              | (refine wa_dead ?_ hK2 rfl; first | with_reducible contradiction | omega | (simp at hg2; done))
              | skip
                try simp only [bsA, ne_eq] at hg2
                refine wa_gs 7 (by kernel_rfl) rfl rfl rfl rfl rfl rfl rfl rfl ?_
                refine wa_gs 8 (by kernel_rfl) rfl rfl rfl rfl rfl rfl rfl rfl ?_
                refine wa_gs 9 (by kernel_rfl) rfl rfl rfl rfl rfl rfl rfl rfl ?_
                refine wa_gs 10 (by kernel_rfl) rfl rfl rfl rfl rfl rfl rfl rfl ?_
                refine wa_gs 11 (by kernel_rfl) rfl rfl rfl rfl rfl rfl rfl rfl ?_
                refine wa_t 12 (by kernel_rfl) rfl rfl rfl rfl (y_pickt rfl rfl) ?_
                exact wa_leR hK2 (.cons rfl (by repeat (first | refine LeE.skip ?_ rfl | exact LeE.refl _)))
          case hf =>
            intro hg2 hK2
            first
              | (refine wa_dead ?_ hK2 rfl; first | with_reducible contradiction | omega | (simp at hg2; done))
              | skip
                try simp only [bsA, ne_eq] at hg2
                refine wa_gt 7 (by kernel_rfl) rfl rfl rfl rfl rfl rfl rfl rfl (y_field0 fa71_0 rfl) ?_
                refine wa_gt 8 (by kernel_rfl) rfl rfl rfl rfl rfl rfl rfl rfl (y_loadA one3 rfl) ?_
                refine wa_gt 9 (by kernel_rfl) rfl rfl rfl rfl rfl rfl rfl rfl (y_move rfl) ?_
                (refine wa_ge 10 (by kernel_rfl) rfl rfl rfl rfl rfl rfl (ef_callv0 rfl fun70 rfl (fun _ hw => (c_Len b k _ (hk.go hw)))) ?_; rintro _ _ ⟨rfl, rfl⟩; refine ⟨.inr SubC.out, ?_⟩)
                refine wa_gt 11 (by kernel_rfl) rfl rfl rfl rfl rfl rfl rfl rfl (y_geq rfl rfl) ?_
                first | refine wa_t 12 (by kernel_rfl) rfl rfl rfl rfl (y_pickt rfl rfl) ?_ | refine wa_t 12 (by kernel_rfl) rfl rfl rfl rfl (y_pickf rfl rfl) ?_
                exact wa_leR hK2 (.cons rfl (by repeat (first | refine LeE.skip ?_ rfl | exact LeE.refl _)))
          refine wa_t 13 (by kernel_rfl) rfl rfl rfl rfl (y_move rfl) ?_
          first | apply wa_orp (d := 44) | apply wa_or (d := 44)
          case ht =>
            intro hg3 hK3
            first
              | (refine wa_dead ?_ hK3 rfl; first | with_reducible contradiction | omega | (simp at hg3; done))
              | skip
                try simp only [bsA, ne_eq] at hg3
                refine wa_gs 14 (by kernel_rfl) rfl rfl rfl rfl rfl rfl rfl rfl ?_
                refine wa_gs 15 (by kernel_rfl) rfl rfl rfl rfl rfl rfl rfl rfl ?_
                refine wa_gs 16 (by kernel_rfl) rfl rfl rfl rfl rfl rfl rfl rfl ?_
                refine wa_gs 17 (by kernel_rfl) rfl rfl rfl rfl rfl rfl rfl rfl ?_
                refine wa_gs 18 (by kernel_rfl) rfl rfl rfl rfl rfl rfl rfl rfl ?_
                refine wa_gs 19 (by kernel_rfl) rfl rfl rfl rfl rfl rfl rfl rfl ?_
                refine wa_gs 20 (by kernel_rfl) rfl rfl rfl rfl rfl rfl rfl rfl ?_
                refine wa_gs 21 (by kernel_rfl) rfl rfl rfl rfl rfl rfl rfl rfl ?_
                refine wa_gs 22 (by kernel_rfl) rfl rfl rfl rfl rfl rfl rfl rfl ?_
                refine wa_gs 23 (by kernel_rfl) rfl rfl rfl rfl rfl rfl rfl rfl ?_
                refine wa_gs 24 (by kernel_rfl) rfl rfl rfl rfl rfl rfl rfl rfl ?_
                refine wa_t 25 (by kernel_rfl) rfl rfl rfl rfl (y_pickt rfl rfl) ?_
                exact wa_leR hK3 (.cons rfl (by repeat (first | refine LeE.skip ?_ rfl | exact LeE.refl _)))
          case hf =>
            intro hg3 hK3
            first
              | (refine wa_dead ?_ hK3 rfl; first | with_reducible contradiction | omega | (simp at hg3; done))
              | skip
                try simp only [bsA, ne_eq] at hg3
                refine wa_gt 14 (by kernel_rfl) rfl rfl rfl rfl rfl rfl rfl rfl (y_move rfl) ?_
                refine wa_gt 15 (by kernel_rfl) rfl rfl rfl rfl rfl rfl rfl rfl (y_move rfl) ?_
                refine wa_gt 16 (by kernel_rfl) rfl rfl rfl rfl rfl rfl rfl rfl (y_field0 fa71_0 rfl) ?_
                refine wa_gt 17 (by kernel_rfl) rfl rfl rfl rfl rfl rfl rfl rfl (y_loadA one3 rfl) ?_
                refine wa_gt 18 (by kernel_rfl) rfl rfl rfl rfl rfl rfl rfl rfl (y_addn rfl rfl (by omega)) ?_
                refine wa_gt 19 (by kernel_rfl) rfl rfl rfl rfl rfl rfl rfl rfl (y_loadC agg71 rfl) ?_
                refine wa_gt 21 (by kernel_rfl) rfl rfl rfl rfl rfl rfl rfl rfl (y_field0 fa71_3 rfl) ?_
                refine wa_gt 22 (by kernel_rfl) rfl rfl rfl rfl rfl rfl rfl rfl (y_loadC agg69 rfl) ?_
                (refine wa_ge 20 (by kernel_rfl) rfl rfl rfl rfl rfl rfl (ef_callv0 rfl fun39 rfl (fun _ hw => (c_Body r _ (mayP_ok hc1 hcl)))) ?_; rintro _ _ ⟨rfl, rfl⟩; refine ⟨.inr SubC.out, ?_⟩)
                (refine wa_ge 23 (by kernel_rfl) rfl rfl rfl rfl rfl rfl (ef_callv0 rfl fun67 rfl (fun _ hw => (cs hc1 (by omega) _ (hk.go hw)))) ?_; rintro _ _ ⟨rfl, rfl⟩; refine ⟨.inl (by kernel_rfl), ?_⟩)
                refine wa_gt 24 (by kernel_rfl) rfl rfl rfl rfl rfl rfl rfl rfl (y_not rfl) ?_
                first | refine wa_t 25 (by kernel_rfl) rfl rfl rfl rfl (y_pickt rfl rfl) ?_ | refine wa_t 25 (by kernel_rfl) rfl rfl rfl rfl (y_pickf rfl rfl) ?_
                exact wa_leR hK3 (.cons rfl (by repeat (first | refine LeE.skip ?_ rfl | exact LeE.refl _)))
          refine wa_t 26 (by kernel_rfl) rfl rfl rfl rfl (y_assign rfl) ?_
          refine wa_done (by kernel_rfl) ?_
          refine q_then ?_
          first | refine wc_cond rfl (fun hc2 => ?_) (fun hc2 => ?_) | refine wc_condb rfl (fun hc2 => ?_) (fun hc2 => ?_)
          · first
            | ((try simp only [bsA, ne_eq] at hc2); exfalso; (first | with_reducible contradiction | omega | (simp at hc2; done)))
            | skip
              try simp only [bsA, ne_eq] at hc2
              refine wc_seq ?_
              refine wc_region ?_
              refine wl_val rfl rfl rfl (y_assign rfl) ?_
              refine wl_nil ?_
              refine q_then ?_
              refine wc_ret ?_
              refine q_blockRet ?_
              refine q_thenRet ?_
              apply q_retg (res1 Try.results30 rfl) -- ret 2
              case hΨ =>
                exact ⟨by rw [gd, if_neg (by simpa using hc1), if_pos (by rcases Int.lt_or_le r.client k.n with h | h; grind; exact if hx : nodes < 0 then .inl hx else .inr (.inr (sgn_far (by omega))))], rfl⟩
              case hs =>
                exact SubC.out
          · first
            | ((try simp only [bsA, ne_eq] at hc2); exfalso; (first | with_reducible contradiction | omega | (simp at hc2; done)))
            | skip
              try simp only [bsA, ne_eq] at hc2
              refine wc_skip ?_
              refine q_blockNormal ?_
              refine q_then ?_
              refine wc_seq ?_
              refine wc_region ?_
              refine wl_val rfl rfl rfl (y_assign rfl) ?_
              refine wl_nil ?_
              refine q_then ?_
              refine wc_ret ?_
              apply q_retg (res1 Try.results30 rfl) -- ret 3
              case hΨ =>
                exact ⟨by rw [gd, if_neg (by simpa using hc1), if_neg (by grind)], rfl⟩
              case hs =>
                exact SubC.out
theorem c_GoodNil (nodes clients : Int) (r : Rq) (w : World) : Calls Try.prog 30 #[.pointer none, .int .i64 nodes, .int .i64 clients, .agg r.cells.toArray] w (RV w (.int .i64 1)) := by
  refine enter (N := 45) Try.func30 rfl Try.ntmps30 rfl (Has.nil _) ?_
  refine wc_seq ?_
  refine wc_region ?_
  (refine wl_ef rfl (ef_box rfl rfl rfl) ?_; rintro _ _ ⟨b7, rfl, rfl⟩)
  refine wl_val rfl rfl rfl (y_assign rfl) ?_
  refine wl_nil ?_
  refine q_then ?_
  refine wc_seq ?_
  refine wc_block ?_
  refine wc_seq ?_
  refine wc_region ?_
  refine wl_val rfl rfl rfl (y_move rfl) ?_
  (refine wl_ef rfl (ef_callv0 rfl fun70 rfl (fun _ hw => (c_LenNil _))) ?_; rintro _ _ ⟨rfl, rfl⟩)
  refine wl_val rfl rfl rfl (y_eql rfl rfl) ?_
  refine wl_val rfl rfl rfl (y_assign rfl) ?_
  refine wl_nil ?_
  refine q_then ?_
  refine wc_cond rfl (fun hc0 => ?_) (fun hc0 => ?_)
  · first
    | ((try simp only [bsA, ne_eq] at hc0); exfalso; (first | with_reducible contradiction | omega | (simp at hc0; done)))
    | skip
      try simp only [bsA, ne_eq] at hc0
      refine wc_seq ?_
      refine wc_region ?_
      refine wl_val rfl rfl rfl (y_assign rfl) ?_
      refine wl_nil ?_
      refine q_then ?_
      refine wc_ret ?_
      refine q_blockRet ?_
      refine q_thenRet ?_
      apply q_retg (res1 Try.results30 rfl) -- ret 0
      case hΨ =>
        first | exact ⟨rfl, rfl⟩ | exact rfl
      case hs =>
        exact SubC.out
  · exfalso; (try simp only [bsA, ne_eq] at hc0); simp at hc0
theorem c_MakeNil (nodes client num : Int) (data : ByteArray) (w : World) : Calls Try.prog 28 #[.pointer none, .int .i64 nodes, .int .i64 client, .int .i64 num, .string data] w (RV w (.tuple #[.agg Rq0.cells.toArray, .int .i64 1])) := by
  refine enter (N := 54) Try.func28 rfl Try.ntmps28 rfl (Has.nil _) ?_
  refine wc_seq ?_
  refine wc_region ?_
  (refine wl_ef rfl (ef_alloc rfl zerRq) ?_; rintro _ _ ⟨b10, rfl, rfl⟩)
  refine wl_val rfl rfl rfl (y_assign rfl) ?_
  refine wl_nil ?_
  refine q_then ?_
  refine wc_seq ?_
  refine wc_region ?_
  refine wl_val rfl rfl rfl (y_move rfl) ?_
  refine wl_val rfl rfl rfl (y_move rfl) ?_
  refine wl_val rfl rfl rfl (y_move rfl) ?_
  refine wl_val rfl rfl rfl (y_buildS bldRq rfl) ?_
  (refine wl_ef rfl (ef_alloc rfl zerRq) ?_; rintro _ _ ⟨b12, rfl, rfl⟩)
  (refine wl_ef rfl (ef_storeC siz71 rfl rfl rfl) ?_; rintro _ _ ⟨rfl, rfl⟩)
  refine wl_nil ?_
  refine q_then ?_
  refine wc_seq ?_
  refine wc_block ?_
  refine wc_seq ?_
  refine wc_region ?_
  refine wl_val rfl rfl rfl (y_move rfl) ?_
  (refine wl_ef rfl (ef_callv0 rfl fun70 rfl (fun _ hw => (c_LenNil _))) ?_; rintro _ _ ⟨rfl, rfl⟩)
  refine wl_val rfl rfl rfl (y_eql rfl rfl) ?_
  refine wl_val rfl rfl rfl (y_assign rfl) ?_
  refine wl_nil ?_
  refine q_then ?_
  refine wc_cond rfl (fun hc0 => ?_) (fun hc0 => ?_)
  · first
    | ((try simp only [bsA, ne_eq] at hc0); exfalso; (first | with_reducible contradiction | omega | (simp at hc0; done)))
    | skip
      try simp only [bsA, ne_eq] at hc0
      refine wc_seq ?_
      refine wc_region ?_
      refine wl_val rfl rfl rfl (y_buildc (cs := Rq0.cells) rfl (fun w => by kernel_rfl)) ?_
      (refine wl_ef rfl (ef_storeC siz71 rfl rfl rfl) ?_; rintro _ _ ⟨rfl, rfl⟩)
      refine wl_val rfl rfl rfl (y_assign rfl) ?_
      refine wl_nil ?_
      refine q_then ?_
      refine wc_ret ?_
      refine q_blockRet ?_
      refine q_thenRet ?_
      apply q_retg (rescC2 Try.results28 rfl rfl agg71) -- ret 0
      case hΨ =>
        first | exact ⟨rfl, rfl⟩ | exact rfl
      case hs =>
        exact SubC.out
  · exfalso; (try simp only [bsA, ne_eq] at hc0); simp at hc0
theorem c_refGood (k : Ks) (nodes clients : Int) (r : Rq) (w : World) (ho : KsOk k) (hcl : clients ≤ 9223372036854775807) :
    Calls Try.prog 40 #[.agg k.cells.toArray, .int .i64 nodes, .int .i64 clients, .agg r.cells.toArray] w (RV w (.int .i64 (gd k nodes clients r))) := by
  have hn := ho.n
  have cs : mayP clients r → nodes + r.client ≤ 9223372036854775807 → ∀ w, Calls Try.prog 84 #[.agg k.cells.toArray, .int .i64 (nodes + r.client), .string (bodyS r), .agg (bvs r.tag.1).toArray] w (RV w (.bool (decide (sgn k (nodes + r.client) (bodyS r) = (r.tag, 0))))) := fun hm h2 w =>
    c_refCheck k _ _ r.tag w ho.seed h2 (Nat.le_trans (bodyS_len (mayP_ok hm hcl) (by omega)) (by omega))
  refine enter (N := 37) Try.func40 rfl Try.ntmps40 rfl (Has.nil _) ?_
  refine wc_seq ?_
  refine wc_region ?_
  (refine wl_ef rfl (ef_box rfl rfl rfl) ?_; rintro _ _ ⟨b4, rfl, rfl⟩)
  (refine wl_ef rfl (ef_box rfl rfl rfl) ?_; rintro _ _ ⟨b7, rfl, rfl⟩)
  refine wl_val rfl rfl rfl (y_assign rfl) ?_
  refine wl_nil ?_
  refine q_then ?_
  refine wc_seq ?_
  refine wc_seq ?_
  refine wc_region ?_
  refine wl_val rfl rfl rfl (y_move rfl) ?_
  refine wl_val rfl rfl rfl (y_loadC agg71 rfl) ?_
  (refine wl_ef rfl (ef_callv0 rfl fun73 rfl (fun _ hw => (c_form clients r _))) ?_; rintro _ _ ⟨rfl, rfl⟩)
  refine wl_val rfl rfl rfl (y_not rfl) ?_
  refine wl_nil ?_
  refine q_then ?_
  refine wc_cond rfl (fun hc0 => ?_) (fun hc0 => ?_)
  · first
    | ((try simp only [bsA, ne_eq] at hc0); exfalso; (first | with_reducible contradiction | omega | (simp at hc0; done)))
    | skip
      try simp only [bsA, ne_eq] at hc0
      refine wc_seq ?_
      refine wc_region ?_
      refine wl_val rfl rfl rfl (y_assign rfl) ?_
      refine wl_nil ?_
      refine q_then ?_
      refine wc_ret ?_
      refine q_thenRet ?_
      apply q_retg (res1 Try.results40 rfl) -- ret 0
      case hΨ =>
        exact ⟨by rw [gd, if_pos hc0], rfl⟩
      case hs =>
        exact SubC.out
  · first
    | ((try simp only [bsA, ne_eq] at hc0); exfalso; (first | with_reducible contradiction | omega | (simp at hc0; done)))
    | skip
      try simp only [bsA, ne_eq] at hc0
      have hm1 := hc0.1
      have hm2 := hc0.2.1
      refine wc_skip ?_
      refine q_then ?_
      refine wc_seq ?_
      refine wc_seq ?_
      refine wa_begin_all (n := 24) (b := #[false, false, false, false, false, false, false, false, false, false, false, false, false, false, false, false, false, false, false, false, false, false, false, false]) mixed rfl rfl ?_
      refine wa_t 0 (by kernel_rfl) rfl rfl rfl rfl (y_move rfl) ?_
      refine wa_t 1 (by kernel_rfl) rfl rfl rfl rfl (y_lss rfl rfl) ?_
      refine wa_t 2 (by kernel_rfl) rfl rfl rfl rfl (y_move rfl) ?_
      apply wa_orp (d := 18)
      case ht =>
        intro hg1 hK1
        first
          | (refine wa_dead ?_ hK1 rfl; first | with_reducible contradiction | omega | (simp at hg1; done))
          | skip
            try simp only [bsA, ne_eq] at hg1
            refine wa_gs 3 (by kernel_rfl) rfl rfl rfl rfl rfl rfl rfl rfl ?_
            refine wa_gs 4 (by kernel_rfl) rfl rfl rfl rfl rfl rfl rfl rfl ?_
            refine wa_t 5 (by kernel_rfl) rfl rfl rfl rfl (y_pickt rfl rfl) ?_
            exact wa_leR hK1 (.cons rfl (by repeat (first | refine LeE.skip ?_ rfl | exact LeE.refl _)))
      case hf =>
        intro hg1 hK1
        first
          | (refine wa_dead ?_ hK1 rfl; first | with_reducible contradiction | omega | (simp at hg1; done))
          | skip
            try simp only [bsA, ne_eq] at hg1
            refine wa_gt 3 (by kernel_rfl) rfl rfl rfl rfl rfl rfl rfl rfl (y_move rfl) ?_
            refine wa_gt 4 (by kernel_rfl) rfl rfl rfl rfl rfl rfl rfl rfl (y_gtr rfl rfl) ?_
            first | refine wa_t 5 (by kernel_rfl) rfl rfl rfl rfl (y_pickt rfl rfl) ?_ | refine wa_t 5 (by kernel_rfl) rfl rfl rfl rfl (y_pickf rfl rfl) ?_
            exact wa_leR hK1 (.cons rfl (by repeat (first | refine LeE.skip ?_ rfl | exact LeE.refl _)))
      refine wa_t 6 (by kernel_rfl) rfl rfl rfl rfl (y_move rfl) ?_
      first | apply wa_orp (d := 23) | apply wa_or (d := 23)
      case ht =>
        intro hg2 hK2
        first
          | (refine wa_dead ?_ hK2 rfl; first | with_reducible contradiction | omega | (simp at hg2; done))
          | skip
            try simp only [bsA, ne_eq] at hg2
            refine wa_gs 7 (by kernel_rfl) rfl rfl rfl rfl rfl rfl rfl rfl ?_
            refine wa_gs 8 (by kernel_rfl) rfl rfl rfl rfl rfl rfl rfl rfl ?_
            refine wa_gs 9 (by kernel_rfl) rfl rfl rfl rfl rfl rfl rfl rfl ?_
            refine wa_t 10 (by kernel_rfl) rfl rfl rfl rfl (y_pickt rfl rfl) ?_
            exact wa_leR hK2 (.cons rfl (by repeat (first | refine LeE.skip ?_ rfl | exact LeE.refl _)))
      case hf =>
        intro hg2 hK2
        first
          | (refine wa_dead ?_ hK2 rfl; first | with_reducible contradiction | omega | (simp at hg2; done))
          | skip
            try simp only [bsA, ne_eq] at hg2
            refine wa_gt 7 (by kernel_rfl) rfl rfl rfl rfl rfl rfl rfl rfl (y_field0 fa71_0 rfl) ?_
            refine wa_gt 8 (by kernel_rfl) rfl rfl rfl rfl rfl rfl rfl rfl (y_loadA one3 rfl) ?_
            refine wa_gt 9 (by kernel_rfl) rfl rfl rfl rfl rfl rfl rfl rfl (y_gtr rfl rfl) ?_
            first | refine wa_t 10 (by kernel_rfl) rfl rfl rfl rfl (y_pickt rfl rfl) ?_ | refine wa_t 10 (by kernel_rfl) rfl rfl rfl rfl (y_pickf rfl rfl) ?_
            exact wa_leR hK2 (.cons rfl (by repeat (first | refine LeE.skip ?_ rfl | exact LeE.refl _)))
      refine wa_t 11 (by kernel_rfl) rfl rfl rfl rfl (y_move rfl) ?_
      first | apply wa_orp (d := 36) | apply wa_or (d := 36)
      case ht =>
        intro hg3 hK3
        first
          | (refine wa_dead ?_ hK3 rfl; first | with_reducible contradiction | omega | (simp at hg3; done))
          | skip
            try simp only [bsA, ne_eq] at hg3
            refine wa_gs 12 (by kernel_rfl) rfl rfl rfl rfl rfl rfl rfl rfl ?_
            refine wa_gs 13 (by kernel_rfl) rfl rfl rfl rfl rfl rfl rfl rfl ?_
            refine wa_gs 14 (by kernel_rfl) rfl rfl rfl rfl rfl rfl rfl rfl ?_
            refine wa_gs 15 (by kernel_rfl) rfl rfl rfl rfl rfl rfl rfl rfl ?_
            refine wa_gs 16 (by kernel_rfl) rfl rfl rfl rfl rfl rfl rfl rfl ?_
            refine wa_gs 17 (by kernel_rfl) rfl rfl rfl rfl rfl rfl rfl rfl ?_
            refine wa_gs 18 (by kernel_rfl) rfl rfl rfl rfl rfl rfl rfl rfl ?_
            refine wa_gs 19 (by kernel_rfl) rfl rfl rfl rfl rfl rfl rfl rfl ?_
            refine wa_gs 20 (by kernel_rfl) rfl rfl rfl rfl rfl rfl rfl rfl ?_
            refine wa_gs 21 (by kernel_rfl) rfl rfl rfl rfl rfl rfl rfl rfl ?_
            refine wa_gs 22 (by kernel_rfl) rfl rfl rfl rfl rfl rfl rfl rfl ?_
            refine wa_t 23 (by kernel_rfl) rfl rfl rfl rfl (y_pickt rfl rfl) ?_
            exact wa_leR hK3 (.cons rfl (by repeat (first | refine LeE.skip ?_ rfl | exact LeE.refl _)))
      case hf =>
        intro hg3 hK3
        first
          | (refine wa_dead ?_ hK3 rfl; first | with_reducible contradiction | omega | (simp at hg3; done))
          | skip
            try simp only [bsA, ne_eq] at hg3
            refine wa_gt 12 (by kernel_rfl) rfl rfl rfl rfl rfl rfl rfl rfl (y_loadC agg65 rfl) ?_
            refine wa_gt 13 (by kernel_rfl) rfl rfl rfl rfl rfl rfl rfl rfl (y_move rfl) ?_
            refine wa_gt 14 (by kernel_rfl) rfl rfl rfl rfl rfl rfl rfl rfl (y_field0 fa71_0 rfl) ?_
            refine wa_gt 15 (by kernel_rfl) rfl rfl rfl rfl rfl rfl rfl rfl (y_loadA one3 rfl) ?_
            refine wa_gt 16 (by kernel_rfl) rfl rfl rfl rfl rfl rfl rfl rfl (y_addn rfl rfl (by omega)) ?_
            refine wa_gt 17 (by kernel_rfl) rfl rfl rfl rfl rfl rfl rfl rfl (y_loadC agg71 rfl) ?_
            refine wa_gt 19 (by kernel_rfl) rfl rfl rfl rfl rfl rfl rfl rfl (y_field0 fa71_3 rfl) ?_
            refine wa_gt 20 (by kernel_rfl) rfl rfl rfl rfl rfl rfl rfl rfl (y_loadC agg69 rfl) ?_
            (refine wa_ge 18 (by kernel_rfl) rfl rfl rfl rfl rfl rfl (ef_callv0 rfl fun32 rfl (fun _ hw => (c_refBody r _ (mayP_ok hc0 hcl)))) ?_; rintro _ _ ⟨rfl, rfl⟩; refine ⟨.inr SubC.out, ?_⟩)
            (refine wa_ge 21 (by kernel_rfl) rfl rfl rfl rfl rfl rfl (ef_callv0 rfl fun84 rfl (fun _ hw => (cs hc0 (by omega) _))) ?_; rintro _ _ ⟨rfl, rfl⟩; refine ⟨.inl (by kernel_rfl), ?_⟩)
            refine wa_gt 22 (by kernel_rfl) rfl rfl rfl rfl rfl rfl rfl rfl (y_not rfl) ?_
            first | refine wa_t 23 (by kernel_rfl) rfl rfl rfl rfl (y_pickt rfl rfl) ?_ | refine wa_t 23 (by kernel_rfl) rfl rfl rfl rfl (y_pickf rfl rfl) ?_
            exact wa_leR hK3 (.cons rfl (by repeat (first | refine LeE.skip ?_ rfl | exact LeE.refl _)))
      refine wa_done (by kernel_rfl) ?_
      refine q_then ?_
      first | refine wc_cond rfl (fun hc1 => ?_) (fun hc1 => ?_) | refine wc_condb rfl (fun hc1 => ?_) (fun hc1 => ?_)
      · first
        | ((try simp only [bsA, ne_eq] at hc1); exfalso; (first | with_reducible contradiction | omega | (simp at hc1; done)))
        | skip
          try simp only [bsA, ne_eq] at hc1
          refine wc_seq ?_
          refine wc_region ?_
          refine wl_val rfl rfl rfl (y_assign rfl) ?_
          refine wl_nil ?_
          refine q_then ?_
          refine wc_ret ?_
          refine q_thenRet ?_
          apply q_retg (res1 Try.results40 rfl) -- ret 1
          case hΨ =>
            exact ⟨by rw [gd, if_neg (by simpa using hc0), if_pos (by rcases Int.lt_or_le 4096 r.client with h | h; exact if hx : nodes < 0 then .inl hx else .inr (.inr (sgn_far (by omega))); grind)], rfl⟩
          case hs =>
            exact SubC.out
      · first
        | ((try simp only [bsA, ne_eq] at hc1); exfalso; (first | with_reducible contradiction | omega | (simp at hc1; done)))
        | skip
          try simp only [bsA, ne_eq] at hc1
          refine wc_skip ?_
          refine q_then ?_
          refine wc_seq ?_
          refine wc_region ?_
          refine wl_val rfl rfl rfl (y_assign rfl) ?_
          refine wl_nil ?_
          refine q_then ?_
          refine wc_ret ?_
          apply q_retg (res1 Try.results40 rfl) -- ret 2
          case hΨ =>
            exact ⟨by rw [gd, if_neg (by simpa using hc0), if_neg (by grind)], rfl⟩
          case hs =>
            exact SubC.out
end Go.Proofs.Ytdgmkbjopcopcaa
