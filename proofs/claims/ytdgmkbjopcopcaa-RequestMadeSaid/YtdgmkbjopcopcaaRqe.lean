/- Layer 6 (request): RequestChecks, RequestMade: the walks. Own work. -/
import Derived.Test.YtdgmkbjopcopcaaRqd
set_option linter.unusedVariables false
set_option linter.unusedSimpArgs false
set_option maxRecDepth 100000
set_option maxHeartbeats 2000000
namespace Go.Proofs.Ytdgmkbjopcopcaa
open Go.RowKit
-- flat
-- zero 71 Rq0.cells
-- use zerRq zerRq
-- use zerTg zerTg
-- use zerDg zerDg
-- use zerKs zerKs
-- build 71 bldRq

theorem bkt_range (client num n : Int) : 0 ≤ bkt client num n ∧ (n < 1 ∨ bkt client num n < n) := by
  simp only [bkt, shareV]
  split
  · exact ⟨by omega, by omega⟩
  · split
    · exact ⟨by omega, by omega⟩
    · rename_i h
      exact ⟨Int.emod_nonneg _ (by omega), .inr (Int.emod_lt_of_pos _ (by omega))⟩
theorem c_RequestChecks (a : Ak) (x : Rq) (buckets : Int) (w : World) (ha : AkIn a) (hx : x.client ≤ 9223372036854775807 ∧ x.num ≤ 9223372036854775807) : Calls Try.prog 8 #[.agg a.cells.toArray, .agg x.cells.toArray, .int .i64 buckets] w (RV w (.bool true)) := by
  have hbr := bkt_range x.client x.num buckets
  refine enter (N := 82) Try.func8 rfl Try.ntmps8 rfl (Has.nil _) ?_
  refine wc_seq ?_
  refine wc_region ?_
  (refine wl_ef rfl (ef_box rfl rfl rfl) ?_; rintro _ _ ⟨b3, rfl, rfl⟩)
  (refine wl_ef rfl (ef_box rfl rfl rfl) ?_; rintro _ _ ⟨b4, rfl, rfl⟩)
  refine wl_val rfl rfl rfl (y_assign rfl) ?_
  refine wl_nil ?_
  refine q_then ?_
  refine wc_seq ?_
  refine wc_seq ?_
  refine wc_region ?_
  refine wl_val rfl rfl rfl (y_field0 fa71_2 rfl) ?_
  refine wl_val rfl rfl rfl (y_loadA one9 rfl) ?_
  refine wl_val rfl rfl rfl (y_lenStr Try.underlying9 rfl) ?_
  refine wl_val rfl rfl rfl (y_gtr rfl rfl) ?_
  refine wl_nil ?_
  refine q_then ?_
  refine wc_cond rfl (fun hc0 => ?_) (fun hc0 => ?_)
  · first
    | ((try simp only [bsA, ne_eq] at hc0); exfalso; (first | with_reducible contradiction | omega | (simp at hc0; done)))
    | skip
      try simp only [bsA, ne_eq] at hc0
      refine wc_seq ?_
      refine wc_region ?_
      (refine wl_ef rfl (ef_callv0 rfl fun26 rfl (fun _ hw => (c_lives06 _))) ?_; rintro _ _ ⟨rfl, rfl⟩)
      refine wl_val rfl rfl rfl (y_assign rfl) ?_
      refine wl_nil ?_
      refine q_then ?_
      refine wc_ret ?_
      refine q_thenRet ?_
      apply q_retg (res1 Try.results8 rfl) -- ret 0
      case hΨ =>
        exact ⟨rfl, rfl⟩
      case hs =>
        exact SubC.out
  · first
    | ((try simp only [bsA, ne_eq] at hc0); exfalso; (first | with_reducible contradiction | omega | (simp at hc0; done)))
    | skip
      try simp only [bsA, ne_eq] at hc0
      have hxo : RqOk x 1000000 := ⟨hx.1, hx.2, by omega⟩
      refine wc_skip ?_
      refine q_then ?_
      refine wc_seq ?_
      refine wc_region ?_
      (refine wl_ef rfl (ef_callg (fun b => .tuple #[.pointer (some ⟨b, 0, none⟩), .agg K0.cells.toArray]) rfl fun27 rfl (fun _ hw => c_keys06 _)) ?_; rintro _ _ ⟨b16, rfl, rfl⟩)
      refine wl_val rfl rfl rfl (y_move rfl) ?_
      refine wl_val rfl rfl rfl (y_extract rfl rfl) ?_
      refine wl_val rfl rfl rfl (y_extract rfl rfl) ?_
      (refine wl_ef rfl (ef_alloc rfl zerKs) ?_; rintro _ _ ⟨b8, rfl, rfl⟩)
      refine wl_val rfl rfl rfl (y_assign rfl) ?_
      (refine wl_ef rfl (ef_storeC siz65 rfl rfl rfl) ?_; rintro _ _ ⟨rfl, rfl⟩)
      refine wl_nil ?_
      refine q_then ?_
      refine wc_seq ?_
      refine wc_region ?_
      refine wl_val rfl rfl rfl (y_field0 fa71_0 rfl) ?_
      refine wl_val rfl rfl rfl (y_loadA one3 rfl) ?_
      refine wl_val rfl rfl rfl (y_field0 fa71_1 rfl) ?_
      refine wl_val rfl rfl rfl (y_loadA one3 rfl) ?_
      refine wl_val rfl rfl rfl (y_move rfl) ?_
      (refine wl_ef rfl (ef_callv0 rfl fun38 rfl (fun _ hw => (c_Bucket _ _ _ _ hx.1 hx.2))) ?_; rintro _ _ ⟨rfl, rfl⟩)
      refine wl_val rfl rfl rfl (y_assign rfl) ?_
      refine wl_nil ?_
      refine q_then ?_
      refine wc_seq ?_
      refine wa_begin_all (n := 58) (b := #[false, false, false, false, false, false, false, false, false, false, false, false, false, false, false, false, false, false, false, false, false, false, false, false, false, false, false, false, false, false, false, false, false, false, false, false, false, false, false, false, false, false, false, false, false, false, false, false, false, false, false, false, false, false, false, false, false, false]) mixed rfl rfl ?_
      refine wa_t 0 (by kernel_rfl) rfl rfl rfl rfl (y_loadC agg71 rfl) ?_
      refine wa_t 2 (by kernel_rfl) rfl rfl rfl rfl (y_loadC agg71 rfl) ?_
      (refine wa_e 1 (by kernel_rfl) rfl rfl (ef_callv0 rfl fun39 rfl (fun _ hw => (c_Body x _ hxo))) ?_; rintro _ _ ⟨rfl, rfl⟩; refine ⟨.inr SubC.out, ?_⟩)
      (refine wa_e 3 (by kernel_rfl) rfl rfl (ef_callv0 rfl fun32 rfl (fun _ hw => (c_refBody x _ hxo))) ?_; rintro _ _ ⟨rfl, rfl⟩; refine ⟨.inr SubC.out, ?_⟩)
      refine wa_t 4 (by kernel_rfl) rfl rfl rfl rfl (y_eqlStr rfl rfl) ?_
      refine wa_t 5 (by kernel_rfl) rfl rfl rfl rfl (y_move rfl) ?_
      apply wa_andp (d := 46)
      case ht =>
        intro hg1 hK1
        first
          | (refine wa_dead ?_ hK1 rfl; first | with_reducible contradiction | omega | (simp at hg1; done))
          | skip
            try simp only [bsA, ne_eq] at hg1
            refine wa_gt 6 (by kernel_rfl) rfl rfl rfl rfl rfl rfl rfl rfl (y_move rfl) ?_
            refine wa_gt 7 (by kernel_rfl) rfl rfl rfl rfl rfl rfl rfl rfl (y_field0 fa62_0 rfl) ?_
            refine wa_gt 8 (by kernel_rfl) rfl rfl rfl rfl rfl rfl rfl rfl (y_loadA one3 rfl) ?_
            refine wa_gt 9 (by kernel_rfl) rfl rfl rfl rfl rfl rfl rfl rfl (y_field0 fa62_1 rfl) ?_
            refine wa_gt 10 (by kernel_rfl) rfl rfl rfl rfl rfl rfl rfl rfl (y_loadA one3 rfl) ?_
            refine wa_gt 11 (by kernel_rfl) rfl rfl rfl rfl rfl rfl rfl rfl (y_loadC agg71 rfl) ?_
            refine wa_gt 13 (by kernel_rfl) rfl rfl rfl rfl rfl rfl rfl rfl (y_loadC agg65 rfl) ?_
            refine wa_gt 14 (by kernel_rfl) rfl rfl rfl rfl rfl rfl rfl rfl (y_field0 fa62_0 rfl) ?_
            refine wa_gt 15 (by kernel_rfl) rfl rfl rfl rfl rfl rfl rfl rfl (y_loadA one3 rfl) ?_
            refine wa_gt 16 (by kernel_rfl) rfl rfl rfl rfl rfl rfl rfl rfl (y_field0 fa62_1 rfl) ?_
            refine wa_gt 17 (by kernel_rfl) rfl rfl rfl rfl rfl rfl rfl rfl (y_loadA one3 rfl) ?_
            refine wa_gt 18 (by kernel_rfl) rfl rfl rfl rfl rfl rfl rfl rfl (y_loadC agg71 rfl) ?_
            (refine wa_ge 12 (by kernel_rfl) rfl rfl rfl rfl rfl rfl (ef_callv0 rfl fun30 rfl (fun _ hw => (c_Good b16 K0 _ _ x _ (inB_own hw) k0_ok ha.clients.2))) ?_; rintro _ _ ⟨rfl, rfl⟩; refine ⟨.inr SubC.out, ?_⟩)
            (refine wa_ge 19 (by kernel_rfl) rfl rfl rfl rfl rfl rfl (ef_callv0 rfl fun40 rfl (fun _ hw => (c_refGood K0 _ _ x _ k0_ok ha.clients.2))) ?_; rintro _ _ ⟨rfl, rfl⟩; refine ⟨.inr SubC.out, ?_⟩)
            refine wa_gt 20 (by kernel_rfl) rfl rfl rfl rfl rfl rfl rfl rfl (y_eql rfl rfl) ?_
            refine wa_t 21 (by kernel_rfl) rfl rfl rfl rfl (y_pickt rfl rfl) ?_
            exact wa_leR hK1 (.cons rfl (by repeat (first | refine LeE.skip ?_ rfl | exact LeE.refl _)))
      case hf =>
        intro hg1 hK1
        (refine wa_dead ?_ hK1 rfl; first | with_reducible contradiction | omega | (simp at hg1; done))
      refine wa_t 22 (by kernel_rfl) rfl rfl rfl rfl (y_move rfl) ?_
      first | apply wa_andp (d := 55) | apply wa_and (d := 55)
      case ht =>
        intro hg2 hK2
        first
          | (refine wa_dead ?_ hK2 rfl; first | with_reducible contradiction | omega | (simp at hg2; done))
          | skip
            try simp only [bsA, ne_eq] at hg2
            refine wa_gt 23 (by kernel_rfl) rfl rfl rfl rfl rfl rfl rfl rfl (y_field0 fa62_0 rfl) ?_
            refine wa_gt 24 (by kernel_rfl) rfl rfl rfl rfl rfl rfl rfl rfl (y_loadA one3 rfl) ?_
            refine wa_gt 25 (by kernel_rfl) rfl rfl rfl rfl rfl rfl rfl rfl (y_field0 fa62_1 rfl) ?_
            refine wa_gt 26 (by kernel_rfl) rfl rfl rfl rfl rfl rfl rfl rfl (y_loadA one3 rfl) ?_
            refine wa_gt 27 (by kernel_rfl) rfl rfl rfl rfl rfl rfl rfl rfl (y_loadC agg71 rfl) ?_
            (refine wa_ge 28 (by kernel_rfl) rfl rfl rfl rfl rfl rfl (ef_callv0 rfl fun30 rfl (fun _ hw => (c_GoodNil _ _ x _))) ?_; rintro _ _ ⟨rfl, rfl⟩; refine ⟨.inl (by kernel_rfl), ?_⟩)
            refine wa_gt 29 (by kernel_rfl) rfl rfl rfl rfl rfl rfl rfl rfl (y_eql rfl rfl) ?_
            refine wa_t 30 (by kernel_rfl) rfl rfl rfl rfl (y_pickt rfl rfl) ?_
            exact wa_leR hK2 (.cons rfl (by repeat (first | refine LeE.skip ?_ rfl | exact LeE.refl _)))
      case hf =>
        intro hg2 hK2
        (refine wa_dead ?_ hK2 rfl; first | with_reducible contradiction | omega | (simp at hg2; done))
      refine wa_t 31 (by kernel_rfl) rfl rfl rfl rfl (y_move rfl) ?_
      first | apply wa_andp (d := 65) | apply wa_and (d := 65)
      case ht =>
        intro hg3 hK3
        first
          | (refine wa_dead ?_ hK3 rfl; first | with_reducible contradiction | omega | (simp at hg3; done))
          | skip
            try simp only [bsA, ne_eq] at hg3
            refine wa_gt 32 (by kernel_rfl) rfl rfl rfl rfl rfl rfl rfl rfl (y_move rfl) ?_
            refine wa_gt 33 (by kernel_rfl) rfl rfl rfl rfl rfl rfl rfl rfl (y_field0 fa71_0 rfl) ?_
            refine wa_gt 34 (by kernel_rfl) rfl rfl rfl rfl rfl rfl rfl rfl (y_loadA one3 rfl) ?_
            refine wa_gt 35 (by kernel_rfl) rfl rfl rfl rfl rfl rfl rfl rfl (y_field0 fa71_1 rfl) ?_
            refine wa_gt 36 (by kernel_rfl) rfl rfl rfl rfl rfl rfl rfl rfl (y_loadA one3 rfl) ?_
            refine wa_gt 37 (by kernel_rfl) rfl rfl rfl rfl rfl rfl rfl rfl (y_move rfl) ?_
            (refine wa_ge 38 (by kernel_rfl) rfl rfl rfl rfl rfl rfl (ef_callv0 rfl fun41 rfl (fun _ hw => (c_refBucket _ _ _ _ hx.1 hx.2))) ?_; rintro _ _ ⟨rfl, rfl⟩; refine ⟨.inr SubC.out, ?_⟩)
            refine wa_gt 39 (by kernel_rfl) rfl rfl rfl rfl rfl rfl rfl rfl (y_eql rfl rfl) ?_
            refine wa_t 40 (by kernel_rfl) rfl rfl rfl rfl (y_pickt rfl rfl) ?_
            exact wa_leR hK3 (.cons rfl (by repeat (first | refine LeE.skip ?_ rfl | exact LeE.refl _)))
      case hf =>
        intro hg3 hK3
        (refine wa_dead ?_ hK3 rfl; first | with_reducible contradiction | omega | (simp at hg3; done))
      refine wa_t 41 (by kernel_rfl) rfl rfl rfl rfl (y_move rfl) ?_
      first | apply wa_andp (d := 69) | apply wa_and (d := 69)
      case ht =>
        intro hg4 hK4
        first
          | (refine wa_dead ?_ hK4 rfl; first | with_reducible contradiction | omega | (simp at hg4; done))
          | skip
            try simp only [bsA, ne_eq] at hg4
            refine wa_gt 42 (by kernel_rfl) rfl rfl rfl rfl rfl rfl rfl rfl (y_move rfl) ?_
            refine wa_gt 43 (by kernel_rfl) rfl rfl rfl rfl rfl rfl rfl rfl (y_geq rfl rfl) ?_
            refine wa_t 44 (by kernel_rfl) rfl rfl rfl rfl (y_pickt rfl rfl) ?_
            exact wa_leR hK4 (.cons rfl (by repeat (first | refine LeE.skip ?_ rfl | exact LeE.refl _)))
      case hf =>
        intro hg4 hK4
        (refine wa_dead ?_ hK4 rfl; first | with_reducible contradiction | omega | (simp at hg4; done))
      refine wa_t 45 (by kernel_rfl) rfl rfl rfl rfl (y_move rfl) ?_
      first | apply wa_andp (d := 78) | apply wa_and (d := 78)
      case ht =>
        intro hg5 hK5
        first
          | (refine wa_dead ?_ hK5 rfl; first | with_reducible contradiction | omega | (simp at hg5; done))
          | skip
            try simp only [bsA, ne_eq] at hg5
            refine wa_gt 46 (by kernel_rfl) rfl rfl rfl rfl rfl rfl rfl rfl (y_move rfl) ?_
            refine wa_gt 47 (by kernel_rfl) rfl rfl rfl rfl rfl rfl rfl rfl (y_lss rfl rfl) ?_
            refine wa_gt 48 (by kernel_rfl) rfl rfl rfl rfl rfl rfl rfl rfl (y_move rfl) ?_
            apply wa_orp (d := 77)
            case ht =>
              intro hg6 hK6
              first
                | (refine wa_dead ?_ hK6 rfl; first | with_reducible contradiction | omega | (simp at hg6; done))
                | skip
                  try simp only [bsA, ne_eq] at hg6
                  refine wa_gs 49 (by kernel_rfl) rfl rfl rfl rfl rfl rfl rfl rfl ?_
                  refine wa_gs 50 (by kernel_rfl) rfl rfl rfl rfl rfl rfl rfl rfl ?_
                  refine wa_gs 51 (by kernel_rfl) rfl rfl rfl rfl rfl rfl rfl rfl ?_
                  refine wa_gt 52 (by kernel_rfl) rfl rfl rfl rfl rfl rfl rfl rfl (y_pickt rfl rfl) ?_
                  exact wa_leR hK6 (.cons rfl (by repeat (first | refine LeE.skip ?_ rfl | exact LeE.refl _)))
            case hf =>
              intro hg6 hK6
              first
                | (refine wa_dead ?_ hK6 rfl; first | with_reducible contradiction | omega | (simp at hg6; done))
                | skip
                  try simp only [bsA, ne_eq] at hg6
                  refine wa_gt 49 (by kernel_rfl) rfl rfl rfl rfl rfl rfl rfl rfl (y_move rfl) ?_
                  refine wa_gt 50 (by kernel_rfl) rfl rfl rfl rfl rfl rfl rfl rfl (y_move rfl) ?_
                  refine wa_gt 51 (by kernel_rfl) rfl rfl rfl rfl rfl rfl rfl rfl (y_lss rfl rfl) ?_
                  first | refine wa_gt 52 (by kernel_rfl) rfl rfl rfl rfl rfl rfl rfl rfl (y_pickt rfl rfl) ?_ | refine wa_gt 52 (by kernel_rfl) rfl rfl rfl rfl rfl rfl rfl rfl (y_pickf rfl rfl) ?_
                  exact wa_leR hK6 (.cons rfl (by repeat (first | refine LeE.skip ?_ rfl | exact LeE.refl _)))
            refine wa_t 53 (by kernel_rfl) rfl rfl rfl rfl (y_pickt rfl rfl) ?_
            exact wa_leR hK5 (.cons rfl (by repeat (first | refine LeE.skip ?_ rfl | exact LeE.refl _)))
      case hf =>
        intro hg5 hK5
        first
          | (refine wa_dead ?_ hK5 rfl; first | with_reducible contradiction | omega | (simp at hg5; done))
          | skip
            try simp only [bsA, ne_eq] at hg5
            refine wa_gs 46 (by kernel_rfl) rfl rfl rfl rfl rfl rfl rfl rfl ?_
            refine wa_gs 47 (by kernel_rfl) rfl rfl rfl rfl rfl rfl rfl rfl ?_
            refine wa_gs 48 (by kernel_rfl) rfl rfl rfl rfl rfl rfl rfl rfl ?_
            refine wa_gs 49 (by kernel_rfl) rfl rfl rfl rfl rfl rfl rfl rfl ?_
            refine wa_gs 50 (by kernel_rfl) rfl rfl rfl rfl rfl rfl rfl rfl ?_
            refine wa_gs 51 (by kernel_rfl) rfl rfl rfl rfl rfl rfl rfl rfl ?_
            refine wa_gs 52 (by kernel_rfl) rfl rfl rfl rfl rfl rfl rfl rfl ?_
            first | refine wa_t 53 (by kernel_rfl) rfl rfl rfl rfl (y_pickt rfl rfl) ?_ | refine wa_t 53 (by kernel_rfl) rfl rfl rfl rfl (y_pickf rfl rfl) ?_
            exact wa_leR hK5 (.cons rfl (by repeat (first | refine LeE.skip ?_ rfl | exact LeE.refl _)))
      refine wa_t 54 (by kernel_rfl) rfl rfl rfl rfl (y_move rfl) ?_
      first | apply wa_andp (d := 81) | apply wa_and (d := 81)
      case ht =>
        intro hg7 hK7
        first
          | (refine wa_dead ?_ hK7 rfl; first | with_reducible contradiction | omega | (simp at hg7; done))
          | skip
            try simp only [bsA, ne_eq] at hg7
            (refine wa_ge 55 (by kernel_rfl) rfl rfl rfl rfl rfl rfl (ef_callv0 rfl fun26 rfl (fun _ hw => (c_lives06 _))) ?_; rintro _ _ ⟨rfl, rfl⟩; refine ⟨.inr SubC.out, ?_⟩)
            refine wa_t 56 (by kernel_rfl) rfl rfl rfl rfl (y_pickt rfl rfl) ?_
            exact wa_leR hK7 (.cons rfl (by repeat (first | refine LeE.skip ?_ rfl | exact LeE.refl _)))
      case hf =>
        intro hg7 hK7
        first
          | (refine wa_dead ?_ hK7 rfl; first | with_reducible contradiction | omega | (simp at hg7; done))
          | skip
            try simp only [bsA, ne_eq] at hg7
            refine wa_gs 55 (by kernel_rfl) rfl rfl rfl rfl rfl rfl rfl rfl ?_
            first | refine wa_t 56 (by kernel_rfl) rfl rfl rfl rfl (y_pickt rfl rfl) ?_ | refine wa_t 56 (by kernel_rfl) rfl rfl rfl rfl (y_pickf rfl rfl) ?_
            exact wa_leR hK7 (.cons rfl (by repeat (first | refine LeE.skip ?_ rfl | exact LeE.refl _)))
      refine wa_t 57 (by kernel_rfl) rfl rfl rfl rfl (y_assign rfl) ?_
      refine wa_done (by kernel_rfl) ?_
      refine q_then ?_
      refine wc_ret ?_
      apply q_retg (res1 Try.results8 rfl) -- ret 1
      case hΨ =>
        exact ⟨by simp [hbr.1, hbr.2], rfl⟩
      case hs =>
        exact SubC.out
theorem u64_nn (m : Int) : 0 ≤ IntKind.u64.wrap m := by
  simp only [IntKind.wrap, IntKind.bits, IntKind.signed]
  simp
  omega
theorem i64_small {m : Int} (h : 0 ≤ m ∧ m < 100) : IntKind.i64.wrap m = m := by rw [IntKind.wrap_i64]; omega
theorem c_RequestMade (a : Ak) (num : Int) (data : ByteArray) (w : World) (ha : AkIn a) (hnum : num ≤ 9223372036854775807) : Calls Try.prog 6 #[.agg a.cells.toArray, .int .i64 num, .string data] w (RV w (.bool true)) := by
  obtain ⟨N, hN⟩ : ∃ N, N = IntKind.u64.wrap a.nodes % 65 := ⟨_, rfl⟩
  obtain ⟨C, hC⟩ : ∃ C, C = IntKind.u64.wrap a.client % 8 := ⟨_, rfl⟩
  have hn1 := u64_nn a.nodes
  have hn2 := u64_nn a.client
  have hNb : 0 ≤ N ∧ N ≤ 64 := by omega
  have hCb : 0 ≤ C ∧ C < 8 := by omega
  obtain ⟨R, e, hR⟩ : ∃ R e, mk K0 N C a.num a.data = (R, e) := ⟨_, _, rfl⟩
  have cm : ∀ (b : Nat) (w : World), InB w b K0.cells → Calls Try.prog 28 #[.pointer (some ⟨b, 0, none⟩), .int .i64 N, .int .i64 C, .int .i64 a.num, .string a.data] w (RV w (.tuple #[.agg R.cells.toArray, .int .i64 e])) := fun b w h => by
    have := c_Make b K0 N C a.num a.data w h k0_ok
    rwa [hR] at this
  refine enter (N := 114) Try.func6 rfl Try.ntmps6 rfl (Has.nil _) ?_
  refine wc_seq ?_
  refine wc_region ?_
  (refine wl_ef rfl (ef_box rfl rfl rfl) ?_; rintro _ _ ⟨b3, rfl, rfl⟩)
  refine wl_val rfl rfl rfl (y_assign rfl) ?_
  refine wl_nil ?_
  refine q_then ?_
  refine wc_seq ?_
  refine wc_seq ?_
  refine wc_region ?_
  refine wl_val rfl rfl rfl (y_field0 fa62_4 rfl) ?_
  refine wl_val rfl rfl rfl (y_loadA one9 rfl) ?_
  refine wl_val rfl rfl rfl (y_lenStr Try.underlying9 rfl) ?_
  refine wl_val rfl rfl rfl (y_gtr rfl rfl) ?_
  refine wl_val rfl rfl rfl (y_move rfl) ?_
  apply wl_orp (d := 25)
  case ht =>
    intro hg1 hK1
    first
      | (refine wl_dead ?_ hK1 rfl; first | with_reducible contradiction | omega | (simp at hg1; done))
      | skip
        try simp only [bsA, ne_eq] at hg1
        refine wl_gskip rfl rfl rfl rfl rfl rfl rfl ?_
        refine wl_gskip rfl rfl rfl rfl rfl rfl rfl ?_
        refine wl_gskip rfl rfl rfl rfl rfl rfl rfl ?_
        refine wl_val rfl rfl rfl (y_pickt rfl rfl) ?_
        exact wl_leR hK1 (.cons rfl (by repeat (first | refine LeE.skip ?_ rfl | exact LeE.refl _)))
  case hf =>
    intro hg1 hK1
    first
      | (refine wl_dead ?_ hK1 rfl; first | with_reducible contradiction | omega | (simp at hg1; done))
      | skip
        try simp only [bsA, ne_eq] at hg1
        refine wl_gval rfl rfl rfl rfl rfl rfl rfl (y_move rfl) ?_
        refine wl_gval rfl rfl rfl rfl rfl rfl rfl (y_lenStr Try.underlying9 rfl) ?_
        refine wl_gval rfl rfl rfl rfl rfl rfl rfl (y_gtr rfl rfl) ?_
        first | refine wl_val rfl rfl rfl (y_pickt rfl rfl) ?_ | refine wl_val rfl rfl rfl (y_pickf rfl rfl) ?_
        exact wl_leR hK1 (.cons rfl (by repeat (first | refine LeE.skip ?_ rfl | exact LeE.refl _)))
  refine wl_nil ?_
  refine q_then ?_
  first | refine wc_cond rfl (fun hc0 => ?_) (fun hc0 => ?_) | refine wc_condb rfl (fun hc0 => ?_) (fun hc0 => ?_)
  · first
    | ((try simp only [bsA, ne_eq] at hc0); exfalso; (first | with_reducible contradiction | omega | (simp at hc0; done)))
    | skip
      try simp only [bsA, ne_eq] at hc0
      refine wc_seq ?_
      refine wc_region ?_
      (refine wl_ef rfl (ef_callv0 rfl fun26 rfl (fun _ hw => (c_lives06 _))) ?_; rintro _ _ ⟨rfl, rfl⟩)
      refine wl_val rfl rfl rfl (y_assign rfl) ?_
      refine wl_nil ?_
      refine q_then ?_
      refine wc_ret ?_
      refine q_thenRet ?_
      apply q_retg (res1 Try.results6 rfl) -- ret 0
      case hΨ =>
        first | exact ⟨rfl, rfl⟩ | exact rfl
      case hs =>
        exact SubC.out
  · first
    | ((try simp only [bsA, ne_eq] at hc0); exfalso; (first | with_reducible contradiction | omega | (simp at hc0; done)))
    | skip
      try simp only [bsA, ne_eq] at hc0
      have hsz : a.data.size ≤ 64 ∧ data.size ≤ 64 := by omega
      refine wc_skip ?_
      refine q_then ?_
      refine wc_seq ?_
      refine wc_region ?_
      (refine wl_ef rfl (ef_callg (fun b => .tuple #[.pointer (some ⟨b, 0, none⟩), .agg K0.cells.toArray]) rfl fun27 rfl (fun _ hw => c_keys06 _)) ?_; rintro _ _ ⟨b28, rfl, rfl⟩)
      refine wl_val rfl rfl rfl (y_move rfl) ?_
      refine wl_val rfl rfl rfl (y_extract rfl rfl) ?_
      refine wl_val rfl rfl rfl (y_extract rfl rfl) ?_
      (refine wl_ef rfl (ef_alloc rfl zerKs) ?_; rintro _ _ ⟨b8, rfl, rfl⟩)
      refine wl_val rfl rfl rfl (y_assign rfl) ?_
      (refine wl_ef rfl (ef_storeC siz65 rfl rfl rfl) ?_; rintro _ _ ⟨rfl, rfl⟩)
      refine wl_nil ?_
      refine q_then ?_
      refine wc_seq ?_
      refine wa_begin_all (n := 12) (b := #[false, false, false, false, false, false, false, false, false, false, false, false]) mixed rfl rfl ?_
      refine wa_t 0 (by kernel_rfl) rfl rfl rfl rfl (y_field0 fa62_0 rfl) ?_
      refine wa_t 1 (by kernel_rfl) rfl rfl rfl rfl (y_loadA one3 rfl) ?_
      refine wa_t 2 (by kernel_rfl) rfl rfl rfl rfl (y_conv Try.underlying3 Try.underlying77 rfl) ?_
      refine wa_t 3 (by kernel_rfl) rfl rfl rfl rfl (y_remn rfl rfl (u64_nn _) (by omega)) ?_
      refine wa_t 4 (by kernel_rfl) rfl rfl rfl rfl (yl_is (v := .int .i64 N) (y_conv Try.underlying77 Try.underlying3 rfl) (by rw [← hN, i64_small (by omega)])) ?_
      refine wa_t 5 (by kernel_rfl) rfl rfl rfl rfl (y_field0 fa62_2 rfl) ?_
      refine wa_t 6 (by kernel_rfl) rfl rfl rfl rfl (y_loadA one3 rfl) ?_
      refine wa_t 7 (by kernel_rfl) rfl rfl rfl rfl (y_conv Try.underlying3 Try.underlying77 rfl) ?_
      refine wa_t 8 (by kernel_rfl) rfl rfl rfl rfl (y_remn rfl rfl (u64_nn _) (by omega)) ?_
      refine wa_t 9 (by kernel_rfl) rfl rfl rfl rfl (yl_is (v := .int .i64 C) (y_conv Try.underlying77 Try.underlying3 rfl) (by rw [← hC, i64_small (by omega)])) ?_
      refine wa_t 10 (by kernel_rfl) rfl rfl rfl rfl (y_assign rfl) ?_
      refine wa_t 11 (by kernel_rfl) rfl rfl rfl rfl (y_assign rfl) ?_
      refine wa_done (by kernel_rfl) ?_
      refine q_then ?_
      refine wc_seq ?_
      refine wc_region ?_
      refine wl_val rfl rfl rfl (y_move rfl) ?_
      refine wl_val rfl rfl rfl (y_move rfl) ?_
      refine wl_val rfl rfl rfl (y_move rfl) ?_
      refine wl_val rfl rfl rfl (y_field0 fa62_3 rfl) ?_
      refine wl_val rfl rfl rfl (y_loadA one3 rfl) ?_
      refine wl_val rfl rfl rfl (y_field0 fa62_4 rfl) ?_
      refine wl_val rfl rfl rfl (y_loadA one9 rfl) ?_
      (refine wl_ef rfl (ef_callv0 rfl fun28 rfl (fun _ hw => (cm b28 _ (inB_own hw)))) ?_; rintro _ _ ⟨rfl, rfl⟩)
      refine wl_val rfl rfl rfl (y_move rfl) ?_
      refine wl_val rfl rfl rfl (y_extract rfl rfl) ?_
      refine wl_val rfl rfl rfl (y_extract rfl rfl) ?_
      (refine wl_ef rfl (ef_alloc rfl zerRq) ?_; rintro _ _ ⟨b11, rfl, rfl⟩)
      (refine wl_ef rfl (ef_storeC siz71 rfl rfl rfl) ?_; rintro _ _ ⟨rfl, rfl⟩)
      refine wl_val rfl rfl rfl (y_assign rfl) ?_
      refine wl_nil ?_
      refine q_then ?_
      refine wc_seq ?_
      refine wc_seq ?_
      refine wc_region ?_
      refine wl_val rfl rfl rfl (y_move rfl) ?_
      refine wl_val rfl rfl rfl (y_neq rfl rfl) ?_
      refine wl_nil ?_
      refine q_then ?_
      refine wc_cond rfl (fun hc1 => ?_) (fun hc1 => ?_)
      · first
        | ((try simp only [bsA, ne_eq] at hc1); exfalso; (first | with_reducible contradiction | omega | (simp at hc1; done)))
        | skip
          try simp only [bsA, ne_eq] at hc1
          have hbad : a.num < 1 ∨ 1099511627776 < a.num := by
            refine Decidable.byContradiction fun h => hc1 ?_
            have hm : mayP 8 (rqOf C a.num a.data) := ⟨hCb.1, hCb.2, by show 1 ≤ a.num; omega, by show a.num ≤ 1099511627776; omega, hsz.1⟩
            have := mk_ok hm hNb
            rw [hR] at this
            exact (Prod.mk.inj this).2
          refine wc_seq ?_
          refine wc_region ?_
          refine wl_val rfl rfl rfl (y_field0 fa62_3 rfl) ?_
          refine wl_val rfl rfl rfl (y_loadA one3 rfl) ?_
          refine wl_val rfl rfl rfl (y_lss rfl rfl) ?_
          refine wl_val rfl rfl rfl (y_move rfl) ?_
          apply wl_orp (d := 61)
          case ht =>
            intro hg2 hK2
            first
              | (refine wl_dead ?_ hK2 rfl; first | with_reducible contradiction | omega | (simp at hg2; done))
              | skip
                try simp only [bsA, ne_eq] at hg2
                refine wl_gskip rfl rfl rfl rfl rfl rfl rfl ?_
                refine wl_gskip rfl rfl rfl rfl rfl rfl rfl ?_
                refine wl_gskip rfl rfl rfl rfl rfl rfl rfl ?_
                refine wl_val rfl rfl rfl (y_pickt rfl rfl) ?_
                exact wl_leR hK2 (.cons rfl (by repeat (first | refine LeE.skip ?_ rfl | exact LeE.refl _)))
          case hf =>
            intro hg2 hK2
            first
              | (refine wl_dead ?_ hK2 rfl; first | with_reducible contradiction | omega | (simp at hg2; done))
              | skip
                try simp only [bsA, ne_eq] at hg2
                refine wl_gval rfl rfl rfl rfl rfl rfl rfl (y_field0 fa62_3 rfl) ?_
                refine wl_gval rfl rfl rfl rfl rfl rfl rfl (y_loadA one3 rfl) ?_
                refine wl_gval rfl rfl rfl rfl rfl rfl rfl (y_gtr rfl rfl) ?_
                first | refine wl_val rfl rfl rfl (y_pickt rfl rfl) ?_ | refine wl_val rfl rfl rfl (y_pickf rfl rfl) ?_
                exact wl_leR hK2 (.cons rfl (by repeat (first | refine LeE.skip ?_ rfl | exact LeE.refl _)))
          refine wl_val rfl rfl rfl (y_move rfl) ?_
          first | apply wl_andp (d := 64) | apply wl_and (d := 64)
          case ht =>
            intro hg3 hK3
            first
              | (refine wl_dead ?_ hK3 rfl; first | with_reducible contradiction | omega | (simp at hg3; done))
              | skip
                try simp only [bsA, ne_eq] at hg3
                (refine wl_gef rfl rfl rfl rfl rfl (ef_callv0 rfl fun26 rfl (fun _ hw => (c_lives06 _))) ?_; rintro _ _ ⟨rfl, rfl⟩)
                refine wl_val rfl rfl rfl (y_pickt rfl rfl) ?_
                exact wl_leR hK3 (.cons rfl (by repeat (first | refine LeE.skip ?_ rfl | exact LeE.refl _)))
          case hf =>
            intro hg3 hK3
            first
              | (refine wl_dead ?_ hK3 rfl; first | with_reducible contradiction | omega | (simp at hg3; done))
              | skip
                try simp only [bsA, ne_eq] at hg3
                refine wl_gskip rfl rfl rfl rfl rfl rfl rfl ?_
                first | refine wl_val rfl rfl rfl (y_pickt rfl rfl) ?_ | refine wl_val rfl rfl rfl (y_pickf rfl rfl) ?_
                exact wl_leR hK3 (.cons rfl (by repeat (first | refine LeE.skip ?_ rfl | exact LeE.refl _)))
          refine wl_val rfl rfl rfl (y_assign rfl) ?_
          refine wl_nil ?_
          refine q_then ?_
          refine wc_ret ?_
          refine q_thenRet ?_
          apply q_retg (res1 Try.results6 rfl) -- ret 1
          case hΨ =>
            exact ⟨by rcases hbad with h | h <;> simp [h], rfl⟩
          case hs =>
            exact SubC.out
      · first
        | ((try simp only [bsA, ne_eq] at hc1); exfalso; (first | with_reducible contradiction | omega | (simp at hc1; done)))
        | skip
          try simp only [bsA, ne_eq] at hc1
          subst hc1
          have hm : mayP 8 (rqOf C a.num a.data) := by
            refine Decidable.byContradiction fun h => ?_
            rw [mk, if_pos h] at hR
            have := (Prod.mk.inj hR).2
            omega
          have hmk := mk_ok hm hNb
          rw [hR] at hmk
          have hRe := (Prod.mk.inj hmk).1
          have g1 : gd K0 N (C + 1) R = 0 := by
            have := gd_made (clients := C + 1) hm hNb (by omega)
            rwa [hR] at this
          have cg : ∀ (b : Nat) (w : World), InB w b K0.cells → Calls Try.prog 30 #[.pointer (some ⟨b, 0, none⟩), .int .i64 N, .int .i64 (C + 1), .agg R.cells.toArray] w (RV w (.int .i64 0)) := fun b w h => by
            have := c_Good b K0 N (C + 1) R w h k0_ok (by omega)
            rwa [g1] at this
          obtain ⟨Y, hY⟩ : ∃ Y : Rq, Y = { R with num := num, data := data } := ⟨_, rfl⟩
          have hYc : Y.client = C := by rw [hY, hRe]
          have hYn : Y.num = num := by rw [hY]
          have hYd : Y.data = data := by rw [hY]
          have hYt : Y.tag = R.tag := by rw [hY]
          have hYo : RqOk Y 1000000 := ⟨by rw [hYc]; omega, by rw [hYn]; omega, by rw [hYd]; omega⟩
          obtain ⟨T, hT⟩ : ∃ T, T = (sgn K0 (N + C) (bodyS Y)).1 := ⟨_, rfl⟩
          have hsT : sgn K0 (N + C) (bodyS Y) = (T, 0) := Prod.ext hT.symm (sgn_ok (by omega))
          have cy : ∀ (b : Nat) (w : World), InB w b K0.cells → Calls Try.prog 30 #[.pointer (some ⟨b, 0, none⟩), .int .i64 N, .int .i64 8, .agg Y.cells.toArray] w (RV w (.int .i64 (gd K0 N 8 Y))) := fun b w h => c_Good b K0 N 8 Y w h k0_ok (by omega)
          have cS : ∀ (w : World), Calls Try.prog 31 #[.agg K0.cells.toArray, .int .i64 (N + C), .string (bodyS Y)] w (RV w (.tuple #[.agg (bvs T.1).toArray, .int .i64 0])) := fun w => by
            have := c_refSign K0 (N + C) (bodyS Y) w (by decide) (by omega) (Nat.le_trans (bodyS_len hYo (by omega)) (by omega))
            rwa [hsT] at this
          refine wc_skip ?_
          refine q_then ?_
          refine wc_seq ?_
          refine wc_seq ?_
          refine wc_region ?_
          refine wl_val rfl rfl rfl (y_move rfl) ?_
          refine wl_val rfl rfl rfl (y_move rfl) ?_
          refine wl_val rfl rfl rfl (y_move rfl) ?_
          refine wl_val rfl rfl rfl (y_addn rfl rfl (by omega)) ?_
          refine wl_val rfl rfl rfl (y_loadC agg71 rfl) ?_
          (refine wl_ef rfl (ef_callv0 rfl fun30 rfl (fun _ hw => (cg b28 _ (inB_own hw)))) ?_; rintro _ _ ⟨rfl, rfl⟩)
          refine wl_val rfl rfl rfl (y_neq rfl rfl) ?_
          refine wl_nil ?_
          refine q_then ?_
          refine wc_cond rfl (fun hc2 => ?_) (fun hc2 => ?_)
          · exfalso; (try simp only [bsA, ne_eq] at hc2); first | exact hc2 rfl | (simp at hc2; done)
          · first
            | ((try simp only [bsA, ne_eq] at hc2); exfalso; (first | with_reducible contradiction | omega | (simp at hc2; done)))
            | skip
              try simp only [bsA, ne_eq] at hc2
              refine wc_skip ?_
              refine q_then ?_
              refine wc_seq ?_
              refine wc_region ?_
              refine wl_val rfl rfl rfl (y_loadC agg71 rfl) ?_
              (refine wl_ef rfl (ef_alloc rfl zerRq) ?_; rintro _ _ ⟨b13, rfl, rfl⟩)
              (refine wl_ef rfl (ef_storeC siz71 rfl rfl rfl) ?_; rintro _ _ ⟨rfl, rfl⟩)
              refine wl_nil ?_
              refine q_then ?_
              refine wc_seq ?_
              refine wc_region ?_
              refine wl_val rfl rfl rfl (y_move rfl) ?_
              refine wl_val rfl rfl rfl (y_move rfl) ?_
              refine wl_val rfl rfl rfl (y_field0 fa71_1 rfl) ?_
              (refine wl_ef rfl (ef_storeC siz3 rfl rfl rfl) ?_; rintro _ _ ⟨rfl, rfl⟩)
              refine wl_val rfl rfl rfl (y_field0 fa71_2 rfl) ?_
              (refine wl_ef rfl (ef_storeC siz9 rfl rfl rfl) ?_; rintro _ _ ⟨rfl, rfl⟩)
              refine wl_nil ?_
              refine q_then ?_
              refine wc_seq ?_
              refine wc_seq ?_
              rw [← hY]
              refine wc_region ?_
              refine wl_val rfl rfl rfl (y_move rfl) ?_
              refine wl_val rfl rfl rfl (y_lss rfl rfl) ?_
              refine wl_val rfl rfl rfl (y_move rfl) ?_
              apply wl_orp (d := 82)
              case ht =>
                intro hg4 hK4
                first
                  | (refine wl_dead ?_ hK4 rfl; first | with_reducible contradiction | omega | (simp at hg4; done))
                  | skip
                    try simp only [bsA, ne_eq] at hg4
                    refine wl_gskip rfl rfl rfl rfl rfl rfl rfl ?_
                    refine wl_gskip rfl rfl rfl rfl rfl rfl rfl ?_
                    refine wl_val rfl rfl rfl (y_pickt rfl rfl) ?_
                    exact wl_leR hK4 (.cons rfl (by repeat (first | refine LeE.skip ?_ rfl | exact LeE.refl _)))
              case hf =>
                intro hg4 hK4
                first
                  | (refine wl_dead ?_ hK4 rfl; first | with_reducible contradiction | omega | (simp at hg4; done))
                  | skip
                    try simp only [bsA, ne_eq] at hg4
                    refine wl_gval rfl rfl rfl rfl rfl rfl rfl (y_move rfl) ?_
                    refine wl_gval rfl rfl rfl rfl rfl rfl rfl (y_gtr rfl rfl) ?_
                    first | refine wl_val rfl rfl rfl (y_pickt rfl rfl) ?_ | refine wl_val rfl rfl rfl (y_pickf rfl rfl) ?_
                    exact wl_leR hK4 (.cons rfl (by repeat (first | refine LeE.skip ?_ rfl | exact LeE.refl _)))
              refine wl_nil ?_
              refine q_then ?_
              first | refine wc_cond rfl (fun hc3 => ?_) (fun hc3 => ?_) | refine wc_condb rfl (fun hc3 => ?_) (fun hc3 => ?_)
              · first
                | ((try simp only [bsA, ne_eq] at hc3); exfalso; (first | with_reducible contradiction | omega | (simp at hc3; done)))
                | skip
                  try simp only [bsA, ne_eq] at hc3
                  have hg : gd K0 N 8 Y = 60 := by
                    rw [gd, if_pos]
                    intro h
                    have h1 := h.2.2.1
                    have h2 := h.2.2.2.1
                    rw [hYn] at h1 h2
                    omega
                  refine wc_seq ?_
                  refine wc_region ?_
                  refine wl_val rfl rfl rfl (y_move rfl) ?_
                  refine wl_val rfl rfl rfl (y_move rfl) ?_
                  refine wl_val rfl rfl rfl (y_loadC agg71 rfl) ?_
                  (refine wl_ef rfl (ef_callv0 rfl fun30 rfl (fun _ hw => (cy b28 _ (inB_own hw)))) ?_; rintro _ _ ⟨rfl, rfl⟩)
                  refine wl_val rfl rfl rfl (y_eql rfl rfl) ?_
                  refine wl_val rfl rfl rfl (y_move rfl) ?_
                  apply wl_andp (d := 90)
                  case ht =>
                    intro hg5 hK5
                    first
                      | (refine wl_dead ?_ hK5 rfl; first | with_reducible contradiction | omega | (simp at hg5; done))
                      | skip
                        try simp only [bsA, ne_eq] at hg5
                        (refine wl_gef rfl rfl rfl rfl rfl (ef_callv0 rfl fun26 rfl (fun _ hw => (c_lives06 _))) ?_; rintro _ _ ⟨rfl, rfl⟩)
                        refine wl_val rfl rfl rfl (y_pickt rfl rfl) ?_
                        exact wl_leR hK5 (.cons rfl (by repeat (first | refine LeE.skip ?_ rfl | exact LeE.refl _)))
                  case hf =>
                    intro hg5 hK5
                    (refine wl_dead ?_ hK5 rfl; first | with_reducible contradiction | omega | (simp at hg5; done))
                  refine wl_val rfl rfl rfl (y_assign rfl) ?_
                  refine wl_nil ?_
                  refine q_then ?_
                  refine wc_ret ?_
                  refine q_thenRet ?_
                  apply q_retg (res1 Try.results6 rfl) -- ret 3
                  case hΨ =>
                    exact ⟨by simp [hg], rfl⟩
                  case hs =>
                    exact SubC.out
              · first
                | ((try simp only [bsA, ne_eq] at hc3); exfalso; (first | with_reducible contradiction | omega | (simp at hc3; done)))
                | skip
                  try simp only [bsA, ne_eq] at hc3
                  have hg : gd K0 N 8 Y = if T = R.tag then 0 else 61 := by
                    have hmY : mayP 8 Y := ⟨by rw [hYc]; omega, by rw [hYc]; omega, by rw [hYn]; omega, by rw [hYn]; omega, by rw [hYd]; exact hsz.2⟩
                    rw [gd, if_neg (by simpa using hmY), hYc, hsT, hYt]
                    by_cases h : T = R.tag
                    · rw [if_pos h, if_neg (by rw [h]; simp; omega)]
                    · rw [if_neg h, if_pos (.inr (.inr (by simpa using h)))]
                  refine wc_skip ?_
                  refine q_then ?_
                  refine wc_seq ?_
                  apply wc_later1
                  case h =>
                    intro hL14
                    refine wa_begin_all (n := 13) (b := #[false, false, false, false, false, false, false, false, false, false, false, false, false]) mixed rfl rfl ?_
                    refine wa_t 0 (by kernel_rfl) rfl rfl rfl rfl (y_loadC agg65 rfl) ?_
                    refine wa_t 1 (by kernel_rfl) rfl rfl rfl rfl (y_move rfl) ?_
                    refine wa_t 2 (by kernel_rfl) rfl rfl rfl rfl (y_move rfl) ?_
                    refine wa_t 3 (by kernel_rfl) rfl rfl rfl rfl (y_addn rfl rfl (by omega)) ?_
                    refine wa_t 4 (by kernel_rfl) rfl rfl rfl rfl (y_loadC agg71 rfl) ?_
                    refine wa_all (rs := [5, 10]) (by kernel_rfl) (by simp) ?_
                    intro i hi; simp only [List.mem_cons, List.mem_nil_iff, or_false] at hi
                    rcases hi with rfl | rfl
                    · (refine wo_e rfl rfl (ef_callv0 rfl fun32 rfl (fun _ hw => (c_refBody Y _ hYo))) ?_; rintro _ _ ⟨rfl, rfl⟩; refine ⟨.inr SubC.out, ?_⟩)
                      refine wa_all (rs := [6, 10]) (by kernel_rfl) (by simp) ?_
                      intro i hi; simp only [List.mem_cons, List.mem_nil_iff, or_false] at hi
                      rcases hi with rfl | rfl
                      · (refine wo_e rfl rfl (ef_callv0 rfl fun31 rfl (fun _ hw => (cS _))) ?_; rintro _ _ ⟨rfl, rfl⟩; refine ⟨.inr SubC.out, ?_⟩)
                        refine wa_t 7 (by kernel_rfl) rfl rfl rfl rfl (y_move rfl) ?_
                        refine wa_t 8 (by kernel_rfl) rfl rfl rfl rfl (y_extract rfl rfl) ?_
                        refine wa_t 9 (by kernel_rfl) rfl rfl rfl rfl (y_extract rfl rfl) ?_
                        (refine wa_e 10 (by kernel_rfl) rfl rfl (ef_alloc rfl zerTg) ?_; rintro _ _ ⟨b14, rfl, rfl⟩; refine ⟨.inr SubC.out, ?_⟩)
                        (refine wa_e 11 (by kernel_rfl) rfl rfl (ef_storeC siz69 rfl rfl rfl) ?_; rintro _ _ ⟨rfl, rfl⟩; refine ⟨.inr SubC.out, ?_⟩)
                        refine wa_t 12 (by kernel_rfl) rfl rfl rfl rfl (y_assign rfl) ?_
                        refine wa_done (by kernel_rfl) ?_
                        refine q_then ?_
                        exact wc_le (hL14 b14) (LeE.refl _) (SubL.refl _)
                      · (refine wo_e rfl rfl (ef_alloc rfl zerTg) ?_; rintro _ _ ⟨b14, rfl, rfl⟩; refine ⟨.inr SubC.out, ?_⟩)
                        (refine wa_e 6 (by kernel_rfl) rfl rfl (ef_callv0 rfl fun31 rfl (fun _ hw => (cS _))) ?_; rintro _ _ ⟨rfl, rfl⟩; refine ⟨.inr SubC.out, ?_⟩)
                        refine wa_t 7 (by kernel_rfl) rfl rfl rfl rfl (y_move rfl) ?_
                        refine wa_t 8 (by kernel_rfl) rfl rfl rfl rfl (y_extract rfl rfl) ?_
                        refine wa_t 9 (by kernel_rfl) rfl rfl rfl rfl (y_extract rfl rfl) ?_
                        (refine wa_e 11 (by kernel_rfl) rfl rfl (ef_storeC siz69 rfl rfl rfl) ?_; rintro _ _ ⟨rfl, rfl⟩; refine ⟨.inr SubC.out, ?_⟩)
                        refine wa_t 12 (by kernel_rfl) rfl rfl rfl rfl (y_assign rfl) ?_
                        refine wa_done (by kernel_rfl) ?_
                        refine q_then ?_
                        first | exact wc_le (hL14 b14) (LeE.refl _) (SubL.refl _) | exact wc_le (hL14 b14) (by repeat (first | (focus ((repeat refine LeE.skip ?_ rfl); exact LeE.refl _)) | refine LeE.cons rfl ?_)) SubC.out
                    · (refine wo_e rfl rfl (ef_alloc rfl zerTg) ?_; rintro _ _ ⟨b14, rfl, rfl⟩; refine ⟨.inr SubC.out, ?_⟩)
                      (refine wa_e 5 (by kernel_rfl) rfl rfl (ef_callv0 rfl fun32 rfl (fun _ hw => (c_refBody Y _ hYo))) ?_; rintro _ _ ⟨rfl, rfl⟩; refine ⟨.inr SubC.out, ?_⟩)
                      (refine wa_e 6 (by kernel_rfl) rfl rfl (ef_callv0 rfl fun31 rfl (fun _ hw => (cS _))) ?_; rintro _ _ ⟨rfl, rfl⟩; refine ⟨.inr SubC.out, ?_⟩)
                      refine wa_t 7 (by kernel_rfl) rfl rfl rfl rfl (y_move rfl) ?_
                      refine wa_t 8 (by kernel_rfl) rfl rfl rfl rfl (y_extract rfl rfl) ?_
                      refine wa_t 9 (by kernel_rfl) rfl rfl rfl rfl (y_extract rfl rfl) ?_
                      (refine wa_e 11 (by kernel_rfl) rfl rfl (ef_storeC siz69 rfl rfl rfl) ?_; rintro _ _ ⟨rfl, rfl⟩; refine ⟨.inr SubC.out, ?_⟩)
                      refine wa_t 12 (by kernel_rfl) rfl rfl rfl rfl (y_assign rfl) ?_
                      refine wa_done (by kernel_rfl) ?_
                      refine q_then ?_
                      first | exact wc_le (hL14 b14) (LeE.refl _) (SubL.refl _) | exact wc_le (hL14 b14) (by repeat (first | (focus ((repeat refine LeE.skip ?_ rfl); exact LeE.refl _)) | refine LeE.cons rfl ?_)) SubC.out
                  intro b14
                  refine wc_seq ?_
                  refine wc_region ?_
                  refine wl_val rfl rfl rfl (y_assign rfl) ?_
                  refine wl_nil ?_
                  refine q_then ?_
                  refine wc_seq ?_
                  refine wc_seq ?_
                  refine wc_region ?_
                  refine wl_val rfl rfl rfl (y_loadC agg69 rfl) ?_
                  refine wl_val rfl rfl rfl (y_field0 fa71_3 rfl) ?_
                  refine wl_val rfl rfl rfl (y_loadC agg69 rfl) ?_
                  refine wl_val rfl rfl rfl (y_neqAgg Try.eqGuardType69 rfl rfl (eq_tg _ _) (by omega)) ?_
                  refine wl_nil ?_
                  refine q_then ?_
                  first | refine wc_cond rfl (fun hc4 => ?_) (fun hc4 => ?_) | refine wc_condb rfl (fun hc4 => ?_) (fun hc4 => ?_)
                  · first
                    | ((try simp only [bsA, ne_eq] at hc4); exfalso; (first | with_reducible contradiction | omega | (simp at hc4; done)))
                    | skip
                      try simp only [bsA, ne_eq] at hc4
                      refine wc_region ?_
                      refine wl_val rfl rfl rfl (y_assign rfl) ?_
                      refine wl_nil ?_
                      refine q_then ?_
                      refine wc_seq ?_
                      refine wc_region ?_
                      refine wl_val rfl rfl rfl (y_move rfl) ?_
                      refine wl_val rfl rfl rfl (y_move rfl) ?_
                      refine wl_val rfl rfl rfl (y_loadC agg71 rfl) ?_
                      (refine wl_ef rfl (ef_callv0 rfl fun30 rfl (fun _ hw => (cy b28 _ (inB_own hw)))) ?_; rintro _ _ ⟨rfl, rfl⟩)
                      refine wl_val rfl rfl rfl (y_move rfl) ?_
                      refine wl_val rfl rfl rfl (y_eql rfl rfl) ?_
                      refine wl_val rfl rfl rfl (y_move rfl) ?_
                      apply wl_andp (d := 113)
                      case ht =>
                        intro hg6 hK6
                        first
                          | (refine wl_dead ?_ hK6 rfl; first | with_reducible contradiction | omega | (simp at hg6; done))
                          | skip
                            try simp only [bsA, ne_eq] at hg6
                            (refine wl_gef rfl rfl rfl rfl rfl (ef_callv0 rfl fun26 rfl (fun _ hw => (c_lives06 _))) ?_; rintro _ _ ⟨rfl, rfl⟩)
                            refine wl_val rfl rfl rfl (y_pickt rfl rfl) ?_
                            exact wl_leR hK6 (.cons rfl (by repeat (first | refine LeE.skip ?_ rfl | exact LeE.refl _)))
                      case hf =>
                        intro hg6 hK6
                        first
                          | (refine wl_dead ?_ hK6 rfl; first | with_reducible contradiction | omega | (simp at hg6; done))
                          | skip
                            try simp only [bsA, ne_eq] at hg6
                            refine wl_gskip rfl rfl rfl rfl rfl rfl rfl ?_
                            first | refine wl_val rfl rfl rfl (y_pickt rfl rfl) ?_ | refine wl_val rfl rfl rfl (y_pickf rfl rfl) ?_
                            exact wl_leR hK6 (.cons rfl (by repeat (first | refine LeE.skip ?_ rfl | exact LeE.refl _)))
                      refine wl_val rfl rfl rfl (y_assign rfl) ?_
                      refine wl_nil ?_
                      refine q_then ?_
                      refine wc_ret ?_
                      apply q_retg (res1 Try.results6 rfl) -- ret 4
                      case hΨ =>
                        exact ⟨by simp [hg]; grind, rfl⟩
                      case hs =>
                        exact SubC.out
                  · first
                    | ((try simp only [bsA, ne_eq] at hc4); exfalso; (first | with_reducible contradiction | omega | (simp at hc4; done)))
                    | skip
                      try simp only [bsA, ne_eq] at hc4
                      refine wc_skip ?_
                      refine q_then ?_
                      refine wc_seq ?_
                      refine wc_region ?_
                      refine wl_val rfl rfl rfl (y_move rfl) ?_
                      refine wl_val rfl rfl rfl (y_move rfl) ?_
                      refine wl_val rfl rfl rfl (y_loadC agg71 rfl) ?_
                      (refine wl_ef rfl (ef_callv0 rfl fun30 rfl (fun _ hw => (cy b28 _ (inB_own hw)))) ?_; rintro _ _ ⟨rfl, rfl⟩)
                      refine wl_val rfl rfl rfl (y_move rfl) ?_
                      refine wl_val rfl rfl rfl (y_eql rfl rfl) ?_
                      refine wl_val rfl rfl rfl (y_move rfl) ?_
                      apply wl_andp (d := 113)
                      case ht =>
                        intro hg7 hK7
                        first
                          | (refine wl_dead ?_ hK7 rfl; first | with_reducible contradiction | omega | (simp at hg7; done))
                          | skip
                            try simp only [bsA, ne_eq] at hg7
                            (refine wl_gef rfl rfl rfl rfl rfl (ef_callv0 rfl fun26 rfl (fun _ hw => (c_lives06 _))) ?_; rintro _ _ ⟨rfl, rfl⟩)
                            refine wl_val rfl rfl rfl (y_pickt rfl rfl) ?_
                            exact wl_leR hK7 (.cons rfl (by repeat (first | refine LeE.skip ?_ rfl | exact LeE.refl _)))
                      case hf =>
                        intro hg7 hK7
                        first
                          | (refine wl_dead ?_ hK7 rfl; first | with_reducible contradiction | omega | (simp at hg7; done))
                          | skip
                            try simp only [bsA, ne_eq] at hg7
                            refine wl_gskip rfl rfl rfl rfl rfl rfl rfl ?_
                            first | refine wl_val rfl rfl rfl (y_pickt rfl rfl) ?_ | refine wl_val rfl rfl rfl (y_pickf rfl rfl) ?_
                            exact wl_leR hK7 (.cons rfl (by repeat (first | refine LeE.skip ?_ rfl | exact LeE.refl _)))
                      refine wl_val rfl rfl rfl (y_assign rfl) ?_
                      refine wl_nil ?_
                      refine q_then ?_
                      refine wc_ret ?_
                      apply q_retg (res1 Try.results6 rfl) -- ret 4
                      case hΨ =>
                        exact ⟨by simp [hg]; grind, rfl⟩
                      case hs =>
                        exact SubC.out
end Go.Proofs.Ytdgmkbjopcopcaa
