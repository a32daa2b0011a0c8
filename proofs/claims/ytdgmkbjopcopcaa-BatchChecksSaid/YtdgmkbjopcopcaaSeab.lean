/- Layer 4 (seal): the document's mac; keys: making, signing, checking, of both sides. Own work. -/
import Derived.Test.YtdgmkbjopcopcaaSeaa
import Derived.Test.YtdgmkbjopcopcaaRqa
set_option linter.unusedVariables false
set_option linter.unusedSimpArgs false
set_option maxRecDepth 100000
set_option maxHeartbeats 2000000
namespace Go.Proofs.Ytdgmkbjopcopcaa
open Go.RowKit
-- flat
-- zero 65 Ks0.cells
-- use zerDg zerDg
-- use zerTg zerTg
-- use zerKs zerKs
-- build 65 bldKs
-- build 156 bldKp
def padX (key : List UInt8) (x : UInt8) : List UInt8 := (padK key).map (· ^^^ x)
theorem padX_len {key : List UInt8} (h : key.length ≤ 64) (x : UInt8) : (padX key x).length = 64 := by rw [padX, List.length_map, padK_len h]
theorem padK_at {key : List UInt8} {i : Nat} (h : i < 64) (hk : key.length ≤ 64) : (padK key)[i]? = some (if h : i < key.length then key[i] else 0) := by
  unfold padK
  split
  · rename_i h1
    rw [List.getElem?_append_left h1, List.getElem?_eq_getElem h1]
  · rename_i h1
    rw [List.getElem?_append_right (by omega), zeros, List.getElem?_replicate, if_pos (by omega)]
theorem padX_step {key : List UInt8} {i : Nat} {c x : UInt8} (h : i < 64) (hk : key.length ≤ 64) (hc : c = if h : i < key.length then key[i] else 0) : bvs ((padX key x).take i) ++ [bv (c ^^^ x)] = bvs ((padX key x).take (i + 1)) := by
  have h1 : (padX key x)[i]? = some (c ^^^ x) := by rw [padX, List.getElem?_map, padK_at h hk, hc]; rfl
  rw [List.take_add_one, h1, bvs_app]
  rfl
theorem c_pad (vk : Value) (key : List UInt8) (x : UInt8) (w : World) (hk : RdI w [] vk 1 key.length (bvs key)) (hl : key.length ≤ 64) :
    Calls Try.prog 99 #[vk, bv x] w (RO w 5 1 64 (bvs (padX key x))) := by
  have hxl := padX_len hl x
  obtain ⟨A0, cap0, rfl, hle1, hle2, _⟩ := hk.rd.form
  refine enter (N := 33) Try.func99 rfl Try.ntmps99 rfl (Has.nil _) ?_
  refine wc_seq ?_
  refine wc_region ?_
  refine wl_val rfl rfl rfl (y_assign rfl) ?_
  refine wl_nil ?_
  refine q_then ?_
  refine wc_seq ?_
  refine wc_seq ?_
  refine wc_region ?_
  refine wl_val rfl rfl rfl (y_move rfl) ?_
  refine wl_val rfl rfl rfl (y_lenSl Try.underlying99 rfl) ?_
  refine wl_val rfl rfl rfl (y_gtr rfl rfl) ?_
  refine wl_nil ?_
  refine q_then ?_
  refine wc_cond rfl (fun hc0 => ?_) (fun hc0 => ?_)
  · exfalso; (try simp only [bsA, ne_eq] at hc0); omega
  · first
    | ((try simp only [bsA, ne_eq] at hc0); exfalso; (first | with_reducible contradiction | omega | (simp at hc0; done)))
    | skip
      try simp only [bsA, ne_eq] at hc0
      refine wc_skip ?_
      refine q_then ?_
      refine wc_seq ?_
      refine wc_region ?_
      refine wl_val rfl rfl rfl (y_assign rfl) ?_
      refine wl_nil ?_
      refine q_then ?_
      refine wc_seq ?_
      refine wc_seq ?_
      refine wc_region ?_
      refine wl_val rfl rfl rfl (y_assign rfl) ?_
      refine wl_nil ?_
      refine q_then ?_
      refine wc_block ?_
      refine wc_turn (fun _ hw => hw.nilOwn 5 1) ?_
      refine wc_loop2 (X0 := Nat) (X1 := Value) (fun i v => [(0, .slice A0 key.length cap0), (1, bv x), (5, v), (6, .int .i64 (i : Int))]) (fun i v => [.own v 5 1 i (bvs ((padX key x).take i))]) (fun i v => i ≤ 64) (fun i v => 64 - i) (0) (.slice none 0 0) ?_ ?_ ?_ ?_
      · first | trivial | omega | simp
      · repeat (first | exact SubE.nil | refine SubE.cons rfl ?_ | refine SubE.cons (lk_int rfl (by omega)) ?_ | refine SubE.cons (lk_int rfl (by rfl)) ?_ | refine SubE.cons (lk_eq rfl (by rfl)) ?_)
      · first | exact SubC.out | repeat (first | exact SubL.nil | refine SubL.consOwn (by first | rfl | omega | (simp only [List.length_append, List.length_cons, List.length_nil]; omega) | (first | rfl | assumption | (simp; done))) (by first | rfl | (first | rfl | assumption | (simp; done))) ?_ | refine SubL.consBlk (by first | rfl | (first | rfl | assumption | (simp; done))) ?_ | refine SubL.consMap (by first | rfl | omega) (by first | rfl | (first | rfl | assumption | (simp; done))) ?_)
      · skip
        intro i v hi
        refine wc_seq ?_
        refine wc_seq ?_
        refine wc_region ?_
        refine wl_val rfl rfl rfl (y_move rfl) ?_
        refine wl_val rfl rfl rfl (y_lss rfl rfl) ?_
        refine wl_nil ?_
        refine q_then ?_
        refine wc_cond rfl (fun hc1 => ?_) (fun hc1 => ?_)
        · first
          | ((try simp only [bsA, ne_eq] at hc1); exfalso; (first | with_reducible contradiction | omega | (simp at hc1; done)))
          | skip
            try simp only [bsA, ne_eq] at hc1
            obtain ⟨c, hc⟩ : ∃ c : UInt8, c = if h : i < key.length then key[i] else 0 := ⟨_, rfl⟩
            refine wc_skip ?_
            refine q_then ?_
            refine wc_seq ?_
            refine wc_block ?_
            refine wc_seq ?_
            refine wc_region ?_
            refine wl_val rfl rfl rfl (y_assign (v := bv 0) rfl) ?_
            refine wl_nil ?_
            refine q_then ?_
            refine wc_seq ?_
            refine wc_seq ?_
            refine wc_region ?_
            refine wl_val rfl rfl rfl (y_move rfl) ?_
            refine wl_val rfl rfl rfl (y_move rfl) ?_
            refine wl_val rfl rfl rfl (y_lenSl Try.underlying99 rfl) ?_
            refine wl_val rfl rfl rfl (y_lss rfl rfl) ?_
            refine wl_nil ?_
            refine q_then ?_
            refine wc_cond rfl (fun hc2 => ?_) (fun hc2 => ?_)
            · first
              | ((try simp only [bsA, ne_eq] at hc2); exfalso; (first | with_reducible contradiction | omega | (simp at hc2; done)))
              | skip
                try simp only [bsA, ne_eq] at hc2
                have hlt : i < key.length := by omega
                have hcc : (bvs key)[i]? = some (bv c) := by rw [hc, dif_pos hlt, bvs, List.getElem?_map, List.getElem?_eq_getElem hlt]; rfl
                refine wc_region ?_
                refine wl_val rfl rfl rfl (y_move rfl) ?_
                refine wl_val rfl rfl rfl (y_move rfl) ?_
                refine wl_val rfl rfl rfl (y_indexE1n Try.underlying99 siz5 rfl rfl (by first | exact rd_own | exact rd_in (by assumption) | assumption) (by omega)) ?_
                refine wl_val rfl rfl rfl (y_loadE one5 rfl (rd_in hk) hcc) ?_
                refine wl_val rfl rfl rfl (y_assign rfl) ?_
                refine wl_nil ?_
                refine q_then ?_
                refine wc_region ?_
                refine wl_val rfl rfl rfl (y_move rfl) ?_
                refine wl_val rfl rfl rfl (y_move rfl) ?_
                refine wl_val rfl rfl rfl (y_move rfl) ?_
                refine wl_val rfl rfl rfl (y_xor_u8 rfl rfl) ?_
                (refine wl_ef rfl (ef_lit1 rfl Try.underlying99 siz5 zer5 rfl rfl) ?_; rintro _ _ ⟨v30, rfl, rfl⟩)
                (refine wl_ef rfl (ef_append rfl Try.underlying99 inf5 rfl rfl rfl (by first | exact src_own Try.underlying99 (by (repeat (first | exact OneAll.nil | refine OneAll.cons rfl ?_ | exact bvs_one _ | refine OneAll.app ?_ ?_ | exact OneAll.map _ (fun _ => rfl) | assumption)); fail_if_success focus skip) | exact src_in Try.underlying99 (by assumption) (by (repeat (first | exact OneAll.nil | refine OneAll.cons rfl ?_ | exact bvs_one _ | refine OneAll.app ?_ ?_ | exact OneAll.map _ (fun _ => rfl) | assumption)); fail_if_success focus skip)) (by omega) (by omega)) ?_; rintro _ _ ⟨v31, rfl, rfl⟩)
                refine wl_val rfl rfl rfl (y_assign rfl) ?_
                refine wl_nil ?_
                refine q_blockNormal ?_
                refine q_then ?_
                refine wc_region ?_
                refine wl_val rfl rfl rfl (y_move rfl) ?_
                refine wl_val rfl rfl rfl (y_addn rfl rfl (by omega)) ?_
                refine wl_val rfl rfl rfl (y_assign rfl) ?_
                refine wl_nil ?_
                refine q_again2 (i + 1) (v31) ?_ ?_ ?_ ?_
                · first | omega | (refine ⟨?_, ?_⟩ <;> omega)
                · first | omega | (simp; omega) | (simp only []; omega)
                · repeat (first | exact SubE.nil | refine SubE.cons rfl ?_ | refine SubE.cons (lk_int rfl (by omega)) ?_ | refine SubE.cons (lk_int rfl (by rfl)) ?_ | refine SubE.cons (lk_eq rfl (by rfl)) ?_)
                · first | exact SubC.out | repeat (first | exact SubL.nil | refine SubL.consOwn (by first | rfl | omega | (simp only [List.length_append, List.length_cons, List.length_nil]; omega) | (exact padX_step (by omega) hl hc)) (by first | rfl | (exact padX_step (by omega) hl hc)) ?_ | refine SubL.consBlk (by first | rfl | (exact padX_step (by omega) hl hc)) ?_ | refine SubL.consMap (by first | rfl | omega) (by first | rfl | (exact padX_step (by omega) hl hc)) ?_)
            · first
              | ((try simp only [bsA, ne_eq] at hc2); exfalso; (first | with_reducible contradiction | omega | (simp at hc2; done)))
              | skip
                try simp only [bsA, ne_eq] at hc2
                have hc0 : c = 0 := by rw [hc, dif_neg (by omega)]
                subst hc0
                refine wc_skip ?_
                refine q_then ?_
                refine wc_region ?_
                refine wl_val rfl rfl rfl (y_move rfl) ?_
                refine wl_val rfl rfl rfl (y_move rfl) ?_
                refine wl_val rfl rfl rfl (y_move rfl) ?_
                refine wl_val rfl rfl rfl (y_xor_u8 rfl rfl) ?_
                (refine wl_ef rfl (ef_lit1 rfl Try.underlying99 siz5 zer5 rfl rfl) ?_; rintro _ _ ⟨v30, rfl, rfl⟩)
                (refine wl_ef rfl (ef_append rfl Try.underlying99 inf5 rfl rfl rfl (by first | exact src_own Try.underlying99 (by (repeat (first | exact OneAll.nil | refine OneAll.cons rfl ?_ | exact bvs_one _ | refine OneAll.app ?_ ?_ | exact OneAll.map _ (fun _ => rfl) | assumption)); fail_if_success focus skip) | exact src_in Try.underlying99 (by assumption) (by (repeat (first | exact OneAll.nil | refine OneAll.cons rfl ?_ | exact bvs_one _ | refine OneAll.app ?_ ?_ | exact OneAll.map _ (fun _ => rfl) | assumption)); fail_if_success focus skip)) (by omega) (by omega)) ?_; rintro _ _ ⟨v31, rfl, rfl⟩)
                refine wl_val rfl rfl rfl (y_assign rfl) ?_
                refine wl_nil ?_
                refine q_blockNormal ?_
                refine q_then ?_
                refine wc_region ?_
                refine wl_val rfl rfl rfl (y_move rfl) ?_
                refine wl_val rfl rfl rfl (y_addn rfl rfl (by omega)) ?_
                refine wl_val rfl rfl rfl (y_assign rfl) ?_
                refine wl_nil ?_
                refine q_again2 (i + 1) (v31) ?_ ?_ ?_ ?_
                · first | omega | (refine ⟨?_, ?_⟩ <;> omega)
                · first | omega | (simp; omega) | (simp only []; omega)
                · repeat (first | exact SubE.nil | refine SubE.cons rfl ?_ | refine SubE.cons (lk_int rfl (by omega)) ?_ | refine SubE.cons (lk_int rfl (by rfl)) ?_ | refine SubE.cons (lk_eq rfl (by rfl)) ?_)
                · first | exact SubC.out | repeat (first | exact SubL.nil | refine SubL.consOwn (by first | rfl | omega | (simp only [List.length_append, List.length_cons, List.length_nil]; omega) | (exact padX_step (by omega) hl hc)) (by first | rfl | (exact padX_step (by omega) hl hc)) ?_ | refine SubL.consBlk (by first | rfl | (exact padX_step (by omega) hl hc)) ?_ | refine SubL.consMap (by first | rfl | omega) (by first | rfl | (exact padX_step (by omega) hl hc)) ?_)
        · first
          | ((try simp only [bsA, ne_eq] at hc1); exfalso; (first | with_reducible contradiction | omega | (simp at hc1; done)))
          | skip
            try simp only [bsA, ne_eq] at hc1
            refine wc_exit ?_
            refine q_thenExit ?_
            refine q_thenExit ?_
            refine q_blockExit ?_
            refine q_then ?_
            refine wc_seq ?_
            refine wc_region ?_
            refine wl_val rfl rfl rfl (y_move rfl) ?_
            refine wl_val rfl rfl rfl (y_assign rfl) ?_
            refine wl_nil ?_
            refine q_then ?_
            refine wc_ret ?_
            obtain rfl : i = 64 := by omega
            rw [List.take_of_length_le (by omega)]
            apply q_retg (res1 Try.results99 rfl) -- ret 0
            case hΨ =>
              rfl
            case hs =>
              exact SubC.out
theorem macD_is (key B : List UInt8) : macD key B = shaD (padX key 0x5c ++ (shaD (padX key 0x36 ++ B)).1) := rfl
theorem c_refMac (vk vb : Value) (key B : List UInt8) (w : World) (hk : RdI w [] vk 1 key.length (bvs key)) (hl : key.length ≤ 64) (hv : RdI w [] vb 1 B.length (bvs B)) (hB : B.length ≤ 1000000000) :
    Calls Try.prog 74 #[vk, vb] w (RV w (.agg (bvs (macD key B).1).toArray)) := by
  obtain ⟨P1, hP1⟩ : ∃ P, P = padX key 0x36 := ⟨_, rfl⟩
  obtain ⟨P2, hP2⟩ : ∃ P, P = padX key 0x5c := ⟨_, rfl⟩
  have l1 : P1.length = 64 := by rw [hP1, padX_len hl]
  have l2 : P2.length = 64 := by rw [hP2, padX_len hl]
  obtain ⟨D1, hD1⟩ : ∃ D, D = shaD (P1 ++ B) := ⟨_, rfl⟩
  obtain ⟨D2, hD2⟩ : ∃ D, D = shaD (P2 ++ D1.1) := ⟨_, rfl⟩
  rw [show macD key B = D2 from by rw [macD_is, hD2, hD1, hP1, hP2]]
  have p1 : ∀ w, RdI w [] vk 1 key.length (bvs key) → Calls Try.prog 99 #[vk, .int .u8 54] w (RO w 5 1 64 (bvs P1)) := fun w h => by rw [hP1]; exact c_pad vk key 0x36 w h hl
  have p2 : ∀ w, RdI w [] vk 1 key.length (bvs key) → Calls Try.prog 99 #[vk, .int .u8 92] w (RO w 5 1 64 (bvs P2)) := fun w h => by rw [hP2]; exact c_pad vk key 0x5c w h hl
  have s1 : ∀ (v : Value) (w : World), RdI w [] v 1 (64 + B.length) (bvs P1 ++ bvs B) → Calls Try.prog 66 #[v] w (RV w (.agg (bvs D1.1).toArray)) := fun v w h => by
    rw [hD1]
    exact c_refSum v (P1 ++ B) w (by rw [List.length_append, l1, bvs_app]; exact h) (by rw [List.length_append, l1]; omega)
  have s2 : ∀ (v : Value) (w : World), RdI w [] v 1 (64 + 32) (bvs P2 ++ bvs D1.1) → Calls Try.prog 66 #[v] w (RV w (.agg (bvs D2.1).toArray)) := fun v w h => by
    have hd := D1.2
    rw [hD2]
    exact c_refSum v (P2 ++ D1.1) w (by rw [List.length_append, l2, bvs_app, hd]; exact h) (by rw [List.length_append, l2]; omega)
  refine enter (N := 17) Try.func74 rfl Try.ntmps74 rfl (Has.nil _) ?_
  refine wc_seq ?_
  refine wc_region ?_
  (refine wl_ef rfl (ef_alloc rfl zerDg) ?_; rintro _ _ ⟨b4, rfl, rfl⟩)
  refine wl_nil ?_
  refine q_then ?_
  refine wc_seq ?_
  refine wc_region ?_
  refine wl_val rfl rfl rfl (y_move rfl) ?_
  (refine wl_ef rfl (ef_callo rfl fun99 rfl (fun _ hw => (p1 _ (rdI_in0 hw hk)))) ?_; rintro _ _ ⟨v7, rfl, rfl⟩)
  refine wl_val rfl rfl rfl (y_move rfl) ?_
  (refine wl_ef rfl (ef_append rfl Try.underlying99 inf5 rfl rfl rfl (by first | exact src_own Try.underlying99 (by (repeat (first | exact OneAll.nil | refine OneAll.cons rfl ?_ | exact bvs_one _ | refine OneAll.app ?_ ?_ | exact OneAll.map _ (fun _ => rfl) | assumption)); fail_if_success focus skip) | exact src_in Try.underlying99 (by assumption) (by (repeat (first | exact OneAll.nil | refine OneAll.cons rfl ?_ | exact bvs_one _ | refine OneAll.app ?_ ?_ | exact OneAll.map _ (fun _ => rfl) | assumption)); fail_if_success focus skip)) (by omega) (by omega)) ?_; rintro _ _ ⟨v9, rfl, rfl⟩)
  (refine wl_ef rfl (ef_callv0 rfl fun66 rfl (fun _ hw => (s1 _ _ (rdI_own0 hw)))) ?_; rintro _ _ ⟨rfl, rfl⟩)
  (refine wl_ef rfl (ef_alloc rfl zerDg) ?_; rintro _ _ ⟨b5, rfl, rfl⟩)
  (refine wl_ef rfl (ef_storeC siz28 rfl rfl rfl) ?_; rintro _ _ ⟨rfl, rfl⟩)
  refine wl_nil ?_
  refine q_then ?_
  refine wc_seq ?_
  refine wa_begin_all (n := 7) (b := #[false, false, false, false, false, false, false]) mixed rfl rfl ?_
  refine wa_t 0 (by kernel_rfl) rfl rfl rfl rfl (y_move rfl) ?_
  refine wa_t 2 (by kernel_rfl) rfl rfl rfl rfl (y_loadC agg28 rfl) ?_
  (refine wa_e 1 (by kernel_rfl) rfl rfl (ef_callo rfl fun99 rfl (fun _ hw => (p2 _ (rdI_in0 hw hk)))) ?_; rintro _ _ ⟨v12, rfl, rfl⟩; refine ⟨.inr SubC.out, ?_⟩)
  (refine wa_e 3 (by kernel_rfl) rfl rfl (ef_callo rfl fun100 rfl (fun _ hw => (c_refBytes D1.1 D1.2 _))) ?_; rintro _ _ ⟨v14, rfl, rfl⟩; refine ⟨.inl (by kernel_rfl), ?_⟩)
  (refine wa_e 4 (by kernel_rfl) rfl rfl (ef_append rfl Try.underlying99 inf5 rfl rfl rfl (by first | exact src_own Try.underlying99 (by (repeat (first | exact OneAll.nil | refine OneAll.cons rfl ?_ | exact bvs_one _ | refine OneAll.app ?_ ?_ | exact OneAll.map _ (fun _ => rfl) | assumption)); fail_if_success focus skip) | exact src_in Try.underlying99 (by assumption) (by (repeat (first | exact OneAll.nil | refine OneAll.cons rfl ?_ | exact bvs_one _ | refine OneAll.app ?_ ?_ | exact OneAll.map _ (fun _ => rfl) | assumption)); fail_if_success focus skip)) (by omega) (by omega)) ?_; rintro _ _ ⟨v15, rfl, rfl⟩; refine ⟨.inl (by kernel_rfl), ?_⟩)
  (refine wa_e 5 (by kernel_rfl) rfl rfl (ef_callv0 rfl fun66 rfl (fun _ hw => (s2 _ _ (rdI_own0 hw)))) ?_; rintro _ _ ⟨rfl, rfl⟩; refine ⟨.inl (by kernel_rfl), ?_⟩)
  (refine wa_e 6 (by kernel_rfl) rfl rfl (ef_storeC siz28 rfl rfl rfl) ?_; rintro _ _ ⟨rfl, rfl⟩; refine ⟨.inl (by kernel_rfl), ?_⟩)
  refine wa_done (by kernel_rfl) ?_
  refine q_then ?_
  refine wc_ret ?_
  apply q_retg (rescC Try.results74 rfl agg28) -- ret 0
  case hΨ =>
    first | exact ⟨rfl, rfl⟩ | exact rfl
  case hs =>
    exact SubC.out
/-- an identity's key -/
def keyD (seed : ByteArray) (id : Int) : Dg := shaD (encT seed.data.toList ++ encI id)
theorem c_refKey (k : Ks) (id : Int) (w : World) (hs : k.seed.size ≤ 64) (hi : id ≤ 9223372036854775807) : Calls Try.prog 75 #[.agg k.cells.toArray, .int .i64 id] w (RO w 5 1 32 (bvs (keyD k.seed id).1)) := by
  obtain ⟨D, hD⟩ : ∃ D, D = keyD k.seed id := ⟨_, rfl⟩
  obtain ⟨S, hS⟩ : ∃ S, S = encT k.seed.data.toList := ⟨_, rfl⟩
  have hsl : S.length ≤ 100 := by
    rw [hS]
    have := encT_len (l := k.seed.data.toList) (by have := hs; simp; omega)
    simp at this
    omega
  have hel := encI_len hi
  have p1 : ∀ w, Calls Try.prog 76 #[.slice none 0 0, .string k.seed] w (RB w S) := fun w => by
    rw [hS]
    exact c_refPutText (.slice none 0 0) [] k.seed w (RdI.of_nil _ _ _) (by simp) (by omega)
  have s1 : ∀ (v : Value) (w : World), RdI w [] v 1 (S ++ encI id).length (bvs (S ++ encI id)) → Calls Try.prog 66 #[v] w (RV w (.agg (bvs D.1).toArray)) := fun v w h => by
    rw [hD, keyD, ← hS]
    exact c_refSum v _ w h (by rw [List.length_append]; omega)
  rw [← hD]
  refine enter (N := 12) Try.func75 rfl Try.ntmps75 rfl (Has.nil _) ?_
  refine wc_seq ?_
  refine wc_region ?_
  (refine wl_ef rfl (ef_box rfl rfl rfl) ?_; rintro _ _ ⟨b2, rfl, rfl⟩)
  refine wl_val rfl rfl rfl (y_assign rfl) ?_
  refine wl_nil ?_
  refine q_then ?_
  refine wc_seq ?_
  refine wc_region ?_
  refine wl_val rfl rfl rfl (y_field0 fa65_0 rfl) ?_
  refine wl_val rfl rfl rfl (y_loadA one9 rfl) ?_
  (refine wl_ef rfl (ef_callo rfl fun76 rfl (fun _ hw => (p1 _))) ?_; rintro _ _ ⟨v7, rfl, rfl⟩)
  refine wl_val rfl rfl rfl (y_move rfl) ?_
  (refine wl_ef rfl (ef_callo rfl fun77 rfl (fun _ hw => (c_refPut _ S id hi _ (rdI_own0 hw) (by omega)))) ?_; rintro _ _ ⟨v9, rfl, rfl⟩)
  (refine wl_ef rfl (ef_callv0 rfl fun66 rfl (fun _ hw => (s1 _ _ (rdI_own0 hw)))) ?_; rintro _ _ ⟨rfl, rfl⟩)
  (refine wl_ef rfl (ef_callo rfl fun100 rfl (fun _ hw => (c_refBytes D.1 D.2 _))) ?_; rintro _ _ ⟨v11, rfl, rfl⟩)
  refine wl_val rfl rfl rfl (y_assign rfl) ?_
  refine wl_nil ?_
  refine q_then ?_
  refine wc_ret ?_
  apply q_retg (res1 Try.results75 rfl) -- ret 0
  case hΨ =>
    rfl
  case hs =>
    exact SubC.out
def tgD (d : Dg) : Tg := ⟨d.1.take 16, by rw [List.length_take, d.2]; rfl⟩
/-- the tag of a body -/
def sgn (k : Ks) (id : Int) (body : ByteArray) : Tg × Int := if id < 0 ∨ k.n ≤ id then (Tg0, 2) else (tgD (macD (keyD k.seed id).1 body.data.toList), 0)
theorem tg_step {d : Dg} {i : Nat} (h : i < 16) : (bvs (d.1.take i ++ (zeros 16).drop i)).set i (bv (d.1[i]'(by rw [d.2]; omega))) = bvs (d.1.take (i + 1) ++ (zeros 16).drop (i + 1)) := by
  have hd := d.2
  have h1 : (bvs (d.1.take i)).length = i := by rw [bvs_len, List.length_take]; omega
  have h2 : (zeros 16).drop i = 0 :: (zeros 16).drop (i + 1) := by simp only [zeros, List.drop_replicate]; rw [show 16 - i = (16 - (i + 1)) + 1 from by omega, List.replicate_succ]
  rw [h2, bvs_app, List.set_append_right _ _ (by omega), h1, Nat.sub_self, List.take_add_one, List.getElem?_eq_getElem (by omega), bvs_app, bvs_app, List.append_assoc]
  rfl
theorem c_refSign (k : Ks) (id : Int) (body : ByteArray) (w : World) (hs : k.seed.size ≤ 64) (hi : id ≤ 9223372036854775807) (hb : body.size ≤ 100000000) :
    Calls Try.prog 31 #[.agg k.cells.toArray, .int .i64 id, .string body] w (RV w (.tuple #[.agg (bvs (sgn k id body).1.1).toArray, .int .i64 (sgn k id body).2])) := by
  obtain ⟨K, hK⟩ : ∃ K, K = keyD k.seed id := ⟨_, rfl⟩
  obtain ⟨D, hD⟩ : ∃ D, D = macD K.1 body.data.toList := ⟨_, rfl⟩
  have hd := D.2
  have hkl : K.1.length = 32 := K.2
  have ck : ∀ w, Calls Try.prog 75 #[.agg k.cells.toArray, .int .i64 id] w (RO w 5 1 32 (bvs K.1)) := fun w => by rw [hK]; exact c_refKey k id w hs hi
  have cm : ∀ (vk vb : Value) (w : World), RdI w [] vk 1 32 (bvs K.1) → RdI w [] vb 1 body.size (bvs body.data.toList) → Calls Try.prog 74 #[vk, vb] w (RV w (.agg (bvs D.1).toArray)) := fun vk vb w h1 h2 => by
    rw [hD]
    exact c_refMac vk vb K.1 _ w (by rw [hkl]; exact h1) (by omega) (by simpa using h2) (by simp; omega)
  refine enter (N := 36) Try.func31 rfl Try.ntmps31 rfl (Has.nil _) ?_
  refine wc_seq ?_
  refine wc_region ?_
  (refine wl_ef rfl (ef_box rfl rfl rfl) ?_; rintro _ _ ⟨b3, rfl, rfl⟩)
  (refine wl_ef rfl (ef_alloc rfl zerTg) ?_; rintro _ _ ⟨b6, rfl, rfl⟩)
  refine wl_val rfl rfl rfl (y_assign rfl) ?_
  refine wl_nil ?_
  refine q_then ?_
  refine wc_seq ?_
  refine wc_region ?_
  (refine wl_ef rfl (ef_alloc rfl zerTg) ?_; rintro _ _ ⟨b8, rfl, rfl⟩)
  refine wl_nil ?_
  refine q_then ?_
  refine wc_seq ?_
  refine wc_seq ?_
  refine wc_region ?_
  refine wl_val rfl rfl rfl (y_move rfl) ?_
  refine wl_val rfl rfl rfl (y_lss rfl rfl) ?_
  refine wl_val rfl rfl rfl (y_move rfl) ?_
  apply wl_orp (d := 18)
  case ht =>
    intro hg1 hK1
    first
      | (refine wl_dead ?_ hK1 rfl; first | with_reducible contradiction | omega | (simp at hg1; done))
      | skip
        try simp only [bsA, ne_eq] at hg1
        refine wl_gskip rfl rfl rfl rfl rfl rfl rfl ?_
        refine wl_gskip rfl rfl rfl rfl rfl rfl rfl ?_
        refine wl_gskip rfl rfl rfl rfl rfl rfl rfl ?_
        refine wl_gskip rfl rfl rfl rfl rfl rfl rfl ?_
        refine wl_val rfl rfl rfl (y_pickt rfl rfl) ?_
        exact wl_leR hK1 (.cons rfl (by repeat (first | refine LeE.skip ?_ rfl | exact LeE.refl _)))
  case hf =>
    intro hg1 hK1
    first
      | (refine wl_dead ?_ hK1 rfl; first | with_reducible contradiction | omega | (simp at hg1; done))
      | skip
        try simp only [bsA, ne_eq] at hg1
        refine wl_gval rfl rfl rfl rfl rfl rfl rfl (y_move rfl) ?_
        refine wl_gval rfl rfl rfl rfl rfl rfl rfl (y_field0 fa65_1 rfl) ?_
        refine wl_gval rfl rfl rfl rfl rfl rfl rfl (y_loadA one3 rfl) ?_
        refine wl_gval rfl rfl rfl rfl rfl rfl rfl (y_geq rfl rfl) ?_
        first | refine wl_val rfl rfl rfl (y_pickt rfl rfl) ?_ | refine wl_val rfl rfl rfl (y_pickf rfl rfl) ?_
        exact wl_leR hK1 (.cons rfl (by repeat (first | refine LeE.skip ?_ rfl | exact LeE.refl _)))
  refine wl_nil ?_
  refine q_then ?_
  first | refine wc_cond rfl (fun hc0 => ?_) (fun hc0 => ?_) | refine wc_condb rfl (fun hc0 => ?_) (fun hc0 => ?_)
  · first
    | ((try simp only [bsA, ne_eq] at hc0); exfalso; (first | with_reducible contradiction | omega | (simp at hc0; done)))
    | skip
      try simp only [bsA, ne_eq] at hc0
      have hsg : sgn k id body = (Tg0, 2) := if_pos (by omega)
      refine wc_seq ?_
      refine wc_region ?_
      refine wl_val rfl rfl rfl (y_loadC agg69 rfl) ?_
      (refine wl_ef rfl (ef_storeC siz69 rfl rfl rfl) ?_; rintro _ _ ⟨rfl, rfl⟩)
      refine wl_val rfl rfl rfl (y_assign rfl) ?_
      refine wl_nil ?_
      refine q_then ?_
      refine wc_ret ?_
      refine q_thenRet ?_
      apply q_retg (rescC2 Try.results31 rfl rfl agg69) -- ret 0
      case hΨ =>
        exact ⟨by rw [hsg], rfl⟩
      case hs =>
        exact SubC.out
  · first
    | ((try simp only [bsA, ne_eq] at hc0); exfalso; (first | with_reducible contradiction | omega | (simp at hc0; done)))
    | skip
      try simp only [bsA, ne_eq] at hc0
      have hsg : sgn k id body = (tgD D, 0) := by rw [sgn, if_neg (by omega), hD, hK]
      refine wc_skip ?_
      refine q_then ?_
      refine wc_seq ?_
      refine wc_region ?_
      refine wl_val rfl rfl rfl (y_loadC agg65 rfl) ?_
      refine wl_val rfl rfl rfl (y_move rfl) ?_
      (refine wl_ef rfl (ef_callo rfl fun75 rfl (fun _ hw => (ck _))) ?_; rintro _ _ ⟨v22, rfl, rfl⟩)
      refine wl_val rfl rfl rfl (y_move rfl) ?_
      (refine wl_ef rfl (ef_bytes rfl Try.underlying9 Try.underlying99 Try.underlying5 rfl (by omega)) ?_; rintro _ _ ⟨v24, rfl, rfl⟩)
      (refine wl_ef rfl (ef_callv0 rfl fun74 rfl (fun _ hw => (cm _ _ _ (rdI_own0 hw) (rdI_own0 hw)))) ?_; rintro _ _ ⟨rfl, rfl⟩)
      (refine wl_ef rfl (ef_alloc rfl zerDg) ?_; rintro _ _ ⟨b9, rfl, rfl⟩)
      (refine wl_ef rfl (ef_storeC siz28 rfl rfl rfl) ?_; rintro _ _ ⟨rfl, rfl⟩)
      refine wl_nil ?_
      refine q_then ?_
      refine wc_seq ?_
      refine wc_seq ?_
      refine wc_region ?_
      refine wl_val rfl rfl rfl (y_assign rfl) ?_
      refine wl_nil ?_
      refine q_then ?_
      refine wc_block ?_
      refine wc_loop (X := Nat) (fun i => [(6, .pointer (some ⟨b6, 0, none⟩)), (8, .pointer (some ⟨b8, 0, none⟩)), (9, .pointer (some ⟨b9, 0, none⟩)), (10, .int .i64 (i : Int))]) (fun i => [.blk b8 (bvs (D.1.take i ++ (zeros 16).drop i)) 69 (0, 0), .blk b9 (bvs D.1) 28 (0, 0), .blk b6 (bvs Tg0.1) 69 (0, 0)]) (fun i => i ≤ 16) (fun i => 16 - i) (0) ?_ ?_ ?_ ?_
      · first | trivial | omega | simp
      · repeat (first | exact SubE.nil | refine SubE.cons rfl ?_ | refine SubE.cons (lk_int rfl (by omega)) ?_ | refine SubE.cons (lk_int rfl (by rfl)) ?_ | refine SubE.cons (lk_eq rfl (by rfl)) ?_)
      · first | exact SubC.out | repeat (first | exact SubL.nil | refine SubL.consOwn (by first | rfl | omega | (simp only [List.length_append, List.length_cons, List.length_nil]; omega) | (first | rfl | assumption | (simp; done))) (by first | rfl | (first | rfl | assumption | (simp; done))) ?_ | refine SubL.consBlk (by first | rfl | (first | rfl | assumption | (simp; done))) ?_ | refine SubL.consMap (by first | rfl | omega) (by first | rfl | (first | rfl | assumption | (simp; done))) ?_)
      · skip
        intro i hi
        refine wc_seq ?_
        refine wc_seq ?_
        refine wc_region ?_
        refine wl_val rfl rfl rfl (y_move rfl) ?_
        refine wl_val rfl rfl rfl (y_lss rfl rfl) ?_
        refine wl_nil ?_
        refine q_then ?_
        refine wc_cond rfl (fun hc1 => ?_) (fun hc1 => ?_)
        · first
          | ((try simp only [bsA, ne_eq] at hc1); exfalso; (first | with_reducible contradiction | omega | (simp at hc1; done)))
          | skip
            try simp only [bsA, ne_eq] at hc1
            have hlt : i < D.1.length := by omega
            have hcc : (bvs D.1)[i]? = some (bv D.1[i]) := by rw [bvs, List.getElem?_map, List.getElem?_eq_getElem hlt]; rfl
            refine wc_skip ?_
            refine q_then ?_
            refine wc_seq ?_
            refine wc_block ?_
            refine wc_region ?_
            refine wl_val rfl rfl rfl (y_move rfl) ?_
            refine wl_val rfl rfl rfl (y_move rfl) ?_
            refine wl_val rfl rfl rfl (y_indexA1n Try.underlying28 siz5 rfl rfl (by omega)) ?_
            refine wl_val rfl rfl rfl (y_load one5 rfl hcc) ?_
            refine wl_val rfl rfl rfl (y_indexA1n Try.underlying69 siz5 rfl rfl (by omega)) ?_
            (refine wl_ef rfl (ef_store siz5 rfl rfl rfl (by rw [bvs_len]; simp [zeros]; omega)) ?_; rintro _ _ ⟨rfl, rfl⟩)
            refine wl_nil ?_
            refine q_blockNormal ?_
            refine q_then ?_
            refine wc_region ?_
            refine wl_val rfl rfl rfl (y_move rfl) ?_
            refine wl_val rfl rfl rfl (y_addn rfl rfl (by omega)) ?_
            refine wl_val rfl rfl rfl (y_assign rfl) ?_
            refine wl_nil ?_
            refine q_again (i + 1) ?_ ?_ ?_ ?_
            · first | omega | (refine ⟨?_, ?_⟩ <;> omega)
            · first | omega | (simp; omega) | (simp only []; omega)
            · repeat (first | exact SubE.nil | refine SubE.cons rfl ?_ | refine SubE.cons (lk_int rfl (by omega)) ?_ | refine SubE.cons (lk_int rfl (by rfl)) ?_ | refine SubE.cons (lk_eq rfl (by rfl)) ?_)
            · first | exact SubC.out | repeat (first | exact SubL.nil | refine SubL.consOwn (by first | rfl | omega | (simp only [List.length_append, List.length_cons, List.length_nil]; omega) | (exact tg_step (by omega))) (by first | rfl | (exact tg_step (by omega))) ?_ | refine SubL.consBlk (by first | rfl | (exact tg_step (by omega))) ?_ | refine SubL.consMap (by first | rfl | omega) (by first | rfl | (exact tg_step (by omega))) ?_)
        · first
          | ((try simp only [bsA, ne_eq] at hc1); exfalso; (first | with_reducible contradiction | omega | (simp at hc1; done)))
          | skip
            try simp only [bsA, ne_eq] at hc1
            obtain rfl : i = 16 := by omega
            have hX : D.1.take 16 ++ (zeros 16).drop 16 = (tgD D).1 := by simp [zeros, tgD]
            rw [hX]
            refine wc_exit ?_
            refine q_thenExit ?_
            refine q_thenExit ?_
            refine q_blockExit ?_
            refine q_then ?_
            refine wc_seq ?_
            refine wc_region ?_
            refine wl_val rfl rfl rfl (y_loadC agg69 rfl) ?_
            (refine wl_ef rfl (ef_storeC siz69 rfl rfl rfl) ?_; rintro _ _ ⟨rfl, rfl⟩)
            refine wl_val rfl rfl rfl (y_assign rfl) ?_
            refine wl_nil ?_
            refine q_then ?_
            refine wc_ret ?_
            apply q_retg (rescC2 Try.results31 rfl rfl agg69) -- ret 1
            case hΨ =>
              exact ⟨by rw [hsg], rfl⟩
            case hs =>
              exact SubC.out
theorem c_refCheck (k : Ks) (id : Int) (body : ByteArray) (t : Tg) (w : World) (hs : k.seed.size ≤ 64) (hi : id ≤ 9223372036854775807) (hb : body.size ≤ 100000000) :
    Calls Try.prog 84 #[.agg k.cells.toArray, .int .i64 id, .string body, .agg (bvs t.1).toArray] w (RV w (.bool (decide (sgn k id body = (t, 0))))) := by
  refine enter (N := 25) Try.func84 rfl Try.ntmps84 rfl (Has.nil _) ?_
  refine wc_seq ?_
  refine wc_region ?_
  (refine wl_ef rfl (ef_box rfl rfl rfl) ?_; rintro _ _ ⟨b4, rfl, rfl⟩)
  (refine wl_ef rfl (ef_box rfl rfl rfl) ?_; rintro _ _ ⟨b7, rfl, rfl⟩)
  refine wl_val rfl rfl rfl (y_assign rfl) ?_
  refine wl_nil ?_
  refine q_then ?_
  refine wc_seq ?_
  refine wc_region ?_
  refine wl_val rfl rfl rfl (y_loadC agg65 rfl) ?_
  refine wl_val rfl rfl rfl (y_move rfl) ?_
  refine wl_val rfl rfl rfl (y_move rfl) ?_
  (refine wl_ef rfl (ef_callv0 rfl fun31 rfl (fun _ hw => (c_refSign k id body _ hs hi hb))) ?_; rintro _ _ ⟨rfl, rfl⟩)
  refine wl_val rfl rfl rfl (y_move rfl) ?_
  refine wl_val rfl rfl rfl (y_extract rfl rfl) ?_
  refine wl_val rfl rfl rfl (y_extract rfl rfl) ?_
  (refine wl_ef rfl (ef_alloc rfl zerTg) ?_; rintro _ _ ⟨b9, rfl, rfl⟩)
  (refine wl_ef rfl (ef_storeC siz69 rfl rfl rfl) ?_; rintro _ _ ⟨rfl, rfl⟩)
  refine wl_val rfl rfl rfl (y_assign rfl) ?_
  refine wl_nil ?_
  refine q_then ?_
  refine wc_seq ?_
  refine wc_region ?_
  refine wl_val rfl rfl rfl (y_move rfl) ?_
  refine wl_val rfl rfl rfl (y_eql rfl rfl) ?_
  refine wl_val rfl rfl rfl (y_move rfl) ?_
  apply wl_andp (d := 24)
  case ht =>
    intro hg1 hK1
    first
      | (refine wl_dead ?_ hK1 rfl; first | with_reducible contradiction | omega | (simp at hg1; done))
      | skip
        try simp only [bsA, ne_eq] at hg1
        refine wl_gval rfl rfl rfl rfl rfl rfl rfl (y_loadC agg69 rfl) ?_
        refine wl_gval rfl rfl rfl rfl rfl rfl rfl (y_loadC agg69 rfl) ?_
        refine wl_gval rfl rfl rfl rfl rfl rfl rfl (y_eqlAgg Try.eqGuardType69 rfl rfl (eq_tg _ _) (by omega)) ?_
        refine wl_val rfl rfl rfl (y_pickt rfl rfl) ?_
        exact wl_leR hK1 (.cons rfl (by repeat (first | refine LeE.skip ?_ rfl | exact LeE.refl _)))
  case hf =>
    intro hg1 hK1
    first
      | (refine wl_dead ?_ hK1 rfl; first | with_reducible contradiction | omega | (simp at hg1; done))
      | skip
        try simp only [bsA, ne_eq] at hg1
        refine wl_gskip rfl rfl rfl rfl rfl rfl rfl ?_
        refine wl_gskip rfl rfl rfl rfl rfl rfl rfl ?_
        refine wl_gskip rfl rfl rfl rfl rfl rfl rfl ?_
        first | refine wl_val rfl rfl rfl (y_pickt rfl rfl) ?_ | refine wl_val rfl rfl rfl (y_pickf rfl rfl) ?_
        exact wl_leR hK1 (.cons rfl (by repeat (first | refine LeE.skip ?_ rfl | exact LeE.refl _)))
  refine wl_val rfl rfl rfl (y_assign rfl) ?_
  refine wl_nil ?_
  refine q_then ?_
  refine wc_ret ?_
  apply q_retg (res1 Try.results84 rfl) -- ret 0
  case hΨ =>
    exact ⟨by congr 1; rw [Bool.eq_iff_iff]; simp [Prod.ext_iff, and_comm], rfl⟩
  case hs =>
    exact SubC.out
/-! the program's keys -/
theorem c_Len (b : Nat) (k : Ks) (w : World) (hb : InB w b k.cells) : Calls Try.prog 70 #[.pointer (some ⟨b, 0, none⟩)] w (RV w (.int .i64 k.n)) := by
  refine enter (N := 9) Try.func70 rfl Try.ntmps70 rfl (Has.nil _) ?_
  refine wc_seq ?_
  refine wc_region ?_
  refine wl_val rfl rfl rfl (y_assign rfl) ?_
  refine wl_nil ?_
  refine q_then ?_
  refine wc_seq ?_
  refine wc_seq ?_
  refine wc_region ?_
  refine wl_val rfl rfl rfl (y_move rfl) ?_
  refine wl_val rfl rfl rfl (y_eqlPtrNil Try.underlying63 rfl rfl) ?_
  refine wl_nil ?_
  refine q_then ?_
  first | refine wc_cond rfl (fun hc0 => ?_) (fun hc0 => ?_) | refine wc_condb rfl (fun hc0 => ?_) (fun hc0 => ?_)
  · ((try simp only [bsA, ne_eq] at hc0); exfalso; (first | with_reducible contradiction | omega | (simp at hc0; done)))
  · first
    | ((try simp only [bsA, ne_eq] at hc0); exfalso; (first | with_reducible contradiction | omega | (simp at hc0; done)))
    | skip
      try simp only [bsA, ne_eq] at hc0
      refine wc_skip ?_
      refine q_then ?_
      refine wc_seq ?_
      refine wc_region ?_
      refine wl_val rfl rfl rfl (y_move rfl) ?_
      refine wl_val rfl rfl rfl (y_nilCheck rfl) ?_
      refine wl_val rfl rfl rfl (y_field0 fa156_1 rfl) ?_
      refine wl_val rfl rfl rfl (y_loadI one3 rfl hb) ?_
      refine wl_val rfl rfl rfl (y_assign rfl) ?_
      refine wl_nil ?_
      refine q_then ?_
      refine wc_ret ?_
      apply q_retg (res1 Try.results70 rfl) -- ret 1
      case hΨ =>
        first | exact ⟨rfl, rfl⟩ | exact rfl
      case hs =>
        exact SubC.out
theorem c_LenNil (w : World) : Calls Try.prog 70 #[.pointer none] w (RV w (.int .i64 0)) := by
  refine enter (N := 9) Try.func70 rfl Try.ntmps70 rfl (Has.nil _) ?_
  refine wc_seq ?_
  refine wc_region ?_
  refine wl_val rfl rfl rfl (y_assign rfl) ?_
  refine wl_nil ?_
  refine q_then ?_
  refine wc_seq ?_
  refine wc_seq ?_
  refine wc_region ?_
  refine wl_val rfl rfl rfl (y_move rfl) ?_
  refine wl_val rfl rfl rfl (y_eqlPtrNil Try.underlying63 rfl rfl) ?_
  refine wl_nil ?_
  refine q_then ?_
  first | refine wc_cond rfl (fun hc0 => ?_) (fun hc0 => ?_) | refine wc_condb rfl (fun hc0 => ?_) (fun hc0 => ?_)
  · first
    | ((try simp only [bsA, ne_eq] at hc0); exfalso; (first | with_reducible contradiction | omega | (simp at hc0; done)))
    | skip
      try simp only [bsA, ne_eq] at hc0
      refine wc_seq ?_
      refine wc_region ?_
      refine wl_val rfl rfl rfl (y_assign rfl) ?_
      refine wl_nil ?_
      refine q_then ?_
      refine wc_ret ?_
      refine q_thenRet ?_
      apply q_retg (res1 Try.results70 rfl) -- ret 0
      case hΨ =>
        first | exact ⟨rfl, rfl⟩ | exact rfl
      case hs =>
        exact SubC.out
  · ((try simp only [bsA, ne_eq] at hc0); exfalso; (first | with_reducible contradiction | omega | (simp at hc0; done)))
theorem c_Sign (b : Nat) (k : Ks) (id : Int) (body : ByteArray) (w : World) (hk : InB w b k.cells) (hn : k.n ≠ 0) (hs : k.seed.size ≤ 64) (hi : id ≤ 9223372036854775807) (hb : body.size ≤ 100000000) :
    Calls Try.prog 72 #[.pointer (some ⟨b, 0, none⟩), .int .i64 id, .string body] w (RV w (.tuple #[.agg (bvs (sgn k id body).1.1).toArray, .int .i64 (sgn k id body).2])) := by
  obtain ⟨K, hK⟩ : ∃ K, K = keyD k.seed id := ⟨_, rfl⟩
  obtain ⟨D, hD⟩ : ∃ D, D = macD K.1 body.data.toList := ⟨_, rfl⟩
  obtain ⟨S, hS⟩ : ∃ S, S = encT k.seed.data.toList := ⟨_, rfl⟩
  have hsl : S.length ≤ 100 := by
    rw [hS]
    have := encT_len (l := k.seed.data.toList) (by have := hs; simp; omega)
    simp at this
    omega
  have hel := encI_len hi
  have hd := D.2
  have hkl : K.1.length = 32 := K.2
  have p1 : ∀ w, Calls Try.prog 83 #[.slice none 0 0, .string k.seed] w (RB w S) := fun w => by
    rw [hS]
    exact c_PutText (.slice none 0 0) [] k.seed w (OwnR.nil _ _ _) (by simp) (by omega)
  have p2 : ∀ w, Calls Try.prog 82 #[.slice none 0 0, .int .i64 id] w (RB w (encI id)) := fun w => by
    have := c_PutOwn (.slice none 0 0) [] id hi w (OwnR.nil _ _ _) (by simp)
    rwa [List.nil_append] at this
  have cs : ∀ (v v1 v2 : Value) (w : World), RdI w [] v 1 2 [v1, v2] → RdI w [] v1 1 S.length (bvs S) → RdI w [] v2 1 (encI id).length (bvs (encI id)) → Calls Try.prog 81 #[v] w (RV w (.agg (bvs K.1).toArray)) := fun v v1 v2 w h1 h2 h3 => by
    have := c_SumP v [(v1, S), (v2, encI id)] w h1 (by simpa using ⟨h2, h3⟩) (by simp [catB]; omega)
    rw [hK, keyD, shaD, ← hS]
    simpa [catB] using this
  have cm : ∀ (vk vp vb : Value) (w : World), RdI w [] vk 1 32 (bvs K.1) → RdI w [] vp 1 1 [vb] → RdI w [] vb 1 body.size (bvs body.data.toList) → Calls Try.prog 98 #[vk, vp] w (RV w (.agg (bvs D.1).toArray)) := fun vk vp vb w h1 h2 h3 => by
    rw [hD]
    exact c_Mac vk vp vb K.1 _ w (by rw [hkl]; exact h1) (by omega) h2 (by simpa using h3) (by simp; omega)
  have hcp : splice (bvs Tg0.1) 0 ((bvs D.1).take 16) = bvs (tgD D).1 := by
    have h1 : ((bvs D.1).take 16).length = 16 := by rw [List.length_take, bvs_len]; omega
    simp only [splice, List.take_zero, List.nil_append, Nat.zero_add, h1]
    rw [List.drop_eq_nil_of_le (by rw [Tg.len]; omega), List.append_nil, tgD]
    simp [bvs]
  refine enter (N := 43) Try.func72 rfl Try.ntmps72 rfl (Has.nil _) ?_
  refine wc_seq ?_
  refine wc_region ?_
  (refine wl_ef rfl (ef_alloc rfl zerTg) ?_; rintro _ _ ⟨b6, rfl, rfl⟩)
  refine wl_val rfl rfl rfl (y_assign rfl) ?_
  refine wl_nil ?_
  refine q_then ?_
  refine wc_seq ?_
  refine wc_seq ?_
  refine wc_region ?_
  refine wl_val rfl rfl rfl (y_move rfl) ?_
  (refine wl_ef rfl (ef_callv0 rfl fun70 rfl (fun _ hw => (c_Len b k _ (hk.go hw)))) ?_; rintro _ _ ⟨rfl, rfl⟩)
  refine wl_val rfl rfl rfl (y_eql rfl rfl) ?_
  refine wl_nil ?_
  refine q_then ?_
  refine wc_cond rfl (fun hc0 => ?_) (fun hc0 => ?_)
  · exfalso; (try simp only [bsA, ne_eq] at hc0); omega
  · first
    | ((try simp only [bsA, ne_eq] at hc0); exfalso; (first | with_reducible contradiction | omega | (simp at hc0; done)))
    | skip
      try simp only [bsA, ne_eq] at hc0
      refine wc_skip ?_
      refine q_then ?_
      refine wc_seq ?_
      refine wc_seq ?_
      refine wc_region ?_
      refine wl_val rfl rfl rfl (y_move rfl) ?_
      refine wl_val rfl rfl rfl (y_lss rfl rfl) ?_
      refine wl_val rfl rfl rfl (y_move rfl) ?_
      apply wl_orp (d := 23)
      case ht =>
        intro hg1 hK1
        first
          | (refine wl_dead ?_ hK1 rfl; first | with_reducible contradiction | omega | (simp at hg1; done))
          | skip
            try simp only [bsA, ne_eq] at hg1
            refine wl_gskip rfl rfl rfl rfl rfl rfl rfl ?_
            refine wl_gskip rfl rfl rfl rfl rfl rfl rfl ?_
            refine wl_gskip rfl rfl rfl rfl rfl rfl rfl ?_
            refine wl_gskip rfl rfl rfl rfl rfl rfl rfl ?_
            refine wl_gskip rfl rfl rfl rfl rfl rfl rfl ?_
            refine wl_gskip rfl rfl rfl rfl rfl rfl rfl ?_
            refine wl_val rfl rfl rfl (y_pickt rfl rfl) ?_
            exact wl_leR hK1 (.cons rfl (by repeat (first | refine LeE.skip ?_ rfl | exact LeE.refl _)))
      case hf =>
        intro hg1 hK1
        first
          | (refine wl_dead ?_ hK1 rfl; first | with_reducible contradiction | omega | (simp at hg1; done))
          | skip
            try simp only [bsA, ne_eq] at hg1
            refine wl_gval rfl rfl rfl rfl rfl rfl rfl (y_move rfl) ?_
            refine wl_gval rfl rfl rfl rfl rfl rfl rfl (y_move rfl) ?_
            refine wl_gval rfl rfl rfl rfl rfl rfl rfl (y_nilCheck rfl) ?_
            refine wl_gval rfl rfl rfl rfl rfl rfl rfl (y_field0 fa156_1 rfl) ?_
            refine wl_gval rfl rfl rfl rfl rfl rfl rfl (y_loadI one3 rfl hk) ?_
            refine wl_gval rfl rfl rfl rfl rfl rfl rfl (y_geq rfl rfl) ?_
            first | refine wl_val rfl rfl rfl (y_pickt rfl rfl) ?_ | refine wl_val rfl rfl rfl (y_pickf rfl rfl) ?_
            exact wl_leR hK1 (.cons rfl (by repeat (first | refine LeE.skip ?_ rfl | exact LeE.refl _)))
      refine wl_nil ?_
      refine q_then ?_
      first | refine wc_cond rfl (fun hc1 => ?_) (fun hc1 => ?_) | refine wc_condb rfl (fun hc1 => ?_) (fun hc1 => ?_)
      · first
        | ((try simp only [bsA, ne_eq] at hc1); exfalso; (first | with_reducible contradiction | omega | (simp at hc1; done)))
        | skip
          try simp only [bsA, ne_eq] at hc1
          have hsg : sgn k id body = (Tg0, 2) := if_pos (by omega)
          refine wc_seq ?_
          refine wc_region ?_
          refine wl_val rfl rfl rfl (y_loadC agg69 rfl) ?_
          (refine wl_ef rfl (ef_storeC siz69 rfl rfl rfl) ?_; rintro _ _ ⟨rfl, rfl⟩)
          refine wl_val rfl rfl rfl (y_assign rfl) ?_
          refine wl_nil ?_
          refine q_then ?_
          refine wc_ret ?_
          refine q_thenRet ?_
          apply q_retg (rescC2 Try.results72 rfl rfl agg69) -- ret 1
          case hΨ =>
            exact ⟨by rw [hsg], rfl⟩
          case hs =>
            exact SubC.out
      · first
        | ((try simp only [bsA, ne_eq] at hc1); exfalso; (first | with_reducible contradiction | omega | (simp at hc1; done)))
        | skip
          try simp only [bsA, ne_eq] at hc1
          have hsg : sgn k id body = (tgD D, 0) := by rw [sgn, if_neg (by omega), hD, hK]
          refine wc_skip ?_
          refine q_then ?_
          refine wc_seq ?_
          refine wc_region ?_
          refine wl_val rfl rfl rfl (y_move rfl) ?_
          refine wl_val rfl rfl rfl (y_nilCheck rfl) ?_
          refine wl_val rfl rfl rfl (y_field0 fa156_0 rfl) ?_
          refine wl_val rfl rfl rfl (y_loadI one9 rfl hk) ?_
          (refine wl_ef rfl (ef_callo rfl fun83 rfl (fun _ hw => (p1 _))) ?_; rintro _ _ ⟨v29, rfl, rfl⟩)
          refine wl_val rfl rfl rfl (y_move rfl) ?_
          (refine wl_ef rfl (ef_callo rfl fun82 rfl (fun _ hw => (p2 _))) ?_; rintro _ _ ⟨v31, rfl, rfl⟩)
          refine wl_fct (p := v29.oneCell' = true ∧ v31.oneCell' = true) (fun w h => ⟨own_1c h, own_1c h⟩) (fun hone => ?_)
          (refine wl_ef rfl (ef_lit2 rfl Try.underlying163 siz99 zer99 rfl hone.1 rfl hone.2) ?_; rintro _ _ ⟨v32, rfl, rfl⟩)
          (refine wl_ef rfl (ef_callv0 rfl fun81 rfl (fun _ hw => (cs _ _ _ _ (rdI_own0 hw) (rdI_own0 hw) (rdI_own0 hw)))) ?_; rintro _ _ ⟨rfl, rfl⟩)
          (refine wl_ef rfl (ef_alloc rfl zerDg) ?_; rintro _ _ ⟨b8, rfl, rfl⟩)
          (refine wl_ef rfl (ef_storeC siz28 rfl rfl rfl) ?_; rintro _ _ ⟨rfl, rfl⟩)
          refine wl_nil ?_
          refine q_then ?_
          refine wc_seq ?_
          refine wc_region ?_
          refine wl_val rfl rfl rfl (y_sliceAll Try.underlying28 siz5 rfl (by omega)) ?_
          refine wl_val rfl rfl rfl (y_move rfl) ?_
          (refine wl_ef rfl (ef_bytes rfl Try.underlying9 Try.underlying99 Try.underlying5 rfl (by omega)) ?_; rintro _ _ ⟨v36, rfl, rfl⟩)
          refine wl_fct (p := v36.oneCell' = true) (fun w h => own_1c h) (fun hone => ?_)
          (refine wl_ef rfl (ef_lit1 rfl Try.underlying163 siz99 zer99 rfl hone) ?_; rintro _ _ ⟨v37, rfl, rfl⟩)
          (refine wl_ef rfl (ef_callv0 rfl fun98 rfl (fun _ hw => (cm _ _ _ _ (rdI_blk hw (by omega) (by decide)) (rdI_own0 hw) (rdI_own0 hw)))) ?_; rintro _ _ ⟨rfl, rfl⟩)
          (refine wl_ef rfl (ef_alloc rfl zerDg) ?_; rintro _ _ ⟨b9, rfl, rfl⟩)
          (refine wl_ef rfl (ef_storeC siz28 rfl rfl rfl) ?_; rintro _ _ ⟨rfl, rfl⟩)
          refine wl_nil ?_
          refine q_then ?_
          refine wc_seq ?_
          refine wa_begin_all (n := 3) (b := #[false, false, false]) mixed rfl rfl ?_
          refine wa_t 0 (by kernel_rfl) rfl rfl rfl rfl (y_sliceAll Try.underlying69 siz5 rfl (by omega)) ?_
          refine wa_t 1 (by kernel_rfl) rfl rfl rfl rfl (y_sliceAll Try.underlying28 siz5 rfl (by omega)) ?_
          (refine wa_e 2 (by kernel_rfl) rfl rfl (ef_copyS rfl Try.underlying99 siz5 rfl rfl (rd_blkA (us := bvs D.1) (by omega) (by decide)) (bvs_one _) rfl (by rw [Tg.len]; omega) hcp) ?_; rintro _ _ ⟨rfl, rfl⟩; refine ⟨.inl (by kernel_rfl), ?_⟩)
          refine wa_done (by kernel_rfl) ?_
          refine q_then ?_
          refine wc_seq ?_
          refine wc_region ?_
          refine wl_val rfl rfl rfl (y_loadC agg69 rfl) ?_
          (refine wl_ef rfl (ef_storeC siz69 rfl rfl rfl) ?_; rintro _ _ ⟨rfl, rfl⟩)
          refine wl_val rfl rfl rfl (y_assign rfl) ?_
          refine wl_nil ?_
          refine q_then ?_
          refine wc_ret ?_
          apply q_retg (rescC2 Try.results72 rfl rfl agg69) -- ret 2
          case hΨ =>
            exact ⟨by rw [hsg], rfl⟩
          case hs =>
            exact SubC.out
theorem c_Check (b : Nat) (k : Ks) (id : Int) (body : ByteArray) (t : Tg) (w : World) (hk : InB w b k.cells) (hn : k.n ≠ 0) (hs : k.seed.size ≤ 64) (hi : id ≤ 9223372036854775807) (hb : body.size ≤ 100000000) :
    Calls Try.prog 67 #[.pointer (some ⟨b, 0, none⟩), .int .i64 id, .string body, .agg (bvs t.1).toArray] w (RV w (.bool (decide (sgn k id body = (t, 0))))) := by
  refine enter (N := 25) Try.func67 rfl Try.ntmps67 rfl (Has.nil _) ?_
  refine wc_seq ?_
  refine wc_region ?_
  (refine wl_ef rfl (ef_box rfl rfl rfl) ?_; rintro _ _ ⟨b7, rfl, rfl⟩)
  refine wl_val rfl rfl rfl (y_assign rfl) ?_
  refine wl_nil ?_
  refine q_then ?_
  refine wc_seq ?_
  refine wc_region ?_
  refine wl_val rfl rfl rfl (y_move rfl) ?_
  refine wl_val rfl rfl rfl (y_move rfl) ?_
  refine wl_val rfl rfl rfl (y_move rfl) ?_
  (refine wl_ef rfl (ef_callv0 rfl fun72 rfl (fun _ hw => (c_Sign b k id body _ (hk.go hw) hn hs hi hb))) ?_; rintro _ _ ⟨rfl, rfl⟩)
  refine wl_val rfl rfl rfl (y_move rfl) ?_
  refine wl_val rfl rfl rfl (y_extract rfl rfl) ?_
  refine wl_val rfl rfl rfl (y_extract rfl rfl) ?_
  (refine wl_ef rfl (ef_alloc rfl zerTg) ?_; rintro _ _ ⟨b9, rfl, rfl⟩)
  (refine wl_ef rfl (ef_storeC siz69 rfl rfl rfl) ?_; rintro _ _ ⟨rfl, rfl⟩)
  refine wl_val rfl rfl rfl (y_assign rfl) ?_
  refine wl_nil ?_
  refine q_then ?_
  refine wc_seq ?_
  refine wc_region ?_
  refine wl_val rfl rfl rfl (y_move rfl) ?_
  refine wl_val rfl rfl rfl (y_eql rfl rfl) ?_
  refine wl_val rfl rfl rfl (y_move rfl) ?_
  apply wl_andp (d := 24)
  case ht =>
    intro hg1 hK1
    first
      | (refine wl_dead ?_ hK1 rfl; first | with_reducible contradiction | omega | (simp at hg1; done))
      | skip
        try simp only [bsA, ne_eq] at hg1
        refine wl_gval rfl rfl rfl rfl rfl rfl rfl (y_loadC agg69 rfl) ?_
        refine wl_gval rfl rfl rfl rfl rfl rfl rfl (y_loadC agg69 rfl) ?_
        refine wl_gval rfl rfl rfl rfl rfl rfl rfl (y_eqlAgg Try.eqGuardType69 rfl rfl (eq_tg _ _) (by omega)) ?_
        refine wl_val rfl rfl rfl (y_pickt rfl rfl) ?_
        exact wl_leR hK1 (.cons rfl (by repeat (first | refine LeE.skip ?_ rfl | exact LeE.refl _)))
  case hf =>
    intro hg1 hK1
    first
      | (refine wl_dead ?_ hK1 rfl; first | with_reducible contradiction | omega | (simp at hg1; done))
      | skip
        try simp only [bsA, ne_eq] at hg1
        refine wl_gskip rfl rfl rfl rfl rfl rfl rfl ?_
        refine wl_gskip rfl rfl rfl rfl rfl rfl rfl ?_
        refine wl_gskip rfl rfl rfl rfl rfl rfl rfl ?_
        first | refine wl_val rfl rfl rfl (y_pickt rfl rfl) ?_ | refine wl_val rfl rfl rfl (y_pickf rfl rfl) ?_
        exact wl_leR hK1 (.cons rfl (by repeat (first | refine LeE.skip ?_ rfl | exact LeE.refl _)))
  refine wl_val rfl rfl rfl (y_assign rfl) ?_
  refine wl_nil ?_
  refine q_then ?_
  refine wc_ret ?_
  apply q_retg (res1 Try.results67 rfl) -- ret 0
  case hΨ =>
    exact ⟨by congr 1; rw [Bool.eq_iff_iff]; simp [Prod.ext_iff, and_comm], rfl⟩
  case hs =>
    exact SubC.out
theorem c_Derive (seed : ByteArray) (n : Int) (w : World) (h1 : 1 ≤ n ∧ n ≤ 4096) (h2 : seed.size ≤ 64) : Calls Try.prog 69 #[.string seed, .int .i64 n] w (RP [] w (fun v L => ∃ b, v = .pointer (some ⟨b, 0, none⟩) ∧ L = [.blk b (Ks.cells ⟨seed, n⟩) 156 (0, 0)])) := by
  refine enter (N := 20) Try.func69 rfl Try.ntmps69 rfl (Has.nil _) ?_
  refine wc_seq ?_
  refine wc_region ?_
  refine wl_val rfl rfl rfl (y_assign rfl) ?_
  refine wl_nil ?_
  refine q_then ?_
  refine wc_seq ?_
  refine wc_seq ?_
  refine wc_region ?_
  refine wl_val rfl rfl rfl (y_move rfl) ?_
  refine wl_val rfl rfl rfl (y_lss rfl rfl) ?_
  refine wl_val rfl rfl rfl (y_move rfl) ?_
  apply wl_orp (d := 10)
  case ht =>
    intro hg1 hK1
    first
      | (refine wl_dead ?_ hK1 rfl; first | with_reducible contradiction | omega | (simp at hg1; done))
      | skip
        try simp only [bsA, ne_eq] at hg1
        refine wl_gskip rfl rfl rfl rfl rfl rfl rfl ?_
        refine wl_gskip rfl rfl rfl rfl rfl rfl rfl ?_
        refine wl_val rfl rfl rfl (y_pickt rfl rfl) ?_
        exact wl_leR hK1 (.cons rfl (by repeat (first | refine LeE.skip ?_ rfl | exact LeE.refl _)))
  case hf =>
    intro hg1 hK1
    first
      | (refine wl_dead ?_ hK1 rfl; first | with_reducible contradiction | omega | (simp at hg1; done))
      | skip
        try simp only [bsA, ne_eq] at hg1
        refine wl_gval rfl rfl rfl rfl rfl rfl rfl (y_move rfl) ?_
        refine wl_gval rfl rfl rfl rfl rfl rfl rfl (y_gtr rfl rfl) ?_
        first | refine wl_val rfl rfl rfl (y_pickt rfl rfl) ?_ | refine wl_val rfl rfl rfl (y_pickf rfl rfl) ?_
        exact wl_leR hK1 (.cons rfl (by repeat (first | refine LeE.skip ?_ rfl | exact LeE.refl _)))
  refine wl_val rfl rfl rfl (y_move rfl) ?_
  first | apply wl_orp (d := 15) | apply wl_or (d := 15)
  case ht =>
    intro hg2 hK2
    first
      | (refine wl_dead ?_ hK2 rfl; first | with_reducible contradiction | omega | (simp at hg2; done))
      | skip
        try simp only [bsA, ne_eq] at hg2
        refine wl_gskip rfl rfl rfl rfl rfl rfl rfl ?_
        refine wl_gskip rfl rfl rfl rfl rfl rfl rfl ?_
        refine wl_gskip rfl rfl rfl rfl rfl rfl rfl ?_
        refine wl_val rfl rfl rfl (y_pickt rfl rfl) ?_
        exact wl_leR hK2 (.cons rfl (by repeat (first | refine LeE.skip ?_ rfl | exact LeE.refl _)))
  case hf =>
    intro hg2 hK2
    first
      | (refine wl_dead ?_ hK2 rfl; first | with_reducible contradiction | omega | (simp at hg2; done))
      | skip
        try simp only [bsA, ne_eq] at hg2
        refine wl_gval rfl rfl rfl rfl rfl rfl rfl (y_move rfl) ?_
        refine wl_gval rfl rfl rfl rfl rfl rfl rfl (y_lenStr Try.underlying9 rfl) ?_
        refine wl_gval rfl rfl rfl rfl rfl rfl rfl (y_gtr rfl rfl) ?_
        first | refine wl_val rfl rfl rfl (y_pickt rfl rfl) ?_ | refine wl_val rfl rfl rfl (y_pickf rfl rfl) ?_
        exact wl_leR hK2 (.cons rfl (by repeat (first | refine LeE.skip ?_ rfl | exact LeE.refl _)))
  refine wl_nil ?_
  refine q_then ?_
  first | refine wc_cond rfl (fun hc0 => ?_) (fun hc0 => ?_) | refine wc_condb rfl (fun hc0 => ?_) (fun hc0 => ?_)
  · exfalso; (try simp only [bsA, ne_eq] at hc0); omega
  · first
    | ((try simp only [bsA, ne_eq] at hc0); exfalso; (first | with_reducible contradiction | omega | (simp at hc0; done)))
    | skip
      try simp only [bsA, ne_eq] at hc0
      refine wc_skip ?_
      refine q_then ?_
      refine wc_seq ?_
      refine wc_region ?_
      refine wl_val rfl rfl rfl (y_move rfl) ?_
      refine wl_val rfl rfl rfl (y_move rfl) ?_
      refine wl_val rfl rfl rfl (y_buildS bldKp rfl) ?_
      (refine wl_ef rfl (ef_box rfl rfl rfl) ?_; rintro _ _ ⟨b19, rfl, rfl⟩)
      refine wl_val rfl rfl rfl (y_assign rfl) ?_
      refine wl_nil ?_
      refine q_then ?_
      refine wc_ret ?_
      apply q_retg (res1 Try.results69 rfl) -- ret 1
      case hΨ =>
        exact ⟨b19, rfl, rfl⟩
      case hs =>
        exact SubC.out
theorem c_refDerive (seed : ByteArray) (n : Int) (w : World) (h1 : 1 ≤ n ∧ n ≤ 4096) (h2 : seed.size ≤ 64) : Calls Try.prog 68 #[.string seed, .int .i64 n] w (RV w (.tuple #[.agg (Ks.cells ⟨seed, n⟩).toArray, .bool true])) := by
  refine enter (N := 21) Try.func68 rfl Try.ntmps68 rfl (Has.nil _) ?_
  refine wc_seq ?_
  refine wc_region ?_
  (refine wl_ef rfl (ef_alloc rfl zerKs) ?_; rintro _ _ ⟨b4, rfl, rfl⟩)
  refine wl_val rfl rfl rfl (y_assign rfl) ?_
  refine wl_nil ?_
  refine q_then ?_
  refine wc_seq ?_
  refine wc_seq ?_
  refine wc_region ?_
  refine wl_val rfl rfl rfl (y_move rfl) ?_
  refine wl_val rfl rfl rfl (y_lss rfl rfl) ?_
  refine wl_val rfl rfl rfl (y_move rfl) ?_
  apply wl_orp (d := 11)
  case ht =>
    intro hg1 hK1
    first
      | (refine wl_dead ?_ hK1 rfl; first | with_reducible contradiction | omega | (simp at hg1; done))
      | skip
        try simp only [bsA, ne_eq] at hg1
        refine wl_gskip rfl rfl rfl rfl rfl rfl rfl ?_
        refine wl_gskip rfl rfl rfl rfl rfl rfl rfl ?_
        refine wl_val rfl rfl rfl (y_pickt rfl rfl) ?_
        exact wl_leR hK1 (.cons rfl (by repeat (first | refine LeE.skip ?_ rfl | exact LeE.refl _)))
  case hf =>
    intro hg1 hK1
    first
      | (refine wl_dead ?_ hK1 rfl; first | with_reducible contradiction | omega | (simp at hg1; done))
      | skip
        try simp only [bsA, ne_eq] at hg1
        refine wl_gval rfl rfl rfl rfl rfl rfl rfl (y_move rfl) ?_
        refine wl_gval rfl rfl rfl rfl rfl rfl rfl (y_gtr rfl rfl) ?_
        first | refine wl_val rfl rfl rfl (y_pickt rfl rfl) ?_ | refine wl_val rfl rfl rfl (y_pickf rfl rfl) ?_
        exact wl_leR hK1 (.cons rfl (by repeat (first | refine LeE.skip ?_ rfl | exact LeE.refl _)))
  refine wl_val rfl rfl rfl (y_move rfl) ?_
  first | apply wl_orp (d := 16) | apply wl_or (d := 16)
  case ht =>
    intro hg2 hK2
    first
      | (refine wl_dead ?_ hK2 rfl; first | with_reducible contradiction | omega | (simp at hg2; done))
      | skip
        try simp only [bsA, ne_eq] at hg2
        refine wl_gskip rfl rfl rfl rfl rfl rfl rfl ?_
        refine wl_gskip rfl rfl rfl rfl rfl rfl rfl ?_
        refine wl_gskip rfl rfl rfl rfl rfl rfl rfl ?_
        refine wl_val rfl rfl rfl (y_pickt rfl rfl) ?_
        exact wl_leR hK2 (.cons rfl (by repeat (first | refine LeE.skip ?_ rfl | exact LeE.refl _)))
  case hf =>
    intro hg2 hK2
    first
      | (refine wl_dead ?_ hK2 rfl; first | with_reducible contradiction | omega | (simp at hg2; done))
      | skip
        try simp only [bsA, ne_eq] at hg2
        refine wl_gval rfl rfl rfl rfl rfl rfl rfl (y_move rfl) ?_
        refine wl_gval rfl rfl rfl rfl rfl rfl rfl (y_lenStr Try.underlying9 rfl) ?_
        refine wl_gval rfl rfl rfl rfl rfl rfl rfl (y_gtr rfl rfl) ?_
        first | refine wl_val rfl rfl rfl (y_pickt rfl rfl) ?_ | refine wl_val rfl rfl rfl (y_pickf rfl rfl) ?_
        exact wl_leR hK2 (.cons rfl (by repeat (first | refine LeE.skip ?_ rfl | exact LeE.refl _)))
  refine wl_nil ?_
  refine q_then ?_
  first | refine wc_cond rfl (fun hc0 => ?_) (fun hc0 => ?_) | refine wc_condb rfl (fun hc0 => ?_) (fun hc0 => ?_)
  · exfalso; (try simp only [bsA, ne_eq] at hc0); omega
  · first
    | ((try simp only [bsA, ne_eq] at hc0); exfalso; (first | with_reducible contradiction | omega | (simp at hc0; done)))
    | skip
      try simp only [bsA, ne_eq] at hc0
      refine wc_skip ?_
      refine q_then ?_
      refine wc_seq ?_
      refine wc_region ?_
      refine wl_val rfl rfl rfl (y_move rfl) ?_
      refine wl_val rfl rfl rfl (y_move rfl) ?_
      refine wl_val rfl rfl rfl (y_buildS bldKs rfl) ?_
      (refine wl_ef rfl (ef_storeC siz65 rfl rfl rfl) ?_; rintro _ _ ⟨rfl, rfl⟩)
      refine wl_val rfl rfl rfl (y_assign rfl) ?_
      refine wl_nil ?_
      refine q_then ?_
      refine wc_ret ?_
      apply q_retg (rescC2 Try.results68 rfl rfl agg65) -- ret 1
      case hΨ =>
        first | exact ⟨rfl, rfl⟩ | exact rfl
      case hs =>
        exact SubC.out
end Go.Proofs.Ytdgmkbjopcopcaa
