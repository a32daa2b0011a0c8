/- Layer 4 (seal): the mac of one part, of both sides. Own work. -/
import Derived.Test.YtdgmkbjopcopcaaZer
import Derived.Test.YtdgmkbjopcopcaaDigi
import Derived.Test.YtdgmkbjopcopcaaTalb
set_option linter.unusedVariables false
set_option linter.unusedSimpArgs false
set_option maxRecDepth 100000
set_option maxHeartbeats 8000000
namespace Go.Proofs.Ytdgmkbjopcopcaa
open Go.RowKit
-- flat
-- use zerDg zerDg
def shaD (l : List UInt8) : Dg := ⟨sha l, sha_len l⟩
theorem xset (O : List UInt8) (x : UInt8) {i : Nat} (hi : i < O.length) : (bvs ((O.take i).map (· ^^^ x) ++ O.drop i)).set i (bv (O[i] ^^^ x)) = bvs ((O.take (i + 1)).map (· ^^^ x) ++ O.drop (i + 1)) := by
  have h1 : (bvs ((O.take i).map (· ^^^ x))).length = i := by rw [bvs_len]; simp; omega
  have h2 : O.drop i = O[i] :: O.drop (i + 1) := List.drop_eq_getElem_cons hi
  have h3 : (O.take (i + 1)).map (· ^^^ x) = (O.take i).map (· ^^^ x) ++ [O[i] ^^^ x] := by rw [List.take_add_one, List.getElem?_eq_getElem hi, List.map_append]; rfl
  rw [h2, h3, bvs_app, List.set_append_right _ _ (by omega), h1, Nat.sub_self, List.append_assoc, bvs_app]
  rfl
theorem xat (O : List UInt8) (x : UInt8) {i : Nat} (hi : i < O.length) : (bvs ((O.take i).map (· ^^^ x) ++ O.drop i))[i]? = some (bv O[i]) := by
  have h1 : (bvs ((O.take i).map (· ^^^ x))).length = i := by rw [bvs_len]; simp; omega
  have h2 : O.drop i = O[i] :: O.drop (i + 1) := List.drop_eq_getElem_cons hi
  rw [h2, bvs_app, List.getElem?_append_right (by omega), h1, Nat.sub_self]
  rfl
theorem c_macS (b : Nat) (O : List UInt8) (hO : O.length = 64) (x : UInt8) (vp vb : Value) (B : List UInt8) (w : World) (hb : InB w b (bvs O)) (hp : RdI w [] vp 1 1 [vb]) (hv : RdI w [] vb 1 B.length (bvs B)) (hB : B.length ≤ 1000000000) :
    Calls Try.prog 115 #[bv x, vp, .pointer (some ⟨b, 0, none⟩)] w (RV w (.agg (bvs (shaD (O.map (· ^^^ x) ++ B)).1).toArray)) := by
  obtain ⟨A1, cap1, rfl, hle1, hle2, _⟩ := hv.rd.form
  have hOb : (bvs O).length = 64 := by rw [bvs_len, hO]
  have hwh : PartC (bvs O) 0 64 (bvs O) := .whole hOb
  obtain ⟨D, hD⟩ : ∃ D, D = shaD (O.map (· ^^^ x) ++ B) := ⟨_, rfl⟩
  have cs : ∀ (v v1 : Value) (w : World), RdI w [] v 1 2 [v1, .slice A1 B.length cap1] → RdI w [] v1 1 64 (bvs (O.map (· ^^^ x))) → RdI w [] (.slice A1 B.length cap1) 1 B.length (bvs B) → Calls Try.prog 81 #[v] w (RV w (.agg (bvs D.1).toArray)) := fun v v1 w h1 h2 h3 => by
    have hl : (O.map (· ^^^ x)).length = 64 := by simp [hO]
    have := c_SumP v [(v1, O.map (· ^^^ x)), (.slice A1 B.length cap1, B)] w h1 (by simpa [hO] using ⟨h2, h3⟩) (by simp [catB, hO]; omega)
    rw [hD, shaD]
    simpa [catB] using this
  rw [← hD]
  refine enter (N := 24) Try.func115 rfl Try.ntmps115 rfl (Has.nil _) ?_
  refine wc_seq ?_
  refine wc_region ?_
  (refine wl_ef rfl (ef_alloc rfl zerDg) ?_; rintro _ _ ⟨b5, rfl, rfl⟩)
  refine wl_nil ?_
  refine q_then ?_
  refine wc_seq ?_
  refine wc_region ?_
  refine wl_val rfl rfl rfl (y_loadIN agg177 rfl hb) ?_
  (refine wl_ef rfl (ef_alloc rfl zer177) ?_; rintro _ _ ⟨b6, rfl, rfl⟩)
  first | (refine wl_ef rfl (ef_storeC siz177 rfl rfl rfl) ?_; rintro _ _ ⟨rfl, rfl⟩) | (refine wl_ef rfl (ef_storeP siz177 rfl rfl rfl (by (repeat (first | exact OneAll.nil | refine OneAll.cons rfl ?_ | exact bvs_one _ | refine OneAll.app ?_ ?_ | exact OneAll.map _ (fun _ => rfl) | assumption)); fail_if_success focus skip) (by (repeat (first | exact SplN.nil | apply SplN.skip | exact SplN.all (by first | rfl | assumption | (simp; done) | (simp [*]; done)) (by first | rfl | assumption | (simp; done) | (simp [*]; done)) | exact SplN.puta (by first | rfl | assumption | (simp; done) | (simp [*]; done)) (by first | rfl | assumption | (simp; done) | (simp [*]; done)) | apply SplN.cons | apply SplN.put (by first | rfl | assumption | (simp; done) | (simp [*]; done)) (by first | rfl | assumption | (simp; done) | (simp [*]; done)) | apply SplN.over (by first | rfl | assumption | (simp; done) | (simp [*]; done)) rfl)); fail_if_success focus skip) (by first | rfl | assumption | (simp; done) | (simp [*]; done))) ?_; rintro _ _ ⟨rfl, rfl⟩)
  refine wl_nil ?_
  refine q_then ?_
  refine wc_seq ?_
  refine wc_seq ?_
  refine wc_region ?_
  refine wl_val rfl rfl rfl (y_move rfl) ?_
  refine wl_nil ?_
  refine q_then ?_
  refine wc_block ?_
  refine wc_loop (X := Nat) (fun i => [(0, bv x), (1, vp), (5, .pointer (some ⟨b5, 0, none⟩)), (6, .pointer (some ⟨b6, 0, none⟩)), (9, .int .i64 (i : Int))]) (fun i => [.blk b6 (bvs ((O.take i).map (· ^^^ x) ++ O.drop i)) 177 (0, 0), .blk b5 (bvs Dg0.1) 28 (0, 0)]) (fun i => i ≤ 64) (fun i => 64 - i) (0) ?_ ?_ ?_ ?_
  · first | trivial | omega | simp
  · repeat (first | exact SubE.nil | refine SubE.cons rfl ?_ | refine SubE.cons (lk_int rfl (by omega)) ?_ | refine SubE.cons (lk_int rfl (by rfl)) ?_ | refine SubE.cons (lk_eq rfl (by rfl)) ?_)
  · first | exact SubC.out | repeat (first | exact SubL.nil | refine SubL.consOwn (by first | rfl | omega | (simp only [List.length_append, List.length_cons, List.length_nil]; omega) | (simp)) (by first | rfl | (simp)) ?_ | refine SubL.consBlk (by first | rfl | (simp)) ?_ | refine SubL.consMap (by first | rfl | omega) (by first | rfl | (simp)) ?_)
  · skip
    intro i hi
    refine wc_seq ?_
    refine wc_region ?_
    refine wl_val rfl rfl rfl (y_lss rfl rfl) ?_
    refine wl_nil ?_
    refine q_then ?_
    refine wc_seq ?_
    refine wc_cond rfl (fun hc0 => ?_) (fun hc0 => ?_)
    · first
      | ((try simp only [bsA, ne_eq] at hc0); exfalso; (first | with_reducible contradiction | omega | (simp at hc0; done)))
      | skip
        try simp only [bsA, ne_eq] at hc0
        have hi2 : i < O.length := by omega
        refine wc_skip ?_
        refine q_then ?_
        refine wc_seq ?_
        refine wc_block ?_
        refine wc_seq ?_
        refine wc_region ?_
        refine wl_val rfl rfl rfl (y_move rfl) ?_
        refine wl_val rfl rfl rfl (y_assign rfl) ?_
        refine wl_nil ?_
        refine q_then ?_
        refine wc_region ?_
        refine wl_val rfl rfl rfl (y_move rfl) ?_
        refine wl_val rfl rfl rfl (y_indexA1n Try.underlying177 siz5 rfl rfl (by omega)) ?_
        refine wl_val rfl rfl rfl (y_load one5 rfl (xat O x hi2)) ?_
        refine wl_val rfl rfl rfl (y_move rfl) ?_
        refine wl_val rfl rfl rfl (y_xor_u8 rfl rfl) ?_
        refine wl_val rfl rfl rfl (y_indexA1n Try.underlying177 siz5 rfl rfl (by omega)) ?_
        (refine wl_ef rfl (ef_store siz5 rfl rfl rfl (by rw [bvs_len]; simp; omega)) ?_; rintro _ _ ⟨rfl, rfl⟩)
        refine wl_nil ?_
        refine q_blockNormal ?_
        refine q_then ?_
        refine wc_region ?_
        refine wl_val rfl rfl rfl (y_addn rfl rfl (by omega)) ?_
        refine wl_val rfl rfl rfl (y_move rfl) ?_
        refine wl_nil ?_
        refine q_again (i + 1) ?_ ?_ ?_ ?_
        · first | omega | (refine ⟨?_, ?_⟩ <;> omega)
        · first | omega | (simp; omega) | (simp only []; omega)
        · repeat (first | exact SubE.nil | refine SubE.cons rfl ?_ | refine SubE.cons (lk_int rfl (by omega)) ?_ | refine SubE.cons (lk_int rfl (by rfl)) ?_ | refine SubE.cons (lk_eq rfl (by rfl)) ?_)
        · first | exact SubC.out | repeat (first | exact SubL.nil | refine SubL.consOwn (by first | rfl | omega | (simp only [List.length_append, List.length_cons, List.length_nil]; omega) | (exact xset O x hi2)) (by first | rfl | (exact xset O x hi2)) ?_ | refine SubL.consBlk (by first | rfl | (exact xset O x hi2)) ?_ | refine SubL.consMap (by first | rfl | omega) (by first | rfl | (exact xset O x hi2)) ?_)
    · first
      | ((try simp only [bsA, ne_eq] at hc0); exfalso; (first | with_reducible contradiction | omega | (simp at hc0; done)))
      | skip
        try simp only [bsA, ne_eq] at hc0
        obtain rfl : i = 64 := by omega
        have hX : (O.take 64).map (· ^^^ x) ++ O.drop 64 = O.map (· ^^^ x) := by rw [List.take_of_length_le (by omega), List.drop_eq_nil_of_le (by omega), List.append_nil]
        rw [hX]
        have hXl : (bvs (O.map (· ^^^ x))).length = 64 := by rw [bvs_len]; simp [hO]
        have hwx : PartC (bvs (O.map (· ^^^ x))) 0 64 (bvs (O.map (· ^^^ x))) := .whole hXl
        refine wc_exit ?_
        refine q_thenExit ?_
        refine q_thenExit ?_
        refine q_blockExit ?_
        refine q_then ?_
        refine wc_seq ?_
        refine wc_region ?_
        refine wl_val rfl rfl rfl (y_sliceAll Try.underlying177 siz5 rfl (by omega)) ?_
        (refine wl_ef rfl (ef_lit1 rfl Try.underlying163 siz99 zer99 rfl rfl) ?_; rintro _ _ ⟨v20, rfl, rfl⟩)
        refine wl_val rfl rfl rfl (y_move rfl) ?_
        (refine wl_ef rfl (ef_append rfl Try.underlying163 inf99 rfl rfl rfl (by first | exact src_own Try.underlying163 (by (repeat (first | exact OneAll.nil | refine OneAll.cons rfl ?_ | exact bvs_one _ | refine OneAll.app ?_ ?_ | exact OneAll.map _ (fun _ => rfl) | assumption)); fail_if_success focus skip) | exact src_in Try.underlying163 (by assumption) (by (repeat (first | exact OneAll.nil | refine OneAll.cons rfl ?_ | exact bvs_one _ | refine OneAll.app ?_ ?_ | exact OneAll.map _ (fun _ => rfl) | assumption)); fail_if_success focus skip)) (by omega) (by omega)) ?_; rintro _ _ ⟨v22, rfl, rfl⟩)
        (refine wl_ef rfl (ef_callv0 rfl fun81 rfl (fun _ hw => (cs _ _ _ (rdI_own0 hw) (rdI_blk hw (by omega) (by decide)) (rdI_in0 hw hv)))) ?_; rintro _ _ ⟨rfl, rfl⟩)
        (refine wl_ef rfl (ef_storeC siz28 rfl rfl rfl) ?_; rintro _ _ ⟨rfl, rfl⟩)
        refine wl_nil ?_
        refine q_then ?_
        refine wc_ret ?_
        apply q_retg (rescC Try.results115 rfl agg28) -- ret 0
        case hΨ =>
          first | exact ⟨rfl, rfl⟩ | exact rfl
        case hs =>
          exact SubC.out
theorem bvs_zeros (n : Nat) : bvs (zeros n) = List.replicate n (bv 0) := by simp [bvs, zeros]
/-- a key's block -/
def padK (key : List UInt8) : List UInt8 := key ++ zeros (64 - key.length)
theorem padK_len {key : List UInt8} (h : key.length ≤ 64) : (padK key).length = 64 := by simp [padK, zeros]; omega
/-- the mac of bytes -/
def macD (key B : List UInt8) : Dg := shaD ((padK key).map (· ^^^ 0x5c) ++ (shaD ((padK key).map (· ^^^ 0x36) ++ B)).1)
theorem c_Mac (vk vp vb : Value) (key B : List UInt8) (w : World) (hk : RdI w [] vk 1 key.length (bvs key)) (hl : key.length ≤ 64) (hp : RdI w [] vp 1 1 [vb]) (hv : RdI w [] vb 1 B.length (bvs B)) (hB : B.length ≤ 1000000000) :
    Calls Try.prog 98 #[vk, vp] w (RV w (.agg (bvs (macD key B).1).toArray)) := by
  have hpl := padK_len hl
  have hpb : (bvs (padK key)).length = 64 := by rw [bvs_len, hpl]
  have hzl : (bvs (zeros 64)).length = 64 := by rw [bvs_len]; simp [zeros]
  have hwz : PartC (bvs (zeros 64)) 0 64 (bvs (zeros 64)) := .whole hzl
  obtain ⟨D1, hD1⟩ : ∃ D, D = shaD ((padK key).map (· ^^^ 0x36) ++ B) := ⟨_, rfl⟩
  obtain ⟨D2, hD2⟩ : ∃ D, D = shaD ((padK key).map (· ^^^ 0x5c) ++ D1.1) := ⟨_, rfl⟩
  have c1 : ∀ (b : Nat) (w : World), InB w b (bvs (padK key)) → RdI w [] vp 1 1 [vb] → RdI w [] vb 1 B.length (bvs B) → Calls Try.prog 115 #[.int .u8 54, vp, .pointer (some ⟨b, 0, none⟩)] w (RV w (.agg (bvs D1.1).toArray)) := fun b w h1 h2 h3 => by
    rw [hD1]
    exact c_macS b (padK key) hpl 0x36 vp vb B w h1 h2 h3 hB
  have c2 : ∀ (b : Nat) (v2 v3 : Value) (w : World), InB w b (bvs (padK key)) → RdI w [] v2 1 1 [v3] → RdI w [] v3 1 32 (bvs D1.1) → Calls Try.prog 115 #[.int .u8 92, v2, .pointer (some ⟨b, 0, none⟩)] w (RV w (.agg (bvs D2.1).toArray)) := fun b v2 v3 w h1 h2 h3 => by
    rw [hD2]
    have hd : D1.1.length = 32 := D1.2
    exact c_macS b (padK key) hpl 0x5c v2 v3 D1.1 w h1 h2 (by rw [hd]; exact h3) (by rw [hd]; omega)
  have hcp : splice (bvs (zeros 64)) 0 ((bvs key).take key.length) = bvs (padK key) := by
    have e1 : (bvs key).take key.length = bvs key := List.take_of_length_le (by rw [bvs_len]; omega)
    rw [e1]
    simp only [splice, List.take_zero, List.nil_append, Nat.zero_add, bvs_len, padK, bvs_app]
    congr 1
    rw [bvs_zeros, bvs_zeros, List.drop_replicate]
  rw [show macD key B = D2 from by rw [hD2, hD1, macD]]
  have hlen := hk.rd.form
  obtain ⟨A0, cap0, rfl, hle1, hle2, _⟩ := hk.rd.form
  refine enter (N := 27) Try.func98 rfl Try.ntmps98 rfl (Has.nil _) ?_
  refine wc_seq ?_
  refine wc_region ?_
  (refine wl_ef rfl (ef_alloc rfl zerDg) ?_; rintro _ _ ⟨b4, rfl, rfl⟩)
  refine wl_nil ?_
  refine q_then ?_
  refine wc_seq ?_
  refine wc_seq ?_
  refine wc_region ?_
  refine wl_val rfl rfl rfl (y_move rfl) ?_
  refine wl_val rfl rfl rfl (y_lenSl Try.underlying99 rfl) ?_
  refine wl_val rfl rfl rfl (y_gtr rfl rfl) ?_
  refine wl_nil ?_
  refine q_then ?_
  refine wc_cond rfl (fun hc0 => ?_) (fun hc0 => ?_)
  · exfalso; (try simp only [bsA, ne_eq] at hc0); omega
  · first
    | ((try simp only [bsA, ne_eq] at hc0); exfalso; (first | with_reducible contradiction | omega | (simp at hc0; done)))
    | skip
      try simp only [bsA, ne_eq] at hc0
      refine wc_skip ?_
      refine q_then ?_
      refine wc_seq ?_
      refine wc_region ?_
      (refine wl_ef rfl (ef_alloc (cs := bvs (zeros 64)) rfl zer177) ?_; rintro _ _ ⟨b6, rfl, rfl⟩)
      refine wl_nil ?_
      refine q_then ?_
      refine wc_seq ?_
      refine wc_region ?_
      refine wl_val rfl rfl rfl (y_sliceAll Try.underlying177 siz5 rfl (by omega)) ?_
      refine wl_val rfl rfl rfl (y_move rfl) ?_
      (refine wl_ef rfl (ef_copyS rfl Try.underlying99 siz5 rfl rfl (rd_in hk) (bvs_one _) (Nat.min_eq_left (by omega)) (by omega) hcp) ?_; rintro _ _ ⟨rfl, rfl⟩)
      refine wl_nil ?_
      refine q_then ?_
      refine wc_seq ?_
      have hwp : PartC (bvs (padK key)) 0 64 (bvs (padK key)) := .whole hpb
      refine wc_region ?_
      refine wl_val rfl rfl rfl (y_makeFunc rfl rfl) ?_
      refine wl_val rfl rfl rfl (y_assign rfl) ?_
      refine wl_nil ?_
      refine q_then ?_
      refine wc_seq ?_
      refine wc_region ?_
      refine wl_val rfl rfl rfl (y_move rfl) ?_
      refine wl_val rfl rfl rfl (y_move rfl) ?_
      (refine wl_ef rfl (ef_callvv [] [.pointer (some ⟨b6, 0, none⟩)] rfl fun115 rfl rfl (fun _ hw => c1 b6 _ (inB_own hw) (rdI_in0 hw hp) (rdI_in0 hw hv))) ?_; rintro _ _ ⟨rfl, rfl⟩)
      (refine wl_ef rfl (ef_alloc rfl zerDg) ?_; rintro _ _ ⟨b8, rfl, rfl⟩)
      (refine wl_ef rfl (ef_storeC siz28 rfl rfl rfl) ?_; rintro _ _ ⟨rfl, rfl⟩)
      refine wl_nil ?_
      refine q_then ?_
      refine wc_seq ?_
      refine wc_region ?_
      refine wl_val rfl rfl rfl (y_move rfl) ?_
      refine wl_val rfl rfl rfl (y_sliceAll Try.underlying28 siz5 rfl (by omega)) ?_
      (refine wl_ef rfl (ef_lit1 rfl Try.underlying163 siz99 zer99 rfl rfl) ?_; rintro _ _ ⟨v25, rfl, rfl⟩)
      (refine wl_ef rfl (ef_callvv [] [.pointer (some ⟨b6, 0, none⟩)] rfl fun115 rfl rfl (fun _ hw => c2 b6 _ _ _ (inB_own hw) (rdI_own0 hw) (rdI_blk hw (by omega) (by decide)))) ?_; rintro _ _ ⟨rfl, rfl⟩)
      (refine wl_ef rfl (ef_storeC siz28 rfl rfl rfl) ?_; rintro _ _ ⟨rfl, rfl⟩)
      refine wl_nil ?_
      refine q_then ?_
      refine wc_ret ?_
      apply q_retg (rescC Try.results98 rfl agg28) -- ret 0
      case hΨ =>
        first | exact ⟨rfl, rfl⟩ | exact rfl
      case hs =>
        exact SubC.out
end Go.Proofs.Ytdgmkbjopcopcaa
