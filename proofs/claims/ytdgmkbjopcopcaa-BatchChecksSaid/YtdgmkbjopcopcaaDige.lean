/- Walks of layer 3 (digest): begun, end, Sum. Own work. -/
import Derived.Test.YtdgmkbjopcopcaaDigd
import Derived.Test.YtdgmkbjopcopcaaTaly
set_option linter.unusedVariables false
set_option linter.unusedSimpArgs false
set_option maxRecDepth 100000
set_option maxHeartbeats 8000000
namespace Go.Proofs.Ytdgmkbjopcopcaa
open Go.RowKit

def zeros (n : Nat) : List UInt8 := List.replicate n 0
theorem c_begun (w : World) : Calls Try.prog 103 #[] w (RP [] w (fun v L => ∃ b, v = .pointer (some ⟨b, 0, none⟩) ∧ L = [.blk b (strm S0 (zeros 64) 0) 180 (0, 0)])) := by
  refine enter (N := 4) Try.func103 rfl Try.ntmps103 rfl (Has.nil _) ?_
  refine wc_seq ?_
  refine wc_region ?_
  refine wl_val rfl rfl rfl (y_assign rfl) ?_
  refine wl_nil ?_
  refine q_then ?_
  refine wc_seq ?_
  refine wc_region ?_
  refine wl_val rfl rfl rfl (y_buildc (cs := S0.list.map wv) rfl (fun w => by kernel_rfl)) ?_
  refine wl_val rfl rfl rfl (y_buildc (cs := strm S0 (zeros 64) 0) rfl (fun w => by kernel_rfl)) ?_
  (refine wl_ef rfl (ef_box rfl rfl rfl) ?_; rintro _ _ ⟨b3, rfl, rfl⟩)
  refine wl_val rfl rfl rfl (y_assign rfl) ?_
  refine wl_nil ?_
  refine q_then ?_
  refine wc_ret ?_
  apply q_retg (res1 Try.results103 rfl) -- ret 0
  case hΨ =>
    exact ⟨b3, rfl, rfl⟩
  case hs =>
    (repeat (first | exact SubL.nil | refine SubL.consOwn rfl rfl ?_ | refine SubL.consBlk rfl ?_)); fail_if_success focus skip
/-- i bytes of l, then zeros -/
def fillB (l : List UInt8) (i : Nat) : List UInt8 := l.take i ++ zeros (l.length - i)
theorem fillB_len {l : List UInt8} {i : Nat} (h : i ≤ l.length) : (fillB l i).length = l.length := by simp [fillB, zeros]; omega
theorem fillB_zero (l : List UInt8) : fillB l 0 = zeros l.length := by simp [fillB]
theorem fillB_all (l : List UInt8) : fillB l l.length = l := by simp [fillB, zeros]
theorem fillB_set {l : List UInt8} {i : Nat} (h : i < l.length) : (bvs (fillB l i)).set i (bv (g8 l i)) = bvs (fillB l (i + 1)) := by
  rw [bvs, bvs, map_set]
  congr 1
  have e : (l.take i).length = i := by simp; omega
  have e2 : l.take (i + 1) = l.take i ++ [l[i]] := by rw [List.take_add_one, List.getElem?_eq_getElem h]; rfl
  rw [fillB, List.set_append_right _ _ (by omega), e, Nat.sub_self, zeros, show l.length - i = (l.length - (i + 1)) + 1 from by omega, List.replicate_succ, List.set_cons_zero, fillB, zeros, e2, List.append_assoc]
  simp only [g8, List.getD_eq_getElem?_getD, List.getElem?_eq_getElem h, Option.getD_some]
  rfl
theorem strm_w {st : S8} {wt : List UInt8} {n i : Nat} (h : i < 8) : (strm st wt n)[i]? = some (wv (g32 st.list i)) :=
  (List.getElem?_append_left (by exact h)).trans (map_at rfl (g32_at (by exact h)))
theorem u8_of_u32 (x : UInt32) : UInt8.ofInt (x.toNat : Int) = x.toUInt8 := by
  rw [ofInt_nat]
  apply UInt8.toNat.inj
  simp
theorem be8_at (n i : Nat) (h : i < 8) : g8 (be8 n) i = UInt8.ofNat (n / 256 ^ (7 - i)) := by simp [g8, be8, h]
theorem out_at (s : S8) (i : Nat) (h : i < 32) : g8 (out s) i = outB s i := by simp [g8, out_is, h]
theorem out_len (s : S8) : (out s).length = 32 := by simp [out]
theorem shr_be8 (n i : Nat) (h : i < 8) : UInt8.ofInt ((n : Int).fdiv (2 ^ (min (56 - 8 * (i : Int)).toNat IntKind.i64.bits))) = g8 (be8 n) i := by
  rw [show (56 - 8 * (i : Int)) = 8 * ((7 - i : Nat) : Int) from by omega, shr_pow _ _ (by omega), ofInt_nat, be8_at n i h]
theorem c_end (s : Nat) (wt L : List UInt8) (hi : Inv wt L) (hn : L.length ≤ 100000000000000000) (w : World) (hs : StrAt w s wt L) :
    Calls Try.prog 105 #[.pointer (some ⟨s, 0, none⟩)] w (RP [s] w (fun v L' => v = .agg (bvs (sha L)).toArray ∧ L' = [])) := by
  have h64 := hi.1
  have hsn := strm_n (st := sst L) (n := L.length) h64
  obtain ⟨z, hz⟩ : ∃ z, z = (119 - L.length % 64) % 64 := ⟨_, rfl⟩
  obtain ⟨S, hS⟩ : ∃ S, S = sst (L ++ pad L.length) := ⟨_, rfl⟩
  have hsha : sha L = out S := by rw [sha_is, hS]
  rw [hsha]
  refine enter (N := 63) Try.func105 rfl Try.ntmps105 rfl (Has.one hs) ?_
  refine wc_seq ?_
  refine wc_region ?_
  (refine wl_ef rfl (ef_alloc rfl zer28) ?_; rintro _ _ ⟨b2, rfl, rfl⟩)
  refine wl_nil ?_
  refine q_then ?_
  refine wc_seq ?_
  refine wc_region ?_
  refine wl_val rfl rfl rfl (y_move rfl) ?_
  refine wl_val rfl rfl rfl (y_nilCheck rfl) ?_
  refine wl_val rfl rfl rfl (y_field0 fa180_2 rfl) ?_
  first | refine wl_val rfl rfl rfl (y_load one3 rfl (by rfl)) ?_ | refine wl_val rfl rfl rfl (y_load one3 rfl (by first | assumption | ((repeat (first | exact at_here | apply at_skip | apply at_over (by first | rfl | assumption | (simp; done) | (simp [*]; done)) rfl)); fail_if_success focus skip) | simp)) ?_
  refine wl_val rfl rfl rfl (y_muln rfl rfl (by omega)) ?_
  refine wl_val rfl rfl rfl (y_assign rfl) ?_
  refine wl_nil ?_
  refine q_then ?_
  refine wc_seq ?_
  refine wc_region ?_
  refine wl_val rfl rfl rfl (y_move rfl) ?_
  (refine wl_ef rfl (ef_lit1 rfl Try.underlying99 siz5 zer5 rfl rfl) ?_; rintro _ _ ⟨v13, rfl, rfl⟩)
  (refine wl_ef rfl (ef_call1x rfl fun104 rfl (fun _ hw => (c_write s wt L [0x80] v13 hi (by simp; omega) _ (blk_at hw) (rdI_own hw (by simp [foots, Asn.foot]))))) ?_; rintro _ _ ⟨x14, hx14, rfl, rfl⟩)
  obtain ⟨t0, ht0⟩ : ∃ t, t = x14 := ⟨_, rfl⟩
  refine wl_nil ?_
  refine q_then ?_
  refine wc_seq ?_
  refine wc_block ?_
  refine wc_loop2 (X0 := Nat) (X1 := List UInt8) (fun j t => [(0, .pointer (some ⟨s, 0, none⟩)), (2, .pointer (some ⟨b2, 0, none⟩)), (3, .int .i64 ((8 * L.length : Nat) : Int))]) (fun j t => [.blk s (strm (sst (L ++ 0x80 :: zeros j)) t (L ++ 0x80 :: zeros j).length) 180 (0, 0), .blk b2 (bvs (zeros 32)) 28 (0, 0)]) (fun j t => j ≤ z ∧ Inv t (L ++ 0x80 :: zeros j)) (fun j t => z - j) (0) (x14) ?_ ?_ ?_ ?_
  · exact ⟨by omega, hx14⟩
  · repeat (first | exact SubE.nil | refine SubE.cons rfl ?_ | refine SubE.cons (lk_int rfl (by omega)) ?_ | refine SubE.cons (lk_int rfl (by rfl)) ?_ | refine SubE.cons (lk_eq rfl (by rfl)) ?_)
  · (repeat (first | exact SubL.nil | refine SubL.consOwn rfl rfl ?_ | refine SubL.consBlk rfl ?_)); fail_if_success focus skip
  · skip
    rintro j t ⟨hj, hI⟩
    have h64t := hI.1
    have hsn1 := strm_n (st := sst (L ++ 0x80 :: zeros j)) (n := (L ++ 0x80 :: zeros j).length) h64t
    have hl1 : (L ++ 0x80 :: zeros j).length = L.length + 1 + j := by simp [zeros]; omega
    refine wc_seq ?_
    refine wc_seq ?_
    refine wc_region ?_
    refine wl_val rfl rfl rfl (y_move rfl) ?_
    refine wl_val rfl rfl rfl (y_nilCheck rfl) ?_
    refine wl_val rfl rfl rfl (y_field0 fa180_2 rfl) ?_
    first | refine wl_val rfl rfl rfl (y_load one3 rfl (by rfl)) ?_ | refine wl_val rfl rfl rfl (y_load one3 rfl (by first | assumption | ((repeat (first | exact at_here | apply at_skip | apply at_over (by first | rfl | assumption | (simp; done) | (simp [*]; done)) rfl)); fail_if_success focus skip) | simp)) ?_
    refine wl_val rfl rfl rfl (yl_is (y_remn rfl rfl (by omega) (by omega)) (rem64 _)) ?_
    refine wl_val rfl rfl rfl (y_neq rfl rfl) ?_
    refine wl_nil ?_
    refine q_then ?_
    refine wc_cond rfl (fun hc0 => ?_) (fun hc0 => ?_)
    · first
      | ((exfalso; (first | with_reducible contradiction | omega | (simp at hc0; done))))
      | skip
        have hz1 : zeros (j + 1) = zeros j ++ [0] := by simp [zeros, List.replicate_succ']
        have hap : (L ++ 0x80 :: zeros j) ++ [0] = L ++ 0x80 :: zeros (j + 1) := by rw [hz1]; simp
        have hne : j ≠ z := by rw [hl1] at hc0; omega
        refine wc_skip ?_
        refine q_then ?_
        refine wc_block ?_
        refine wc_region ?_
        refine wl_val rfl rfl rfl (y_move rfl) ?_
        (refine wl_ef rfl (ef_lit1 rfl Try.underlying99 siz5 zer5 rfl rfl) ?_; rintro _ _ ⟨v22, rfl, rfl⟩)
        (refine wl_ef rfl (ef_call1x rfl fun104 rfl (fun _ hw => (c_write s t (L ++ 0x80 :: zeros j) [0] v22 hI (by rw [hl1]; simp; omega) _ (blk_at hw) (rdI_own hw (by simp [foots, Asn.foot]))))) ?_; rintro _ _ ⟨x23, hx23, rfl, rfl⟩)
        rw [hap] at hx23 ⊢
        refine wl_nil ?_
        refine q_blockNormal ?_
        refine q_again2 (j + 1) (x23) ?_ ?_ ?_ ?_
        · exact ⟨by omega, hx23⟩
        · first | omega | (simp; omega) | (simp only []; omega)
        · repeat (first | exact SubE.nil | refine SubE.cons rfl ?_ | refine SubE.cons (lk_int rfl (by omega)) ?_ | refine SubE.cons (lk_int rfl (by rfl)) ?_ | refine SubE.cons (lk_eq rfl (by rfl)) ?_)
        · (repeat (first | exact SubL.nil | refine SubL.consOwn rfl rfl ?_ | refine SubL.consBlk rfl ?_)); fail_if_success focus skip
    · first
      | ((exfalso; (first | with_reducible contradiction | omega | (simp at hc0; done))))
      | skip
        refine wc_exit ?_
        refine q_thenExit ?_
        refine q_thenExit ?_
        refine q_blockExit ?_
        refine q_then ?_
        refine wc_seq ?_
        obtain rfl : j = z := by rw [hl1] at hc0; omega
        have hb8 := be8_len (8 * L.length)
        obtain ⟨B, hB⟩ : ∃ B, B = be8 (8 * L.length) := ⟨_, rfl⟩
        rw [← hB] at hb8
        have hpad : (L ++ 0x80 :: zeros j) ++ B = L ++ pad L.length := by rw [pad_is, ← hz, ← hB]; simp [zeros]
        obtain ⟨N8, hN8⟩ : ∃ N8, N8 = 8 * L.length := ⟨_, rfl⟩
        rw [← hN8]
        rw [← hN8] at hB
        refine wc_region ?_
        (refine wl_ef rfl (ef_make (n := 8) rfl Try.underlying99 inf5 rfl rfl rfl rfl (by decide) (by decide)) ?_; rintro _ _ ⟨v24, rfl, rfl⟩)
        refine wl_val rfl rfl rfl (y_assign rfl) ?_
        refine wl_nil ?_
        refine q_then ?_
        refine wc_seq ?_
        refine wc_seq ?_
        refine wc_region ?_
        refine wl_val rfl rfl rfl (y_move rfl) ?_
        refine wl_val rfl rfl rfl (y_lenRd Try.underlying99 rfl (by first | exact rd_own | exact rd_in (by assumption) | assumption)) ?_
        refine wl_val rfl rfl rfl (y_move rfl) ?_
        refine wl_nil ?_
        refine q_then ?_
        refine wc_block ?_
        refine wc_loop (X := Nat) (fun i => [(0, .pointer (some ⟨s, 0, none⟩)), (2, .pointer (some ⟨b2, 0, none⟩)), (3, .int .i64 (N8 : Int)), (4, v24), (26, .int .i64 8), (27, .int .i64 (i : Int))]) (fun i => [.own v24 5 1 8 (bvs (fillB B i)), .blk s (strm (sst (L ++ 0x80 :: zeros j)) t (L ++ 0x80 :: zeros j).length) 180 (0, 0), .blk b2 (bvs (zeros 32)) 28 (0, 0)]) (fun i => i ≤ 8) (fun i => 8 - i) (0) ?_ ?_ ?_ ?_
        · first | trivial | omega | simp
        · repeat (first | exact SubE.nil | refine SubE.cons rfl ?_ | refine SubE.cons (lk_int rfl (by omega)) ?_ | refine SubE.cons (lk_int rfl (by rfl)) ?_ | refine SubE.cons (lk_eq rfl (by rfl)) ?_)
        · first | (repeat (first | exact SubL.nil | refine SubL.consOwn rfl rfl ?_ | refine SubL.consBlk rfl ?_)); fail_if_success focus skip | repeat (first | exact SubL.nil | refine SubL.consOwn (by first | rfl | omega | (simp only [List.length_append, List.length_cons, List.length_nil]; omega) | (rw [fillB_zero, hb8]; rfl)) (by first | rfl | (rw [fillB_zero, hb8]; rfl)) ?_ | refine SubL.consBlk (by first | rfl | (rw [fillB_zero, hb8]; rfl)) ?_ | refine SubL.consMap (by first | rfl | omega) (by first | rfl | (rw [fillB_zero, hb8]; rfl)) ?_)
        · skip
          intro k hk
          refine wc_seq ?_
          refine wc_region ?_
          refine wl_val rfl rfl rfl (y_lss rfl rfl) ?_
          refine wl_nil ?_
          refine q_then ?_
          refine wc_seq ?_
          refine wc_cond rfl (fun hc1 => ?_) (fun hc1 => ?_)
          · first
            | ((exfalso; (first | with_reducible contradiction | omega | (simp at hc1; done))))
            | skip
              refine wc_skip ?_
              refine q_then ?_
              refine wc_seq ?_
              refine wc_block ?_
              refine wc_seq ?_
              refine wc_region ?_
              refine wl_val rfl rfl rfl (y_move rfl) ?_
              refine wl_val rfl rfl rfl (y_assign rfl) ?_
              refine wl_nil ?_
              refine q_then ?_
              refine wc_region ?_
              refine wl_val rfl rfl rfl (y_move rfl) ?_
              refine wl_val rfl rfl rfl (y_move rfl) ?_
              refine wl_val rfl rfl rfl (y_move rfl) ?_
              refine wl_val rfl rfl rfl (y_move rfl) ?_
              refine wl_val rfl rfl rfl (y_muln rfl rfl (by omega)) ?_
              refine wl_val rfl rfl rfl (y_subn rfl rfl (by omega)) ?_
              refine wl_val rfl rfl rfl (y_shr rfl rfl (by omega)) ?_
              refine wl_val rfl rfl rfl (y_convByte Try.underlying3 Try.underlying5 rfl) ?_
              refine wl_val rfl rfl rfl (y_indexE1n Try.underlying99 siz5 rfl rfl (by first | exact rd_own | exact rd_in (by assumption) | assumption) (by omega)) ?_
              (refine wl_ef rfl (ef_storeE siz5 rfl rfl rfl (by rw [bvs_len, fillB_len (by omega)]; omega)) ?_; rintro _ _ ⟨rfl, rfl⟩)
              refine wl_nil ?_
              refine q_blockNormal ?_
              refine q_then ?_
              refine wc_region ?_
              refine wl_val rfl rfl rfl (y_addn rfl rfl (by omega)) ?_
              refine wl_val rfl rfl rfl (y_move rfl) ?_
              refine wl_nil ?_
              refine q_again (k + 1) ?_ ?_ ?_ ?_
              · first | omega | (refine ⟨?_, ?_⟩ <;> omega)
              · first | omega | (simp; omega) | (simp only []; omega)
              · repeat (first | exact SubE.nil | refine SubE.cons rfl ?_ | refine SubE.cons (lk_int rfl (by omega)) ?_ | refine SubE.cons (lk_int rfl (by rfl)) ?_ | refine SubE.cons (lk_eq rfl (by rfl)) ?_)
              · first | (repeat (first | exact SubL.nil | refine SubL.consOwn rfl rfl ?_ | refine SubL.consBlk rfl ?_)); fail_if_success focus skip | repeat (first | exact SubL.nil | refine SubL.consOwn (by first | rfl | omega | (simp only [List.length_append, List.length_cons, List.length_nil]; omega) | (rw [shr_be8 _ _ (by omega), ← hB, fillB_set (by omega)])) (by first | rfl | (rw [shr_be8 _ _ (by omega), ← hB, fillB_set (by omega)])) ?_ | refine SubL.consBlk (by first | rfl | (rw [shr_be8 _ _ (by omega), ← hB, fillB_set (by omega)])) ?_ | refine SubL.consMap (by first | rfl | omega) (by first | rfl | (rw [shr_be8 _ _ (by omega), ← hB, fillB_set (by omega)])) ?_)
          · first
            | ((exfalso; (first | with_reducible contradiction | omega | (simp at hc1; done))))
            | skip
              refine wc_exit ?_
              refine q_thenExit ?_
              refine q_thenExit ?_
              refine q_blockExit ?_
              refine q_then ?_
              refine wc_seq ?_
              obtain rfl : k = 8 := by omega
              have hfa := fillB_all B
              rw [hb8] at hfa
              rw [hfa]
              refine wc_region ?_
              refine wl_val rfl rfl rfl (y_move rfl) ?_
              refine wl_val rfl rfl rfl (y_move rfl) ?_
              (refine wl_ef rfl (ef_call1x rfl fun104 rfl (fun _ hw => (c_write s t (L ++ 0x80 :: zeros j) B v24 hI (by rw [hl1, hb8]; omega) _ (blk_at hw) (by rw [hb8]; exact rdI_own hw (by simp [foots, Asn.foot]))))) ?_; rintro _ _ ⟨x42, hx42, rfl, rfl⟩)
              rw [hpad] at hx42 ⊢
              rw [← hS]
              have ho := out_len S
              refine wl_nil ?_
              refine q_then ?_
              refine wc_seq ?_
              refine wc_seq ?_
              refine wc_region ?_
              refine wl_val rfl rfl rfl (y_move rfl) ?_
              refine wl_nil ?_
              refine q_then ?_
              refine wc_block ?_
              refine wc_loop (X := Nat) (fun i => [(0, .pointer (some ⟨s, 0, none⟩)), (2, .pointer (some ⟨b2, 0, none⟩)), (43, .int .i64 (i : Int))]) (fun i => [.blk s (strm S x42 (L ++ pad L.length).length) 180 (0, 0), .blk b2 (bvs (fillB (out S) i)) 28 (0, 0)]) (fun i => i ≤ 32) (fun i => 32 - i) (0) ?_ ?_ ?_ ?_
              · first | trivial | omega | simp
              · repeat (first | exact SubE.nil | refine SubE.cons rfl ?_ | refine SubE.cons (lk_int rfl (by omega)) ?_ | refine SubE.cons (lk_int rfl (by rfl)) ?_ | refine SubE.cons (lk_eq rfl (by rfl)) ?_)
              · (repeat (first | exact SubL.nil | refine SubL.consOwn rfl rfl ?_ | refine SubL.consBlk rfl ?_)); fail_if_success focus skip
              · skip
                intro k hk
                refine wc_seq ?_
                refine wc_region ?_
                refine wl_val rfl rfl rfl (y_lss rfl rfl) ?_
                refine wl_nil ?_
                refine q_then ?_
                refine wc_seq ?_
                refine wc_cond rfl (fun hc2 => ?_) (fun hc2 => ?_)
                · first
                  | ((exfalso; (first | with_reducible contradiction | omega | (simp at hc2; done))))
                  | skip
                    refine wc_skip ?_
                    refine q_then ?_
                    refine wc_seq ?_
                    refine wc_block ?_
                    refine wc_seq ?_
                    refine wc_region ?_
                    refine wl_val rfl rfl rfl (y_move rfl) ?_
                    refine wl_val rfl rfl rfl (y_assign rfl) ?_
                    refine wl_nil ?_
                    refine q_then ?_
                    refine wc_region ?_
                    refine wl_val rfl rfl rfl (y_move rfl) ?_
                    refine wl_val rfl rfl rfl (y_move rfl) ?_
                    refine wl_val rfl rfl rfl (y_move rfl) ?_
                    refine wl_val rfl rfl rfl (yl_is (v := .int .i64 ((k / 4 : Nat) : Int)) (y_quon rfl rfl (by omega) (by omega)) (by congr 1)) ?_
                    refine wl_val rfl rfl rfl (y_nilCheck rfl) ?_
                    refine wl_val rfl rfl rfl (y_field0 fa180_0 rfl) ?_
                    refine wl_val rfl rfl rfl (y_indexA1n Try.underlying152 siz151 rfl rfl (by omega)) ?_
                    refine wl_val rfl rfl rfl (y_load one151 rfl (strm_w (i := k / 4) (by omega))) ?_
                    refine wl_val rfl rfl rfl (y_move rfl) ?_
                    refine wl_val rfl rfl rfl (yl_is (v := .int .i64 ((k % 4 : Nat) : Int)) (y_remn rfl rfl (by omega) (by omega)) (by congr 1)) ?_
                    refine wl_val rfl rfl rfl (y_muln rfl rfl (by omega)) ?_
                    refine wl_val rfl rfl rfl (yl_is (v := .int .i64 ((24 - 8 * (k % 4) : Nat) : Int)) (y_subn rfl rfl (by omega)) (by congr 1; omega)) ?_
                    refine wl_val rfl rfl rfl (y_shrW rfl rfl (by omega)) ?_
                    refine wl_val rfl rfl rfl (y_convByte Try.underlying151 Try.underlying5 rfl) ?_
                    refine wl_val rfl rfl rfl (y_indexA1n Try.underlying28 siz5 rfl rfl (by omega)) ?_
                    (refine wl_ef rfl (ef_store siz5 rfl rfl rfl (by rw [bvs_len, fillB_len (by omega)]; omega)) ?_; rintro _ _ ⟨rfl, rfl⟩)
                    refine wl_nil ?_
                    refine q_blockNormal ?_
                    refine q_then ?_
                    refine wc_region ?_
                    refine wl_val rfl rfl rfl (y_addn rfl rfl (by omega)) ?_
                    refine wl_val rfl rfl rfl (y_move rfl) ?_
                    refine wl_nil ?_
                    refine q_again (k + 1) ?_ ?_ ?_ ?_
                    · first | omega | (refine ⟨?_, ?_⟩ <;> omega)
                    · first | omega | (simp; omega) | (simp only []; omega)
                    · repeat (first | exact SubE.nil | refine SubE.cons rfl ?_ | refine SubE.cons (lk_int rfl (by omega)) ?_ | refine SubE.cons (lk_int rfl (by rfl)) ?_ | refine SubE.cons (lk_eq rfl (by rfl)) ?_)
                    · first | (repeat (first | exact SubL.nil | refine SubL.consOwn rfl rfl ?_ | refine SubL.consBlk rfl ?_)); fail_if_success focus skip | repeat (first | exact SubL.nil | refine SubL.consOwn (by first | rfl | omega | (simp only [List.length_append, List.length_cons, List.length_nil]; omega) | (rw [u8_of_u32, ← fillB_set (by omega), out_at S k (by omega)]; rfl)) (by first | rfl | (rw [u8_of_u32, ← fillB_set (by omega), out_at S k (by omega)]; rfl)) ?_ | refine SubL.consBlk (by first | rfl | (rw [u8_of_u32, ← fillB_set (by omega), out_at S k (by omega)]; rfl)) ?_ | refine SubL.consMap (by first | rfl | omega) (by first | rfl | (rw [u8_of_u32, ← fillB_set (by omega), out_at S k (by omega)]; rfl)) ?_)
                · first
                  | ((exfalso; (first | with_reducible contradiction | omega | (simp at hc2; done))))
                  | skip
                    refine wc_exit ?_
                    refine q_thenExit ?_
                    refine q_thenExit ?_
                    refine q_blockExit ?_
                    refine q_then ?_
                    refine wc_seq ?_
                    obtain rfl : k = 32 := by omega
                    have hf17 : (bvs (fillB (out S) 32)).length = 32 := by rw [bvs_len, fillB_len (by omega), ho]
                    have hf18 := fillB_all (out S)
                    rw [ho] at hf18
                    refine wc_region ?_
                    refine wl_val rfl rfl rfl (y_loadP agg28 rfl (by (repeat (first | exact PartN.nil | exact PartN.all (by first | rfl | assumption | (simp; done) | (simp [*]; done)) | exact PartN.takea (by first | rfl | assumption | (simp; done) | (simp [*]; done)) | apply PartN.skip | apply PartN.take (by first | rfl | assumption | (simp; done) | (simp [*]; done)) rfl | apply PartN.cons | apply PartN.over (by first | rfl | assumption | (simp; done) | (simp [*]; done)) rfl)); fail_if_success focus skip)) ?_
                    (refine wl_ef rfl (ef_storeP siz28 rfl rfl rfl (by (repeat (first | exact OneAll.nil | refine OneAll.cons rfl ?_ | exact bvs_one _ | refine OneAll.app ?_ ?_ | exact OneAll.map _ (fun _ => rfl) | assumption)); fail_if_success focus skip) (by (repeat (first | exact SplN.nil | apply SplN.skip | exact SplN.all (by first | rfl | assumption | (simp; done) | (simp [*]; done)) (by first | rfl | assumption | (simp; done) | (simp [*]; done)) | exact SplN.puta (by first | rfl | assumption | (simp; done) | (simp [*]; done)) (by first | rfl | assumption | (simp; done) | (simp [*]; done)) | apply SplN.cons | apply SplN.put (by first | rfl | assumption | (simp; done) | (simp [*]; done)) (by first | rfl | assumption | (simp; done) | (simp [*]; done)) | apply SplN.over (by first | rfl | assumption | (simp; done) | (simp [*]; done)) rfl)); fail_if_success focus skip) (by first | rfl | assumption | (simp; done) | (simp [*]; done))) ?_; rintro _ _ ⟨rfl, rfl⟩)
                    refine wl_nil ?_
                    refine q_then ?_
                    refine wc_ret ?_
                    apply q_retg (resc Try.results105 rfl agg28 (by (repeat (first | exact PartN.nil | exact PartN.all (by first | rfl | assumption | (simp; done) | (simp [*]; done)) | exact PartN.takea (by first | rfl | assumption | (simp; done) | (simp [*]; done)) | apply PartN.skip | apply PartN.take (by first | rfl | assumption | (simp; done) | (simp [*]; done)) rfl | apply PartN.cons | apply PartN.over (by first | rfl | assumption | (simp; done) | (simp [*]; done)) rfl)); fail_if_success focus skip)) -- ret 0
                    case hΨ =>
                      exact ⟨by rw [hf18], rfl⟩
                    case hs =>
                      (repeat (first | exact SubL.nil | refine SubL.consOwn rfl rfl ?_ | refine SubL.consBlk rfl ?_)); fail_if_success focus skip
end Go.Proofs.Ytdgmkbjopcopcaa
