/- Walks of layer 3 (digest): Sum, Share; the document's padded, Bytes, Share. Own work. -/
import Derived.Test.YtdgmkbjopcopcaaDige
set_option linter.unusedVariables false
set_option linter.unusedSimpArgs false
set_option maxRecDepth 100000
set_option maxHeartbeats 8000000
namespace Go.Proofs.Ytdgmkbjopcopcaa
open Go.RowKit

/-- slices of bytes, and what they read as -/
abbrev VB := Value × List UInt8
def catB (ps : List VB) : List UInt8 := (ps.map (·.2)).flatten
theorem catB_take {ps : List VB} {k : Nat} {p : VB} (h : ps[k]? = some p) : catB (ps.take (k + 1)) = catB (ps.take k) ++ p.2 := by
  rw [List.take_add_one, h]
  simp [catB]
theorem catB_le (ps : List VB) (k : Nat) : (catB (ps.take k)).length ≤ (catB ps).length := by
  have e : catB ps = catB (ps.take k) ++ catB (ps.drop k) := by
    simp only [catB]
    rw [← List.flatten_append, ← List.map_append, List.take_append_drop]
  rw [e, List.length_append]
  omega
theorem c_SumP (vp : Value) (ps : List VB) (w : World) (hp : RdI w [] vp 1 ps.length (ps.map (·.1))) (hs : ∀ p ∈ ps, RdI w [] p.1 1 p.2.length (bvs p.2)) (hn : (catB ps).length ≤ 100000000000000000) :
    Calls Try.prog 81 #[vp] w (RV w (.agg (bvs (sha (catB ps))).toArray)) := by
  obtain ⟨D, hD⟩ : ∃ D, D = sha (catB ps) := ⟨_, rfl⟩
  have hDl : D.length = 32 := by rw [hD, sha_len]
  have hDb : (bvs D).length = 32 := by rw [bvs_len, hDl]
  have ce : ∀ (s : Nat) (wt L : List UInt8) (hi : Inv wt L) (he : L = catB ps) (w : World) (hs : StrAt w s wt L), Calls Try.prog 105 #[.pointer (some ⟨s, 0, none⟩)] w (RP [s] w (fun v L' => v = .agg (bvs D).toArray ∧ L' = [])) := fun s wt L hi he w hs => by
    subst he
    rw [hD]
    exact c_end s wt _ hi hn w hs
  have cw : ∀ (s : Nat) (wt : List UInt8) (k : Nat) (p : VB) (hpk : ps[k]? = some p) (hi : Inv wt (catB (ps.take k))) (w : World) (hs : StrAt w s wt (catB (ps.take k))) (hv : RdI w [s] p.1 1 p.2.length (bvs p.2)), Calls Try.prog 104 #[.pointer (some ⟨s, 0, none⟩), p.1] w (RP [s] w (fun r L' => ∃ wt', Inv wt' (catB (ps.take (k + 1))) ∧ r = .tuple #[] ∧ L' = [.blk s (strm (sst (catB (ps.take (k + 1)))) wt' (catB (ps.take (k + 1))).length) 180 (0, 0)])) := fun s wt k p hpk hi w hs hv => by
    rw [catB_take hpk]
    refine c_write s wt _ p.2 p.1 hi ?_ w hs hv
    have h1 := catB_le ps (k + 1)
    rw [catB_take hpk] at h1
    simp at h1
    omega
  have hp0 := hp.rd.form
  obtain ⟨A0, cap0, rfl, hle1, hle2, _⟩ := hp0
  simp only [maxLen] at hle2
  rw [← hD]
  refine enter (N := 19) Try.func81 rfl Try.ntmps81 rfl (Has.nil _) ?_
  refine wc_seq ?_
  refine wc_region ?_
  (refine wl_ef rfl (ef_alloc rfl zer28) ?_; rintro _ _ ⟨b2, rfl, rfl⟩)
  refine wl_nil ?_
  refine q_then ?_
  refine wc_seq ?_
  refine wc_region ?_
  (refine wl_ef rfl (ef_callf rfl fun103 rfl (fun _ hw => (c_begun _))) ?_; rintro _ _ ⟨b6, rfl, rfl⟩)
  refine wl_val rfl rfl rfl (y_assign rfl) ?_
  refine wl_nil ?_
  refine q_then ?_
  refine wc_seq ?_
  refine wc_seq ?_
  refine wc_region ?_
  refine wl_val rfl rfl rfl (y_move rfl) ?_
  refine wl_val rfl rfl rfl (y_lenRd Try.underlying163 rfl (by first | exact rd_own | exact rd_in (by assumption) | assumption)) ?_
  refine wl_val rfl rfl rfl (y_move rfl) ?_
  refine wl_nil ?_
  refine q_then ?_
  refine wc_block ?_
  refine wc_loop2 (X0 := Nat) (X1 := List UInt8) (fun k t => [(2, .pointer (some ⟨b2, 0, none⟩)), (3, .pointer (some ⟨b6, 0, none⟩)), (7, .slice A0 ps.length cap0), (8, .int .i64 (ps.length : Int)), (9, .int .i64 (k : Int))]) (fun k t => [.blk b6 (strm (sst (catB (ps.take k))) t (catB (ps.take k)).length) 180 (0, 0), .blk b2 (bvs (zeros 32)) 28 (0, 0)]) (fun k t => k ≤ ps.length ∧ Inv t (catB (ps.take k))) (fun k t => ps.length - k) (0) (zeros 64) ?_ ?_ ?_ ?_
  · exact ⟨by omega, inv_nil (by simp [zeros])⟩
  · repeat (first | exact SubE.nil | refine SubE.cons rfl ?_ | refine SubE.cons (lk_int rfl (by omega)) ?_ | refine SubE.cons (lk_int rfl (by rfl)) ?_ | refine SubE.cons (lk_eq rfl (by rfl)) ?_)
  · first | (repeat (first | exact SubL.nil | refine SubL.consOwn rfl rfl ?_ | refine SubL.consBlk rfl ?_)); fail_if_success focus skip | repeat (first | exact SubL.nil | refine SubL.consOwn (by first | rfl | omega | (simp only [List.length_append, List.length_cons, List.length_nil]; omega) | (first | rfl | (show strm S0 _ _ = strm (sst []) _ _; rw [sst_nil]; rfl))) (by first | rfl | (first | rfl | (show strm S0 _ _ = strm (sst []) _ _; rw [sst_nil]; rfl))) ?_ | refine SubL.consBlk (by first | rfl | (first | rfl | (show strm S0 _ _ = strm (sst []) _ _; rw [sst_nil]; rfl))) ?_ | refine SubL.consMap (by first | rfl | omega) (by first | rfl | (first | rfl | (show strm S0 _ _ = strm (sst []) _ _; rw [sst_nil]; rfl))) ?_)
  · skip
    rintro k t ⟨hk, hI⟩
    refine wc_seq ?_
    refine wc_region ?_
    refine wl_val rfl rfl rfl (y_lss rfl rfl) ?_
    refine wl_nil ?_
    refine q_then ?_
    refine wc_seq ?_
    refine wc_cond rfl (fun hc0 => ?_) (fun hc0 => ?_)
    · first
      | ((exfalso; (first | with_reducible contradiction | omega | (simp at hc0; done))))
      | skip
        obtain ⟨p, hpk⟩ : ∃ p, ps[k]? = some p := ⟨ps[k]'(by omega), List.getElem?_eq_getElem (by omega)⟩
        have hpm : p ∈ ps := List.mem_of_getElem? hpk
        have hcell : (ps.map (·.1))[k]? = some p.1 := by simp [hpk]
        refine wc_skip ?_
        refine q_then ?_
        refine wc_seq ?_
        refine wc_block ?_
        refine wc_seq ?_
        refine wc_region ?_
        refine wl_val rfl rfl rfl (y_indexE1n Try.underlying163 siz99 rfl rfl (rd_in hp) (by omega)) ?_
        refine wl_val rfl rfl rfl (y_loadE one99 rfl (rd_in hp) hcell) ?_
        refine wl_val rfl rfl rfl (y_assign rfl) ?_
        refine wl_nil ?_
        refine q_then ?_
        refine wc_region ?_
        refine wl_val rfl rfl rfl (y_move rfl) ?_
        refine wl_val rfl rfl rfl (y_move rfl) ?_
        (refine wl_ef rfl (ef_call1x rfl fun104 rfl (fun _ hw => (cw b6 t k p hpk hI _ (blk_at hw) (hw.rdI (hs p hpm) (by simp [foots, Asn.foot]))))) ?_; rintro _ _ ⟨x15, hx15, rfl, rfl⟩)
        refine wl_nil ?_
        refine q_blockNormal ?_
        refine q_then ?_
        refine wc_region ?_
        refine wl_val rfl rfl rfl (y_addn rfl rfl (by omega)) ?_
        refine wl_val rfl rfl rfl (y_move rfl) ?_
        refine wl_nil ?_
        refine q_again2 (k + 1) (x15) ?_ ?_ ?_ ?_
        · exact ⟨by omega, hx15⟩
        · first | omega | (simp; omega) | (simp only []; omega)
        · repeat (first | exact SubE.nil | refine SubE.cons rfl ?_ | refine SubE.cons (lk_int rfl (by omega)) ?_ | refine SubE.cons (lk_int rfl (by rfl)) ?_ | refine SubE.cons (lk_eq rfl (by rfl)) ?_)
        · (repeat (first | exact SubL.nil | refine SubL.consOwn rfl rfl ?_ | refine SubL.consBlk rfl ?_)); fail_if_success focus skip
    · first
      | ((exfalso; (first | with_reducible contradiction | omega | (simp at hc0; done))))
      | skip
        refine wc_exit ?_
        refine q_thenExit ?_
        refine q_thenExit ?_
        refine q_blockExit ?_
        refine q_then ?_
        refine wc_seq ?_
        refine wc_region ?_
        refine wl_val rfl rfl rfl (y_move rfl) ?_
        (refine wl_ef rfl (ef_call1z rfl fun105 rfl (fun _ hw => (ce b6 t _ hI (by rw [List.take_of_length_le (by omega)]) _ (blk_at hw)))) ?_; rintro _ _ ⟨rfl, rfl⟩)
        (refine wl_ef rfl (ef_storeP siz28 rfl rfl rfl (by (repeat (first | exact OneAll.nil | refine OneAll.cons rfl ?_ | exact bvs_one _ | refine OneAll.app ?_ ?_ | exact OneAll.map _ (fun _ => rfl) | assumption)); fail_if_success focus skip) (by (repeat (first | exact SplN.nil | apply SplN.skip | exact SplN.all (by first | rfl | assumption | (simp; done) | (simp [*]; done)) (by first | rfl | assumption | (simp; done) | (simp [*]; done)) | exact SplN.puta (by first | rfl | assumption | (simp; done) | (simp [*]; done)) (by first | rfl | assumption | (simp; done) | (simp [*]; done)) | apply SplN.cons | apply SplN.put (by first | rfl | assumption | (simp; done) | (simp [*]; done)) (by first | rfl | assumption | (simp; done) | (simp [*]; done)) | apply SplN.over (by first | rfl | assumption | (simp; done) | (simp [*]; done)) rfl)); fail_if_success focus skip) (by first | rfl | assumption | (simp; done) | (simp [*]; done))) ?_; rintro _ _ ⟨rfl, rfl⟩)
        refine wl_nil ?_
        refine q_then ?_
        refine wc_ret ?_
        apply q_retg (resc Try.results81 rfl agg28 (by (repeat (first | exact PartN.nil | exact PartN.all (by first | rfl | assumption | (simp; done) | (simp [*]; done)) | exact PartN.takea (by first | rfl | assumption | (simp; done) | (simp [*]; done)) | apply PartN.skip | apply PartN.take (by first | rfl | assumption | (simp; done) | (simp [*]; done)) rfl | apply PartN.cons | apply PartN.over (by first | rfl | assumption | (simp; done) | (simp [*]; done)) rfl)); fail_if_success focus skip)) -- ret 0
        case hΨ =>
          first | exact ⟨rfl, rfl⟩ | exact rfl
        case hs =>
          (repeat (first | exact SubL.nil | refine SubL.consOwn rfl rfl ?_ | refine SubL.consBlk rfl ?_)); fail_if_success focus skip
/-! shares -/
def sh7 (l : List UInt8) (k : Nat) : Nat := (l.take k).foldl (fun x c => 256 * x + c.toNat) 0
theorem sh7_zero (l : List UInt8) : sh7 l 0 = 0 := rfl
theorem sh7_succ {l : List UInt8} {k : Nat} (h : k < l.length) : sh7 l (k + 1) = 256 * sh7 l k + (g8 l k).toNat := by
  have e2 : l.take (k + 1) = l.take k ++ [l[k]] := by rw [List.take_add_one, List.getElem?_eq_getElem h]; rfl
  rw [sh7, e2, List.foldl_append]
  simp [sh7, g8, h]
theorem sh7_lt (l : List UInt8) : ∀ k, k ≤ l.length → sh7 l k < 256 ^ k
  | 0, _ => by simp [sh7_zero]
  | k + 1, h => by
    rw [sh7_succ (by omega)]
    have := sh7_lt l k (by omega)
    have h2 := (g8 l k).toNat_lt
    rw [Nat.pow_succ]
    omega
theorem sh7_le (l : List UInt8) (k : Nat) (h : k ≤ l.length) (hk : k ≤ 7) : sh7 l k < 72057594037927936 :=
  Nat.lt_of_lt_of_le (sh7_lt l k h) (Nat.le_trans (Nat.pow_le_pow_right (by decide) hk) (by decide))
theorem sh7_le6 (l : List UInt8) (k : Nat) (h : k ≤ l.length) (hk : k ≤ 6) : sh7 l k < 281474976710656 :=
  Nat.lt_of_lt_of_le (sh7_lt l k h) (Nat.le_trans (Nat.pow_le_pow_right (by decide) hk) (by decide))
def shareV (l : List UInt8) (n : Int) : Int := if n < 1 then 0 else (sh7 l 7 : Int) % n
theorem bits_or64 {P : Program} (m n : Nat) (hm : m < 9223372036854775808) (hn : n < 9223372036854775808) (w : World) : (Op.intBits .or .i64 (m : Int) (n : Int)).run P w = .ok (.int .i64 ((m ||| n : Nat) : Int)) w := by
  have e0 : ∀ m : Nat, m < 9223372036854775808 → (BitVec.ofInt IntKind.i64.bits (m : Int)).toNat = m := by
    intro m hm
    have e : ((2 ^ IntKind.i64.bits : Nat) : Int) = 18446744073709551616 := by decide
    rw [BitVec.toNat_ofInt, e, Int.emod_eq_of_lt (by omega) (by omega)]
    simp
  have h3 : m ||| n < 9223372036854775808 := by
    have := Nat.or_lt_two_pow (x := m) (y := n) (n := 63) (by omega) (by omega)
    omega
  simp only [Op.intBits, BitVec.toNat_or, e0 m hm, e0 n hn, Sem.run_pure]
  rw [IntKind.wrap_i64, show (((m ||| n : Nat) : Int) + 9223372036854775808) % 18446744073709551616 - 9223372036854775808 = ((m ||| n : Nat) : Int) from by omega]
theorem or_add (x c : Nat) (h : c < 256) : (256 * x) ||| c = 256 * x + c := by
  have := Nat.two_pow_add_eq_or_of_lt (i := 8) (b := c) (by omega) x
  simp only [Nat.reducePow] at this
  omega
theorem shl8 (x : Nat) (h : x < 281474976710656) : (Value.int .i64 (IntKind.i64.wrap ((x : Int) * 2 ^ (min (8 : Int).toNat IntKind.i64.bits)))) = .int .i64 ((256 * x : Nat) : Int) := by
  have e : (2 : Int) ^ (min (8 : Int).toNat IntKind.i64.bits) = 256 := by decide
  rw [e, IntKind.wrap_i64, show ((x : Int) * 256 + 9223372036854775808) % 18446744073709551616 - 9223372036854775808 = ((256 * x : Nat) : Int) from by omega]
theorem c_Share (l : List UInt8) (n : Int) (hl : l.length = 32) (w : World) : Calls Try.prog 80 #[.agg (bvs l).toArray, .int .i64 n] w (RV w (.int .i64 (shareV l n))) := by
  have h7 := sh7_le l 7 (by omega) (by omega)
  refine enter (N := 25) Try.func80 rfl Try.ntmps80 rfl (Has.nil _) ?_
  refine wc_seq ?_
  refine wc_region ?_
  (refine wl_ef rfl (ef_box rfl rfl rfl) ?_; rintro _ _ ⟨b2, rfl, rfl⟩)
  refine wl_val rfl rfl rfl (y_assign rfl) ?_
  refine wl_nil ?_
  refine q_then ?_
  refine wc_seq ?_
  refine wc_seq ?_
  refine wc_region ?_
  refine wl_val rfl rfl rfl (y_move rfl) ?_
  refine wl_val rfl rfl rfl (y_lss rfl rfl) ?_
  refine wl_nil ?_
  refine q_then ?_
  refine wc_cond rfl (fun hc0 => ?_) (fun hc0 => ?_)
  · first
    | ((exfalso; (first | with_reducible contradiction | omega | (simp at hc0; done))))
    | skip
      refine wc_seq ?_
      refine wc_region ?_
      refine wl_val rfl rfl rfl (y_assign rfl) ?_
      refine wl_nil ?_
      refine q_then ?_
      refine wc_ret ?_
      refine q_thenRet ?_
      apply q_retg (res1 Try.results80 rfl) -- ret 0
      case hΨ =>
        exact ⟨by rw [shareV, if_pos hc0], rfl⟩
      case hs =>
        (repeat (first | exact SubL.nil | refine SubL.consOwn rfl rfl ?_ | refine SubL.consBlk rfl ?_)); fail_if_success focus skip
  · first
    | ((exfalso; (first | with_reducible contradiction | omega | (simp at hc0; done))))
    | skip
      refine wc_skip ?_
      refine q_then ?_
      refine wc_seq ?_
      refine wc_region ?_
      refine wl_val rfl rfl rfl (y_assign rfl) ?_
      refine wl_nil ?_
      refine q_then ?_
      refine wc_seq ?_
      refine wc_seq ?_
      refine wc_region ?_
      refine wl_val rfl rfl rfl (yl_is (v := .slice (some ⟨b2, 0, none⟩) 7 32) (y_sliceA (l := 0) (h := 7) Try.underlying28 siz5 rfl (.inl ⟨rfl, rfl⟩) (.inr ⟨_, _, rfl, rfl⟩) (by omega) (by omega) (by omega)) rfl) ?_
      first | refine wl_val rfl rfl rfl (y_lenRd Try.underlying99 rfl (by first | exact rd_own | exact rd_in (by assumption) | assumption)) ?_ | refine wl_val rfl rfl rfl (y_lenSl Try.underlying99 rfl) ?_
      refine wl_val rfl rfl rfl (y_move rfl) ?_
      refine wl_nil ?_
      refine q_then ?_
      refine wc_block ?_
      refine wc_loop (X := Nat) (fun k => [(1, .int .i64 n), (5, .int .i64 (sh7 l k : Int)), (10, .slice (some ⟨b2, 0, none⟩) 7 32), (11, .int .i64 7), (12, .int .i64 (k : Int))]) (fun k => [.blk b2 (bvs l) 28 (0, 0)]) (fun k => k ≤ 7) (fun k => 7 - k) (0) ?_ ?_ ?_ ?_
      · first | trivial | omega | simp
      · repeat (first | exact SubE.nil | refine SubE.cons rfl ?_ | refine SubE.cons (lk_int rfl (by omega)) ?_ | refine SubE.cons (lk_int rfl (by rfl)) ?_ | refine SubE.cons (lk_eq rfl (by rfl)) ?_)
      · (repeat (first | exact SubL.nil | refine SubL.consOwn rfl rfl ?_ | refine SubL.consBlk rfl ?_)); fail_if_success focus skip
      · skip
        intro k hk
        have hrd : ∀ w', Has w [] [.blk b2 (bvs l) 28 (0, 0)] w' → Rd w' (.slice (some ⟨b2, 0, none⟩) 7 32) 1 7 (bvs (l.take 7)) := fun w' hw => rd_blk (blk_at hw) (fun j u hu => by rw [← bvs_take, List.getElem?_take] at hu; rw [Nat.zero_add]; split at hu <;> simp_all) (by rw [bvs_len]; simp; omega) (by omega) (by decide)
        refine wc_seq ?_
        refine wc_region ?_
        refine wl_val rfl rfl rfl (y_lss rfl rfl) ?_
        refine wl_nil ?_
        refine q_then ?_
        refine wc_seq ?_
        refine wc_cond rfl (fun hc1 => ?_) (fun hc1 => ?_)
        · first
          | ((exfalso; (first | with_reducible contradiction | omega | (simp at hc1; done))))
          | skip
            have hk7 := sh7_le6 l k (by omega) (by omega)
            refine wc_skip ?_
            refine q_then ?_
            refine wc_seq ?_
            refine wc_block ?_
            refine wc_seq ?_
            refine wc_region ?_
            refine wl_val rfl rfl rfl (y_indexE1n Try.underlying99 siz5 rfl rfl (by first | exact rd_own | exact rd_in (by assumption) | assumption) (by omega)) ?_
            refine wl_val rfl rfl rfl (y_loadE one5 rfl hrd (by rw [← bvs_take, List.getElem?_take, if_pos (by omega)]; exact b8_at rfl (by omega))) ?_
            refine wl_val rfl rfl rfl (y_assign rfl) ?_
            refine wl_nil ?_
            refine q_then ?_
            refine wc_region ?_
            refine wl_val rfl rfl rfl (y_move rfl) ?_
            refine wl_val rfl rfl rfl (yl_is (y_shl rfl rfl (by omega)) (shl8 _ (by omega))) ?_
            refine wl_val rfl rfl rfl (y_move rfl) ?_
            refine wl_val rfl rfl rfl (y_convFromByte Try.underlying5 Try.underlying3 rfl) ?_
            refine wl_val rfl rfl rfl (y_bits rfl rfl rfl (bits_or64 _ _ (by omega) (Nat.lt_trans (g8 l k).toNat_lt (by omega)))) ?_
            refine wl_val rfl rfl rfl (y_assign rfl) ?_
            refine wl_nil ?_
            refine q_blockNormal ?_
            refine q_then ?_
            refine wc_region ?_
            refine wl_val rfl rfl rfl (y_addn rfl rfl (by omega)) ?_
            refine wl_val rfl rfl rfl (y_move rfl) ?_
            refine wl_nil ?_
            refine q_again (k + 1) ?_ ?_ ?_ ?_
            · first | omega | (refine ⟨?_, ?_⟩ <;> omega)
            · first | omega | (simp; omega) | (simp only []; omega)
            · repeat (first | exact SubE.nil | refine SubE.cons rfl ?_ | refine SubE.cons (lk_int rfl (by omega)) ?_ | refine SubE.cons (lk_int rfl (by first | omega | (rw [or_add _ _ (g8 l k).toNat_lt, sh7_succ (by omega)]))) ?_ | refine SubE.cons (lk_eq rfl (by first | omega | (rw [or_add _ _ (g8 l k).toNat_lt, sh7_succ (by omega)]))) ?_)
            · (repeat (first | exact SubL.nil | refine SubL.consOwn rfl rfl ?_ | refine SubL.consBlk rfl ?_)); fail_if_success focus skip
        · first
          | ((exfalso; (first | with_reducible contradiction | omega | (simp at hc1; done))))
          | skip
            refine wc_exit ?_
            refine q_thenExit ?_
            refine q_thenExit ?_
            refine q_blockExit ?_
            refine q_then ?_
            refine wc_seq ?_
            refine wc_region ?_
            refine wl_val rfl rfl rfl (y_move rfl) ?_
            refine wl_val rfl rfl rfl (y_move rfl) ?_
            refine wl_val rfl rfl rfl (y_remn rfl rfl (by omega) (by omega)) ?_
            refine wl_val rfl rfl rfl (y_assign rfl) ?_
            refine wl_nil ?_
            refine q_then ?_
            refine wc_ret ?_
            apply q_retg (res1 Try.results80 rfl) -- ret 1
            case hΨ =>
              exact ⟨by rw [shareV, if_neg hc0, show k = 7 from by omega], rfl⟩
            case hs =>
              (repeat (first | exact SubL.nil | refine SubL.consOwn rfl rfl ?_ | refine SubL.consBlk rfl ?_)); fail_if_success focus skip
theorem c_refShare (l : List UInt8) (n : Int) (hl : l.length = 32) (w : World) : Calls Try.prog 85 #[.agg (bvs l).toArray, .int .i64 n] w (RV w (.int .i64 (shareV l n))) := by
  have h7 := sh7_le l 7 (by omega) (by omega)
  refine enter (N := 23) Try.func85 rfl Try.ntmps85 rfl (Has.nil _) ?_
  refine wc_seq ?_
  refine wc_region ?_
  (refine wl_ef rfl (ef_box rfl rfl rfl) ?_; rintro _ _ ⟨b2, rfl, rfl⟩)
  refine wl_val rfl rfl rfl (y_assign rfl) ?_
  refine wl_nil ?_
  refine q_then ?_
  refine wc_seq ?_
  refine wc_seq ?_
  refine wc_region ?_
  refine wl_val rfl rfl rfl (y_move rfl) ?_
  refine wl_val rfl rfl rfl (y_lss rfl rfl) ?_
  refine wl_nil ?_
  refine q_then ?_
  refine wc_cond rfl (fun hc0 => ?_) (fun hc0 => ?_)
  · first
    | ((exfalso; (first | with_reducible contradiction | omega | (simp at hc0; done))))
    | skip
      refine wc_seq ?_
      refine wc_region ?_
      refine wl_val rfl rfl rfl (y_assign rfl) ?_
      refine wl_nil ?_
      refine q_then ?_
      refine wc_ret ?_
      refine q_thenRet ?_
      apply q_retg (res1 Try.results85 rfl) -- ret 0
      case hΨ =>
        exact ⟨by rw [shareV, if_pos hc0], rfl⟩
      case hs =>
        (repeat (first | exact SubL.nil | refine SubL.consOwn rfl rfl ?_ | refine SubL.consBlk rfl ?_)); fail_if_success focus skip
  · first
    | ((exfalso; (first | with_reducible contradiction | omega | (simp at hc0; done))))
    | skip
      refine wc_skip ?_
      refine q_then ?_
      refine wc_seq ?_
      refine wc_region ?_
      refine wl_val rfl rfl rfl (y_assign rfl) ?_
      refine wl_nil ?_
      refine q_then ?_
      refine wc_seq ?_
      refine wc_seq ?_
      refine wc_region ?_
      refine wl_val rfl rfl rfl (y_assign rfl) ?_
      refine wl_nil ?_
      refine q_then ?_
      refine wc_block ?_
      refine wc_loop (X := Nat) (fun k => [(1, .int .i64 n), (2, .pointer (some ⟨b2, 0, none⟩)), (5, .int .i64 (sh7 l k : Int)), (6, .int .i64 (k : Int))]) (fun k => [.blk b2 (bvs l) 28 (0, 0)]) (fun k => k ≤ 7) (fun k => 7 - k) (0) ?_ ?_ ?_ ?_
      · first | trivial | omega | simp
      · repeat (first | exact SubE.nil | refine SubE.cons rfl ?_ | refine SubE.cons (lk_int rfl (by omega)) ?_ | refine SubE.cons (lk_int rfl (by rfl)) ?_ | refine SubE.cons (lk_eq rfl (by rfl)) ?_)
      · (repeat (first | exact SubL.nil | refine SubL.consOwn rfl rfl ?_ | refine SubL.consBlk rfl ?_)); fail_if_success focus skip
      · skip
        intro k hk
        have hg := (g8 l k).toNat_lt
        refine wc_seq ?_
        refine wc_seq ?_
        refine wc_region ?_
        refine wl_val rfl rfl rfl (y_move rfl) ?_
        refine wl_val rfl rfl rfl (y_lss rfl rfl) ?_
        refine wl_nil ?_
        refine q_then ?_
        refine wc_cond rfl (fun hc1 => ?_) (fun hc1 => ?_)
        · first
          | ((exfalso; (first | with_reducible contradiction | omega | (simp at hc1; done))))
          | skip
            have hk7 := sh7_le6 l k (by omega) (by omega)
            refine wc_skip ?_
            refine q_then ?_
            refine wc_seq ?_
            refine wc_block ?_
            refine wc_region ?_
            refine wl_val rfl rfl rfl (y_move rfl) ?_
            refine wl_val rfl rfl rfl (y_muln rfl rfl (by omega)) ?_
            refine wl_val rfl rfl rfl (y_move rfl) ?_
            refine wl_val rfl rfl rfl (y_indexA1n Try.underlying28 siz5 rfl rfl (by omega)) ?_
            first | refine wl_val rfl rfl rfl (y_load one5 rfl (by rfl)) ?_ | refine wl_val rfl rfl rfl (y_load one5 rfl (by exact b8_at (i := k) rfl (by omega))) ?_
            refine wl_val rfl rfl rfl (y_convFromByte Try.underlying5 Try.underlying3 rfl) ?_
            refine wl_val rfl rfl rfl (y_addn rfl rfl (by omega)) ?_
            refine wl_val rfl rfl rfl (y_assign rfl) ?_
            refine wl_nil ?_
            refine q_blockNormal ?_
            refine q_then ?_
            refine wc_region ?_
            refine wl_val rfl rfl rfl (y_move rfl) ?_
            refine wl_val rfl rfl rfl (y_addn rfl rfl (by omega)) ?_
            refine wl_val rfl rfl rfl (y_assign rfl) ?_
            refine wl_nil ?_
            refine q_again (k + 1) ?_ ?_ ?_ ?_
            · first | omega | (refine ⟨?_, ?_⟩ <;> omega)
            · first | omega | (simp; omega) | (simp only []; omega)
            · repeat (first | exact SubE.nil | refine SubE.cons rfl ?_ | refine SubE.cons (lk_int rfl (by omega)) ?_ | refine SubE.cons (lk_int rfl (by first | omega | (rw [sh7_succ (by omega)]; omega))) ?_ | refine SubE.cons (lk_eq rfl (by first | omega | (rw [sh7_succ (by omega)]; omega))) ?_)
            · (repeat (first | exact SubL.nil | refine SubL.consOwn rfl rfl ?_ | refine SubL.consBlk rfl ?_)); fail_if_success focus skip
        · first
          | ((exfalso; (first | with_reducible contradiction | omega | (simp at hc1; done))))
          | skip
            refine wc_exit ?_
            refine q_thenExit ?_
            refine q_thenExit ?_
            refine q_blockExit ?_
            refine q_then ?_
            refine wc_seq ?_
            refine wc_region ?_
            refine wl_val rfl rfl rfl (y_move rfl) ?_
            refine wl_val rfl rfl rfl (y_move rfl) ?_
            refine wl_val rfl rfl rfl (y_remn rfl rfl (by omega) (by omega)) ?_
            refine wl_val rfl rfl rfl (y_assign rfl) ?_
            refine wl_nil ?_
            refine q_then ?_
            refine wc_ret ?_
            apply q_retg (res1 Try.results85 rfl) -- ret 1
            case hΨ =>
              exact ⟨by rw [shareV, if_neg hc0, show k = 7 from by omega], rfl⟩
            case hs =>
              (repeat (first | exact SubL.nil | refine SubL.consOwn rfl rfl ?_ | refine SubL.consBlk rfl ?_)); fail_if_success focus skip
theorem bvs_snoc {l : List UInt8} {k : Nat} (h : k < l.length) : bvs (l.take k) ++ [bv (g8 l k)] = bvs (l.take (k + 1)) := by
  have e2 : l.take (k + 1) = l.take k ++ [l[k]] := by rw [List.take_add_one, List.getElem?_eq_getElem h]; rfl
  rw [e2, bvs, bvs, List.map_append, show g8 l k = l[k] from by simp [g8, h]]
  rfl
theorem bvs_snoc2 {m l : List UInt8} {k : Nat} (h : k < l.length) : bvs (m ++ l.take k) ++ [bv (g8 l k)] = bvs (m ++ l.take (k + 1)) := by
  rw [bvs_app, bvs_app, ← bvs_snoc h, List.append_assoc]
theorem c_refBytes (l : List UInt8) (hl : l.length = 32) (w : World) : Calls Try.prog 100 #[.agg (bvs l).toArray] w (RO w 5 1 32 (bvs l)) := by
  refine enter (N := 16) Try.func100 rfl Try.ntmps100 rfl (Has.nil _) ?_
  refine wc_seq ?_
  refine wc_region ?_
  (refine wl_ef rfl (ef_box rfl rfl rfl) ?_; rintro _ _ ⟨b1, rfl, rfl⟩)
  refine wl_val rfl rfl rfl (y_assign rfl) ?_
  refine wl_nil ?_
  refine q_then ?_
  refine wc_seq ?_
  refine wc_region ?_
  refine wl_val rfl rfl rfl (y_assign rfl) ?_
  refine wl_nil ?_
  refine q_then ?_
  refine wc_seq ?_
  refine wc_seq ?_
  refine wc_region ?_
  refine wl_val rfl rfl rfl (y_assign rfl) ?_
  refine wl_nil ?_
  refine q_then ?_
  refine wc_block ?_
  refine wc_turn (fun w h => h.nilOwn 5 1) ?_
  refine wc_loop2 (X0 := Nat) (X1 := Value) (fun k v => [(1, .pointer (some ⟨b1, 0, none⟩)), (3, v), (4, .int .i64 (k : Int))]) (fun k v => [.own v 5 1 k (bvs (l.take k)), .blk b1 (bvs l) 28 (0, 0)]) (fun k v => k ≤ 32) (fun k v => 32 - k) (0) (.slice none 0 0) ?_ ?_ ?_ ?_
  · first | trivial | omega | simp
  · repeat (first | exact SubE.nil | refine SubE.cons rfl ?_ | refine SubE.cons (lk_int rfl (by omega)) ?_ | refine SubE.cons (lk_int rfl (by rfl)) ?_ | refine SubE.cons (lk_eq rfl (by rfl)) ?_)
  · (repeat (first | exact SubL.nil | refine SubL.consOwn rfl rfl ?_ | refine SubL.consBlk rfl ?_)); fail_if_success focus skip
  · skip
    intro k v hk
    refine wc_seq ?_
    refine wc_seq ?_
    refine wc_region ?_
    refine wl_val rfl rfl rfl (y_move rfl) ?_
    refine wl_val rfl rfl rfl (y_lss rfl rfl) ?_
    refine wl_nil ?_
    refine q_then ?_
    refine wc_cond rfl (fun hc0 => ?_) (fun hc0 => ?_)
    · first
      | ((exfalso; (first | with_reducible contradiction | omega | (simp at hc0; done))))
      | skip
        refine wc_skip ?_
        refine q_then ?_
        refine wc_seq ?_
        refine wc_block ?_
        refine wc_region ?_
        refine wl_val rfl rfl rfl (y_move rfl) ?_
        refine wl_val rfl rfl rfl (y_move rfl) ?_
        refine wl_val rfl rfl rfl (y_indexA1n Try.underlying28 siz5 rfl rfl (by omega)) ?_
        first | refine wl_val rfl rfl rfl (y_load one5 rfl (by rfl)) ?_ | refine wl_val rfl rfl rfl (y_load one5 rfl (by exact b8_at (i := k) rfl (by omega))) ?_
        (refine wl_ef rfl (ef_lit1 rfl Try.underlying99 siz5 zer5 rfl rfl) ?_; rintro _ _ ⟨v13, rfl, rfl⟩)
        (refine wl_ef rfl (ef_append rfl Try.underlying99 inf5 rfl rfl rfl (by first | exact src_own Try.underlying99 (by (repeat (first | exact OneAll.nil | refine OneAll.cons rfl ?_ | exact bvs_one _ | refine OneAll.app ?_ ?_ | exact OneAll.map _ (fun _ => rfl) | assumption)); fail_if_success focus skip) | exact src_in Try.underlying99 (by assumption) (by (repeat (first | exact OneAll.nil | refine OneAll.cons rfl ?_ | exact bvs_one _ | refine OneAll.app ?_ ?_ | exact OneAll.map _ (fun _ => rfl) | assumption)); fail_if_success focus skip)) (by omega) (by omega)) ?_; rintro _ _ ⟨v14, rfl, rfl⟩)
        refine wl_val rfl rfl rfl (y_assign rfl) ?_
        refine wl_nil ?_
        refine q_blockNormal ?_
        refine q_then ?_
        refine wc_region ?_
        refine wl_val rfl rfl rfl (y_move rfl) ?_
        refine wl_val rfl rfl rfl (y_addn rfl rfl (by omega)) ?_
        refine wl_val rfl rfl rfl (y_assign rfl) ?_
        refine wl_nil ?_
        refine q_again2 (k + 1) (v14) ?_ ?_ ?_ ?_
        · first | omega | (refine ⟨?_, ?_⟩ <;> omega)
        · first | omega | (simp; omega) | (simp only []; omega)
        · repeat (first | exact SubE.nil | refine SubE.cons rfl ?_ | refine SubE.cons (lk_int rfl (by omega)) ?_ | refine SubE.cons (lk_int rfl (by rfl)) ?_ | refine SubE.cons (lk_eq rfl (by rfl)) ?_)
        · first | (repeat (first | exact SubL.nil | refine SubL.consOwn rfl rfl ?_ | refine SubL.consBlk rfl ?_)); fail_if_success focus skip | repeat (first | exact SubL.nil | refine SubL.consOwn (by first | rfl | omega | (simp only [List.length_append, List.length_cons, List.length_nil]; omega) | (exact bvs_snoc (by omega))) (by first | rfl | (exact bvs_snoc (by omega))) ?_ | refine SubL.consBlk (by first | rfl | (exact bvs_snoc (by omega))) ?_ | refine SubL.consMap (by first | rfl | omega) (by first | rfl | (exact bvs_snoc (by omega))) ?_)
    · first
      | ((exfalso; (first | with_reducible contradiction | omega | (simp at hc0; done))))
      | skip
        refine wc_exit ?_
        refine q_thenExit ?_
        refine q_thenExit ?_
        refine q_blockExit ?_
        refine q_then ?_
        refine wc_seq ?_
        refine wc_region ?_
        refine wl_val rfl rfl rfl (y_move rfl) ?_
        refine wl_val rfl rfl rfl (y_assign rfl) ?_
        refine wl_nil ?_
        refine q_then ?_
        refine wc_ret ?_
        obtain rfl : k = 32 := by omega
        rw [List.take_of_length_le (by omega)]
        apply q_retg (res1 Try.results100 rfl) -- ret 0
        case hΨ =>
          rfl
        case hs =>
          (repeat (first | exact SubL.nil | refine SubL.consOwn rfl rfl ?_ | refine SubL.consBlk rfl ?_)); fail_if_success focus skip
end Go.Proofs.Ytdgmkbjopcopcaa
