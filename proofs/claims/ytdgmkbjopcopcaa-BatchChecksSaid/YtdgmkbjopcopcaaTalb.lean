/- Walks of layer 1 (tally): Put behind bytes of one's own, PutText; the document's digits, Put, PutText. Own work. -/
import Derived.Test.YtdgmkbjopcopcaaTaly
import Derived.Test.YtdgmkbjopcopcaaEngi
set_option linter.unusedVariables false
set_option linter.unusedSimpArgs false
set_option maxRecDepth 100000
set_option maxHeartbeats 8000000
namespace Go.Proofs.Ytdgmkbjopcopcaa
open Go.RowKit

theorem Has.oneOwn {w : World} {v : Value} {T : TypeId} {sz n : Nat} {xs : List Value} (h : OwnR w T sz v n xs) : Has w v.ownBlock.toList [.own v T sz n xs] w :=
  ⟨Ext.refl _ _, by simpa [Asn.holds] using h, fun b hb => .inr (by simpa [foots, Asn.foot] using hb), by simp [foots, Asn.foot]; cases v.ownBlock <;> simp⟩
/-- what may change less -/
theorem Has.more {w w' : World} {L : Mem} (M : List Nat) (h : Has w [] L w') : Has w M L w' :=
  ⟨h.ext.mono (by simp), h.all, fun b hb => (h.new b hb).elim .inl (fun x => by simp at x), h.nodup⟩
theorem own_at {w0 w : World} {M : List Nat} {L R : Mem} {v : Value} {T : TypeId} {sz n : Nat} {xs : List Value} (h : Has w0 M L w) [hp : PkOwn L v T sz n xs R] : OwnR w T sz v n xs := h.pick hp.out
/-- a row of bytes -/
abbrev OwnB (v : Value) (l : List UInt8) : Asn := .own v 5 1 l.length (bvs l)
abbrev RB (w : World) (l : List UInt8) : Ending → World → Prop := RO w 5 1 l.length (bvs l)
/-- an own row of bytes goes, another comes -/
abbrev RC (w : World) (v : Value) (l : List UInt8) : Ending → World → Prop := RP v.ownBlock.toList w (fun v' L' => L' = [OwnB v' l])
theorem encI_neg {n : Int} (h : n < 0) : encI n = [] := by simp [encI, h]
theorem fullv_own (v : Value) (n : Nat) : (fullv v n).ownBlock = v.ownBlock := by
  cases v with
  | slice A l c => cases A <;> rfl
  | _ => rfl
theorem OwnR.same {w w' : World} {T : TypeId} {sz n : Nat} {v : Value} {xs : List Value} (h : OwnR w T sz v n xs) (he : Ext [] w w') : OwnR w' T sz v n xs := by
  have h1 : Asn.holds w (.own v T sz n xs) := h
  have := Asn.holds_same (w' := w') h1 (fun b hb => he.block b (Asn.holds_lt h1 b hb) (by simp))
  exact this
theorem c_PutOwn (vb : Value) (l : List UInt8) (n : Int) (hn : n ≤ 9223372036854775807) (w : World) (h : OwnR w 5 1 vb l.length (bvs l)) (hm : l.length ≤ 140737488355000) : Calls Try.prog 82 #[vb, .int .i64 n] w (RC w vb (l ++ encI n)) := by
  have hr : RdI w [] vb 1 l.length (bvs l) := ⟨Rd.of_own h, by simp⟩
  rcases Int.lt_or_le n 0 with hneg | hpos
  · rw [encI_neg hneg, List.append_nil]
    refine (c_PutNeg vb l.length (bvs l) n hneg w hr).mono fun e w' he => ?_
    obtain ⟨v, L, rfl, hH, rfl, rfl⟩ := he
    refine ⟨_, _, rfl, ⟨hH.ext.mono (by simp), ?_, ?_, ?_⟩, rfl⟩
    · intro x hx
      simp only [List.mem_singleton] at hx
      subst hx
      exact (h.same hH.ext).full
    · intro b hb
      right
      simpa [foots, Asn.foot, fullv_own] using hb
    · simp [foots, Asn.foot, fullv_own]
      cases vb.ownBlock <;> simp
  · obtain ⟨k, rfl⟩ : ∃ k : Nat, n = (k : Int) := ⟨n.toNat, by omega⟩
    rw [encI_nat]
    refine (c_Put vb l.length (bvs l) k (by omega) w hr hm).mono fun e w' he => ?_
    obtain ⟨v, L, rfl, hH, rfl⟩ := he
    refine ⟨_, _, rfl, hH.more _, ?_⟩
    show [_] = [Asn.own v _ 1 (l ++ enc k).length (bvs (l ++ enc k))]
    rw [List.length_append, bvs_app]
/-- a text's bytes, its length ahead -/
def encT (l : List UInt8) : List UInt8 := enc l.length ++ l
theorem size_len (s : ByteArray) : s.size = s.data.toList.length := by simp
theorem c_PutText (vb : Value) (l : List UInt8) (s : ByteArray) (w : World) (h : OwnR w 5 1 vb l.length (bvs l)) (hm : l.length ≤ 100000000000) (hs : s.size ≤ 100000000000) : Calls Try.prog 83 #[vb, .string s] w (RC w vb (l ++ encT s.data.toList)) := by
  have hel := encI_len (n := (s.size : Int)) (by omega)
  refine enter (N := 11) Try.func83 rfl Try.ntmps83 rfl (Has.oneOwn h) ?_
  refine wc_seq ?_
  refine wc_region ?_
  refine wl_val rfl rfl rfl (y_assign rfl) ?_
  refine wl_nil ?_
  refine q_then ?_
  refine wc_seq ?_
  refine wc_region ?_
  refine wl_val rfl rfl rfl (y_move rfl) ?_
  refine wl_val rfl rfl rfl (y_move rfl) ?_
  refine wl_val rfl rfl rfl (y_lenStr Try.underlying9 rfl) ?_
  (refine wl_ef rfl (ef_callc rfl fun82 rfl (fun _ hw => (c_PutOwn _ _ _ (by omega) _ (own_at hw) (by omega)))) ?_; rintro _ _ ⟨v8, rfl, rfl⟩)
  refine wl_val rfl rfl rfl (y_move rfl) ?_
  rw [show (l ++ encI (s.size : Int)).length = l.length + (encI (s.size : Int)).length from List.length_append]
  (refine wl_ef rfl (ef_append rfl Try.underlying99 inf5 rfl rfl rfl (fun _ _ => src_str Try.underlying9) (by omega) (by omega)) ?_; rintro _ _ ⟨v10, rfl, rfl⟩)
  refine wl_val rfl rfl rfl (y_assign rfl) ?_
  refine wl_nil ?_
  refine q_then ?_
  refine wc_ret ?_
  apply q_retg (res1 Try.results83 rfl) -- ret 0
  case hΨ =>
    rfl
  case hs =>
    first | (repeat (first | exact SubL.nil | refine SubL.consOwn rfl rfl ?_ | refine SubL.consBlk rfl ?_)); fail_if_success focus skip | repeat (first | exact SubL.nil | refine SubL.consOwn (by first | rfl | omega | (simp only [List.length_append, List.length_cons, List.length_nil]; omega) | (first | (simp [encT, encI_nat, bvs]; done) | (simp [encT, encI_nat, bvs]; omega))) (by first | rfl | (first | (simp [encT, encI_nat, bvs]; done) | (simp [encT, encI_nat, bvs]; omega))) ?_ | refine SubL.consBlk (by first | rfl | (first | (simp [encT, encI_nat, bvs]; done) | (simp [encT, encI_nat, bvs]; omega))) ?_ | refine SubL.consMap (by first | rfl | omega) (by first | rfl | (first | (simp [encT, encI_nat, bvs]; done) | (simp [encT, encI_nat, bvs]; omega))) ?_)
theorem c_digits (n : Nat) (hn : n ≤ 9223372036854775807) (w : World) : Calls Try.prog 101 #[.int .i64 (n : Int)] w (RB w (dig n)) := by
  have h8 := dig_len8 hn
  refine enter (N := 15) Try.func101 rfl Try.ntmps101 rfl (Has.nil _) ?_
  refine wc_seq ?_
  refine wc_region ?_
  refine wl_val rfl rfl rfl (y_assign rfl) ?_
  refine wl_nil ?_
  refine q_then ?_
  refine wc_seq ?_
  refine wc_region ?_
  refine wl_val rfl rfl rfl (y_assign rfl) ?_
  refine wl_nil ?_
  refine q_then ?_
  refine wc_seq ?_
  refine wc_block ?_
  refine wc_turn (fun w h => h.nilOwn 5 1) ?_
  refine wc_loop3 (X0 := Nat) (X1 := Value) (X2 := List UInt8) (fun m v acc => [(0, .int .i64 (m : Int)), (3, v)]) (fun m v acc => [OwnB v acc]) (fun m v acc => dig n = dig m ++ acc ∧ m ≤ n) (fun m v acc => m) (n) (.slice none 0 0) ([]) ?_ ?_ ?_ ?_
  · exact ⟨by simp, by omega⟩
  · repeat (first | exact SubE.nil | refine SubE.cons rfl ?_ | refine SubE.cons (lk_int rfl (by omega)) ?_ | refine SubE.cons (lk_int rfl (by rfl)) ?_ | refine SubE.cons (lk_eq rfl (by rfl)) ?_)
  · (repeat (first | exact SubL.nil | refine SubL.consOwn rfl rfl ?_ | refine SubL.consBlk rfl ?_)); fail_if_success focus skip
  · skip
    rintro m v acc ⟨ha, hm⟩
    have hal : acc.length ≤ 8 := by have := congrArg List.length ha; simp at this; omega
    refine wc_seq ?_
    refine wc_seq ?_
    refine wc_region ?_
    refine wl_val rfl rfl rfl (y_move rfl) ?_
    refine wl_val rfl rfl rfl (y_gtr rfl rfl) ?_
    refine wl_nil ?_
    refine q_then ?_
    refine wc_cond rfl (fun hc0 => ?_) (fun hc0 => ?_)
    · first
      | ((exfalso; (first | with_reducible contradiction | omega | (simp at hc0; done))))
      | skip
        refine wc_skip ?_
        refine q_then ?_
        refine wc_block ?_
        refine wc_seq ?_
        refine wc_region ?_
        refine wl_val rfl rfl rfl (y_move rfl) ?_
        refine wl_val rfl rfl rfl (yl_is (v := .int .i64 ((m % 256 : Nat) : Int)) (y_remn rfl rfl (by omega) (by omega)) (by congr 1)) ?_
        refine wl_val rfl rfl rfl (y_convByte Try.underlying3 Try.underlying5 rfl) ?_
        (refine wl_ef rfl (ef_lit1 rfl Try.underlying99 siz5 zer5 rfl rfl) ?_; rintro _ _ ⟨v9, rfl, rfl⟩)
        refine wl_val rfl rfl rfl (y_move rfl) ?_
        (refine wl_ef rfl (ef_append rfl Try.underlying99 inf5 rfl rfl rfl (by first | exact src_own Try.underlying99 (by (repeat (first | exact OneAll.nil | refine OneAll.cons rfl ?_ | exact bvs_one _ | refine OneAll.app ?_ ?_ | exact OneAll.map _ (fun _ => rfl) | assumption)); fail_if_success focus skip) | exact src_in Try.underlying99 (by assumption) (by (repeat (first | exact OneAll.nil | refine OneAll.cons rfl ?_ | exact bvs_one _ | refine OneAll.app ?_ ?_ | exact OneAll.map _ (fun _ => rfl) | assumption)); fail_if_success focus skip)) (by omega) (by omega)) ?_; rintro _ _ ⟨v11, rfl, rfl⟩)
        refine wl_val rfl rfl rfl (y_assign rfl) ?_
        refine wl_nil ?_
        refine q_then ?_
        refine wc_region ?_
        refine wl_val rfl rfl rfl (y_move rfl) ?_
        refine wl_val rfl rfl rfl (yl_is (v := .int .i64 ((m / 256 : Nat) : Int)) (y_quon rfl rfl (by omega) (by omega)) (by congr 1)) ?_
        refine wl_val rfl rfl rfl (y_assign rfl) ?_
        refine wl_nil ?_
        refine q_blockNormal ?_
        refine q_again3 (m / 256) (v11) (UInt8.ofNat (m % 256) :: acc) ?_ ?_ ?_ ?_
        · exact ⟨by rw [ha, dig_pos (n := m) (by omega)]; simp, by omega⟩
        · omega
        · repeat (first | exact SubE.nil | refine SubE.cons rfl ?_ | refine SubE.cons (lk_int rfl (by omega)) ?_ | refine SubE.cons (lk_int rfl (by rfl)) ?_ | refine SubE.cons (lk_eq rfl (by rfl)) ?_)
        · first | (repeat (first | exact SubL.nil | refine SubL.consOwn rfl rfl ?_ | refine SubL.consBlk rfl ?_)); fail_if_success focus skip | repeat (first | exact SubL.nil | refine SubL.consOwn (by first | rfl | omega | (simp only [List.length_append, List.length_cons, List.length_nil]; omega) | (rw [ofInt_nat]; rfl)) (by first | rfl | (rw [ofInt_nat]; rfl)) ?_ | refine SubL.consBlk (by first | rfl | (rw [ofInt_nat]; rfl)) ?_ | refine SubL.consMap (by first | rfl | omega) (by first | rfl | (rw [ofInt_nat]; rfl)) ?_)
    · first
      | ((exfalso; (first | with_reducible contradiction | omega | (simp at hc0; done))))
      | skip
        refine wc_exit ?_
        refine q_thenExit ?_
        refine q_thenExit ?_
        refine q_blockExit ?_
        refine q_then ?_
        refine wc_seq ?_
        refine wc_region ?_
        refine wl_val rfl rfl rfl (y_move rfl) ?_
        refine wl_val rfl rfl rfl (y_assign rfl) ?_
        refine wl_nil ?_
        refine q_then ?_
        refine wc_ret ?_
        obtain rfl : m = 0 := by omega
        rw [dig_zero, List.nil_append] at ha
        subst ha
        apply q_retg (res1 Try.results101 rfl) -- ret 0
        case hΨ =>
          rfl
        case hs =>
          (repeat (first | exact SubL.nil | refine SubL.consOwn rfl rfl ?_ | refine SubL.consBlk rfl ?_)); fail_if_success focus skip
theorem c_refPut (vb : Value) (l : List UInt8) (n : Int) (hn : n ≤ 9223372036854775807) (w : World) (hr : RdI w [] vb 1 l.length (bvs l)) (hm : l.length ≤ 140737488355000) : Calls Try.prog 77 #[vb, .int .i64 n] w (RB w (l ++ encI n)) := by
  have hel := encI_len hn
  refine enter (N := 24) Try.func77 rfl Try.ntmps77 rfl (Has.nil _) ?_
  refine wc_seq ?_
  refine wc_region ?_
  refine wl_val rfl rfl rfl (y_assign rfl) ?_
  refine wl_nil ?_
  refine q_then ?_
  refine wc_seq ?_
  refine wc_region ?_
  (refine wl_ef rfl (ef_lit0 rfl Try.underlying99 siz5) ?_; rintro _ _ ⟨v7, rfl, rfl⟩)
  refine wl_val rfl rfl rfl (y_move rfl) ?_
  (refine wl_ef rfl (ef_append rfl Try.underlying99 inf5 rfl rfl rfl (by first | exact src_own Try.underlying99 (by (repeat (first | exact OneAll.nil | refine OneAll.cons rfl ?_ | exact bvs_one _ | refine OneAll.app ?_ ?_ | exact OneAll.map _ (fun _ => rfl) | assumption)); fail_if_success focus skip) | exact src_in Try.underlying99 (by assumption) (by (repeat (first | exact OneAll.nil | refine OneAll.cons rfl ?_ | exact bvs_one _ | refine OneAll.app ?_ ?_ | exact OneAll.map _ (fun _ => rfl) | assumption)); fail_if_success focus skip)) (by omega) (by omega)) ?_; rintro _ _ ⟨v9, rfl, rfl⟩)
  refine wl_val rfl rfl rfl (y_assign rfl) ?_
  refine wl_nil ?_
  refine q_then ?_
  refine wc_seq ?_
  refine wc_seq ?_
  refine wc_region ?_
  refine wl_val rfl rfl rfl (y_move rfl) ?_
  refine wl_val rfl rfl rfl (y_lss rfl rfl) ?_
  refine wl_nil ?_
  refine q_then ?_
  refine wc_cond rfl (fun hc0 => ?_) (fun hc0 => ?_)
  · first
    | ((exfalso; (first | with_reducible contradiction | omega | (simp at hc0; done))))
    | skip
      refine wc_seq ?_
      refine wc_region ?_
      rw [encI_neg (by omega), List.append_nil]
      refine wl_val rfl rfl rfl (y_move rfl) ?_
      refine wl_val rfl rfl rfl (y_assign rfl) ?_
      refine wl_nil ?_
      refine q_then ?_
      refine wc_ret ?_
      refine q_thenRet ?_
      apply q_retg (res1 Try.results77 rfl) -- ret 0
      case hΨ =>
        rfl
      case hs =>
        first | (repeat (first | exact SubL.nil | refine SubL.consOwn rfl rfl ?_ | refine SubL.consBlk rfl ?_)); fail_if_success focus skip | repeat (first | exact SubL.nil | refine SubL.consOwn (by first | rfl | omega | (simp only [List.length_append, List.length_cons, List.length_nil]; omega) | (first | (simp [enc, bvs, ofInt_nat]; done) | (simp [enc]; omega))) (by first | rfl | (first | (simp [enc, bvs, ofInt_nat]; done) | (simp [enc]; omega))) ?_ | refine SubL.consBlk (by first | rfl | (first | (simp [enc, bvs, ofInt_nat]; done) | (simp [enc]; omega))) ?_ | refine SubL.consMap (by first | rfl | omega) (by first | rfl | (first | (simp [enc, bvs, ofInt_nat]; done) | (simp [enc]; omega))) ?_)
  · first
    | ((exfalso; (first | with_reducible contradiction | omega | (simp at hc0; done))))
    | skip
      refine wc_skip ?_
      refine q_then ?_
      refine wc_seq ?_
      obtain ⟨k, rfl⟩ : ∃ k : Nat, n = (k : Int) := ⟨n.toNat, by omega⟩
      rw [encI_nat] at hel ⊢
      have hd := enc_len (n := k)
      refine wc_region ?_
      refine wl_val rfl rfl rfl (y_move rfl) ?_
      (refine wl_ef rfl (ef_callo rfl fun101 rfl (fun _ hw => (c_digits _ (by omega) _))) ?_; rintro _ _ ⟨v14, rfl, rfl⟩)
      refine wl_val rfl rfl rfl (y_assign rfl) ?_
      refine wl_nil ?_
      refine q_then ?_
      refine wc_seq ?_
      refine wc_region ?_
      refine wl_val rfl rfl rfl (y_move rfl) ?_
      refine wl_val rfl rfl rfl (y_move rfl) ?_
      refine wl_val rfl rfl rfl (y_lenRd Try.underlying99 rfl (by first | exact rd_own | exact rd_in (by assumption) | assumption)) ?_
      refine wl_val rfl rfl rfl (y_convByte Try.underlying3 Try.underlying5 rfl) ?_
      (refine wl_ef rfl (ef_lit1 rfl Try.underlying99 siz5 zer5 rfl rfl) ?_; rintro _ _ ⟨v19, rfl, rfl⟩)
      (refine wl_ef rfl (ef_append rfl Try.underlying99 inf5 rfl rfl rfl (by first | exact src_own Try.underlying99 (by (repeat (first | exact OneAll.nil | refine OneAll.cons rfl ?_ | exact bvs_one _ | refine OneAll.app ?_ ?_ | exact OneAll.map _ (fun _ => rfl) | assumption)); fail_if_success focus skip) | exact src_in Try.underlying99 (by assumption) (by (repeat (first | exact OneAll.nil | refine OneAll.cons rfl ?_ | exact bvs_one _ | refine OneAll.app ?_ ?_ | exact OneAll.map _ (fun _ => rfl) | assumption)); fail_if_success focus skip)) (by omega) (by omega)) ?_; rintro _ _ ⟨v20, rfl, rfl⟩)
      refine wl_val rfl rfl rfl (y_assign rfl) ?_
      refine wl_nil ?_
      refine q_then ?_
      refine wc_seq ?_
      refine wc_region ?_
      refine wl_val rfl rfl rfl (y_move rfl) ?_
      refine wl_val rfl rfl rfl (y_move rfl) ?_
      (refine wl_ef rfl (ef_append rfl Try.underlying99 inf5 rfl rfl rfl (by first | exact src_own Try.underlying99 (by (repeat (first | exact OneAll.nil | refine OneAll.cons rfl ?_ | exact bvs_one _ | refine OneAll.app ?_ ?_ | exact OneAll.map _ (fun _ => rfl) | assumption)); fail_if_success focus skip) | exact src_in Try.underlying99 (by assumption) (by (repeat (first | exact OneAll.nil | refine OneAll.cons rfl ?_ | exact bvs_one _ | refine OneAll.app ?_ ?_ | exact OneAll.map _ (fun _ => rfl) | assumption)); fail_if_success focus skip)) (by omega) (by omega)) ?_; rintro _ _ ⟨v23, rfl, rfl⟩)
      refine wl_val rfl rfl rfl (y_assign rfl) ?_
      refine wl_nil ?_
      refine q_then ?_
      refine wc_ret ?_
      apply q_retg (res1 Try.results77 rfl) -- ret 1
      case hΨ =>
        rfl
      case hs =>
        first | (repeat (first | exact SubL.nil | refine SubL.consOwn rfl rfl ?_ | refine SubL.consBlk rfl ?_)); fail_if_success focus skip | repeat (first | exact SubL.nil | refine SubL.consOwn (by first | rfl | omega | (simp only [List.length_append, List.length_cons, List.length_nil]; omega) | (first | (simp [enc, bvs, ofInt_nat]; done) | (simp [enc]; omega))) (by first | rfl | (first | (simp [enc, bvs, ofInt_nat]; done) | (simp [enc]; omega))) ?_ | refine SubL.consBlk (by first | rfl | (first | (simp [enc, bvs, ofInt_nat]; done) | (simp [enc]; omega))) ?_ | refine SubL.consMap (by first | rfl | omega) (by first | rfl | (first | (simp [enc, bvs, ofInt_nat]; done) | (simp [enc]; omega))) ?_)
theorem c_refPutText (vb : Value) (l : List UInt8) (s : ByteArray) (w : World) (hr : RdI w [] vb 1 l.length (bvs l)) (hm : l.length ≤ 100000000000) (hs : s.size ≤ 100000000000) : Calls Try.prog 76 #[vb, .string s] w (RB w (l ++ encT s.data.toList)) := by
  have hel := encI_len (n := (s.size : Int)) (by omega)
  refine enter (N := 11) Try.func76 rfl Try.ntmps76 rfl (Has.nil _) ?_
  refine wc_seq ?_
  refine wc_region ?_
  refine wl_val rfl rfl rfl (y_assign rfl) ?_
  refine wl_nil ?_
  refine q_then ?_
  refine wc_seq ?_
  refine wc_region ?_
  refine wl_val rfl rfl rfl (y_move rfl) ?_
  refine wl_val rfl rfl rfl (y_move rfl) ?_
  refine wl_val rfl rfl rfl (y_lenStr Try.underlying9 rfl) ?_
  (refine wl_ef rfl (ef_callo rfl fun77 rfl (fun _ hw => (c_refPut _ _ _ (by omega) _ (rdI_in0 hw hr) (by omega)))) ?_; rintro _ _ ⟨v8, rfl, rfl⟩)
  refine wl_val rfl rfl rfl (y_move rfl) ?_
  rw [show (l ++ encI (s.size : Int)).length = l.length + (encI (s.size : Int)).length from List.length_append]
  (refine wl_ef rfl (ef_append rfl Try.underlying99 inf5 rfl rfl rfl (fun _ _ => src_str Try.underlying9) (by omega) (by omega)) ?_; rintro _ _ ⟨v10, rfl, rfl⟩)
  refine wl_val rfl rfl rfl (y_assign rfl) ?_
  refine wl_nil ?_
  refine q_then ?_
  refine wc_ret ?_
  apply q_retg (res1 Try.results76 rfl) -- ret 0
  case hΨ =>
    rfl
  case hs =>
    first | (repeat (first | exact SubL.nil | refine SubL.consOwn rfl rfl ?_ | refine SubL.consBlk rfl ?_)); fail_if_success focus skip | repeat (first | exact SubL.nil | refine SubL.consOwn (by first | rfl | omega | (simp only [List.length_append, List.length_cons, List.length_nil]; omega) | (first | (simp [encT, encI_nat, bvs]; done) | (simp [encT, encI_nat, bvs]; omega))) (by first | rfl | (first | (simp [encT, encI_nat, bvs]; done) | (simp [encT, encI_nat, bvs]; omega))) ?_ | refine SubL.consBlk (by first | rfl | (first | (simp [encT, encI_nat, bvs]; done) | (simp [encT, encI_nat, bvs]; omega))) ?_ | refine SubL.consMap (by first | rfl | omega) (by first | rfl | (first | (simp [encT, encI_nat, bvs]; done) | (simp [encT, encI_nat, bvs]; omega))) ?_)
end Go.Proofs.Ytdgmkbjopcopcaa
