/- Walks of layer 7 (batch): the document's Put, both digests. Own work. -/
import Derived.Test.YtdgmkbjopcopcaaBata
import Derived.Test.YtdgmkbjopcopcaaDigi
set_option linter.unusedVariables false
set_option linter.unusedSimpArgs false
set_option maxRecDepth 100000
set_option maxHeartbeats 8000000
namespace Go.Proofs.Ytdgmkbjopcopcaa
open Go.RowKit

/-- what memory tells of values -/
theorem wl_fact {P : Program} {ops : Array Oper} {Q : Post} {l : List Oper} {N : Nat} {E : List (Nat × Value)} {w0 : World} {M : List Nat} {L : Mem} {p : Prop} (hp : ∀ w, Has w0 M L w → p) (k : p → WL P ops Q l N E w0 M L) : WL P ops Q l N E w0 M L := fun a w hE hL => k (hp w hL) a w hE hL
theorem own_one {w0 w : World} {M : List Nat} {L R : Mem} {v : Value} {T : TypeId} {sz n : Nat} {us : List Value} [hp : PkOwn L v T sz n us R] (h : Has w0 M L w) : v.oneCell' = true := by
  have ho : OwnR w T sz v n us := h.pick hp.out
  rcases ho.2 with ⟨rfl, _⟩ | ⟨gb, cap, cur, lo, hi, rfl, _⟩ <;> rfl
theorem c_refbatPut (vb vr : Value) (l : List UInt8) (noop : Bool) (rs : List Req) (hrs : Reqs rs) (w : World) (h : RdI w [] vb 1 l.length (bvs l)) (hr : RdI w [] vr 19 rs.length (reqsC rs)) (hm : l.length ≤ 1000000000) :
    Calls Try.prog 52 #[vb, .agg [.bool noop, vr].toArray] w (RB w (l ++ putBat noop rs)) := by
  have h0 := encI_len (n := 0) (by omega)
  have hmany := hrs.many
  obtain ⟨A0, cap0, rfl, hle1, hle2, _⟩ := hr.rd.form
  refine enter (N := 31) Try.func52 rfl Try.ntmps52 rfl (Has.nil _) ?_
  refine wc_seq ?_
  refine wc_region ?_
  (refine wl_ef rfl (ef_box rfl rfl rfl) ?_; rintro _ _ ⟨b3, rfl, rfl⟩)
  refine wl_val rfl rfl rfl (y_assign rfl) ?_
  refine wl_nil ?_
  refine q_then ?_
  refine wc_seq ?_
  refine wc_seq ?_
  refine wc_region ?_
  refine wl_val rfl rfl rfl (y_field0 fa26_0 rfl) ?_
  refine wl_val rfl rfl rfl (y_load one4 rfl (by rfl)) ?_
  refine wl_nil ?_
  refine q_then ?_
  first | refine wc_cond rfl (fun hc0 => ?_) (fun hc0 => ?_) | refine wc_condb rfl (fun hc0 => ?_) (fun hc0 => ?_)
  · first
    | ((exfalso; (first | with_reducible contradiction | omega | (simp at hc0; done))))
    | skip
      subst hc0
      refine wc_seq ?_
      refine wc_region ?_
      refine wl_val rfl rfl rfl (y_move rfl) ?_
      (refine wl_ef rfl (ef_callo rfl fun77 rfl (fun _ hw => (c_refPut _ l 0 (by omega) _ (rdI_in0 hw h) (by omega)))) ?_; rintro _ _ ⟨v9, rfl, rfl⟩)
      refine wl_val rfl rfl rfl (y_assign rfl) ?_
      refine wl_nil ?_
      refine q_then ?_
      refine wc_ret ?_
      refine q_thenRet ?_
      apply q_retg (res1 Try.results52 rfl) -- ret 0
      case hΨ =>
        rfl
      case hs =>
        (repeat (first | exact SubL.nil | refine SubL.consOwn rfl rfl ?_ | refine SubL.consBlk rfl ?_)); fail_if_success focus skip
  · first
    | ((exfalso; (first | with_reducible contradiction | omega | (simp at hc0; done))))
    | skip
      subst hc0
      obtain ⟨H, hH⟩ : ∃ H, H = l ++ enc (rs.length + 1) := ⟨_, rfl⟩
      have hHl : H.length ≤ 1000000010 := by
        have := encI_len (n := ((rs.length + 1 : Nat) : Int)) (by omega)
        rw [encI_nat] at this
        rw [hH, List.length_append]; omega
      have cp : ∀ w, RdI w [] vb 1 l.length (bvs l) → Calls Try.prog 77 #[vb, .int .i64 ((rs.length : Int) + 1)] w (RB w H) := fun w h => by
        have := c_refPut vb l ((rs.length + 1 : Nat) : Int) (by omega) w h (by omega)
        rw [encI_nat, ← hH] at this
        exact this
      refine wc_skip ?_
      refine q_then ?_
      refine wc_seq ?_
      refine wc_region ?_
      refine wl_val rfl rfl rfl (y_move rfl) ?_
      refine wl_val rfl rfl rfl (y_field0 fa26_1 rfl) ?_
      refine wl_val rfl rfl rfl (y_load one24 rfl (by rfl)) ?_
      refine wl_val rfl rfl rfl (y_lenRd Try.underlying24 rfl (by first | exact rd_own | exact rd_in (by assumption) | assumption)) ?_
      refine wl_val rfl rfl rfl (y_addn rfl rfl (by omega)) ?_
      (refine wl_ef rfl (ef_callo rfl fun77 rfl (fun _ hw => (cp _ (rdI_in0 hw h)))) ?_; rintro _ _ ⟨v15, rfl, rfl⟩)
      refine wl_val rfl rfl rfl (y_assign rfl) ?_
      refine wl_nil ?_
      refine q_then ?_
      refine wc_seq ?_
      refine wc_seq ?_
      refine wc_region ?_
      refine wl_val rfl rfl rfl (y_assign rfl) ?_
      refine wl_nil ?_
      refine q_then ?_
      refine wc_block ?_
      refine wc_loop2 (X0 := Nat) (X1 := Value) (fun i u => [(0, u), (3, .pointer (some ⟨b3, 0, none⟩)), (5, .int .i64 (i : Int))]) (fun i u => [OwnB u (H ++ putReqs (rs.take i)), .blk b3 [.bool false, .slice A0 rs.length cap0] 26 (0, 0)]) (fun i u => i ≤ rs.length) (fun i u => rs.length - i) (0) (v15) ?_ ?_ ?_ ?_
      · first | trivial | omega | simp
      · repeat (first | exact SubE.nil | refine SubE.cons rfl ?_ | refine SubE.cons (lk_int rfl (by omega)) ?_ | refine SubE.cons (lk_int rfl (by rfl)) ?_ | refine SubE.cons (lk_eq rfl (by rfl)) ?_)
      · first | (repeat (first | exact SubL.nil | refine SubL.consOwn rfl rfl ?_ | refine SubL.consBlk rfl ?_)); fail_if_success focus skip | repeat (first | exact SubL.nil | refine SubL.consOwn (by first | rfl | omega | (simp only [List.length_append, List.length_cons, List.length_nil]; omega) | (simp [putReqs])) (by first | rfl | (simp [putReqs])) ?_ | refine SubL.consBlk (by first | rfl | (simp [putReqs])) ?_ | refine SubL.consMap (by first | rfl | omega) (by first | rfl | (simp [putReqs])) ?_)
      · skip
        intro i u hi
        refine wc_seq ?_
        refine wc_seq ?_
        refine wc_region ?_
        refine wl_val rfl rfl rfl (y_move rfl) ?_
        refine wl_val rfl rfl rfl (y_field0 fa26_1 rfl) ?_
        refine wl_val rfl rfl rfl (y_load one24 rfl (by rfl)) ?_
        refine wl_val rfl rfl rfl (y_lenRd Try.underlying24 rfl (by first | exact rd_own | exact rd_in (by assumption) | assumption)) ?_
        refine wl_val rfl rfl rfl (y_lss rfl rfl) ?_
        refine wl_nil ?_
        refine q_then ?_
        refine wc_cond rfl (fun hc1 => ?_) (fun hc1 => ?_)
        · first
          | ((exfalso; (first | with_reducible contradiction | omega | (simp at hc1; done))))
          | skip
            obtain ⟨r, hri⟩ : ∃ r, rs[i]? = some r := ⟨rs[i]'(by omega), List.getElem?_eq_getElem (by omega)⟩
            have hrm : r ∈ rs := List.mem_of_getElem? hri
            have hrl := reqc_len (hrs.tag r hrm)
            have hpl := putReqs_len hrs i
            have hsn : putReqs (rs.take (i + 1)) = putReqs (rs.take i) ++ putReq r := flat_snoc hri
            refine wc_skip ?_
            refine q_then ?_
            refine wc_seq ?_
            refine wc_block ?_
            refine wc_region ?_
            refine wl_val rfl rfl rfl (y_move rfl) ?_
            refine wl_val rfl rfl rfl (y_field0 fa26_1 rfl) ?_
            refine wl_val rfl rfl rfl (y_load one24 rfl (by rfl)) ?_
            refine wl_val rfl rfl rfl (y_move rfl) ?_
            refine wl_val rfl rfl rfl (y_indexEn Try.underlying24 siz71 rfl rfl (by first | exact rd_own | exact rd_in (by assumption) | assumption) (by omega)) ?_
            refine wl_val rfl rfl rfl (y_loadNE agg71 rfl (rd_in hr) (flat_part (fun x hx => reqc_len (hrs.tag x hx)) hri) hrl (by decide)) ?_
            (refine wl_ef rfl (ef_callo rfl fun87 rfl (fun _ hw => (c_refreqPut _ _ r ((hrs.ok r hrm).more (by omega)) _ (rdI_own0 hw) (by rw [List.length_append]; omega)))) ?_; rintro _ _ ⟨v29, rfl, rfl⟩)
            refine wl_val rfl rfl rfl (y_assign rfl) ?_
            refine wl_nil ?_
            refine q_blockNormal ?_
            refine q_then ?_
            refine wc_region ?_
            refine wl_val rfl rfl rfl (y_move rfl) ?_
            refine wl_val rfl rfl rfl (y_addn rfl rfl (by omega)) ?_
            refine wl_val rfl rfl rfl (y_assign rfl) ?_
            refine wl_nil ?_
            refine q_again2 (i + 1) (v29) ?_ ?_ ?_ ?_
            · first | omega | (refine ⟨?_, ?_⟩ <;> omega)
            · first | omega | (simp; omega) | (simp only []; omega)
            · repeat (first | exact SubE.nil | refine SubE.cons rfl ?_ | refine SubE.cons (lk_int rfl (by omega)) ?_ | refine SubE.cons (lk_int rfl (by rfl)) ?_ | refine SubE.cons (lk_eq rfl (by rfl)) ?_)
            · first | (repeat (first | exact SubL.nil | refine SubL.consOwn rfl rfl ?_ | refine SubL.consBlk rfl ?_)); fail_if_success focus skip | repeat (first | exact SubL.nil | refine SubL.consOwn (by first | rfl | omega | (simp only [List.length_append, List.length_cons, List.length_nil]; omega) | (first | (rw [hsn, List.append_assoc]; done) | (rw [hsn, ← List.append_assoc]))) (by first | rfl | (first | (rw [hsn, List.append_assoc]; done) | (rw [hsn, ← List.append_assoc]))) ?_ | refine SubL.consBlk (by first | rfl | (first | (rw [hsn, List.append_assoc]; done) | (rw [hsn, ← List.append_assoc]))) ?_ | refine SubL.consMap (by first | rfl | omega) (by first | rfl | (first | (rw [hsn, List.append_assoc]; done) | (rw [hsn, ← List.append_assoc]))) ?_)
        · first
          | ((exfalso; (first | with_reducible contradiction | omega | (simp at hc1; done))))
          | skip
            refine wc_exit ?_
            refine q_thenExit ?_
            refine q_thenExit ?_
            refine q_blockExit ?_
            refine q_then ?_
            refine wc_seq ?_
            refine wc_region ?_
            refine wl_val rfl rfl rfl (y_move rfl) ?_
            refine wl_val rfl rfl rfl (y_assign rfl) ?_
            refine wl_nil ?_
            refine q_then ?_
            refine wc_ret ?_
            obtain rfl : i = rs.length := by omega
            rw [List.take_length]
            apply q_retg (res1 Try.results52 rfl) -- ret 1
            case hΨ =>
              rfl
            case hs =>
              first | (repeat (first | exact SubL.nil | refine SubL.consOwn rfl rfl ?_ | refine SubL.consBlk rfl ?_)); fail_if_success focus skip | repeat (first | exact SubL.nil | refine SubL.consOwn (by first | rfl | omega | (simp only [List.length_append, List.length_cons, List.length_nil]; omega) | (first | (simp [putBat, encI]; done) | (simp [putBat, hH, List.append_assoc]; done))) (by first | rfl | (first | (simp [putBat, encI]; done) | (simp [putBat, hH, List.append_assoc]; done))) ?_ | refine SubL.consBlk (by first | rfl | (first | (simp [putBat, encI]; done) | (simp [putBat, hH, List.append_assoc]; done))) ?_ | refine SubL.consMap (by first | rfl | omega) (by first | rfl | (first | (simp [putBat, encI]; done) | (simp [putBat, hH, List.append_assoc]; done))) ?_)
def digB (noop : Bool) (rs : List Req) : List UInt8 := sha (0x42 :: putBat noop rs)
theorem putBat_len {noop : Bool} {rs : List Req} (h : Reqs rs) : (putBat noop rs).length ≤ 1001000100 := by
  unfold putBat
  cases noop
  · have h1 := putReqs_len h rs.length
    have h2 := encI_len (n := ((rs.length + 1 : Nat) : Int)) (by have := h.many; omega)
    rw [encI_nat] at h2
    rw [List.take_length] at h1
    simp
    omega
  · have h2 := encI_len (n := ((0 : Nat) : Int)) (by omega)
    rw [encI_nat] at h2
    simp
    omega
theorem c_batDigest (vr : Value) (noop : Bool) (rs : List Req) (hrs : Reqs rs) (w : World) (hr : RdI w [] vr 19 rs.length (reqsC rs)) :
    Calls Try.prog 53 #[.agg [.bool noop, vr].toArray] w (RV w (.agg (bvs (digB noop rs)).toArray)) := by
  obtain ⟨B, hB⟩ : ∃ B, B = putBat noop rs := ⟨_, rfl⟩
  have hBl : B.length ≤ 1001000100 := by rw [hB]; exact putBat_len hrs
  obtain ⟨D, hD⟩ : ∃ D, D = digB noop rs := ⟨_, rfl⟩
  have hDl : D.length = 32 := by rw [hD, digB, sha_len]
  have hDb : (bvs D).length = 32 := by rw [bvs_len, hDl]
  have cp : ∀ w, RdI w [] vr 19 rs.length (reqsC rs) → Calls Try.prog 51 #[.slice none 0 0, .agg [.bool noop, vr].toArray] w (RB w B) := fun w hr => by
    have := c_batPut (.slice none 0 0) vr [] noop rs hrs w (OwnR.nil _ _ _) hr (by simp)
    rw [List.nil_append, ← hB] at this
    exact this
  have cs : ∀ (vp v1 v2 : Value) (w : World), RdI w [] vp 1 2 [v1, v2] → RdI w [] v1 1 1 (bvs [0x42]) → RdI w [] v2 1 B.length (bvs B) → Calls Try.prog 81 #[vp] w (RV w (.agg (bvs D).toArray)) := fun vp v1 v2 w h1 h2 h3 => by
    have := c_SumP vp [(v1, [0x42]), (v2, B)] w h1 (by simpa using ⟨h2, h3⟩) (by simp [catB]; omega)
    rw [hD, digB, ← hB]
    simpa [catB] using this
  rw [← hD]
  refine enter (N := 8) Try.func53 rfl Try.ntmps53 rfl (Has.nil _) ?_
  refine wc_seq ?_
  refine wc_region ?_
  (refine wl_ef rfl (ef_box rfl rfl rfl) ?_; rintro _ _ ⟨b1, rfl, rfl⟩)
  (refine wl_ef rfl (ef_alloc rfl zer28) ?_; rintro _ _ ⟨b2, rfl, rfl⟩)
  refine wl_nil ?_
  refine q_then ?_
  refine wc_seq ?_
  refine wc_region ?_
  (refine wl_ef rfl (ef_lit1 rfl Try.underlying99 siz5 zer5 rfl rfl) ?_; rintro _ _ ⟨v3, rfl, rfl⟩)
  refine wl_val rfl rfl rfl (y_loadP agg26 rfl (by (repeat (first | exact PartN.nil | exact PartN.all (by first | rfl | assumption | (simp; done) | (simp [*]; done)) | exact PartN.takea (by first | rfl | assumption | (simp; done) | (simp [*]; done)) | apply PartN.skip | apply PartN.take (by first | rfl | assumption | (simp; done) | (simp [*]; done)) rfl | apply PartN.cons | apply PartN.over (by first | rfl | assumption | (simp; done) | (simp [*]; done)) rfl)); fail_if_success focus skip)) ?_
  (refine wl_ef rfl (ef_callo rfl fun51 rfl (fun _ hw => (cp _ (rdI_in0 hw hr)))) ?_; rintro _ _ ⟨v5, rfl, rfl⟩)
  refine wl_fact (p := v3.oneCell' = true ∧ v5.oneCell' = true) (fun w h => ⟨own_one h, own_one h⟩) (fun hone => ?_)
  (refine wl_ef rfl (ef_lit2 rfl Try.underlying163 siz99 zer99 rfl hone.1 rfl hone.2) ?_; rintro _ _ ⟨v6, rfl, rfl⟩)
  (refine wl_ef rfl (ef_callv0 rfl fun81 rfl (fun _ hw => (cs _ v3 v5 _ (rdI_own0 hw) (rdI_own0 hw) (rdI_own0 hw)))) ?_; rintro _ _ ⟨rfl, rfl⟩)
  (refine wl_ef rfl (ef_storeP siz28 rfl rfl rfl (by (repeat (first | exact OneAll.nil | refine OneAll.cons rfl ?_ | exact bvs_one _ | refine OneAll.app ?_ ?_ | exact OneAll.map _ (fun _ => rfl) | assumption)); fail_if_success focus skip) (by (repeat (first | exact SplN.nil | apply SplN.skip | exact SplN.all (by first | rfl | assumption | (simp; done) | (simp [*]; done)) (by first | rfl | assumption | (simp; done) | (simp [*]; done)) | exact SplN.puta (by first | rfl | assumption | (simp; done) | (simp [*]; done)) (by first | rfl | assumption | (simp; done) | (simp [*]; done)) | apply SplN.cons | apply SplN.put (by first | rfl | assumption | (simp; done) | (simp [*]; done)) (by first | rfl | assumption | (simp; done) | (simp [*]; done)) | apply SplN.over (by first | rfl | assumption | (simp; done) | (simp [*]; done)) rfl)); fail_if_success focus skip) (by first | rfl | assumption | (simp; done) | (simp [*]; done))) ?_; rintro _ _ ⟨rfl, rfl⟩)
  refine wl_nil ?_
  refine q_then ?_
  refine wc_ret ?_
  apply q_retg (resc Try.results53 rfl agg28 (by (repeat (first | exact PartN.nil | exact PartN.all (by first | rfl | assumption | (simp; done) | (simp [*]; done)) | exact PartN.takea (by first | rfl | assumption | (simp; done) | (simp [*]; done)) | apply PartN.skip | apply PartN.take (by first | rfl | assumption | (simp; done) | (simp [*]; done)) rfl | apply PartN.cons | apply PartN.over (by first | rfl | assumption | (simp; done) | (simp [*]; done)) rfl)); fail_if_success focus skip)) -- ret 0
  case hΨ =>
    first | exact ⟨rfl, rfl⟩ | exact rfl
  case hs =>
    (repeat (first | exact SubL.nil | refine SubL.consOwn rfl rfl ?_ | refine SubL.consBlk rfl ?_)); fail_if_success focus skip
theorem c_refbatDigest (vr : Value) (noop : Bool) (rs : List Req) (hrs : Reqs rs) (w : World) (hr : RdI w [] vr 19 rs.length (reqsC rs)) :
    Calls Try.prog 22 #[.agg [.bool noop, vr].toArray] w (RV w (.agg (bvs (digB noop rs)).toArray)) := by
  obtain ⟨B, hB⟩ : ∃ B, B = putBat noop rs := ⟨_, rfl⟩
  have hBl : B.length ≤ 1001000100 := by rw [hB]; exact putBat_len hrs
  obtain ⟨D, hD⟩ : ∃ D, D = digB noop rs := ⟨_, rfl⟩
  have hDl : D.length = 32 := by rw [hD, digB, sha_len]
  have hDb : (bvs D).length = 32 := by rw [bvs_len, hDl]
  have cp : ∀ w, RdI w [] vr 19 rs.length (reqsC rs) → Calls Try.prog 52 #[.slice none 0 0, .agg [.bool noop, vr].toArray] w (RB w B) := fun w hr => by
    have := c_refbatPut (.slice none 0 0) vr [] noop rs hrs w (RdI.of_nil _ _ _) hr (by simp)
    rw [List.nil_append, ← hB] at this
    exact this
  have cs : ∀ (v : Value) (w : World), RdI w [] v 1 (1 + B.length) ([.int .u8 66] ++ bvs B) → Calls Try.prog 66 #[v] w (RV w (.agg (bvs D).toArray)) := fun v w h1 => by
    have e : 1 + B.length = (0x42 :: B).length := by simp; omega
    rw [e] at h1
    have := c_refSum v (0x42 :: B) w h1 (by simp; omega)
    rw [hD, digB, ← hB]
    exact this
  rw [← hD]
  refine enter (N := 9) Try.func22 rfl Try.ntmps22 rfl (Has.nil _) ?_
  refine wc_seq ?_
  refine wc_region ?_
  (refine wl_ef rfl (ef_box rfl rfl rfl) ?_; rintro _ _ ⟨b1, rfl, rfl⟩)
  (refine wl_ef rfl (ef_alloc rfl zer28) ?_; rintro _ _ ⟨b2, rfl, rfl⟩)
  refine wl_nil ?_
  refine q_then ?_
  refine wc_seq ?_
  refine wc_region ?_
  (refine wl_ef rfl (ef_lit1 rfl Try.underlying99 siz5 zer5 rfl rfl) ?_; rintro _ _ ⟨v3, rfl, rfl⟩)
  (refine wl_ef rfl (ef_convOwn (n := 0) rfl Try.underlying99 Try.underlying5 rfl) ?_; rintro _ _ ⟨rfl, rfl⟩)
  refine wl_val rfl rfl rfl (y_loadP agg26 rfl (by (repeat (first | exact PartN.nil | exact PartN.all (by first | rfl | assumption | (simp; done) | (simp [*]; done)) | exact PartN.takea (by first | rfl | assumption | (simp; done) | (simp [*]; done)) | apply PartN.skip | apply PartN.take (by first | rfl | assumption | (simp; done) | (simp [*]; done)) rfl | apply PartN.cons | apply PartN.over (by first | rfl | assumption | (simp; done) | (simp [*]; done)) rfl)); fail_if_success focus skip)) ?_
  (refine wl_ef rfl (ef_callo rfl fun52 rfl (fun _ hw => (cp _ (rdI_in0 hw hr)))) ?_; rintro _ _ ⟨v6, rfl, rfl⟩)
  (refine wl_ef rfl (ef_append rfl Try.underlying99 inf5 rfl rfl rfl (by first | exact src_own Try.underlying99 (by (repeat (first | exact OneAll.nil | refine OneAll.cons rfl ?_ | exact bvs_one _ | refine OneAll.app ?_ ?_ | exact OneAll.map _ (fun _ => rfl) | assumption)); fail_if_success focus skip) | exact src_in Try.underlying99 (by assumption) (by (repeat (first | exact OneAll.nil | refine OneAll.cons rfl ?_ | exact bvs_one _ | refine OneAll.app ?_ ?_ | exact OneAll.map _ (fun _ => rfl) | assumption)); fail_if_success focus skip)) (by omega) (by omega)) ?_; rintro _ _ ⟨v7, rfl, rfl⟩)
  (refine wl_ef rfl (ef_callv0 rfl fun66 rfl (fun _ hw => (cs _ _ (rdI_own0 hw)))) ?_; rintro _ _ ⟨rfl, rfl⟩)
  (refine wl_ef rfl (ef_storeP siz28 rfl rfl rfl (by (repeat (first | exact OneAll.nil | refine OneAll.cons rfl ?_ | exact bvs_one _ | refine OneAll.app ?_ ?_ | exact OneAll.map _ (fun _ => rfl) | assumption)); fail_if_success focus skip) (by (repeat (first | exact SplN.nil | apply SplN.skip | exact SplN.all (by first | rfl | assumption | (simp; done) | (simp [*]; done)) (by first | rfl | assumption | (simp; done) | (simp [*]; done)) | exact SplN.puta (by first | rfl | assumption | (simp; done) | (simp [*]; done)) (by first | rfl | assumption | (simp; done) | (simp [*]; done)) | apply SplN.cons | apply SplN.put (by first | rfl | assumption | (simp; done) | (simp [*]; done)) (by first | rfl | assumption | (simp; done) | (simp [*]; done)) | apply SplN.over (by first | rfl | assumption | (simp; done) | (simp [*]; done)) rfl)); fail_if_success focus skip) (by first | rfl | assumption | (simp; done) | (simp [*]; done))) ?_; rintro _ _ ⟨rfl, rfl⟩)
  refine wl_nil ?_
  refine q_then ?_
  refine wc_ret ?_
  apply q_retg (resc Try.results22 rfl agg28 (by (repeat (first | exact PartN.nil | exact PartN.all (by first | rfl | assumption | (simp; done) | (simp [*]; done)) | exact PartN.takea (by first | rfl | assumption | (simp; done) | (simp [*]; done)) | apply PartN.skip | apply PartN.take (by first | rfl | assumption | (simp; done) | (simp [*]; done)) rfl | apply PartN.cons | apply PartN.over (by first | rfl | assumption | (simp; done) | (simp [*]; done)) rfl)); fail_if_success focus skip)) -- ret 0
  case hΨ =>
    first | exact ⟨rfl, rfl⟩ | exact rfl
  case hs =>
    (repeat (first | exact SubL.nil | refine SubL.consOwn rfl rfl ?_ | refine SubL.consBlk rfl ?_)); fail_if_success focus skip
end Go.Proofs.Ytdgmkbjopcopcaa
