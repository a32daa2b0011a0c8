/- Walks of layer 7 (batch): Put, Digest. Own work. -/
import Derived.Test.YtdgmkbjopcopcaaReqa
set_option linter.unusedVariables false
set_option linter.unusedSimpArgs false
set_option maxRecDepth 100000
set_option maxHeartbeats 8000000
namespace Go.Proofs.Ytdgmkbjopcopcaa
open Go.RowKit

theorem reqc_len {r : Req} (h : r.tag.length = 16) : (reqc r).length = 19 := by simp [reqc, bvs_len, h]
def reqsC (rs : List Req) : List Value := rs.flatMap reqc
def putReqs (rs : List Req) : List UInt8 := rs.flatMap putReq
/-- so many requests, each with data of not more than a million bytes -/
structure Reqs (rs : List Req) : Prop where
  ok : ∀ r ∈ rs, r.ok 1000000
  many : rs.length ≤ 1000
theorem Reqs.tag {rs : List Req} (h : Reqs rs) : ∀ r ∈ rs, r.tag.length = 16 := fun r hr => (h.ok r hr).tag
theorem Req.ok.more {r : Req} {m m' : Nat} (h : r.ok m) (hm : m ≤ m') : r.ok m' := ⟨h.tag, h.client, h.num, Nat.le_trans h.data hm⟩
theorem flat_len {α β : Type} {f : α → List β} {n : Nat} : ∀ {l : List α}, (∀ x ∈ l, (f x).length = n) → (l.flatMap f).length = l.length * n
  | [], _ => by simp
  | x :: l, h => by
    rw [List.flatMap_cons, List.length_append, h x (by simp), flat_len (fun y hy => h y (by simp [hy])), List.length_cons, Nat.add_mul, Nat.one_mul, Nat.add_comm]
theorem flat_drop {α β : Type} {f : α → List β} {n : Nat} : ∀ {l : List α} {i : Nat}, (∀ x ∈ l, (f x).length = n) → (l.flatMap f).drop (i * n) = (l.drop i).flatMap f
  | [], i, _ => by simp
  | x :: l, 0, _ => by simp
  | x :: l, i + 1, h => by
    have e := h x (by simp)
    rw [List.flatMap_cons, List.drop_append, e, List.drop_eq_nil_of_le (by rw [e, Nat.add_mul]; omega), List.nil_append, show (i + 1) * n - n = i * n from by rw [Nat.add_mul]; omega, flat_drop (fun y hy => h y (by simp [hy]))]
    rfl
theorem flat_part {α : Type} {f : α → List Value} {n i : Nat} {l : List α} {x : α} (h : ∀ x ∈ l, (f x).length = n) (hx : l[i]? = some x) : PartOf (l.flatMap f) (i * n) (f x) := by
  refine PartOf.of ?_
  have hlt := (List.getElem?_eq_some_iff.1 hx).1
  have hg := (List.getElem?_eq_some_iff.1 hx).2
  rw [flat_drop h, List.drop_eq_getElem_cons hlt, hg, List.flatMap_cons]
  exact List.take_left' rfl
theorem flat_snoc {α β : Type} {f : α → List β} {l : List α} {i : Nat} {x : α} (hx : l[i]? = some x) : (l.take (i + 1)).flatMap f = (l.take i).flatMap f ++ f x := by
  rw [List.take_add_one, hx]
  simp
theorem flat_le {α : Type} {f : α → List UInt8} {m : Nat} : ∀ {l : List α}, (∀ x ∈ l, (f x).length ≤ m) → (l.flatMap f).length ≤ l.length * m
  | [], _ => by simp
  | x :: l, h => by
    have h1 := h x (by simp)
    have h2 := flat_le (f := f) (m := m) (l := l) (fun y hy => h y (by simp [hy]))
    rw [List.flatMap_cons, List.length_append, List.length_cons, Nat.add_mul]
    omega
theorem putReqs_len {rs : List Req} (h : Reqs rs) (i : Nat) : (putReqs (rs.take i)).length ≤ 1001000000 := by
  have h1 : (putReqs (rs.take i)).length ≤ (rs.take i).length * 1000043 := flat_le (fun x hx => putReq_len (h.ok x (List.mem_of_mem_take hx)) (by omega))
  have h2 : (rs.take i).length ≤ 1000 := by have := h.many; simp; omega
  have h3 : (rs.take i).length * 1000043 ≤ 1000 * 1000043 := Nat.mul_le_mul_right _ h2
  omega
/-- a batch's bytes -/
def putBat (noop : Bool) (rs : List Req) : List UInt8 := if noop then enc 0 else enc (rs.length + 1) ++ putReqs rs
theorem c_batPut (vb vr : Value) (l : List UInt8) (noop : Bool) (rs : List Req) (hrs : Reqs rs) (w : World) (h : OwnR w 5 1 vb l.length (bvs l)) (hr : RdI w vb.ownBlock.toList vr 19 rs.length (reqsC rs)) (hm : l.length ≤ 1000000000) :
    Calls Try.prog 51 #[vb, .agg [.bool noop, vr].toArray] w (RC w vb (l ++ putBat noop rs)) := by
  have h0 := encI_len (n := 0) (by omega)
  have hmany := hrs.many
  obtain ⟨A0, cap0, rfl, hle1, hle2, _⟩ := hr.rd.form
  refine enter (N := 29) Try.func51 rfl Try.ntmps51 rfl (Has.oneOwn h) ?_
  refine wc_seq ?_
  refine wc_region ?_
  (refine wl_ef rfl (ef_box rfl rfl rfl) ?_; rintro _ _ ⟨b3, rfl, rfl⟩)
  refine wl_val rfl rfl rfl (y_assign rfl) ?_
  refine wl_nil ?_
  refine q_then ?_
  refine wc_seq ?_
  refine wc_seq ?_
  refine wc_region ?_
  refine wl_val rfl rfl rfl (y_field0 fa26_0 rfl) ?_
  refine wl_val rfl rfl rfl (y_load one4 rfl (by rfl)) ?_
  refine wl_nil ?_
  refine q_then ?_
  first | refine wc_cond rfl (fun hc0 => ?_) (fun hc0 => ?_) | refine wc_condb rfl (fun hc0 => ?_) (fun hc0 => ?_)
  · first
    | ((exfalso; (first | with_reducible contradiction | omega | (simp at hc0; done))))
    | skip
      subst hc0
      refine wc_seq ?_
      refine wc_region ?_
      refine wl_val rfl rfl rfl (y_move rfl) ?_
      (refine wl_ef rfl (ef_callc rfl fun82 rfl (fun _ hw => (c_PutOwn _ l 0 (by omega) _ (own_at hw) (by omega)))) ?_; rintro _ _ ⟨v10, rfl, rfl⟩)
      refine wl_val rfl rfl rfl (y_assign rfl) ?_
      refine wl_nil ?_
      refine q_then ?_
      refine wc_ret ?_
      refine q_thenRet ?_
      apply q_retg (res1 Try.results51 rfl) -- ret 0
      case hΨ =>
        rfl
      case hs =>
        (repeat (first | exact SubL.nil | refine SubL.consOwn rfl rfl ?_ | refine SubL.consBlk rfl ?_)); fail_if_success focus skip
  · first
    | ((exfalso; (first | with_reducible contradiction | omega | (simp at hc0; done))))
    | skip
      subst hc0
      obtain ⟨H, hH⟩ : ∃ H, H = l ++ enc (rs.length + 1) := ⟨_, rfl⟩
      have hHl : H.length ≤ 1000000010 := by
        have := encI_len (n := ((rs.length + 1 : Nat) : Int)) (by omega)
        rw [encI_nat] at this
        rw [hH, List.length_append]; omega
      have cp : ∀ w, OwnR w 5 1 vb l.length (bvs l) → Calls Try.prog 82 #[vb, .int .i64 ((rs.length : Int) + 1)] w (RC w vb H) := fun w h => by
        have := c_PutOwn vb l ((rs.length + 1 : Nat) : Int) (by omega) w h (by omega)
        rw [encI_nat, ← hH] at this
        exact this
      refine wc_skip ?_
      refine q_then ?_
      refine wc_seq ?_
      refine wc_region ?_
      refine wl_val rfl rfl rfl (y_move rfl) ?_
      refine wl_val rfl rfl rfl (y_field0 fa26_1 rfl) ?_
      refine wl_val rfl rfl rfl (y_load one24 rfl (by rfl)) ?_
      refine wl_val rfl rfl rfl (y_lenRd Try.underlying24 rfl (by first | exact rd_own | exact rd_in (by assumption) | assumption)) ?_
      refine wl_val rfl rfl rfl (y_addn rfl rfl (by omega)) ?_
      (refine wl_ef rfl (ef_callc rfl fun82 rfl (fun _ hw => (cp _ (own_at hw)))) ?_; rintro _ _ ⟨v16, rfl, rfl⟩)
      refine wl_val rfl rfl rfl (y_assign rfl) ?_
      refine wl_nil ?_
      refine q_then ?_
      refine wc_seq ?_
      refine wc_seq ?_
      refine wc_region ?_
      refine wl_val rfl rfl rfl (y_field0 fa26_1 rfl) ?_
      refine wl_val rfl rfl rfl (y_load one24 rfl (by rfl)) ?_
      refine wl_val rfl rfl rfl (y_lenRd Try.underlying24 rfl (by first | exact rd_own | exact rd_in (by assumption) | assumption)) ?_
      refine wl_val rfl rfl rfl (y_move rfl) ?_
      refine wl_nil ?_
      refine q_then ?_
      refine wc_block ?_
      refine wc_loop2 (X0 := Nat) (X1 := Value) (fun i u => [(0, u), (18, .slice A0 rs.length cap0), (19, .int .i64 (rs.length : Int)), (20, .int .i64 (i : Int))]) (fun i u => [OwnB u (H ++ putReqs (rs.take i))]) (fun i u => i ≤ rs.length) (fun i u => rs.length - i) (0) (v16) ?_ ?_ ?_ ?_
      · first | trivial | omega | simp
      · repeat (first | exact SubE.nil | refine SubE.cons rfl ?_ | refine SubE.cons (lk_int rfl (by omega)) ?_ | refine SubE.cons (lk_int rfl (by rfl)) ?_ | refine SubE.cons (lk_eq rfl (by rfl)) ?_)
      · first | (repeat (first | exact SubL.nil | refine SubL.consOwn rfl rfl ?_ | refine SubL.consBlk rfl ?_)); fail_if_success focus skip | repeat (first | exact SubL.nil | refine SubL.consOwn (by first | rfl | omega | (simp only [List.length_append, List.length_cons, List.length_nil]; omega) | (simp [putReqs])) (by first | rfl | (simp [putReqs])) ?_ | refine SubL.consBlk (by first | rfl | (simp [putReqs])) ?_ | refine SubL.consMap (by first | rfl | omega) (by first | rfl | (simp [putReqs])) ?_)
      · skip
        intro i u hi
        refine wc_seq ?_
        refine wc_region ?_
        refine wl_val rfl rfl rfl (y_lss rfl rfl) ?_
        refine wl_nil ?_
        refine q_then ?_
        refine wc_seq ?_
        refine wc_cond rfl (fun hc1 => ?_) (fun hc1 => ?_)
        · first
          | ((exfalso; (first | with_reducible contradiction | omega | (simp at hc1; done))))
          | skip
            obtain ⟨r, hri⟩ : ∃ r, rs[i]? = some r := ⟨rs[i]'(by omega), List.getElem?_eq_getElem (by omega)⟩
            have hrm : r ∈ rs := List.mem_of_getElem? hri
            have hrl := reqc_len (hrs.tag r hrm)
            have hpl := putReqs_len hrs i
            have hsn : putReqs (rs.take (i + 1)) = putReqs (rs.take i) ++ putReq r := flat_snoc hri
            refine wc_skip ?_
            refine q_then ?_
            refine wc_seq ?_
            refine wc_block ?_
            refine wc_seq ?_
            refine wc_region ?_
            refine wl_val rfl rfl rfl (y_indexEn Try.underlying24 siz71 rfl rfl (by first | exact rd_own | exact rd_in (by assumption) | assumption) (by omega)) ?_
            refine wl_val rfl rfl rfl (y_loadNE agg71 rfl (rd_in hr) (flat_part (fun x hx => reqc_len (hrs.tag x hx)) hri) hrl (by decide)) ?_
            (refine wl_ef rfl (ef_alloc rfl zer71) ?_; rintro _ _ ⟨b6, rfl, rfl⟩)
            (refine wl_ef rfl (ef_storeP siz71 rfl rfl rfl (by (repeat (first | exact OneAll.nil | refine OneAll.cons rfl ?_ | exact bvs_one _ | refine OneAll.app ?_ ?_ | exact OneAll.map _ (fun _ => rfl) | assumption)); fail_if_success focus skip) (by (repeat (first | exact SplN.nil | apply SplN.skip | exact SplN.all (by first | rfl | assumption | (simp; done) | (simp [*]; done)) (by first | rfl | assumption | (simp; done) | (simp [*]; done)) | exact SplN.puta (by first | rfl | assumption | (simp; done) | (simp [*]; done)) (by first | rfl | assumption | (simp; done) | (simp [*]; done)) | apply SplN.cons | apply SplN.put (by first | rfl | assumption | (simp; done) | (simp [*]; done)) (by first | rfl | assumption | (simp; done) | (simp [*]; done)) | apply SplN.over (by first | rfl | assumption | (simp; done) | (simp [*]; done)) rfl)); fail_if_success focus skip) (by first | rfl | assumption | (simp; done) | (simp [*]; done))) ?_; rintro _ _ ⟨rfl, rfl⟩)
            refine wl_nil ?_
            refine q_then ?_
            refine wc_region ?_
            refine wl_val rfl rfl rfl (y_move rfl) ?_
            refine wl_val rfl rfl rfl (y_loadP agg71 rfl (by (repeat (first | exact PartN.nil | exact PartN.all (by first | rfl | assumption | (simp; done) | (simp [*]; done)) | exact PartN.takea (by first | rfl | assumption | (simp; done) | (simp [*]; done)) | apply PartN.skip | apply PartN.take (by first | rfl | assumption | (simp; done) | (simp [*]; done)) rfl | apply PartN.cons | apply PartN.over (by first | rfl | assumption | (simp; done) | (simp [*]; done)) rfl)); fail_if_success focus skip)) ?_
            (refine wl_ef rfl (ef_callc rfl fun60 rfl (fun _ hw => (c_reqPut _ _ r ((hrs.ok r hrm).more (by omega)) _ (own_at hw) (by rw [List.length_append]; omega)))) ?_; rintro _ _ ⟨v26, rfl, rfl⟩)
            refine wl_val rfl rfl rfl (y_assign rfl) ?_
            refine wl_nil ?_
            refine q_blockNormal ?_
            refine q_then ?_
            refine wc_region ?_
            refine wl_val rfl rfl rfl (y_addn rfl rfl (by omega)) ?_
            refine wl_val rfl rfl rfl (y_move rfl) ?_
            refine wl_nil ?_
            refine q_again2 (i + 1) (v26) ?_ ?_ ?_ ?_
            · first | omega | (refine ⟨?_, ?_⟩ <;> omega)
            · first | omega | (simp; omega) | (simp only []; omega)
            · repeat (first | exact SubE.nil | refine SubE.cons rfl ?_ | refine SubE.cons (lk_int rfl (by omega)) ?_ | refine SubE.cons (lk_int rfl (by rfl)) ?_ | refine SubE.cons (lk_eq rfl (by rfl)) ?_)
            · first | (repeat (first | exact SubL.nil | refine SubL.consOwn rfl rfl ?_ | refine SubL.consBlk rfl ?_)); fail_if_success focus skip | repeat (first | exact SubL.nil | refine SubL.consOwn (by first | rfl | omega | (simp only [List.length_append, List.length_cons, List.length_nil]; omega) | (first | (rw [hsn, List.append_assoc]; done) | (rw [hsn, ← List.append_assoc]))) (by first | rfl | (first | (rw [hsn, List.append_assoc]; done) | (rw [hsn, ← List.append_assoc]))) ?_ | refine SubL.consBlk (by first | rfl | (first | (rw [hsn, List.append_assoc]; done) | (rw [hsn, ← List.append_assoc]))) ?_ | refine SubL.consMap (by first | rfl | omega) (by first | rfl | (first | (rw [hsn, List.append_assoc]; done) | (rw [hsn, ← List.append_assoc]))) ?_)
        · first
          | ((exfalso; (first | with_reducible contradiction | omega | (simp at hc1; done))))
          | skip
            refine wc_exit ?_
            refine q_thenExit ?_
            refine q_thenExit ?_
            refine q_blockExit ?_
            refine q_then ?_
            refine wc_seq ?_
            refine wc_region ?_
            refine wl_val rfl rfl rfl (y_move rfl) ?_
            refine wl_val rfl rfl rfl (y_assign rfl) ?_
            refine wl_nil ?_
            refine q_then ?_
            refine wc_ret ?_
            obtain rfl : i = rs.length := by omega
            rw [List.take_length]
            apply q_retg (res1 Try.results51 rfl) -- ret 1
            case hΨ =>
              rfl
            case hs =>
              first | (repeat (first | exact SubL.nil | refine SubL.consOwn rfl rfl ?_ | refine SubL.consBlk rfl ?_)); fail_if_success focus skip | repeat (first | exact SubL.nil | refine SubL.consOwn (by first | rfl | omega | (simp only [List.length_append, List.length_cons, List.length_nil]; omega) | (first | (simp [putBat, encI]; done) | (simp [putBat, hH, List.append_assoc]; done))) (by first | rfl | (first | (simp [putBat, encI]; done) | (simp [putBat, hH, List.append_assoc]; done))) ?_ | refine SubL.consBlk (by first | rfl | (first | (simp [putBat, encI]; done) | (simp [putBat, hH, List.append_assoc]; done))) ?_ | refine SubL.consMap (by first | rfl | omega) (by first | rfl | (first | (simp [putBat, encI]; done) | (simp [putBat, hH, List.append_assoc]; done))) ?_)
end Go.Proofs.Ytdgmkbjopcopcaa
