/- An engine for walks, sixth part: append, copy, conversions, calls. Own work. -/
import Derived.Test.YtdgmkbjopcopcaaEnge
import Derived.Laws.BytesArg
set_option linter.unusedVariables false
set_option linter.unusedSimpArgs false
namespace Go.Proofs.Ytdgmkbjopcopcaa
open Go.RowKit

/-- A byte as a value; a text's bytes. -/
def bv (b : UInt8) : Value := .int .u8 (b.toNat : Int)
def bvs (l : List UInt8) : List Value := l.map bv
theorem bvs_one (l : List UInt8) : OneAll (bvs l) := OneAll.map l fun a => rfl
theorem bvs_len (l : List UInt8) : (bvs l).length = l.length := by simp [bvs]
theorem bvs_app (l m : List UInt8) : bvs (l ++ m) = bvs l ++ bvs m := by simp [bvs]
theorem str_cells (s : ByteArray) : (s.data.map fun b : UInt8 => Value.int .u8 (b.toNat : Int)) = (bvs s.data.toList).toArray := by
  apply Array.ext'
  simp [bvs]
  intro a _
  rfl

/-- What is appended: it yields these cells in every world of the class. -/
structure Src (P : Program) (w : World) (T : TypeId) (t : TypeId) (v : Value) (sz m : Nat) (us : List Value) : Prop where
  len : us.length = m * sz
  one : OneAll us
  kind : (∃ e, P.underlying t = some (.slice e)) ∨ P.underlying t = some .string
  lenOf : ∀ w', (Builtin.lenOf v).run P w' = .ok m w'
  first : ∀ w', w'.heap = w.heap → (Builtin.firstCells sz m v).run P w' = .ok us.toArray w'
theorem src_rd {P : Program} {w : World} {T t e : TypeId} {v : Value} {sz m : Nat} {us : List Value} (hu : P.underlying t = some (.slice e)) (hr : Rd w v sz m us) (h1 : OneAll us) : Src P w T t v sz m us := by
  obtain ⟨A, c, rfl, hc, hm, h3, h4⟩ := hr.form
  refine ⟨hr.len, h1, Or.inl ⟨e, hu⟩, fun w' => by simp [Builtin.lenOf], fun w' hw => ?_⟩
  cases A with
  | none =>
    have hc0 := h3 rfl
    obtain rfl : m = 0 := by omega
    have : us = [] := List.eq_nil_of_length_eq_zero (by simpa using hr.len)
    subst this
    simp [Builtin.firstCells]
  | some a => exact run_firstCells_some w' sz m a m c us hr.len (fun j u hu => by
      rw [← h4 a rfl j u hu]
      simp [World.cell?, hw])
theorem src_str {P : Program} {w : World} {T t : TypeId} {s : ByteArray} (hu : P.underlying t = some .string) : Src P w T t (.string s) 1 s.size (bvs s.data.toList) := by
  refine ⟨by simp [bvs_len], bvs_one _, .inr hu, fun w' => by simp [Builtin.lenOf], fun w' hw => ?_⟩
  simp only [Builtin.firstCells, Sem.run_pure]
  congr 1
  rw [← str_cells]
  congr 1
  simp

section
variable {P : Program}
theorem run_append_grows {w : World} {t t' e ty : TypeId} {i : TypeInfo} {z : Value} (ht : P.underlying t = some (.slice e)) (hi : P.info? e = some i) (hz : i.zero = some z) (hzs : z.cells.size = i.size)
    {A : Option Addr} {n c : Nat} {xs : List Value} (hr : Rd w (.slice A n c) i.size n xs) {src : Value} {m : Nat} {us : List Value} (hs : Src P w e t' src i.size m us) (hg : c < n + m) (hb : (n + m) * i.bytes ≤ 140737488355328) (hn : n + m ≤ maxLen) :
    ∃ v' w', (Builtin.append_ #[t, t'] ty #[.slice A n c, src]).run P w = .ok v' w' ∧ OwnR w' e i.size v' (n + m) (xs ++ us) ∧ Ext [] w w' ∧ v'.ownBlock = some w.heap.size := by
  have hcap := grownCap_ge w (n + m) c e
  have hcm := grownCap_le_maxLen w (n + m) c e hn
  have h63 : ¬ (9223372036854775807 < ((n : Int) + (m : Int))) := by simp only [maxLen] at hn; omega
  have h48 : ¬ (281474976710656 < Builtin.nextslicecap (n + m) c * i.bytes) := by have := growslice_fits hg hb; omega
  have hfo : (Builtin.firstCells i.size n (.slice A n c)).run P w.drew = .ok xs.toArray w.drew := by
    obtain ⟨A', c', hv, hc, hm, h3, h4⟩ := hr.form
    injection hv with e1 e2 e3
    subst e1
    subst e3
    cases A with
    | none =>
      have hc0 := h3 rfl
      obtain rfl : n = 0 := by omega
      have : xs = [] := List.eq_nil_of_length_eq_zero (by simpa using hr.len)
      subst this
      simp [Builtin.firstCells]
    | some a => exact run_firstCells_some w.drew i.size n a n c xs hr.len (fun j u hu => h4 a rfl j u hu)
  have hfn := hs.first w.drew rfl
  have hlen := hs.lenOf w
  refine ⟨.slice (some ⟨w.heap.size, 0, none⟩) (n + m) (grownCap w (n + m) c e), w.drew.alloc (.cells (xs ++ us ++ (Builtin.zeroCells z.cells (grownCap w (n + m) c e - (n + m))).toList).toArray e), ?_, ?_, ?_, rfl⟩
  · have hroom : ¬ n + m ≤ c := by omega
    rcases hs.kind with ⟨e', hk⟩ | hk
    · simp [Builtin.append_, run_underlying ht, run_underlying hk, sizeOf, typeInfo, zeroValue, hi, hz, hlen, hroom, h63, h48, Question.forced, hfo, hfn, newRow, grownCap]
      congr 2
      apply Array.ext'
      simp
    · simp [Builtin.append_, run_underlying ht, run_underlying hk, sizeOf, typeInfo, zeroValue, hi, hz, hlen, hroom, h63, h48, Question.forced, hfo, hfn, newRow, grownCap]
      congr 2
      apply Array.ext'
      simp
  · have hl : (xs ++ us).length = (n + m) * i.size := by simp [hr.len, hs.len, Nat.add_mul]
    have := own_alloc (w := w.drew) (T := e) (sz := i.size) (n := n + m) (c := grownCap w (n + m) c e) (cs := xs ++ us ++ (Builtin.zeroCells z.cells (grownCap w (n + m) c e - (n + m))).toList) (xs := xs ++ us) (by
      rw [List.length_append, hl, Array.length_toList, size_zeroCells, hzs, ← Nat.add_mul]
      exact Nat.mul_le_mul_right _ (by omega)) hcap hcm (by rw [← hl]; exact List.take_left)
    simpa using this
  · exact (Ext.drew w).trans (Ext.alloc _ _ _)
theorem run_append_any {w : World} {t t' e ty : TypeId} {i : TypeInfo} {z : Value} (ht : P.underlying t = some (.slice e)) (hi : P.info? e = some i) (hz : i.zero = some z) (hzs : z.cells.size = i.size)
    {v : Value} {n : Nat} {xs : List Value} (hr : OwnR w e i.size v n xs) {src : Value} {m : Nat} {us : List Value} (hs : Src P w e t' src i.size m us) (hb : (n + m) * i.bytes ≤ 140737488355328) (hn : n + m ≤ maxLen) :
    ∃ v' w', (Builtin.append_ #[t, t'] ty #[v, src]).run P w = .ok v' w' ∧ OwnR w' e i.size v' (n + m) (xs ++ us) ∧ Ext v.ownBlock.toList w w' ∧ (v'.ownBlock = v.ownBlock ∨ v'.ownBlock = some w.heap.size) := by
  have hl : (xs ++ us).length = (n + m) * i.size := by simp [hr.1, hs.len, Nat.add_mul]
  rcases hr.2 with ⟨rfl, rfl⟩ | ⟨gb, cap, cur, lo, hi', rfl, hg, hf, hnc, hcm, hcs, htake⟩
  · have hx : xs = [] := List.eq_nil_of_length_eq_zero (by simpa using hr.1)
    subst hx
    rcases Nat.eq_zero_or_pos m with hm | hm
    · subst hm
      have hu0 : us = [] := List.eq_nil_of_length_eq_zero (by simpa using hs.len)
      subst hu0
      have hlen := hs.lenOf w
      have hfn := hs.first w rfl
      refine ⟨.slice none 0 0, w, ?_, OwnR.nil _ _ _, Ext.refl _ _, .inl rfl⟩
      rcases hs.kind with ⟨e', hk⟩ | hk <;> simp [Builtin.append_, run_underlying ht, run_underlying hk, sizeOf, typeInfo, hi, hlen, hfn]
    · obtain ⟨v', w', h1, h2, h3, h4⟩ := run_append_grows (ty := ty) ht hi hz hzs (A := none) (n := 0) (c := 0) (xs := []) (Rd.nil w i.size) hs (by omega) hb hn
      exact ⟨v', w', h1, h2, h3.mono (by simp), .inr h4⟩
  · by_cases hroom : n + m ≤ cap
    · have hxl := hr.1
      have hfit : n * i.size + us.length ≤ cur.size := by rw [hs.len, ← Nat.add_mul]; exact Nat.le_trans (Nat.mul_le_mul_right _ hroom) hcs
      have hg' : w.heap[gb]? = some (.cells cur.toList.toArray e (lo, hi')) := by simpa using hg
      obtain ⟨w', hrun, hh, he⟩ := run_stores P gb (n * i.size) e lo hi' us 0 cur.toList w hg' (by simpa using hfit) (by intro j hj; simp at hj; omega) hs.one
      have hlen := hs.lenOf w
      have hfn := hs.first w rfl
      refine ⟨.slice (some ⟨gb, 0, none⟩) (n + m) cap, w', ?_, ⟨hl, .inr ⟨gb, cap, _, lo, hi', rfl, hh, ?_, hroom, hcm, ?_, ?_⟩⟩, by simpa [Value.ownBlock] using he, .inl rfl⟩
      · rcases hs.kind with ⟨e', hk⟩ | hk <;> simp [Builtin.append_, run_underlying ht, run_underlying hk, sizeOf, typeInfo, hi, hlen, hfn, hroom, addr_add, hrun]
      · simp only [Nat.add_zero, List.size_toArray]
        rw [length_splice (by simpa using hfit)]
        simpa using hf
      · simp only [Nat.add_zero, List.size_toArray]
        rw [length_splice (by simpa using hfit)]
        simpa using hcs
      · simp only [Nat.add_zero]
        have h1 : cur.toList.take (n * i.size) = xs := htake
        simp only [splice, h1]
        rw [← hl]
        exact List.take_left
    · obtain ⟨v', w', h1, h2, h3, h4⟩ := run_append_grows (ty := ty) ht hi hz hzs (A := some ⟨gb, 0, none⟩) (n := n) (c := cap) (xs := xs) (Rd.of_own hr) hs (by omega) hb hn
      exact ⟨v', w', h1, h2, h3.mono (by simp), .inr h4⟩
end
section
variable {P : Program} {Q : Post} {N : Nat} {E : List (Nat × Value)} {w0 : World} {M : List Nat} {L L' R : Mem} {dd : Nat} {d : Option Nat} {ty : TypeId} {pos : String} {af : Array Edge} {g : Option (Nat × Bool)} {x y z : Operand} {t t' : TypeId}
/-- append to a slice of the call's own -/
theorem ef_append {e : TypeId} {v src z0 : Value} {sz bytes n m : Nat} {xs us : List Value} (hN : Nat.blt dd N = true) (ht : P.underlying t = some (.slice e)) (hi : (P.info? e).map (fun i => (i.zero, i.size, i.bytes)) = some (some z0, sz, bytes)) (hzs : z0.cells.size = sz)
    (hx : ev E x = some v) [hp : PkOwn L v e sz n xs R] (hy : ev E y = some src) (hs : ∀ w, Has w0 M L w → Src P w e t' src sz m us) (hb : (n + m) * bytes ≤ 140737488355328) (hn : n + m ≤ 9223372036854775807) :
    Ef P Q ⟨some dd, .call ⟨.builtin .append, #[x, y], #[t, t']⟩, ty, pos, af, g⟩ N E w0 M L (fun E' L' => ∃ v', E' = (dd, v') :: E ∧ L' = .own v' e sz (n + m) (xs ++ us) :: R) := by
  intro K hK a w hE hL
  obtain ⟨i, hi0, hzz⟩ := Option.map_eq_some_iff.1 hi
  simp only [Prod.mk.injEq] at hzz
  obtain ⟨hz0, hz1, hz2⟩ := hzz
  subst hz1
  subst hz2
  have hL' := hL.perm hp.out.perm
  obtain ⟨v', w', h1, h2, h3, h4⟩ := run_append_any (ty := ty) ht hi0 hz0 hzs (hL.pick hp.out) (hs w hL) hb (by simp only [maxLen]; omega)
  have hr' : (execOp a.eval ⟨some dd, .call ⟨.builtin .append, #[x, y], #[t, t']⟩, ty, pos, af, g⟩).run P w = .ok (.value v') w' := by
    simp [execOp, resolve, invoke, builtin, hE.ev hx, hE.ev hy, h1]
  unfold Oper.wp
  rw [hr']
  refine hK _ _ ⟨v', rfl, rfl⟩ _ _ (hE.put hN v') (hL'.upd (x := .own v e i.size n xs) .head (h3.mono (by simp [Asn.foot])) h2 (fun b hb => ?_) ?_)
  · simp only [Asn.foot, Option.mem_toList] at hb ⊢
    rcases h4 with h4 | h4
    · exact .inl (h4 ▸ hb)
    · rw [h4] at hb
      simp at hb
      exact .inr (by omega)
  · simp only [Asn.foot]
    cases v'.ownBlock <;> simp
/-- append to a slice that is full: new memory -/
theorem ef_appendFull {e : TypeId} {v src z0 : Value} {sz bytes n m : Nat} {xs us : List Value} (hN : Nat.blt dd N = true) (ht : P.underlying t = some (.slice e)) (hi : (P.info? e).map (fun i => (i.zero, i.size, i.bytes)) = some (some z0, sz, bytes)) (hzs : z0.cells.size = sz)
    (hx : ev E x = some (fullv v n)) (hr : ∀ w, Has w0 M L w → Rd w v sz n xs) (hy : ev E y = some src) (hs : ∀ w, Has w0 M L w → Src P w e t' src sz m us) (hm : 0 < m) (hb : (n + m) * bytes ≤ 140737488355328) (hn : n + m ≤ 9223372036854775807) :
    Ef P Q ⟨some dd, .call ⟨.builtin .append, #[x, y], #[t, t']⟩, ty, pos, af, g⟩ N E w0 M L (fun E' L' => ∃ v', E' = (dd, v') :: E ∧ L' = .own v' e sz (n + m) (xs ++ us) :: L) := by
  intro K hK a w hE hL
  obtain ⟨i, hi0, hzz⟩ := Option.map_eq_some_iff.1 hi
  simp only [Prod.mk.injEq] at hzz
  obtain ⟨hz0, hz1, hz2⟩ := hzz
  subst hz1
  subst hz2
  have hrf := (hr w hL).full
  obtain ⟨A, c, hv, hc, _⟩ := hrf.form
  have hcn : c = n := by
    obtain ⟨A', c', rfl, _⟩ := (hr w hL).form
    simp only [fullv, Value.slice.injEq] at hv
    exact hv.2.2.symm
  subst hcn
  rw [hv] at hrf hx
  obtain ⟨v', w', h1, h2, h3, h4⟩ := run_append_grows (ty := ty) ht hi0 hz0 hzs hrf (hs w hL) (by omega) hb (by simp only [maxLen]; omega)
  have hr' : (execOp a.eval ⟨some dd, .call ⟨.builtin .append, #[x, y], #[t, t']⟩, ty, pos, af, g⟩).run P w = .ok (.value v') w' := by
    simp [execOp, resolve, invoke, builtin, hE.ev hx, hE.ev hy, h1]
  unfold Oper.wp
  rw [hr']
  refine hK _ _ ⟨v', rfl, rfl⟩ _ _ (hE.put hN v') (hL.add (x := .own v' e i.size (c + m) (xs ++ us)) h3 h2 (fun b hb => ?_) ?_)
  · simp only [Asn.foot, Option.mem_toList, h4] at hb
    simp at hb
    omega
  · simp only [Asn.foot]
    cases v'.ownBlock <;> simp

/-! ### conversions of texts -/
theorem ef_bytes {e : TypeId} {s : ByteArray} (hN : Nat.blt dd N = true) (hu : P.underlying t = some .string) (hu' : P.underlying t' = some (.slice e)) (he : P.underlying e = some (.int .u8)) (hx : ev E x = some (.string s)) (hsz : s.size ≤ 9223372036854775807) :
    Ef P Q ⟨some dd, .convert t t' x, ty, pos, af, g⟩ N E w0 M L (fun E' L' => ∃ v, E' = (dd, v) :: E ∧ L' = .own v e 1 s.size (bvs s.data.toList) :: L) := by
  intro K hK a w hE hL
  have hcap := grownCap_ge w s.size 0 e
  have hcm := grownCap_le_maxLen w s.size 0 e (by simp only [maxLen]; omega)
  have hcells : (s.data.map fun b : UInt8 => Value.int .u8 (b.toNat : Int)) ++ Array.replicate (grownCap w s.size 0 e - s.size) (Value.int .u8 0) = (bvs s.data.toList ++ List.replicate (grownCap w s.size 0 e - s.size) (Value.int .u8 0)).toArray := by
    rw [str_cells]; simp
  have hlen : (bvs s.data.toList ++ List.replicate (grownCap w s.size 0 e - s.size) (Value.int .u8 0)).length = grownCap w s.size 0 e := by
    simp [bvs_len]; omega
  obtain ⟨w', hw', hb', hext⟩ : ∃ w', (execOp a.eval ⟨some dd, .convert t t' x, ty, pos, af, g⟩).run P w = .ok (.value (.slice (some ⟨w.heap.size, 0, none⟩) s.size (grownCap w s.size 0 e))) w' ∧
      w'.heap[w.heap.size]? = some (.cells (bvs s.data.toList ++ List.replicate (grownCap w s.size 0 e - s.size) (Value.int .u8 0)).toArray e (grownCap w s.size 0 e, grownCap w s.size 0 e + 1)) ∧ Ext [] w w' := by
    refine ⟨(w.drew.alloc (.cells (bvs s.data.toList ++ List.replicate (grownCap w s.size 0 e - s.size) (Value.int .u8 0)).toArray e)).freeze ⟨w.heap.size, grownCap w s.size 0 e, none⟩ 1, ?_, ?_, ?_⟩
    · have hsh : (w.drew.alloc (.cells (bvs s.data.toList ++ List.replicate (grownCap w s.size 0 e - s.size) (Value.int .u8 0)).toArray e)).shape? w.heap.size = some (e, grownCap w s.size 0 e) := by
        have := heap_alloc_new w.drew (.cells (bvs s.data.toList ++ List.replicate (grownCap w s.size 0 e - s.size) (Value.int .u8 0)).toArray e)
        simp only [World.shape?]
        rw [show w.heap.size = w.drew.heap.size from rfl, this]
        simp [hlen]
      simp only [execOp, hE.ev hx, convert, Sem.run_bind, run_underlying hu, run_underlying hu', run_underlying he, Result.andThen_ok, Conv.stringToBytes, run_choose, Question.forced, Bool.false_eq_true, if_false, newRow, run_newObj, Sem.run_pure, markStringish, run_shape]
      rw [show (Question.appendCap s.size 0 e).cut (w.tape w.drawn (Question.appendCap s.size 0 e)) = grownCap w s.size 0 e from rfl, hcells]
      have hsh' := hsh
      simp only [World.drew, World.alloc] at hsh' ⊢
      simp only [hsh']
      rfl
    · have := heap_alloc_new w.drew (.cells (bvs s.data.toList ++ List.replicate (grownCap w s.size 0 e - s.size) (Value.int .u8 0)).toArray e)
      simp only [World.freeze, Nat.one_ne_zero, if_false, Array.getElem?_modify, if_true]
      rw [show w.heap.size = w.drew.heap.size from rfl, this]
      simp
    · refine ⟨rfl, rfl, rfl, by simp [World.freeze], fun k hk _ => ?_⟩
      have h1 := Below.heap_alloc w.drew (.cells (bvs s.data.toList ++ List.replicate (grownCap w s.size 0 e - s.size) (Value.int .u8 0)).toArray e) k hk
      simp only [World.freeze, Nat.one_ne_zero, if_false, Array.getElem?_modify]
      rw [if_neg (by omega)]
      exact h1
  unfold Oper.wp
  rw [hw']
  refine hK _ _ ⟨_, rfl, rfl⟩ _ _ (hE.put hN _) (hL.add (x := .own (.slice (some ⟨w.heap.size, 0, none⟩) s.size (grownCap w s.size 0 e)) e 1 s.size (bvs s.data.toList)) hext ⟨by simp [bvs_len], .inr ⟨_, _, _, _, _, rfl, hb', ?_, hcap, hcm, ?_, ?_⟩⟩ (by simp [Asn.foot, Value.ownBlock]) (by simp [Asn.foot, Value.ownBlock]))
  · right
    simp only [List.size_toArray, hlen]
    omega
  · simp only [List.size_toArray, hlen]; omega
  · simp only [Nat.mul_one]
    have : s.size = (bvs s.data.toList).length := by simp [bvs_len]
    rw [this]
    exact List.take_left
theorem y_str {e : TypeId} {v : Value} {n : Nat} {l : List UInt8} (hu : P.underlying t = some (.slice e)) (hu' : P.underlying t' = some .string) (he : P.underlying e = some (.int .u8)) (hx : ev E x = some v) (hr : ∀ w, Has w0 M L w → Rd w v 1 n (bvs l)) : Yl P ⟨d, .convert t t' x, ty, pos, af, g⟩ N E w0 M L (.string ⟨l.toArray⟩) := fun a w hE hL => by
  obtain ⟨A, c, rfl, hc, hm, h3, h4⟩ := (hr w hL).form
  have hlen := (hr w hL).len
  cases A with
  | none =>
    have := h3 rfl
    obtain rfl : n = 0 := by omega
    have : l = [] := List.eq_nil_of_length_eq_zero (by simpa [bvs_len] using hlen)
    subst this
    simp [execOp, hE.ev hx, convert, run_underlying hu, run_underlying hu', run_underlying he, Conv.bytesToString]
    rfl
  | some ad =>
    have hl : n = (bvs l).length := by omega
    have hload := run_loadCells_list (P := P) w ad (bvs l) (h4 ad rfl)
    rw [← hl] at hload
    have e1 : bvs l = (l.map fun b => (b.toNat : Int)).map (Value.int .u8) := by simp [bvs, bv]
    rw [e1] at hload
    have h2 := run_bytesToString w ad n c (l.map fun b => (b.toNat : Int)) hload
    rw [foldl_push_bytes] at h2
    simp only [execOp, hE.ev hx, Sem.run_bind]
    rw [run_convert_bytes_string w t t' e _ n c hu he hu', h2]
    have e2 : (l.map fun b => (b.toNat : Int)).map (fun n => UInt8.ofNat n.toNat) = l := by
      rw [List.map_map]
      conv => rhs; rw [← List.map_id l]
      apply List.map_congr_left
      intro b _
      simp
    rw [e2]
    simp [ByteArray.empty, ByteArray.emptyWithCapacity]
    rfl

/-! ### calls -/
/-- a function with a body -/
def Fun (P : Program) (f : FuncId) : Prop := ∀ args w, (callFunc f args).run P w = .ok (.enter f args) w
theorem fun_of {f : FuncId} {fn : Func} {c : Code} (hf : P.funcs[f]? = some fn) (hn : (fn.name == "runtime.NumGoroutine") = false) (hb : fn.body = some c) : Fun P f := fun args w => by
  have hn' : ¬ fn.name = "runtime.NumGoroutine" := by simpa using hn
  simp [callFunc, hf, hn', hb]
def evs (E : List (Nat × Value)) : List Operand → Option (List Value)
  | [] => some []
  | x :: xs => match ev E x, evs E xs with
    | some v, some vs => some (v :: vs)
    | _, _ => none
theorem Env.evs {a : Act} (hE : Env N E a) : ∀ {xs : List Operand} {vs : List Value}, Ytdgmkbjopcopcaa.evs E xs = some vs → xs.map a.eval = vs
  | [], vs, h => by simp [Ytdgmkbjopcopcaa.evs] at h; simp [h]
  | x :: xs, vs, h => by
    simp only [Ytdgmkbjopcopcaa.evs] at h
    split at h
    · rename_i v vs' h1 h2
      simp at h
      subst h
      simp [hE.ev h1, Env.evs hE h2]
    · simp at h
/-- a call that may change the blocks M' (of Lm) alone -/
theorem ef_call {f : FuncId} {xs : List Operand} {ts : Array TypeId} {vs : List Value} {M' : List Nat} {Lm : Mem} {Ψ : Value → Mem → Prop} (hN : Nat.blt dd N = true) (hf : Fun P f) (hx : evs E xs = some vs) (hs : ∃ L2, L.Perm (Lm ++ L2) ∧ L2 = R) (hM : ∀ b ∈ M', b ∈ foots Lm)
    (hc : ∀ w, Has w0 M L w → Calls P f vs.toArray w (RP M' w Ψ)) :
    Ef P Q ⟨some dd, .call ⟨.value (.func f), xs.toArray, ts⟩, ty, pos, af, g⟩ N E w0 M L (fun E' L' => ∃ v Lc, E' = (dd, v) :: E ∧ L' = Lc ++ R ∧ Ψ v Lc) := by
  intro K hK a w hE hL
  obtain ⟨L2, hperm, rfl⟩ := hs
  have hr' : (execOp a.eval ⟨some dd, .call ⟨.value (.func f), xs.toArray, ts⟩, ty, pos, af, g⟩).run P w = .ok (.enter f vs.toArray) w := by
    have he := hE.evs hx
    simp only [execOp, resolve, Act.eval, Deferred.ofValue, Sem.run_bind, Sem.run_pure, Result.andThen_ok, invoke, List.map_toArray, he]
    simpa using hf vs.toArray w
  unfold Oper.wp
  rw [hr']
  show Calls P f vs.toArray w _
  refine (hc w hL).mono fun e w' he => ?_
  obtain ⟨v, Lc, rfl, hH, hΨ⟩ := he
  exact hK _ _ ⟨v, Lc, rfl, rfl, hΨ⟩ _ _ (hE.put hN v) (hL.call hperm hM hH)
/-- a call of a function value -/
theorem ef_callv {f : FuncId} {xs : List Operand} {ts : Array TypeId} {vs c1 c2 : List Value} {M' : List Nat} {Lm : Mem} {Ψ : Value → Mem → Prop} (hN : Nat.blt dd N = true) (hf : Fun P f) (hz : ev E z = some (.func (.func f) c1.toArray c2.toArray)) (hx : evs E xs = some vs) (hs : ∃ L2, L.Perm (Lm ++ L2) ∧ L2 = R) (hM : ∀ b ∈ M', b ∈ foots Lm)
    (hc : ∀ w, Has w0 M L w → Calls P f (c1 ++ vs ++ c2).toArray w (RP M' w Ψ)) :
    Ef P Q ⟨some dd, .call ⟨.value z, xs.toArray, ts⟩, ty, pos, af, g⟩ N E w0 M L (fun E' L' => ∃ v Lc, E' = (dd, v) :: E ∧ L' = Lc ++ R ∧ Ψ v Lc) := by
  intro K hK a w hE hL
  obtain ⟨L2, hperm, rfl⟩ := hs
  have hr' : (execOp a.eval ⟨some dd, .call ⟨.value z, xs.toArray, ts⟩, ty, pos, af, g⟩).run P w = .ok (.enter f (c1 ++ vs ++ c2).toArray) w := by
    have he := hE.evs hx
    simp only [execOp, resolve, hE.ev hz, Deferred.ofValue, Sem.run_bind, Sem.run_pure, Result.andThen_ok, invoke, List.map_toArray, he]
    have := hf (c1 ++ vs ++ c2).toArray w
    simpa using this
  unfold Oper.wp
  rw [hr']
  show Calls P f (c1 ++ vs ++ c2).toArray w _
  refine (hc w hL).mono fun e w' he => ?_
  obtain ⟨v, Lc, rfl, hH, hΨ⟩ := he
  exact hK _ _ ⟨v, Lc, rfl, rfl, hΨ⟩ _ _ (hE.put hN v) (hL.call hperm hM hH)
end

/-! ### short forms -/
/-- a value alone -/
abbrev RV (w : World) (v0 : Value) : Ending → World → Prop := RP [] w (fun v L => v = v0 ∧ L = [])
/-- a slice in new memory -/
abbrev RO (w : World) (T : TypeId) (sz n : Nat) (xs : List Value) : Ending → World → Prop := RP [] w (fun v L => L = [.own v T sz n xs])
section
variable {P : Program} {Q : Post} {N : Nat} {E E' : List (Nat × Value)} {w0 : World} {M : List Nat} {L L' R : Mem} {dd : Nat} {d : Option Nat} {ty : TypeId} {pos : String} {af : Array Edge} {g : Option (Nat × Bool)} {x y z : Operand} {t t' : TypeId}
theorem ef_callv0 {f : FuncId} {xs : List Operand} {ts : Array TypeId} {vs : List Value} {v0 : Value} (hN : Nat.blt dd N = true) (hf : Fun P f) (hx : evs E xs = some vs)
    (hc : ∀ w, Has w0 M L w → Calls P f vs.toArray w (RV w v0)) :
    Ef P Q ⟨some dd, .call ⟨.value (.func f), xs.toArray, ts⟩, ty, pos, af, g⟩ N E w0 M L (fun E' L' => E' = (dd, v0) :: E ∧ L' = L) := by
  intro K hK a w hE hL
  refine ef_call (Lm := []) (R := L) hN hf hx ⟨L, by simp, rfl⟩ (by simp) hc K (fun E' L' hΦ => ?_) a w hE hL
  obtain ⟨v, Lc, rfl, rfl, rfl, rfl⟩ := hΦ
  exact hK _ _ ⟨rfl, rfl⟩
theorem ef_callo {f : FuncId} {xs : List Operand} {ts : Array TypeId} {vs : List Value} {T : TypeId} {sz n : Nat} {us : List Value} (hN : Nat.blt dd N = true) (hf : Fun P f) (hx : evs E xs = some vs)
    (hc : ∀ w, Has w0 M L w → Calls P f vs.toArray w (RO w T sz n us)) :
    Ef P Q ⟨some dd, .call ⟨.value (.func f), xs.toArray, ts⟩, ty, pos, af, g⟩ N E w0 M L (fun E' L' => ∃ v, E' = (dd, v) :: E ∧ L' = .own v T sz n us :: L) := by
  intro K hK a w hE hL
  refine ef_call (Lm := []) (R := L) hN hf hx ⟨L, by simp, rfl⟩ (by simp) hc K (fun E' L' hΦ => ?_) a w hE hL
  obtain ⟨v, Lc, rfl, rfl, rfl⟩ := hΦ
  exact hK _ _ ⟨v, rfl, rfl⟩
/-- a call that changes one block -/
theorem ef_call1 {f : FuncId} {xs : List Operand} {ts : Array TypeId} {vs : List Value} {b : Nat} {cs : List Value} {T : TypeId} {fr : Nat × Nat} {Ψ : Value → Mem → Prop} (hN : Nat.blt dd N = true) (hf : Fun P f) (hx : evs E xs = some vs) [hp : PkBlk L b cs T fr R]
    (hc : ∀ w, Has w0 M L w → Calls P f vs.toArray w (RP [b] w Ψ)) :
    Ef P Q ⟨some dd, .call ⟨.value (.func f), xs.toArray, ts⟩, ty, pos, af, g⟩ N E w0 M L (fun E' L' => ∃ v Lc, E' = (dd, v) :: E ∧ L' = Lc ++ R ∧ Ψ v Lc) :=
  ef_call (Lm := [.blk b cs T fr]) hN hf hx ⟨R, hp.out.perm, rfl⟩ (by simp [foots, Asn.foot]) hc
theorem SubE.nil : SubE E [] := trivial
theorem SubE.cons {k : Nat} {v : Value} (h : lk E k = some v) (t : SubE E E') : SubE E ((k, v) :: E') := ⟨h, t⟩
theorem lk_int {k : Nat} {ik : IntKind} {m n : Int} (h : lk E k = some (.int ik m)) (e : m = n) : lk E k = some (.int ik n) := e ▸ h
theorem lk_eq {k : Nat} {u v : Value} (h : lk E k = some u) (e : u = v) : lk E k = some v := e ▸ h
theorem SubL.consOwn {v : Value} {T : TypeId} {sz n n' : Nat} {us us' : List Value} [h : PkOwn L v T sz n us R] (e1 : n = n') (e2 : us = us') (t : SubL R L') : SubL L (.own v T sz n' us' :: L') := by
  subst e1; subst e2; exact .cons h.out t
theorem SubL.consBlk {b : Nat} {T : TypeId} {cs cs' : List Value} {fr : Nat × Nat} [h : PkBlk L b cs T fr R] (e : cs = cs') (t : SubL R L') : SubL L (.blk b cs' T fr :: L') := by
  subst e; exact .cons h.out t
theorem SubL.consMap {b k k' : Nat} {es es' : List MapEntry} [h : PkMap L b es k R] (e1 : k = k') (e : es = es') (t : SubL R L') : SubL L (.map b es' k' :: L') := by
  subst e1; subst e; exact .cons h.out t
/-- Two ways meet. -/
def Meets {X : Type} (N : Nat) (F : X → List (Nat × Value)) (G : X → Mem) (pre : X → Prop) (w0 : World) (M : List Nat) : Act → World → Prop := fun a w => ∃ x, pre x ∧ Env N (F x) a ∧ Has w0 M (G x) w
theorem wc_cut {X : Type} {c c' : Code} (F : X → List (Nat × Value)) (G : X → Mem) (pre : X → Prop) (h1 : WC P (Exit.then (Meets N F G pre w0 M) Q) c N E w0 M L) (h2 : ∀ x, pre x → WC P Q c' N (F x) w0 M (G x)) : WC P Q (.seq c c') N E w0 M L := by
  refine wc_seq fun a w hE hL => wp_mono (h1 a w hE hL) fun e a w q => ?_
  cases e with
  | normal =>
    obtain ⟨x, hx, hE', hL'⟩ := q
    exact h2 x hx a w hE' hL'
  | _ => exact q
theorem q_meet {X : Type} {F : X → List (Nat × Value)} {G : X → Mem} {pre : X → Prop} (x : X) (hp : pre x) (hE : SubE E (F x)) (hL : SubL L (G x)) : AtQ (Exit.then (Meets N F G pre w0 M) Q) .normal N E w0 M L :=
  fun a w h1 h2 => ⟨x, hp, h1.sub hE, h2.sub hL⟩
/-! parts of n cells -/
inductive PartN : List Value → Nat → Nat → List Value → Prop
  | nil {cs : List Value} : PartN cs 0 0 []
  | skip {c : Value} {cs us : List Value} {off n : Nat} (h : PartN cs off n us) : PartN (c :: cs) (off + 1) n us
  | cons {c : Value} {cs us : List Value} {n : Nat} (h : PartN cs 0 n us) : PartN (c :: cs) 0 (n + 1) (c :: us)
  | over {as cs us : List Value} {k off off' n : Nat} (hk : as.length = k) (ho : off' + k = off) (h : PartN cs off' n us) : PartN (as ++ cs) off n us
  | take {as cs us : List Value} {k n n' : Nat} (hk : as.length = k) (hn : n' + k = n) (h : PartN cs 0 n' us) : PartN (as ++ cs) 0 n (as ++ us)
  | all {cs : List Value} {n : Nat} (hk : cs.length = n) : PartN cs 0 n cs
theorem PartN.part {cs us : List Value} {off n : Nat} (h : PartN cs off n us) : PartOf cs off us ∧ us.length = n := by
  induction h with
  | nil => exact ⟨PartOf.nil, rfl⟩
  | skip _ ih => exact ⟨ih.1.skip, ih.2⟩
  | cons _ ih => exact ⟨ih.1.cons, by simp [ih.2]⟩
  | over hk ho _ ih => subst ho; rw [Nat.add_comm]; exact ⟨ih.1.over hk, ih.2⟩
  | take hk hn _ ih => subst hn; exact ⟨ih.1.take, by simp [hk, ih.2]; omega⟩
  | all hk => exact ⟨PartOf.all, hk⟩
theorem PartN.takea {as cs : List Value} {k : Nat} (hk : as.length = k) : PartN (as ++ cs) 0 k as := by
  have h := PartN.take (cs := cs) (n := k) hk (by omega) (PartN.nil)
  rwa [List.append_nil] at h
theorem y_loadP {b o : Nat} {cs us : List Value} {T : TypeId} {fr : Nat × Nat} {n : Nat} (h1 : AggOf P t n) (hx : ev E x = some (.pointer (some ⟨b, o, none⟩))) [hp : PkBlk L b cs T fr R] (hv : PartN cs o n us) : Yl P ⟨d, .load t x, ty, pos, af, g⟩ N E w0 M L (.agg us.toArray) :=
  y_loadN h1 hx hv.part.1 hv.part.2
/-- us in the place of as many cells -/
inductive SplN : List Value → Nat → List Value → List Value → Prop
  | nil {cs : List Value} : SplN cs 0 [] cs
  | skip {c : Value} {cs us cs' : List Value} {off : Nat} (h : SplN cs off us cs') : SplN (c :: cs) (off + 1) us (c :: cs')
  | cons {c u : Value} {cs us cs' : List Value} (h : SplN cs 0 us cs') : SplN (c :: cs) 0 (u :: us) (u :: cs')
  | over {as cs us cs' : List Value} {k off off' : Nat} (hk : as.length = k) (ho : off' + k = off) (h : SplN cs off' us cs') : SplN (as ++ cs) off us (as ++ cs')
  | put {as bs cs us cs' : List Value} {k : Nat} (hk : as.length = k) (hb : bs.length = k) (h : SplN cs 0 us cs') : SplN (as ++ cs) 0 (bs ++ us) (bs ++ cs')
  | puta {as bs cs : List Value} {k : Nat} (hk : as.length = k) (hb : bs.length = k) : SplN (as ++ cs) 0 bs (bs ++ cs)
  | all {as bs : List Value} {k : Nat} (hk : as.length = k) (hb : bs.length = k) : SplN as 0 bs bs
theorem SplN.splice {cs us cs' : List Value} {off : Nat} (h : SplN cs off us cs') : splice cs off us = cs' ∧ off + us.length ≤ cs.length := by
  induction h with
  | nil => simp [Ytdgmkbjopcopcaa.splice]
  | skip _ ih =>
    obtain ⟨h1, h2⟩ := ih
    simp only [Ytdgmkbjopcopcaa.splice] at h1 ⊢
    constructor
    · rw [show ∀ a b : Nat, a + 1 + b = (a + b) + 1 from by omega]; simpa using h1
    · simp; omega
  | cons _ ih =>
    obtain ⟨h1, h2⟩ := ih
    simp only [Ytdgmkbjopcopcaa.splice] at h1 ⊢
    constructor
    · simpa using h1
    · simp at h2 ⊢; omega
  | over hk ho _ ih =>
    subst ho
    subst hk
    rw [Nat.add_comm]
    obtain ⟨h1, h2⟩ := ih
    simp only [Ytdgmkbjopcopcaa.splice] at h1 ⊢
    constructor
    · rw [← h1, List.take_append, List.drop_append]
      rw [List.take_of_length_le (by omega), List.drop_eq_nil_of_le (by omega)]
      simp [Nat.add_assoc, show ∀ a b : Nat, a + b - a = b from by omega]
    · simp; omega
  | put hk hb _ ih =>
    subst hk
    obtain ⟨h1, h2⟩ := ih
    simp only [Ytdgmkbjopcopcaa.splice] at h1 ⊢
    constructor
    · rw [← h1]; simp [List.drop_append, hb, show ∀ a b : Nat, a + b - a = b from by omega]
    · simp at h2 ⊢; omega
  | puta hk hb =>
    subst hk
    simp [Ytdgmkbjopcopcaa.splice, hb]
  | all hk hb =>
    subst hk
    simp [Ytdgmkbjopcopcaa.splice, hb]
theorem ef_storeP {b o : Nat} {cs us cs' : List Value} {T : TypeId} {v : Value} {n : Nat} (hs : Siz P t n) (hx : ev E x = some (.pointer (some ⟨b, o, none⟩))) (hy : ev E y = some v) (hv : v.cells = us.toArray) (h1 : OneAll us)
    [hp : PkBlk L b cs T (0, 0) R] (hcs : SplN cs o us cs') (hn : us.length = n) :
    Ef P Q ⟨none, .store t x y, ty, pos, af, g⟩ N E w0 M L (fun E' L'' => E' = E ∧ L'' = .blk b cs' T (0, 0) :: R) :=
  ef_storeN hs hx hy hv hn h1 hcs.splice.1 hcs.splice.2
end
end Go.Proofs.Ytdgmkbjopcopcaa
