/- An engine for walks, fifth part: what writes, makes, appends, copies and calls. Own work. -/
import Derived.Test.YtdgmkbjopcopcaaEngd
set_option linter.unusedVariables false
set_option linter.unusedSimpArgs false
namespace Go.Proofs.Ytdgmkbjopcopcaa
open Go.RowKit

def OneAll (us : List Value) : Prop := ∀ u ∈ us, u.oneCell' = true
theorem OneAll.nil : OneAll [] := by simp [OneAll]
theorem OneAll.cons {u : Value} {us : List Value} (h : u.oneCell' = true) (t : OneAll us) : OneAll (u :: us) := by
  intro x hx
  rcases List.mem_cons.1 hx with rfl | hx
  · exact h
  · exact t x hx
theorem OneAll.app {us vs : List Value} (h : OneAll us) (t : OneAll vs) : OneAll (us ++ vs) := by
  intro x hx
  rcases List.mem_append.1 hx with hx | hx
  · exact h x hx
  · exact t x hx
theorem OneAll.map {α : Type} {f : α → Value} (l : List α) (h : ∀ a, (f a).oneCell' = true) : OneAll (l.map f) := by
  intro x hx
  obtain ⟨a, _, rfl⟩ := List.mem_map.1 hx
  exact h a
theorem OneAll.take {us : List Value} (h : OneAll us) (n : Nat) : OneAll (us.take n) := fun x hx => h x (List.mem_of_mem_take hx)
theorem OneAll.drop {us : List Value} (h : OneAll us) (n : Nat) : OneAll (us.drop n) := fun x hx => h x (List.mem_of_mem_drop hx)
theorem cells_one {v : Value} (h : v.oneCell' = true) : v.cells = #[v] := by cases v <;> simp_all [Value.oneCell', Value.cells]

section
variable (P : Program)
/-- A row of stores into one block. -/
theorem run_stores (g o : Nat) (T : TypeId) (lo hi : Nat) : ∀ (vs : List Value) (i : Nat) (cur : List Value) (w : World), w.heap[g]? = some (.cells cur.toArray T (lo, hi)) → o + i + vs.length ≤ cur.length → (∀ j, j < cur.length → ¬ (lo ≤ j ∧ j < hi)) → OneAll vs →
    ∃ w', (storeCells ⟨g, o, none⟩ vs i).run P w = .ok () w' ∧ w'.heap[g]? = some (.cells (splice cur (o + i) vs).toArray T (lo, hi)) ∧ Ext [g] w w'
  | [], i, cur, w, hg, hl, hf, h1 => ⟨w, by simp [storeCells], by rw [hg]; simp [splice], Ext.refl _ _⟩
  | v :: rest, i, cur, w, hg, hl, hf, h1 => by
    have hlt : o + i < cur.length := by simp at hl; omega
    have hadd : (⟨g, o, none⟩ : Addr).add i = ⟨g, o + i, none⟩ := addr_add g o i
    have hcell : w.cell? ⟨g, o + i, none⟩ = some cur[o + i] := by simp [World.cell?, hg, hlt]
    have hfro : w.frozen? ⟨g, o + i, none⟩ = false := by
      have := hf _ hlt
      simp only [World.frozen?, hg]
      simpa using this
    have hg' : (w.setCell ⟨g, o + i, none⟩ v).heap[g]? = some (.cells (cur.set (o + i) v).toArray T (lo, hi)) := by
      simp [World.setCell, Array.getElem?_modify, hg]
    obtain ⟨w', hr, hh, he⟩ := run_stores g o T lo hi rest (i + 1) (cur.set (o + i) v) _ hg' (by simp at hl ⊢; omega) (by simpa using hf) (fun x hx => h1 x (by simp [hx]))
    have hst : (store ((⟨g, o, none⟩ : Addr).add i) v).run P w = .ok () (w.setCell ⟨g, o + i, none⟩ v) := by
      rw [hadd, run_store P w _ v _ (h1 v (by simp)), hcell]
      simp [hfro]
    refine ⟨w', by simp [storeCells, hst, hr], ?_, Ext.trans (b := w.setCell ⟨g, o + i, none⟩ v) ⟨rfl, rfl, rfl, by simp, fun k hk hm => Below.heap_setCell w ⟨g, o + i, none⟩ v k (by simpa using hm)⟩ he⟩
    rw [hh]
    have e := list_seg_step cur (o + i) v rest (by simp at hl ⊢; omega)
    simp only [splice]
    congr 3
end
theorem length_splice {cs us : List Value} {o : Nat} (h : o + us.length ≤ cs.length) : (splice cs o us).length = cs.length := by
  simp [splice]; omega
theorem splice_one (cs : List Value) (o : Nat) (v : Value) (h : o < cs.length) : splice cs o [v] = cs.set o v := by
  apply List.ext_getElem?
  intro j
  simp only [splice, List.getElem?_set, List.length_singleton, List.getElem?_append, List.length_append, List.length_take, List.getElem?_take, List.getElem?_drop]
  have hm : min o cs.length = o := by omega
  rw [hm]
  by_cases h1 : j < o
  · simp [h1, show j < o + 1 from by omega, show ¬ o = j from by omega]
  · by_cases h2 : j = o
    · subst h2; simp [h]
    · have h3 : ¬ j < o + 1 := by omega
      simp [h1, h3, show ¬ o = j from fun e => h2 e.symm]
      congr 1
      omega

section
variable {P : Program} {Q : Post} {N : Nat} {E : List (Nat × Value)} {w0 : World} {M : List Nat} {L L' R : Mem} {dd : Nat} {d : Option Nat} {ty : TypeId} {pos : String} {af : Array Edge} {g : Option (Nat × Bool)} {x y z : Operand} {t t' : TypeId}

/-! ### new blocks -/
theorem ef_new {o : Oper} {cs : List Value} {T : TypeId} (hd : o.dst = some dd) (hN : Nat.blt dd N = true) (hr : ∀ a w, Env N E a → Has w0 M L w → (execOp a.eval o).run P w = .ok (.value (.pointer (some ⟨w.heap.size, 0, none⟩))) (w.alloc (.cells cs.toArray T))) :
    Ef P Q o N E w0 M L (fun E' L' => ∃ b, E' = (dd, .pointer (some ⟨b, 0, none⟩)) :: E ∧ L' = .blk b cs T (0, 0) :: L) := by
  intro K hK a w hE hL
  unfold Oper.wp
  rw [hr a w hE hL]
  show K (a.put o.dst _) _
  rw [hd]
  exact hK _ _ ⟨w.heap.size, rfl, rfl⟩ _ _ (hE.put hN _) (hL.alloc cs T)
theorem ef_box {v : Value} {cs : List Value} {T : TypeId} (hN : Nat.blt dd N = true) (hx : ev E x = some v) (hc : v.cells = cs.toArray) :
    Ef P Q ⟨some dd, .box T x, ty, pos, af, g⟩ N E w0 M L (fun E' L' => ∃ b, E' = (dd, .pointer (some ⟨b, 0, none⟩)) :: E ∧ L' = .blk b cs T (0, 0) :: L) :=
  ef_new rfl hN fun a w hE hL => by simp [execOp, hE.ev hx, Instr.box, newVar, newRow, hc]
def Zer (P : Program) (t : TypeId) (cs : List Value) : Prop := ∀ w, ∃ z, (zeroValue t).run P w = .ok z w ∧ z.cells = cs.toArray
theorem zer_of {z : Value} {cs : List Value} (hi : (P.info? t).map (·.zero) = some (some z)) (hc : z.cells = cs.toArray) : Zer P t cs := fun w => by
  cases hq : P.info? t with
  | none => simp [hq] at hi
  | some i =>
    have : i.zero = some z := by simpa [hq] using hi
    exact ⟨z, by simp [zeroValue, typeInfo, hq, this], hc⟩
theorem ef_alloc {cs : List Value} {T : TypeId} (hN : Nat.blt dd N = true) (hz : Zer P T cs) :
    Ef P Q ⟨some dd, .alloc T, ty, pos, af, g⟩ N E w0 M L (fun E' L' => ∃ b, E' = (dd, .pointer (some ⟨b, 0, none⟩)) :: E ∧ L' = .blk b cs T (0, 0) :: L) :=
  ef_new rfl hN fun a w hE hL => by
    obtain ⟨z, hz1, hz2⟩ := hz w
    simp [execOp, Instr.alloc, hz1, newVar, newRow, hz2]
theorem ef_makeMap (hN : Nat.blt dd N = true) : Ef P Q ⟨some dd, .makeMap t none, ty, pos, af, g⟩ N E w0 M L (fun E' L' => ∃ b, E' = (dd, .map (some b)) :: E ∧ L' = .map b [] 0 :: L) := by
  intro K hK a w hE hL
  have hr : (execOp a.eval ⟨some dd, .makeMap t none, ty, pos, af, g⟩).run P w = .ok (.value (.map (some w.heap.size))) (w.alloc (.map #[] 0)) := by simp [execOp, Instr.makeMap]
  unfold Oper.wp
  rw [hr]
  exact hK _ _ ⟨w.heap.size, rfl, rfl⟩ _ _ (hE.put hN _) hL.allocMap

/-! ### stores -/
theorem run_storeVar {us : List Value} {v : Value} (hs : Siz P t us.length) (hv : v.cells = us.toArray) (w : World) (a : Addr) : (storeVar t a v).run P w = (storeCells a us).run P w := by
  simp [storeVar, hs w, hv]
theorem ef_storeN {b o : Nat} {cs us cs' : List Value} {T : TypeId} {v : Value} {n : Nat} (hs : Siz P t n) (hx : ev E x = some (.pointer (some ⟨b, o, none⟩))) (hy : ev E y = some v) (hv : v.cells = us.toArray) (hn : us.length = n) (h1 : OneAll us)
    (hcs : splice cs o us = cs') [hp : PkBlk L b cs T (0, 0) R] (hl : o + us.length ≤ cs.length) :
    Ef P Q ⟨none, .store t x y, ty, pos, af, g⟩ N E w0 M L (fun E' L'' => E' = E ∧ L'' = .blk b cs' T (0, 0) :: R) := by
  subst hn
  subst hcs
  intro K hK a w hE hL
  have hL' := hL.perm hp.out.perm
  have hb : w.heap[b]? = some (.cells cs.toArray T (0, 0)) := hL.pick hp.out
  obtain ⟨w', hr, hh, he⟩ := run_stores P b o T 0 0 us 0 cs w hb (by omega) (by omega) h1
  have hr' : (execOp a.eval ⟨none, .store t x y, ty, pos, af, g⟩).run P w = .ok .skip w' := by
    simp [execOp, hE.ev hx, hE.ev hy, Instr.storeAt, Instr.sureAddr, run_storeVar hs hv, hr]
  unfold Oper.wp
  rw [hr']
  refine hK _ _ ⟨rfl, rfl⟩ _ _ hE (hL'.upd (x := .blk b cs T (0, 0)) .head (he.mono (by simp [Asn.foot])) hh (by simp [Asn.foot]) (by simp [Asn.foot]))
theorem ef_store {b o : Nat} {cs : List Value} {T : TypeId} {v : Value} (hs : Siz P t 1) (hx : ev E x = some (.pointer (some ⟨b, o, none⟩))) (hy : ev E y = some v) (h1 : v.oneCell' = true)
    [hp : PkBlk L b cs T (0, 0) R] (hl : o < cs.length) :
    Ef P Q ⟨none, .store t x y, ty, pos, af, g⟩ N E w0 M L (fun E' L'' => E' = E ∧ L'' = .blk b (cs.set o v) T (0, 0) :: R) :=
  ef_storeN (us := [v]) hs hx hy (cells_one h1) rfl (OneAll.cons h1 OneAll.nil) (splice_one cs o v hl) (by simp; omega)
/-- into an own row -/
theorem ef_storeEN {k sz n m : Nat} {s v : Value} {xs us xs' : List Value} {T : TypeId} (hs : Siz P t m) (hx : ev E x = some (eaddr s k)) (hy : ev E y = some v) (hv : v.cells = us.toArray) (hm : us.length = m) (h0 : 0 < m) (h1 : OneAll us)
    (hxs : splice xs k us = xs') [hp : PkOwn L s T sz n xs R] (hl : k + us.length ≤ xs.length) :
    Ef P Q ⟨none, .store t x y, ty, pos, af, g⟩ N E w0 M L (fun E' L'' => E' = E ∧ L'' = .own s T sz n xs' :: R) := by
  subst hm
  subst hxs
  intro K hK a w hE hL
  have hL' := hL.perm hp.out.perm
  have hb : OwnR w T sz s n xs := hL.pick hp.out
  rcases hb.2 with ⟨rfl, rfl⟩ | ⟨gb, cap, cur, lo, hi, rfl, hg, hf, hnc, hcm, hcs, htake⟩
  · have := hb.1
    simp at this
    subst this
    simp only [List.length_nil] at hl
    omega
  · have hlen := hb.1
    have hlc : xs.length ≤ cur.size := by rw [← htake]; simp; omega
    have hg' : w.heap[gb]? = some (.cells cur.toList.toArray T (lo, hi)) := by simpa using hg
    obtain ⟨w', hr, hh, he⟩ := run_stores P gb k T lo hi us 0 cur.toList w hg' (by simp; omega) (by intro j hj; simp at hj; omega) h1
    have hr' : (execOp a.eval ⟨none, .store t x y, ty, pos, af, g⟩).run P w = .ok .skip w' := by
      have : a.eval x = .pointer (some ⟨gb, k, none⟩) := by rw [hE.ev hx]; simp [eaddr, addr_add]
      simp [execOp, this, hE.ev hy, Instr.storeAt, Instr.sureAddr, run_storeVar hs hv, hr]
    unfold Oper.wp
    rw [hr']
    refine hK _ _ ⟨rfl, rfl⟩ _ _ hE (hL'.upd (x := .own _ T sz n xs) .head (he.mono (by simp [Asn.foot, Value.ownBlock])) ⟨by rw [length_splice hl]; exact hlen, .inr ⟨gb, cap, _, lo, hi, rfl, hh, ?_, hnc, hcm, ?_, ?_⟩⟩ (fun b hb => .inl hb) (by simp [Asn.foot, Value.ownBlock]))
    · simp only [Nat.add_zero, List.size_toArray]
      rw [length_splice (by simp; omega)]
      simpa using hf
    · simp only [Nat.add_zero, List.size_toArray]
      rw [length_splice (by simp; omega)]
      simpa using hcs
    · simp only [Nat.add_zero]
      rw [← htake]
      simp only [splice]
      rw [← hlen]
      apply List.ext_getElem?
      intro j
      simp only [List.getElem?_take, List.getElem?_append, List.length_append, List.length_take, List.getElem?_drop, Array.length_toList]
      have h2 : min xs.length cur.size = xs.length := by omega
      have h3 : min k cur.size = k := by omega
      have h4 : min k (min xs.length cur.size) = k := by omega
      rw [h3, h4]
      by_cases c1 : j < xs.length
      · simp only [c1, if_true]
        by_cases c2 : j < k + us.length
        · simp only [c2, if_true]
        · simp only [c2, if_false]
          rw [if_pos (by omega)]
      · simp only [c1, if_false]
        rw [if_neg (by omega)]
        rw [if_neg (by omega)]
theorem ef_storeE {k sz n : Nat} {s v : Value} {xs : List Value} {T : TypeId} (hs : Siz P t 1) (hx : ev E x = some (eaddr s k)) (hy : ev E y = some v) (h1 : v.oneCell' = true)
    [hp : PkOwn L s T sz n xs R] (hl : k < xs.length) :
    Ef P Q ⟨none, .store t x y, ty, pos, af, g⟩ N E w0 M L (fun E' L'' => E' = E ∧ L'' = .own s T sz n (xs.set k v) :: R) :=
  ef_storeEN (us := [v]) hs hx hy (cells_one h1) rfl (by simp) (OneAll.cons h1 OneAll.nil) (splice_one xs k v hl) (by simp; omega)

/-! ### slices that are made -/
theorem own_alloc {w : World} {T : TypeId} {sz n c : Nat} {cs xs : List Value} (hc : c * sz ≤ cs.length) (hn : n ≤ c) (hm : c ≤ maxLen) (ht : cs.take (n * sz) = xs) : OwnR (w.alloc (.cells cs.toArray T)) T sz (.slice (some ⟨w.heap.size, 0, none⟩) n c) n xs := by
  refine ⟨?_, .inr ⟨w.heap.size, c, cs.toArray, 0, 0, rfl, heap_alloc_new w _, by omega, hn, hm, by simpa using hc, by simpa using ht⟩⟩
  rw [← ht]
  have : n * sz ≤ c * sz := Nat.mul_le_mul_right _ hn
  simp
  omega
/-- A slice's literal of one element after the other, each of one cell. -/
theorem ef_lit {e : TypeId} {cs : List Value} {n : Nat} {parts : Array (Nat × Operand)} (hN : Nat.blt dd N = true) (hn : Nat.ble n 100000 = true)
    (hr : ∀ a w, Env N E a → (Instr.buildSlice t n (parts.map fun (i, x) => (i, a.eval x))).run P w = .ok (.slice (some ⟨w.heap.size, 0, none⟩) n n) (w.alloc (.cells cs.toArray e))) {sz : Nat} (hc : cs.length = n * sz) :
    Ef P Q ⟨some dd, .buildSlice t n parts, ty, pos, af, g⟩ N E w0 M L (fun E' L' => ∃ v, E' = (dd, v) :: E ∧ L' = .own v e sz n cs :: L) := by
  intro K hK a w hE hL
  have hr' : (execOp a.eval ⟨some dd, .buildSlice t n parts, ty, pos, af, g⟩).run P w = .ok (.value (.slice (some ⟨w.heap.size, 0, none⟩) n n)) (w.alloc (.cells cs.toArray e)) := by
    simp [execOp, hr a w hE]
  unfold Oper.wp
  rw [hr']
  have hm : n ≤ maxLen := by
    have : n ≤ 100000 := by simpa using hn
    simp only [maxLen]; omega
  refine hK _ _ ⟨_, rfl, rfl⟩ _ _ (hE.put hN _) (hL.add (Ext.alloc _ _ _) (own_alloc (by omega) (Nat.le_refl _) hm (by rw [← hc]; exact List.take_length)) (by simp [Asn.foot, Value.ownBlock]) (by simp [Asn.foot, Value.ownBlock]))
/-- []T{x}, T of one cell -/
theorem ef_lit1 {e : TypeId} {v u : Value} (hN : Nat.blt dd N = true) (hu : P.underlying t = some (.slice e)) (hs : Siz P e 1) (hz : Zer P e [u]) (hx : ev E x = some v) (h1 : v.oneCell' = true) :
    Ef P Q ⟨some dd, .buildSlice t 1 #[(0, x)], ty, pos, af, g⟩ N E w0 M L (fun E' L' => ∃ s, E' = (dd, s) :: E ∧ L' = .own s e 1 1 [v] :: L) :=
  ef_lit hN rfl (fun a w hE => by
    obtain ⟨zv, hz1, hz2⟩ := hz w
    have hc := cells_one h1
    simp [Instr.buildSlice, run_underlying hu, hs w, hz1, hz2, hE.ev hx, Instr.fill, hc, newRow, Array.range]
    try rfl) (by simp)
theorem ef_lit0 {e : TypeId} {sz : Nat} (hN : Nat.blt dd N = true) (hu : P.underlying t = some (.slice e)) (hs : Siz P e sz) :
    Ef P Q ⟨some dd, .buildSlice t 0 #[], ty, pos, af, g⟩ N E w0 M L (fun E' L' => ∃ s, E' = (dd, s) :: E ∧ L' = .own s e sz 0 [] :: L) :=
  ef_lit hN rfl (fun a w hE => by
    have e0 : Array.range 0 = #[] := rfl
    simp [Instr.buildSlice, run_underlying hu, hs w, Instr.fill, newRow, e0]) (by simp)
theorem ef_make {e : TypeId} {zs : List Value} {k k' : IntKind} {n bytes : Nat} (hN : Nat.blt dd N = true) (hu : P.underlying t = some (.slice e)) {z0 : Value} {sz : Nat} (hi : (P.info? e).map (fun i => (i.zero, i.size, i.bytes)) = some (some z0, sz, bytes)) (hz : z0.cells = zs.toArray) (hzl : zs.length = sz) (hx : ev E x = some (.int k (n : Int))) (hy : ev E y = some (.int k' (n : Int))) (hb : bytes * n ≤ 281474976710656) (hm : n ≤ 140737488355328) :
    Ef P Q ⟨some dd, .makeSlice t x y, ty, pos, af, g⟩ N E w0 M L (fun E' L' => ∃ s, E' = (dd, s) :: E ∧ L' = .own s e sz n (List.replicate n zs).flatten :: L) := by
  intro K hK a w hE hL
  obtain ⟨i0, hi0, hzz⟩ := Option.map_eq_some_iff.1 hi
  simp only [Prod.mk.injEq] at hzz
  obtain ⟨hz0, hz1, hz2⟩ := hzz
  subst hz1
  subst hz2
  have hb' : (i0.bytes : Int) * (n : Int) ≤ 281474976710656 := by
    have h : ((i0.bytes * n : Nat) : Int) ≤ 281474976710656 := by omega
    rwa [Int.natCast_mul] at h
  have hr := run_make (P := P) w t e i0 z0 hu hi0 hz0 k k' n n (by omega) (Int.le_refl _) hb' (by omega)
  simp only [Int.toNat_natCast] at hr
  have hcells : (madeCells z0.cells (n * i0.size)).toList = (List.replicate n zs).flatten := by
    rw [hz]
    apply List.ext_getElem?
    intro j
    have hlen : (List.replicate n zs).flatten.length = n * i0.size := by simp [hzl]
    by_cases hj : j < n * i0.size
    · have hpos : 0 < i0.size := by
        rcases Nat.eq_zero_or_pos i0.size with h0 | h0
        · rw [h0] at hj; simp at hj
        · exact h0
      have hmod : j % i0.size < i0.size := Nat.mod_lt _ hpos
      have key : ∀ m j, j < m * i0.size → (List.replicate m zs).flatten[j]? = zs[j % i0.size]? := by
        intro m
        induction m with
        | zero => intro j hj; simp at hj
        | succ m ih =>
          intro j hj
          rw [List.replicate_succ, List.flatten_cons]
          by_cases hlt : j < i0.size
          · rw [List.getElem?_append_left (by omega), Nat.mod_eq_of_lt hlt]
          · rw [List.getElem?_append_right (by omega), hzl, ih (j - i0.size) (by rw [Nat.add_mul] at hj; omega), ← Nat.mod_eq_sub_mod (by omega)]
      rw [key n j hj]
      simp [madeCells, hj, hzl, hmod]
    · have hml : (madeCells zs.toArray (n * i0.size)).toList.length = n * i0.size := by simp [madeCells]
      rw [List.getElem?_eq_none (by omega), List.getElem?_eq_none (by omega)]
  have hr' : (execOp a.eval ⟨some dd, .makeSlice t x y, ty, pos, af, g⟩).run P w = .ok (.value (.slice (some ⟨w.heap.size, 0, none⟩) n n)) (w.alloc (.cells (List.replicate n zs).flatten.toArray e)) := by
    rw [← hcells]
    simp [execOp, hE.ev hx, hE.ev hy, hr]
  unfold Oper.wp
  rw [hr']
  have hlen : (List.replicate n zs).flatten.length = n * i0.size := by simp [hzl]
  refine hK _ _ ⟨_, rfl, rfl⟩ _ _ (hE.put hN _) (hL.add (Ext.alloc _ _ _) (own_alloc (by omega) (Nat.le_refl _) (by simp only [maxLen]; omega) (by rw [← hlen]; exact List.take_length)) (by simp [Asn.foot, Value.ownBlock]) (by simp [Asn.foot, Value.ownBlock]))
end
end Go.Proofs.Ytdgmkbjopcopcaa
