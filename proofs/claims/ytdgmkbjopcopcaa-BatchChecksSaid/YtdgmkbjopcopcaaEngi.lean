/- An engine for walks, ninth part: copies, calls of function values, parts of arrays. Own work. -/
import Derived.Test.YtdgmkbjopcopcaaEngh
set_option linter.unusedVariables false
set_option linter.unusedSimpArgs false
namespace Go.Proofs.Ytdgmkbjopcopcaa
open Go.RowKit
section
variable {P : Program} {Q : Post} {fn : Func} {N : Nat} {E E' : List (Nat × Value)} {w0 : World} {M : List Nat} {L L' Lk R : Mem} {dd : Nat} {d : Option Nat} {ty : TypeId} {pos : String} {af : Array Edge} {g : Option (Nat × Bool)} {x y z : Operand} {t t' : TypeId}
/-- copy into a part of a block -/
theorem ef_copyB {e : TypeId} {b o dl dc sl m : Nat} {v : Value} {xs cs : List Value} {T : TypeId} (hN : Nat.blt dd N = true) (hu : P.underlying t = some (.slice e)) (hs : Siz P e 1) (hx : ev E x = some (.slice (some ⟨b, o, none⟩) dl dc)) (hy : ev E y = some v)
    (hr : ∀ w, Has w0 M L w → Rd w v 1 sl xs) (h1 : OneAll xs) [hp : PkBlk L b cs T (0, 0) R] (hm : min sl dl = m) (hl : o + m ≤ cs.length) :
    Ef P Q ⟨some dd, .call ⟨.builtin .copy, #[x, y], #[t, t']⟩, ty, pos, af, g⟩ N E w0 M L (fun E' L'' => E' = (dd, .int .i64 (m : Int)) :: E ∧ L'' = .blk b (splice cs o (xs.take m)) T (0, 0) :: R) := by
  intro K hK a w hE hL
  have hL' := hL.perm hp.out.perm
  have hb : w.heap[b]? = some (.cells cs.toArray T (0, 0)) := hL.pick hp.out
  obtain ⟨A, c, rfl, h2, h3, h4, h5⟩ := (hr w hL).form
  have hlen := (hr w hL).len
  have htl : (xs.take m).length = m := by simp; omega
  obtain ⟨w', hr1, hh, he⟩ := run_stores P b o T 0 0 (xs.take m) 0 cs w hb (by omega) (by omega) (h1.take m)
  have hfc : (Builtin.firstCells 1 m (.slice A sl c)).run P w = .ok (xs.take m).toArray w := by
    cases A with
    | none =>
      have := h4 rfl
      obtain rfl : sl = 0 := by omega
      have : xs = [] := List.eq_nil_of_length_eq_zero (by omega)
      subst this
      simp [Builtin.firstCells]
    | some ad =>
      have := run_loadCells_list (P := P) w ad (xs.take m) (fun j u hu => h5 ad rfl j u (by rw [List.getElem?_take] at hu; split at hu <;> simp_all))
      simp only [Builtin.firstCells, Nat.mul_one]
      rw [htl] at this
      exact this
  have hm' : Nat.min sl dl = m := hm
  have hr' : (execOp a.eval ⟨some dd, .call ⟨.builtin .copy, #[x, y], #[t, t']⟩, ty, pos, af, g⟩).run P w = .ok (.value (.int .i64 (m : Int))) w' := by
    simp [execOp, resolve, hE.ev hx, hE.ev hy, invoke, builtin, Builtin.copy_, run_underlying hu, Builtin.lenOf, hm', hs w, hfc, hr1, goInt]
  unfold Oper.wp
  rw [hr']
  exact hK _ _ ⟨rfl, rfl⟩ _ _ (hE.put hN _) (hL'.upd (x := .blk b cs T (0, 0)) .head (he.mono (by simp [Asn.foot])) (by simpa [Asn.holds] using hh) (by simp [Asn.foot]) (by simp [Asn.foot]))
/-- a call that changes one block, and tells how -/
theorem ef_call1x {X : Type} {f : FuncId} {xs : List Operand} {ts : Array TypeId} {vs : List Value} {b : Nat} {cs : List Value} {T T' : TypeId} {fr fr' : Nat × Nat} {v0 : X → Value} {cs' : X → List Value} {p : X → Prop} (hN : Nat.blt dd N = true) (hf : Fun P f) (hx : evs E xs = some vs) [hp : PkBlk L b cs T fr R]
    (hc : ∀ w, Has w0 M L w → Calls P f vs.toArray w (RP [b] w (fun v L' => ∃ x, p x ∧ v = v0 x ∧ L' = [.blk b (cs' x) T' fr']))) :
    Ef P Q ⟨some dd, .call ⟨.value (.func f), xs.toArray, ts⟩, ty, pos, af, g⟩ N E w0 M L (fun E' L' => ∃ x, p x ∧ E' = (dd, v0 x) :: E ∧ L' = .blk b (cs' x) T' fr' :: R) := by
  intro K hK a w hE hL
  refine ef_call1 hN hf hx hc K (fun E' L' hΦ => ?_) a w hE hL
  obtain ⟨v, Lc, rfl, rfl, x, h1, rfl, rfl⟩ := hΦ
  exact hK _ _ ⟨x, h1, rfl, rfl⟩
theorem ef_call1b {f : FuncId} {xs : List Operand} {ts : Array TypeId} {vs : List Value} {b : Nat} {cs : List Value} {T T' : TypeId} {fr fr' : Nat × Nat} {v0 : Value} {cs' : List Value} (hN : Nat.blt dd N = true) (hf : Fun P f) (hx : evs E xs = some vs) [hp : PkBlk L b cs T fr R]
    (hc : ∀ w, Has w0 M L w → Calls P f vs.toArray w (RP [b] w (fun v L' => v = v0 ∧ L' = [.blk b cs' T' fr']))) :
    Ef P Q ⟨some dd, .call ⟨.value (.func f), xs.toArray, ts⟩, ty, pos, af, g⟩ N E w0 M L (fun E' L' => E' = (dd, v0) :: E ∧ L' = .blk b cs' T' fr' :: R) := by
  intro K hK a w hE hL
  refine ef_call1 hN hf hx hc K (fun E' L' hΦ => ?_) a w hE hL
  obtain ⟨v, Lc, rfl, rfl, rfl, rfl⟩ := hΦ
  exact hK _ _ ⟨rfl, rfl⟩
/-- a call that hands back a new block -/
theorem ef_callf {f : FuncId} {xs : List Operand} {ts : Array TypeId} {vs : List Value} {cs : List Value} {T : TypeId} {fr : Nat × Nat} (hN : Nat.blt dd N = true) (hf : Fun P f) (hx : evs E xs = some vs)
    (hc : ∀ w, Has w0 M L w → Calls P f vs.toArray w (RP [] w (fun v L' => ∃ b, v = .pointer (some ⟨b, 0, none⟩) ∧ L' = [.blk b cs T fr]))) :
    Ef P Q ⟨some dd, .call ⟨.value (.func f), xs.toArray, ts⟩, ty, pos, af, g⟩ N E w0 M L (fun E' L' => ∃ b, E' = (dd, .pointer (some ⟨b, 0, none⟩)) :: E ∧ L' = .blk b cs T fr :: L) := by
  intro K hK a w hE hL
  refine ef_call (Lm := []) (R := L) hN hf hx ⟨L, by simp, rfl⟩ (by simp) hc K (fun E' L' hΦ => ?_) a w hE hL
  obtain ⟨v, Lc, rfl, rfl, b, rfl, rfl⟩ := hΦ
  exact hK _ _ ⟨b, rfl, rfl⟩
/-- a call that uses one block up -/
theorem ef_call1z {f : FuncId} {xs : List Operand} {ts : Array TypeId} {vs : List Value} {b : Nat} {cs : List Value} {T : TypeId} {fr : Nat × Nat} {v0 : Value} (hN : Nat.blt dd N = true) (hf : Fun P f) (hx : evs E xs = some vs) [hp : PkBlk L b cs T fr R]
    (hc : ∀ w, Has w0 M L w → Calls P f vs.toArray w (RP [b] w (fun v L' => v = v0 ∧ L' = []))) :
    Ef P Q ⟨some dd, .call ⟨.value (.func f), xs.toArray, ts⟩, ty, pos, af, g⟩ N E w0 M L (fun E' L' => E' = (dd, v0) :: E ∧ L' = R) := by
  intro K hK a w hE hL
  refine ef_call1 hN hf hx hc K (fun E' L' hΦ => ?_) a w hE hL
  obtain ⟨v, Lc, rfl, rfl, rfl, rfl⟩ := hΦ
  exact hK _ _ ⟨rfl, rfl⟩
theorem rdI_own {w : World} {M' : List Nat} {v : Value} {T : TypeId} {sz n : Nat} {us : List Value} [hp : PkOwn L v T sz n us R] (hw : Has w0 M L w) (hM : ∀ b ∈ M', b ∈ foots R) : RdI w M' v sz n us := hw.rdOwn hp.out hM
theorem rdI_own0 {w : World} {v : Value} {T : TypeId} {sz n : Nat} {us : List Value} [hp : PkOwn L v T sz n us R] (hw : Has w0 M L w) : RdI w [] v sz n us := hw.rdOwn hp.out (by simp)
theorem rdI_in0 {w : World} {v : Value} {sz n : Nat} {us : List Value} (hw : Has w0 M L w) (hr : RdI w0 M v sz n us) : RdI w [] v sz n us := hw.rdI hr (by simp)
/-- []T{x, y}, T of one cell -/
theorem ef_lit2 {e : TypeId} {v v' u : Value} (hN : Nat.blt dd N = true) (hu : P.underlying t = some (.slice e)) (hs : Siz P e 1) (hz : Zer P e [u]) (hx : ev E x = some v) (h1 : v.oneCell' = true) (hy : ev E y = some v') (h2 : v'.oneCell' = true) :
    Ef P Q ⟨some dd, .buildSlice t 2 #[(0, x), (1, y)], ty, pos, af, g⟩ N E w0 M L (fun E' L' => ∃ s, E' = (dd, s) :: E ∧ L' = .own s e 1 2 [v, v'] :: L) :=
  ef_lit hN rfl (fun a w hE => by
    obtain ⟨zv, hz1, hz2⟩ := hz w
    have hc := cells_one h1
    have hc2 := cells_one h2
    simp [Instr.buildSlice, run_underlying hu, hs w, hz1, hz2, hE.ev hx, hE.ev hy, Instr.fill, hc, hc2, newRow, Array.range]
    try rfl) (by simp)
/-- []byte to []byte: the row is marked behind its end -/
theorem ef_convOwn {e : TypeId} {v : Value} {n : Nat} {us : List Value} (hN : Nat.blt dd N = true) (hu : P.underlying t = some (.slice e)) (he : P.underlying e = some (.int .u8)) (hx : ev E x = some v) [hp : PkOwn L v e 1 (n + 1) us R] :
    Ef P Q ⟨some dd, .convert t t x, ty, pos, af, g⟩ N E w0 M L (fun E' L' => E' = (dd, v) :: E ∧ L' = .own v e 1 (n + 1) us :: R) := by
  intro K hK a w hE hL
  have hL' := hL.perm hp.out.perm
  have hb : OwnR w e 1 v (n + 1) us := hL.pick hp.out
  rcases hb.2 with ⟨_, h0⟩ | ⟨gb, cap, cur, lo, hi, rfl, hg, hf, hnc, hcm, hcs, htake⟩
  · omega
  · have hsh : w.shape? gb = some (e, cur.size) := by simp [World.shape?, hg]
    have hr' : (execOp a.eval ⟨some dd, .convert t t x, ty, pos, af, g⟩).run P w = .ok (.value (.slice (some ⟨gb, 0, none⟩) (n + 1) cap)) (w.freeze ⟨gb, cur.size, none⟩ 1) := by
      simp only [execOp, hE.ev hx, convert, Sem.run_bind, run_underlying hu, run_underlying he, Result.andThen_ok, markStringish, run_shape, beq_self_eq_true, hsh, run_freeze, Sem.run_pure]
    have hh : (w.freeze ⟨gb, cur.size, none⟩ 1).heap[gb]? = some (.cells cur e (if lo == hi then (cur.size, cur.size + 1) else (min lo cur.size, max hi (cur.size + 1)))) := by
      simp only [World.freeze, Nat.one_ne_zero, if_false, Array.getElem?_modify, if_true, hg]
      rfl
    have hext : Ext [gb] w (w.freeze ⟨gb, cur.size, none⟩ 1) := ⟨rfl, rfl, rfl, by simp [World.freeze], fun k hk hm => by
      simp only [World.freeze, Nat.one_ne_zero, if_false, Array.getElem?_modify]
      rw [if_neg (by intro e; simp at hm; omega)]⟩
    obtain ⟨lo', hi', hfr, hor⟩ : ∃ lo' hi', (if lo == hi then (cur.size, cur.size + 1) else (min lo cur.size, max hi (cur.size + 1))) = (lo', hi') ∧ cur.size ≤ lo' := by
      by_cases h : lo = hi
      · subst h
        exact ⟨cur.size, cur.size + 1, by simp, by omega⟩
      · have hb2 : (lo == hi) = false := by simpa using h
        exact ⟨min lo cur.size, max hi (cur.size + 1), by rw [hb2]; rfl, by omega⟩
    rw [hfr] at hh
    unfold Oper.wp
    rw [hr']
    exact hK _ _ ⟨rfl, rfl⟩ _ _ (hE.put hN _) (hL'.upd (x := .own _ e 1 (n + 1) us) .head (hext.mono (by simp [Asn.foot, Value.ownBlock])) ⟨hb.1, .inr ⟨gb, cap, cur, lo', hi', rfl, hh, .inr hor, hnc, hcm, hcs, htake⟩⟩ (fun b hb => .inl hb) (by simp [Asn.foot, Value.ownBlock]))
/-- a part of an array that is a value -/
theorem y_indexV {e : TypeId} {n : Nat} {k : IntKind} {i : Int} {cs : List Value} {v : Value} (hu : P.underlying t = some (.array n e)) (h1 : One P e) (hs : Siz P e 1) (hx : ev E x = some (.agg cs.toArray)) (hy : ev E y = some (.int k i)) (h0 : 0 ≤ i) (h2 : i < n) (hv : cs[i.toNat]? = some v) : Yl P ⟨d, .index t x y, ty, pos, af, g⟩ N E w0 M L v := fun a w hE hL => by
  simp [execOp, hE.ev hx, hE.ev hy, Instr.index, asIntOf, run_underlying hu, h0, h2, hs w, part, h1 w, hv]
theorem ef_callvv {f : FuncId} {xs : List Operand} {ts : Array TypeId} {vs : List Value} (c1 c2 : List Value) {v0 : Value} (hN : Nat.blt dd N = true) (hf : Fun P f) (hz : ev E z = some (.func (.func f) c1.toArray c2.toArray)) (hx : evs E xs = some vs)
    (hc : ∀ w, Has w0 M L w → Calls P f (c1 ++ vs ++ c2).toArray w (RV w v0)) :
    Ef P Q ⟨some dd, .call ⟨.value z, xs.toArray, ts⟩, ty, pos, af, g⟩ N E w0 M L (fun E' L' => E' = (dd, v0) :: E ∧ L' = L) := by
  intro K hK a w hE hL
  refine ef_callv (Lm := []) (R := L) hN hf hz hx ⟨L, by simp, rfl⟩ (by simp) hc K (fun E' L' hΦ => ?_) a w hE hL
  obtain ⟨v, Lc, rfl, rfl, rfl, rfl⟩ := hΦ
  exact hK _ _ ⟨rfl, rfl⟩
end
/-- nil is an own row -/
theorem Has.nilOwn {w0 w : World} {M : List Nat} {L : Mem} (h : Has w0 M L w) (T : TypeId) (sz : Nat) : Has w0 M (.own (.slice none 0 0) T sz 0 [] :: L) w := h.add (Ext.refl _ _) (OwnR.nil _ _ _) (by simp [Asn.foot, Value.ownBlock]) (by simp [Asn.foot, Value.ownBlock])
theorem map_at {α : Type} {f : α → Value} {l : List α} {a : α} {i j : Nat} (e : j = i) (h : l[i]? = some a) : (l.map f)[j]? = some (f a) := by
  subst e
  simp [h]
theorem map_set {α : Type} (f : α → Value) (l : List α) (i : Nat) (a : α) : (l.map f).set i (f a) = (l.set i a).map f := by simp
theorem map_splice {α : Type} (f : α → Value) (l us : List α) (i : Nat) : splice (l.map f) i (us.map f) = (l.take i ++ us ++ l.drop (i + us.length)).map f := by
  simp [splice]
end Go.Proofs.Ytdgmkbjopcopcaa
