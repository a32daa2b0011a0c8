/- What came in, opened: cells that read as data at a type. Own work. -/
import Derived.Test.YtdgmkbjopcopcaaEngn
import Derived.ProofKit
import Derived.OpenShut
import Derived.ChangeArms
set_option linter.unusedVariables false
set_option linter.unusedSimpArgs false
namespace Go.Proofs.Ytdgmkbjopcopcaa
open Go.RowKit
/-- cells that read as data at a type -/
def Cs (P : Program) (w : World) (t : TypeId) (cs : List Value) : Prop :=
  ∃ (H : Type) (enc : TypeId × Value → H) (spare : Nat → Bool) (fuel : Nat) (x : DataW H × List MemPlace), DataW.trod enc P w 0 spare true fuel t cs = some x
section
variable {P : Program} {w : World} {t : TypeId} {cs : List Value}
theorem Cs.of {H : Type} {enc : TypeId × Value → H} {spare : Nat → Bool} {v : Value} {d : DataW H} {ps : List MemPlace} (h : DataW.Trod enc P w 0 spare true t v d ps) : Cs P w t v.cells.toList := by
  obtain ⟨fuel, h⟩ := h
  exact ⟨H, enc, spare, fuel, _, h⟩
theorem Cs.int {k : IntKind} (h : Cs P w t cs) (ht : P.underlying t = some (.int k)) : ∃ n, cs = [.int k n] ∧ k.min ≤ n ∧ n ≤ k.max := by
  obtain ⟨H, enc, sp, fuel, x, h⟩ := h
  obtain ⟨n, rfl, _, hw⟩ := DataW.trod_int ht h
  simp only [Lit.wf, Bool.and_eq_true, decide_eq_true_eq] at hw
  exact ⟨n, rfl, hw⟩
theorem Cs.bool (h : Cs P w t cs) (ht : P.underlying t = some .bool) : ∃ b, cs = [.bool b] := by
  obtain ⟨H, enc, sp, fuel, x, h⟩ := h
  obtain ⟨b, rfl, _⟩ := DataW.trod_bool ht h
  exact ⟨b, rfl⟩
theorem Cs.str (h : Cs P w t cs) (ht : P.underlying t = some .string) : ∃ s : ByteArray, cs = [.string s] ∧ s.size ≤ 9223372036854775807 := by
  obtain ⟨H, enc, sp, fuel, x, h⟩ := h
  obtain ⟨s, rfl, _, hs⟩ := DataW.trod_string ht h
  exact ⟨s, rfl, by simp only [maxLen] at hs; omega⟩
theorem Cs.struct {fs : Array Field} (h : Cs P w t cs) (ht : P.underlying t = some (.struct fs)) : cs.length = P.cellsOf t ∧ ∀ (i : Nat) (f : Field), fs[i]? = some f → Cs P w f.type ((cs.drop f.offset).take (P.cellsOf f.type)) := by
  obtain ⟨H, enc, sp, fuel, x, h⟩ := h
  obtain ⟨xs, n, rfl, rfl, hl, hxs, hf⟩ := DataW.trod_struct ht h
  refine ⟨hl, fun i f hi => ?_⟩
  have h1 := hf i f hi
  have hlt : i < xs.length := by
    rw [hxs]
    exact (Array.getElem?_eq_some_iff.1 hi).1
  rw [List.getElem?_eq_getElem hlt] at h1
  exact ⟨H, enc, sp, n, _, h1⟩
theorem Cs.array {n : Nat} {e : TypeId} (h : Cs P w t cs) (ht : P.underlying t = some (.array n e)) : cs.length = P.cellsOf t ∧ ∀ i, i < n → Cs P w e ((cs.drop (i * P.cellsOf e)).take (P.cellsOf e)) := by
  obtain ⟨H, enc, sp, fuel, x, h⟩ := h
  obtain ⟨xs, m, rfl, rfl, hl, hxs, hf⟩ := DataW.trod_array ht h
  refine ⟨hl, fun i hi => ?_⟩
  have h1 := hf i hi
  rw [List.getElem?_eq_getElem (by omega)] at h1
  exact ⟨H, enc, sp, m, _, h1⟩
theorem cells_of {t : TypeId} {n : Nat} (h : (P.info? t).map (·.size) = some n) : P.cellsOf t = n := by simp [Program.cellsOf, h]
theorem Cs.bytes {n : Nat} {e : TypeId} (h : Cs P w t cs) (ht : P.underlying t = some (.array n e)) (he : P.underlying e = some (.int .u8)) (hc : P.cellsOf e = 1) (hn : P.cellsOf t = n) : ∃ l : List UInt8, l.length = n ∧ cs = bvs l := by
  obtain ⟨h1, h2⟩ := h.array ht
  rw [hn] at h1
  have key : ∀ i, i < n → ∃ b : UInt8, cs[i]? = some (bv b) := fun i hi => by
    have h3 := h2 i hi
    rw [hc, Nat.mul_one] at h3
    obtain ⟨m, hm, hlo, hhi⟩ := h3.int he
    have h4 : ((cs.drop i).take 1)[0]? = some (.int .u8 m) := by rw [hm]; rfl
    rw [List.getElem?_take, if_pos (by omega), List.getElem?_drop, Nat.add_zero] at h4
    simp only [IntKind.min, IntKind.max] at hlo hhi
    simp [IntKind.bits, IntKind.signed] at hlo hhi
    refine ⟨UInt8.ofNat m.toNat, ?_⟩
    rw [h4]
    simp only [bv]
    congr 2
    rw [UInt8.toNat_ofNat']
    omega
  clear h2 h
  subst h1
  clear hn ht
  induction cs with
  | nil => exact ⟨[], rfl, rfl⟩
  | cons c cs ih =>
    obtain ⟨b, hb⟩ := key 0 (by simp)
    obtain ⟨l, h5, h6⟩ := ih (fun i hi => by simpa using key (i + 1) (by simpa using hi))
    simp at hb
    exact ⟨b :: l, by simp [h5], by simp [bvs, hb, h6]⟩
/-- a slice: its elements one behind the other -/
theorem Cs.slice {e : TypeId} {sz : Nat} (h : Cs P w t cs) (ht : P.underlying t = some (.slice e)) (hc : P.cellsOf e = sz) : ∃ (v : Value) (xss : List (List Value)), cs = [v] ∧ Rd w v sz xss.length xss.flatten ∧ ∀ xs ∈ xss, xs.length = sz ∧ Cs P w e xs := by
  obtain ⟨H, enc, sp, fuel, x, h⟩ := h
  rcases DataW.trod_slice ht h with ⟨rfl, _⟩ | ⟨a, len, cap, elems, rest, n, _, rfl, rfl, hb, hl, hm, hlen, hel, _, _⟩
  · exact ⟨_, [], rfl, Rd.nil w sz, by simp⟩
  · subst hc
    have hel' : ∀ i, i < len → ∃ xs, w.cells? 0 (a.add (i * P.cellsOf e)) (P.cellsOf e) = some xs ∧ Cs P w e xs := fun i hi => by
      have h1 := hel i hi
      rw [List.getElem?_eq_getElem (by omega)] at h1
      obtain ⟨xs, h2, h3⟩ := Option.bind_eq_some_iff.1 h1
      exact ⟨xs, h2, H, enc, sp, n, _, h3⟩
    have hrow : ∀ (b : Addr) (m : Nat) (xs : List Value), w.cells? 0 b m = some xs → xs.length = m ∧ ∀ j u, xs[j]? = some u → w.cell? (b.add j) = some u := fun b m xs hx => by
      simp only [World.cells?, Nat.zero_le, if_true] at hx
      have hl := mapM_some_length hx
      simp at hl
      refine ⟨hl, fun j u hu => ?_⟩
      have hj : j < m := by rw [← hl]; exact (List.getElem?_eq_some_iff.1 hu).1
      have := mapM_some_get hx j j (by simp [hj])
      rw [this, hu]
    have key : ∀ m, m ≤ len → ∃ xss : List (List Value), xss.length = m ∧ (∀ xs ∈ xss, xs.length = P.cellsOf e ∧ Cs P w e xs) ∧ ∀ j u, xss.flatten[j]? = some u → w.cell? (a.add j) = some u := by
      intro m
      induction m with
      | zero => exact fun _ => ⟨[], rfl, by simp, by simp⟩
      | succ m ih =>
        intro hm
        obtain ⟨xss, h1, h2, h3⟩ := ih (by omega)
        obtain ⟨xs, h4, h5⟩ := hel' m (by omega)
        obtain ⟨h6, h7⟩ := hrow _ _ _ h4
        have hfl : xss.flatten.length = m * P.cellsOf e := by
          rw [← h1]
          clear h1 h3 ih h4
          induction xss with
          | nil => simp
          | cons y ys ih2 =>
            rw [List.flatten_cons, List.length_append, (h2 y (by simp)).1, ih2 (fun z hz => h2 z (by simp [hz])), List.length_cons, Nat.add_mul]
            omega
        refine ⟨xss ++ [xs], by simp [h1], fun ys hy => ?_, fun j u hu => ?_⟩
        · rcases List.mem_append.1 hy with hy | hy
          · exact h2 ys hy
          · simp at hy; subst hy; exact ⟨h6, h5⟩
        · rw [List.flatten_append, List.flatten_singleton, List.getElem?_append] at hu
          split at hu
          · exact h3 j u hu
          · rename_i hj
            have := h7 _ u hu
            rw [add_add, hfl] at this
            rw [hfl] at hj
            rwa [show m * P.cellsOf e + (j - m * P.cellsOf e) = j from by omega] at this
    obtain ⟨xss, h1, h2, h3⟩ := key len (Nat.le_refl _)
    have hfl : xss.flatten.length = len * P.cellsOf e := by
      rw [← h1]
      clear h1 h3
      induction xss with
      | nil => simp
      | cons y ys ih2 =>
        rw [List.flatten_cons, List.length_append, (h2 y (by simp)).1, ih2 (fun z hz => h2 z (by simp [hz])), List.length_cons, Nat.add_mul]
        omega
    exact ⟨_, xss, rfl, ⟨by rw [hfl, h1], some a, cap, by rw [h1], by omega, hm, by simp, fun ad hA j u hu => by
      simp only [Option.some.injEq] at hA
      subst hA
      exact h3 j u hu⟩, h2⟩
theorem cat_step {cs a : List Value} {o n : Nat} (h : (cs.drop o).take n = a) : cs.drop o = a ++ cs.drop (o + n) := by
  rw [← h, ← List.drop_drop, List.take_append_drop]
end

/-! ### the row's end: the law has told true, nothing that was there has turned -/
theorem kept_of_ext {w w' : World} (h : Ext [] w w') (may : MemPlace → Prop) : w.keptBut w' may := by
  refine ⟨h.os, h.output, fun i hi => ?_⟩
  have hb := h.block i hi (by simp)
  rw [hb]
  cases hx : w.heap[i]? with
  | none => rfl
  | some o =>
    cases o <;> simp
theorem trodAll_below {H : Type} {enc : TypeId × Value → H} {P : Program} {W W' : World} (hl : laidOutB P = true) (hb : Below W.heap.size W W') : ∀ {ts : List TypeId} {vs : List Value} {ds : List (DataW H)} {ps : List MemPlace},
    (∀ t ∈ ts, (P.readableRec t && decide (t < P.types.size)) = true) → DataW.TrodAll enc P W 0 (fun _ => true) true ts vs ds ps → (∀ x ∈ ps, x.block < W.heap.size) → DataW.TrodAll enc P W' 0 (fun b => decide (b < W.heap.size)) true ts vs ds ps
  | [], [], [], _, _, h, _ => h
  | t :: ts, v :: vs, d :: ds, ps, ht, h, hlt => by
    obtain ⟨p, q, h1, h2, rfl⟩ := h
    have h3 := ht t (by simp)
    simp only [Bool.and_eq_true, decide_eq_true_eq] at h3
    exact ⟨p, q, Below.trod hl h3.1 h3.2 h1 hb (fun x hx => hlt x (by simp [hx])), trodAll_below hl hb (fun u hu => ht u (by simp [hu])) h2 (fun x hx => hlt x (by simp [hx])), rfl⟩
  | [], _ :: _, _, _, _, h, _ => h.elim
  | [], [], _ :: _, _, _, h, _ => h.elim
  | _ :: _, [], _, _, _, h, _ => h.elim
  | _ :: _, _ :: _, [], _, _, h, _ => h.elim
theorem trodAll_len {H : Type} {enc : TypeId × Value → H} {P : Program} {W : World} {sp : Nat → Bool} : ∀ {ts : List TypeId} {vs : List Value} {ds : List (DataW H)} {ps : List MemPlace}, DataW.TrodAll enc P W 0 sp true ts vs ds ps → ds.length = ts.length
  | [], [], [], _, _ => rfl
  | t :: ts, v :: vs, d :: ds, ps, h => by
    obtain ⟨p, q, h1, h2, rfl⟩ := h
    simp [trodAll_len h2]
  | [], _ :: _, _, _, h => h.elim
  | [], [], _ :: _, _, h => h.elim
  | _ :: _, [], _, _, h => h.elim
  | _ :: _, _ :: _, [], _, h => h.elim
theorem post_true {H : Type} {enc : TypeId × Value → H} {P : Program} {fn : Func} {s : ChangeSpec} {W W' : World} {args : Array Value} {ds gs : List (DataW H)} {before : List MemPlace} {tb : TypeId} (hl : laidOutB P = true) (hts : (fn.params.toList.all fun t => P.readableRec t && decide (t < P.types.size)) = true)
    (hr : fn.resultTypes = #[tb]) (htb : P.underlying tb = some .bool) (hsv : s.vars = []) (hfn : ∀ ds : List (DataW H), ds.length = fn.params.size → s.fn H ds = { results := [.lit (.bool true)], args := ds })
    (hW : DataW.Whole enc P fn.params.toList s.vars false W args.toList ds gs before) (hE : Ext [] W W') : s.post enc P fn false true false false W args (.bool true) W' := by
  have hlt := hW.lt
  have hW0 := hW
  obtain ⟨p, q, hA, hV, rfl, hz, hn⟩ := hW
  rw [hsv] at hV
  obtain ⟨rfl, rfl⟩ : gs = [] ∧ q = [] := by
    cases gs with
    | nil => exact ⟨rfl, hV⟩
    | cons g gs => exact hV.elim
  have hlen := trodAll_len hA
  have hf := hfn ds (by simpa using hlen)
  simp only [List.append_nil] at hW0 hlt
  refine ⟨ds, [], p, [], p, [], hW0, ?_, ?_, ?_, kept_of_ext hE _, by simp⟩
  · rw [List.append_nil, hf, hr]
    exact ⟨[], [], ⟨1, by simp [DataW.trod, htb, Value.cells]⟩, rfl, rfl⟩
  · rw [List.append_nil, hf]
    exact trodAll_below hl hE.below (fun t ht => List.all_eq_true.1 hts t ht) hA hlt
  · rw [List.append_nil, hf, hsv]
    rfl
end Go.Proofs.Ytdgmkbjopcopcaa
