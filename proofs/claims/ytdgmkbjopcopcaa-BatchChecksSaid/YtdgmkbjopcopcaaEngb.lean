/- An engine for walks, second part: the judgements, the structure's rules. Own work. -/
import Derived.Test.YtdgmkbjopcopcaaEng
import Derived.OrdersHeld
set_option linter.unusedVariables false
set_option linter.unusedSimpArgs false
namespace Go.Proofs.Ytdgmkbjopcopcaa
open Go.RowKit

/-! ### a region that draws its order, its last operation told apart -/
section
variable {P : Program} {ops : Array Oper} {Q : Exit → Act → World → Prop} {md : Region.Mode} {S : World → Prop}
def preds (ops : Array Oper) (k : Nat) : List Nat := match ops[k]? with
  | none => []
  | some o => (o.after.toList.filter fun e => Region.binds .any e).map (·.on)
def close (ops : Array Oper) : Nat → List Nat → List Nat
  | 0, l => l
  | n + 1, l => close ops n (l ++ l.flatMap (preds ops)).eraseDups
/-- every other operation must come ahead of j, or behind it -/
def lastB (ops : Array Oper) (j : Nat) : Bool := (List.range ops.size).all fun k => k == j || (close ops 6 (preds ops j)).contains k || (close ops 6 (preds ops k)).contains j
/-- What is done has all done that it waits for. -/
def Closed (ops : Array Oper) (listed : Array Bool) : Prop := ∀ j, listed.getD j true = true → ∀ k ∈ preds ops j, listed.getD k false = true
theorem preds_ready {j k : Nat} {listed : Array Bool} (h : j ∈ Region.ready .any ops listed) (hk : k ∈ preds ops j) : listed.getD k false = true := by
  obtain ⟨_, o, ho, hall⟩ := mem_ready.1 h
  simp only [preds, ho, List.mem_map, List.mem_filter] at hk
  obtain ⟨e, ⟨he, hb⟩, rfl⟩ := hk
  exact hall e (by simpa using he) hb
theorem getD_false {listed : Array Bool} {k : Nat} (h : listed.getD k false = true) : listed.getD k true = true := by
  simp only [Array.getD_eq_getD_getElem?] at h ⊢
  cases hq : listed[k]? with
  | none => simp
  | some b => simpa [hq] using h
theorem close_listed {listed : Array Bool} (hc : Closed ops listed) : ∀ (n : Nat) (l : List Nat), (∀ k ∈ l, listed.getD k false = true) → ∀ k ∈ close ops n l, listed.getD k false = true
  | 0, _, h => h
  | n + 1, l, h => close_listed hc n _ fun k hk => by
    rw [List.mem_eraseDups] at hk
    rcases List.mem_append.1 hk with hk | hk
    · exact h k hk
    · obtain ⟨j, hj, hk⟩ := List.mem_flatMap.1 hk
      exact hc j (getD_false (h j hj)) k hk
theorem last_alone {i j : Nat} {listed : Array Bool} (hc : Closed ops listed) (hi : i ∈ Region.ready .any ops listed) (hj : j ∈ Region.ready .any ops listed) (hne : j ≠ i) : lastB ops j = false := by
  cases hb : lastB ops j with
  | false => rfl
  | true =>
    obtain ⟨h0, o, ho, _⟩ := mem_ready.1 hi
    have hlt : i < ops.size := (Array.getElem?_eq_some_iff.1 ho).1
    have := List.all_eq_true.1 hb i (List.mem_range.2 hlt)
    simp only [Bool.or_eq_true, beq_iff_eq, List.contains_iff_mem] at this
    rcases this with (e | e) | e
    · exact absurd e.symm hne
    · have := getD_false (close_listed hc 6 _ (fun k hk => preds_ready hj hk) i e)
      rw [h0] at this
      cases this
    · have := getD_false (close_listed hc 6 _ (fun k hk => preds_ready hi hk) j e)
      rw [(mem_ready.1 hj).1] at this
      cases this
theorem Closed.set {i : Nat} {listed : Array Bool} (hc : Closed ops listed) (hi : i ∈ Region.ready .any ops listed) : Closed ops (listed.setIfInBounds i true) := by
  intro j hj k hk
  by_cases e : i = j
  · subst e
    exact getD_set_true (preds_ready hi hk)
  · rw [getD_set_ne true e] at hj
    exact getD_set_true (hc j hj k hk)
theorem Closed.start (ops : Array Oper) (n : Nat) (hn : ops.size ≤ n) : Closed ops (Array.replicate n false) := by
  intro j hj k hk
  by_cases h : j < n
  · simp [h] at hj
  · simp only [preds] at hk
    rw [Array.getElem?_eq_none (by omega)] at hk
    simp at hk
/-- Whatever order is picked; S holds behind each operation that is not the last. -/
def wpK (P : Program) (ops : Array Oper) (Q : Exit → Act → World → Prop) (S : World → Prop) : Nat → Array Bool → Act → World → Prop
  | 0, listed, a, w => Region.ready .any ops listed = [] ∧ Q .normal a w
  | n + 1, listed, a, w => (Region.ready .any ops listed = [] → Q .normal a w) ∧
    ∀ i ∈ Region.ready .any ops listed, wpOp P ops Q i (fun a' w' => (lastB ops i = false → S w') ∧ wpK P ops Q S n (listed.setIfInBounds i true) a' w') a w
theorem wpAny_of_wpK : ∀ (n : Nat) (listed : Array Bool) (a : Act) (w : World), wpK P ops Q S n listed a w → wpAny P .any ops Q n listed a w
  | 0, _, _, _, h => h
  | n + 1, _, _, _, h => ⟨h.1, fun i hi => wpOp_mono (fun a' w' h' => wpAny_of_wpK n _ a' w' h'.2) (h.2 i hi)⟩
theorem wpK_first {i : Nat} {oi : Oper} {v : Value} (hi : ops[i]? = some oi) (hs : Region.noSelect ops = true) (hQ : ∀ c a w, Q (.panic c) (a.put oi.dst v) w → Q (.panic c) a w) :
    ∀ (n : Nat) (listed : Array Bool) (a : Act) (w : World), Closed ops listed →
      (∀ j oj, ops[j]? = some oj → j ≠ i → listed.getD j true = false → (∀ e ∈ oj.after, Region.binds .any e = true → e.on ≠ i) → oi.apart ops oj = true) →
      i ∈ Region.ready .any ops listed → YieldsIf P ops S oi v a → S w →
      wpK P ops Q S n (listed.setIfInBounds i true) (a.put oi.dst v) w → wpK P ops Q S (n + 1) listed a w
  | n, listed, a, w, hc, hfree, hr, hy, hS, H => by
    refine ⟨fun h => (by rw [h] at hr; cases hr), fun j hj => ?_⟩
    by_cases hji : j = i
    · subst hji; exact hy.wpOp hi hS ⟨fun _ => hS, H⟩
    · cases n with
      | zero =>
        have := ready_mono hj hji
        rw [H.1] at this
        cases this
      | succ n =>
        have hlast := last_alone hc hr hj hji
        have h1 := H.2 j (ready_mono hj hji)
        obtain ⟨hjun, oj, hoj, hall⟩ := mem_ready.1 hj
        have hun : listed.getD i false = false := by
          have h0 := (mem_ready.1 hr).1
          simp only [Array.getD_eq_getD_getElem?] at h0 ⊢
          cases hq : listed[i]? with
          | none => simp
          | some b => simpa [hq] using h0
        have hnot : ∀ e ∈ oj.after, Region.binds .any e = true → e.on ≠ i := fun e he hb heq => by
          have := hall e he hb
          rw [heq, hun] at this
          cases this
        have h2 := wpOp_putIf (S := S) hoj (hfree j oj hoj hji hjun hnot) (fun cs b => Region.noSelect_spec hs i oi cs b hi) (fun cs b => Region.noSelect_spec hs j oj cs b hoj) hQ hy h1
        have hfree' : ∀ k ok, ops[k]? = some ok → k ≠ i → (listed.setIfInBounds j true).getD k true = false → (∀ e ∈ ok.after, Region.binds .any e = true → e.on ≠ i) → oi.apart ops ok = true := fun k ok hk hki hun' hno => by
          refine hfree k ok hk hki ?_ hno
          by_cases hjk : j = k
          · subst hjk; exact hjun
          · rw [getD_set_ne true hjk] at hun'; exact hun'
        refine wpOp_mono (fun a' w' h3 => ⟨fun _ => h3.2.1 hlast, wpK_first hi hs hQ n (listed.setIfInBounds j true) a' w' (hc.set hj) hfree' (ready_mono hr (Ne.symm hji)) h3.1 (h3.2.1 hlast) ?_⟩) h2
        rw [Array.setIfInBounds_comm _ _ hji]
        exact h3.2.2
theorem wpK_take {i : Nat} {oi : Oper} {v : Value} {n : Nat} {listed : Array Bool} {a : Act} {w : World} (hc : Closed ops listed) (hi : ops[i]? = some oi) (hs : Region.noSelect ops = true) (hf : Region.free .any ops listed i = true) (hr : (Region.ready .any ops listed).contains i = true)
    (hQ : ∀ c a w, Q (.panic c) (a.put oi.dst v) w → Q (.panic c) a w) (hy : YieldsIf P ops S oi v a) (hS : S w) (h : wpK P ops Q S n (listed.setIfInBounds i true) (a.put oi.dst v) w) : wpK P ops Q S (n + 1) listed a w :=
  wpK_first hi hs hQ n listed a w hc (Region.free_spec hi hf) (by simpa using hr) hy hS h
theorem wpK_all {rs : List Nat} {n : Nat} {listed : Array Bool} {a : Act} {w : World} (hr : Region.ready .any ops listed = rs) (hne : rs ≠ [])
    (h : ∀ i ∈ rs, wpOp P ops Q i (fun a' w' => (lastB ops i = false → S w') ∧ wpK P ops Q S n (listed.setIfInBounds i true) a' w') a w) : wpK P ops Q S (n + 1) listed a w :=
  ⟨fun h0 => absurd (hr ▸ h0) hne, hr ▸ h⟩
theorem wpK_done {listed : Array Bool} {a : Act} {w : World} (hr : Region.ready .any ops listed = []) (h : Q .normal a w) : ∀ n, wpK P ops Q S n listed a w
  | 0 => ⟨hr, h⟩
  | _ + 1 => ⟨fun _ => h, by rw [hr]; simp⟩
end

abbrev Post := Exit → Act → World → Prop
section
variable (P : Program)
/-- From every frame that E tells and every memory that L tells. -/
def WL (ops : Array Oper) (Q : Post) (l : List Oper) (N : Nat) (E : List (Nat × Value)) (w0 : World) (M : List Nat) (L : Mem) : Prop :=
  ∀ a w, Env N E a → Has w0 M L w → wpList P ops Q l a w
def WC (Q : Post) (c : Code) (N : Nat) (E : List (Nat × Value)) (w0 : World) (M : List Nat) (L : Mem) : Prop :=
  ∀ a w, Env N E a → Has w0 M L w → c.wp P Q a w
/-- A region that draws its order: what stands in 'listed' is done. Lk: what no operation of the region changes. -/
def WA (ops : Array Oper) (Q : Post) (listed : Array Bool) (n : Nat) (N : Nat) (E : List (Nat × Value)) (w0 : World) (M : List Nat) (L Lk : Mem) : Prop :=
  Closed ops listed → ∀ a w, Env N E a → Has w0 M L w → wpK P ops Q (Has w0 M Lk) n listed a w
end
def AtQ (Q : Post) (e : Exit) (N : Nat) (E : List (Nat × Value)) (w0 : World) (M : List Nat) (L : Mem) : Prop :=
  ∀ a w, Env N E a → Has w0 M L w → Q e a w

/-- What an operation only reads, or reckons. -/
def Yl (P : Program) (o : Oper) (N : Nat) (E : List (Nat × Value)) (w0 : World) (M : List Nat) (L : Mem) (v : Value) : Prop :=
  ∀ a w, Env N E a → Has w0 M L w → (execOp a.eval o).run P w = .ok (.value v) w
/-- What an operation does. -/
def Ef (P : Program) (Q : Post) (o : Oper) (N : Nat) (E : List (Nat × Value)) (w0 : World) (M : List Nat) (L : Mem) (Φ : List (Nat × Value) → Mem → Prop) : Prop :=
  ∀ K : Act → World → Prop, (∀ E' L', Φ E' L' → ∀ a w, Env N E' a → Has w0 M L' w → K a w) → ∀ a w, Env N E a → Has w0 M L w → o.wp P a w K Q

section
variable {P : Program} {Q : Post} {N : Nat} {E E' : List (Nat × Value)} {w0 : World} {M : List Nat} {L L' Lk : Mem} {ops : Array Oper} {rest : List Oper} {o : Oper}

/-! ### regions in the order of the text -/
theorem wc_region {id : Nat} {l : List Oper} (h : WL P l.toArray Q l N E w0 M L) : WC P Q (.region id l.toArray false) N E w0 M L :=
  fun a w hE hL => wp_region_lit (h a w hE hL)
theorem wl_nil (h : AtQ Q .normal N E w0 M L) : WL P ops Q [] N E w0 M L := fun a w hE hL => wpList_nil (h a w hE hL)
theorem wl_val {d : Nat} {v : Value} (hg : o.guard = none) (hd : o.dst = some d) (hN : Nat.blt d N = true) (hy : Yl P o N E w0 M L v) (k : WL P ops Q rest N ((d, v) :: E) w0 M L) : WL P ops Q (o :: rest) N E w0 M L := by
  intro a w hE hL
  refine wpList_plain hg fun K hK => ?_
  unfold Oper.wp
  rw [hy a w hE hL]
  show K (a.put o.dst v) w
  rw [hd]
  exact hK _ _ (k _ _ (hE.put hN v) hL)
theorem wl_ef {Φ : List (Nat × Value) → Mem → Prop} (hg : o.guard = none) (he : Ef P Q o N E w0 M L Φ) (k : ∀ E' L', Φ E' L' → WL P ops Q rest N E' w0 M L') : WL P ops Q (o :: rest) N E w0 M L := by
  intro a w hE hL
  exact wpList_plain hg fun K hK => he K (fun E' L' hΦ a w h1 h2 => hK _ _ (k E' L' hΦ a w h1 h2)) a w hE hL

def boolOf : Value → Option Bool
  | .bool b => some b
  | _ => none
/-- the temporary that operation j writes -/
def dstOf (ops : Array Oper) (j : Nat) : Option Nat := (ops[j]?).bind (·.dst)
theorem wanted_of {a : Act} {j t : Nat} {want : Bool} {v : Value} (hE : Env N E a) (hg : o.guard = some (j, want)) (hj : dstOf ops j = some t) (ht : Nat.blt t N = true) (hl : lk E t = some v) :
    Region.wanted o (yielded ops a.tmps) = (boolOf v == some want) := by
  have hv := hE.get t v hl
  have htN : t < a.tmps.size := by
    have := hE.size
    have h2 := ht
    simp [Nat.blt] at h2
    omega
  have hq : a.tmps[t]? = some v := by
    simp only [Array.getD_eq_getD_getElem?, Array.getElem?_eq_getElem htN, Option.getD_some] at hv
    rw [Array.getElem?_eq_getElem htN, hv]
  simp only [Region.wanted, hg, yielded]
  unfold dstOf at hj
  rw [hj]
  simp only [Option.bind_some, hq]
  cases v <;> simp [boolOf]
theorem wl_gval {j t d : Nat} {want : Bool} {u v : Value} (hg : o.guard = some (j, want)) (hj : dstOf ops j = some t) (ht : Nat.blt t N = true) (hl : lk E t = some u) (hb : (boolOf u == some want) = true)
    (hd : o.dst = some d) (hN : Nat.blt d N = true) (hy : Yl P o N E w0 M L v) (k : WL P ops Q rest N ((d, v) :: E) w0 M L) : WL P ops Q (o :: rest) N E w0 M L := by
  intro a w hE hL
  refine wpList_step fun K hK => ?_
  rw [wanted_of hE hg hj ht hl, hb, if_pos rfl]
  unfold Oper.wp
  rw [hy a w hE hL]
  show K (a.put o.dst v) w
  rw [hd]
  exact hK _ _ (k _ _ (hE.put hN v) hL)
theorem wl_gef {j t : Nat} {want : Bool} {u : Value} {Φ : List (Nat × Value) → Mem → Prop} (hg : o.guard = some (j, want)) (hj : dstOf ops j = some t) (ht : Nat.blt t N = true) (hl : lk E t = some u) (hb : (boolOf u == some want) = true)
    (he : Ef P Q o N E w0 M L Φ) (k : ∀ E' L', Φ E' L' → WL P ops Q rest N E' w0 M L') : WL P ops Q (o :: rest) N E w0 M L := by
  intro a w hE hL
  refine wpList_step fun K hK => ?_
  rw [wanted_of hE hg hj ht hl, hb, if_pos rfl]
  exact he K (fun E' L' hΦ a w h1 h2 => hK _ _ (k E' L' hΦ a w h1 h2)) a w hE hL
theorem wl_gskip {j t d : Nat} {want : Bool} {u : Value} (hg : o.guard = some (j, want)) (hj : dstOf ops j = some t) (ht : Nat.blt t N = true) (hl : lk E t = some u) (hb : (boolOf u == some want) = false)
    (hd : o.dst = some d) (hN : Nat.blt d N = true) (k : WL P ops Q rest N ((d, undef) :: E) w0 M L) : WL P ops Q (o :: rest) N E w0 M L := by
  intro a w hE hL
  refine wpList_step fun K hK => ?_
  rw [wanted_of hE hg hj ht hl, hb, if_neg (by simp), hd]
  exact hK _ _ (k _ _ (hE.put hN undef) hL)
theorem wl_gskip0 {j t : Nat} {want : Bool} {u : Value} (hg : o.guard = some (j, want)) (hj : dstOf ops j = some t) (ht : Nat.blt t N = true) (hl : lk E t = some u) (hb : (boolOf u == some want) = false)
    (hd : o.dst = none) (k : WL P ops Q rest N E w0 M L) : WL P ops Q (o :: rest) N E w0 M L := by
  intro a w hE hL
  refine wpList_step fun K hK => ?_
  rw [wanted_of hE hg hj ht hl, hb, if_neg (by simp), hd]
  exact hK _ _ (k _ _ hE hL)
/-- A test is decided now. -/
theorem wl_split {l : List Oper} {t : Nat} {p : Prop} {i : Decidable p} (hl : lk E t = some (.bool (@decide p i))) (ht : p → WL P ops Q l N ((t, .bool true) :: E) w0 M L) (hf : ¬ p → WL P ops Q l N ((t, .bool false) :: E) w0 M L) : WL P ops Q l N E w0 M L := by
  intro a w hE hL
  by_cases hp : p
  · refine ht hp a w ⟨hE.size, hE.defers, fun k v hk => ?_⟩ hL
    simp only [lk] at hk
    cases hb : Nat.beq t k with
    | true =>
      have := Nat.eq_of_beq_eq_true hb
      subst this
      rw [hb] at hk
      simp at hk
      subst hk
      simpa [hp] using hE.get _ _ hl
    | false => rw [hb] at hk; exact hE.get k v hk
  · refine hf hp a w ⟨hE.size, hE.defers, fun k v hk => ?_⟩ hL
    simp only [lk] at hk
    cases hb : Nat.beq t k with
    | true =>
      have := Nat.eq_of_beq_eq_true hb
      subst this
      rw [hb] at hk
      simp at hk
      subst hk
      simpa [hp] using hE.get _ _ hl
    | false => rw [hb] at hk; exact hE.get k v hk
theorem wl_splitb {l : List Oper} {t : Nat} {p : Bool} (hl : lk E t = some (.bool p)) (ht : p = true → WL P ops Q l N ((t, .bool true) :: E) w0 M L) (hf : p = false → WL P ops Q l N ((t, .bool false) :: E) w0 M L) : WL P ops Q l N E w0 M L := by
  refine wl_split (t := t) (p := p = true) (i := inferInstance) (by rw [hl]; cases p <;> rfl) ht (fun h => hf (by simpa using h))

/-! ### regions that draw their order -/
theorem wa_begin {id : Nat} {l : List Oper} {n : Nat} {b : Array Bool} (hm : P.follows .mixedOrders = true) (hn : l.length = n) (hb : Array.replicate n false = b) (h : WA P l.toArray Q b n N E w0 M L Lk) : WC P Q (.region id l.toArray true) N E w0 M L := by
  intro a w hE hL
  subst hn
  subst hb
  refine wp_region_any hm (wpAny_of_wpK (S := Has w0 M Lk) _ _ _ _ ?_)
  have := h (Closed.start _ _ (by simp)) a { w with drawn := w.drawn + 1 } hE (hL.same (Ext.drew w))
  simpa using this
/-- No post of ours tells a panic by the frame. -/
def Calm (Q : Post) : Prop := ∀ c d v a w, Q (.panic c) (a.put d v) w → Q (.panic c) a w
theorem wa_take {i n d : Nat} {v : Value} {listed : Array Bool} (hi : ops[i]? = some o) (hs : Region.noSelect ops = true) (hf : Region.free .any ops listed i = true) (hr : (Region.ready .any ops listed).contains i = true) (hQ : Calm Q)
    (hg : o.guard = none) (hd : o.dst = some d) (hN : Nat.blt d N = true) (hsub : SubL L Lk) (hy : Yl P o N E w0 M Lk v) {listed' : Array Bool} (hl' : listed.setIfInBounds i true = listed')
    (k : WA P ops Q listed' n N ((d, v) :: E) w0 M L Lk) : WA P ops Q listed (n + 1) N E w0 M L Lk := by
  intro hcl a w hE hL
  subst hl'
  refine wpK_take hcl hi hs hf hr (fun c a w h => hQ c _ _ a w h) (.inl ⟨by simp [Region.wanted, hg], fun w' hw' => hy a w' hE hw'⟩) (hL.sub hsub) ?_
  rw [hd]
  exact k (hcl.set (by simpa using hr)) _ _ (hE.put hN v) hL
theorem wa_gtake {i n d j t : Nat} {want : Bool} {u v : Value} {listed : Array Bool} (hi : ops[i]? = some o) (hs : Region.noSelect ops = true) (hf : Region.free .any ops listed i = true) (hr : (Region.ready .any ops listed).contains i = true) (hQ : Calm Q)
    (hg : o.guard = some (j, want)) (hj : dstOf ops j = some t) (ht : Nat.blt t N = true) (hl : lk E t = some u) (hb : (boolOf u == some want) = true)
    (hd : o.dst = some d) (hN : Nat.blt d N = true) (hsub : SubL L Lk) (hy : Yl P o N E w0 M Lk v) {listed' : Array Bool} (hl' : listed.setIfInBounds i true = listed')
    (k : WA P ops Q listed' n N ((d, v) :: E) w0 M L Lk) : WA P ops Q listed (n + 1) N E w0 M L Lk := by
  intro hcl a w hE hL
  subst hl'
  refine wpK_take hcl hi hs hf hr (fun c a w h => hQ c _ _ a w h) (.inl ⟨by rw [wanted_of hE hg hj ht hl, hb], fun w' hw' => hy a w' hE hw'⟩) (hL.sub hsub) ?_
  rw [hd]
  exact k (hcl.set (by simpa using hr)) _ _ (hE.put hN v) hL
theorem wa_gskip {i n d j t : Nat} {want : Bool} {u : Value} {listed : Array Bool} (hi : ops[i]? = some o) (hs : Region.noSelect ops = true) (hf : Region.free .any ops listed i = true) (hr : (Region.ready .any ops listed).contains i = true) (hQ : Calm Q)
    (hg : o.guard = some (j, want)) (hj : dstOf ops j = some t) (ht : Nat.blt t N = true) (hl : lk E t = some u) (hb : (boolOf u == some want) = false)
    (hd : o.dst = some d) (hN : Nat.blt d N = true) (hsub : SubL L Lk) {listed' : Array Bool} (hl' : listed.setIfInBounds i true = listed')
    (k : WA P ops Q listed' n N ((d, undef) :: E) w0 M L Lk) : WA P ops Q listed (n + 1) N E w0 M L Lk := by
  intro hcl a w hE hL
  subst hl'
  refine wpK_take hcl hi hs hf hr (fun c a w h => hQ c _ _ a w h) (.inr ⟨by rw [wanted_of hE hg hj ht hl, hb], rfl⟩) (hL.sub hsub) ?_
  rw [hd]
  exact k (hcl.set (by simpa using hr)) _ _ (hE.put hN undef) hL
/-- One operation alone may come up, and it does what Φ says. -/
theorem wa_ef {i n : Nat} {listed : Array Bool} {Φ : List (Nat × Value) → Mem → Prop} (hr : Region.ready .any ops listed = [i]) (hi : ops[i]? = some o) (hg : o.guard = none) {listed' : Array Bool} (hl' : listed.setIfInBounds i true = listed')
    (he : Ef P Q o N E w0 M L Φ) (k : ∀ E' L', Φ E' L' → (lastB ops i = true ∨ SubL L' Lk) ∧ WA P ops Q listed' n N E' w0 M L' Lk) : WA P ops Q listed (n + 1) N E w0 M L Lk := by
  intro hcl a w hE hL
  subst hl'
  have hcl' := hcl.set (i := i) (by rw [hr]; simp)
  refine wpK_all hr (by simp) fun j hj => ?_
  simp only [List.mem_singleton] at hj
  subst hj
  unfold wpOp
  simp only [hi, Region.wanted, hg, if_true]
  exact .inl (he _ (fun E' L' hΦ a w h1 h2 => ⟨fun hb => (k E' L' hΦ).1.elim (fun e => by rw [e] at hb; cases hb) (fun e => h2.sub e), (k E' L' hΦ).2 hcl' a w h1 h2⟩) a w hE hL)
theorem wa_gef {i n j t : Nat} {want : Bool} {u : Value} {listed : Array Bool} {Φ : List (Nat × Value) → Mem → Prop} (hr : Region.ready .any ops listed = [i]) (hi : ops[i]? = some o)
    (hg : o.guard = some (j, want)) (hj : dstOf ops j = some t) (ht : Nat.blt t N = true) (hl : lk E t = some u) (hb : (boolOf u == some want) = true) {listed' : Array Bool} (hl' : listed.setIfInBounds i true = listed')
    (he : Ef P Q o N E w0 M L Φ) (k : ∀ E' L', Φ E' L' → (lastB ops i = true ∨ SubL L' Lk) ∧ WA P ops Q listed' n N E' w0 M L' Lk) : WA P ops Q listed (n + 1) N E w0 M L Lk := by
  intro hcl a w hE hL
  subst hl'
  have hcl' := hcl.set (i := i) (by rw [hr]; simp)
  refine wpK_all hr (by simp) fun j' hj' => ?_
  simp only [List.mem_singleton] at hj'
  subst hj'
  unfold wpOp
  simp only [hi]
  rw [wanted_of hE hg hj ht hl, hb, if_pos rfl]
  exact .inl (he _ (fun E' L' hΦ a w h1 h2 => ⟨fun hb => (k E' L' hΦ).1.elim (fun e => by rw [e] at hb; cases hb) (fun e => h2.sub e), (k E' L' hΦ).2 hcl' a w h1 h2⟩) a w hE hL)
theorem ef_of_yl {d : Nat} {v : Value} (hd : o.dst = some d) (hN : Nat.blt d N = true) (hy : Yl P o N E w0 M L v) : Ef P Q o N E w0 M L (fun E' L' => E' = (d, v) :: E ∧ L' = L) := by
  intro K hK a w hE hL
  unfold Oper.wp
  rw [hy a w hE hL]
  show K (a.put o.dst v) w
  rw [hd]
  exact hK _ _ ⟨rfl, rfl⟩ _ _ (hE.put hN v) hL
/-- Several may come up: each is looked at. -/
def WOp (P : Program) (ops : Array Oper) (Q : Post) (i : Nat) (listed : Array Bool) (n N : Nat) (E : List (Nat × Value)) (w0 : World) (M : List Nat) (L Lk : Mem) : Prop :=
  i ∈ Region.ready .any ops listed → Closed ops listed → ∀ a w, Env N E a → Has w0 M L w → wpOp P ops Q i (fun a' w' => (lastB ops i = false → Has w0 M Lk w') ∧ wpK P ops Q (Has w0 M Lk) n (listed.setIfInBounds i true) a' w') a w
theorem wa_all {n : Nat} {listed : Array Bool} {rs : List Nat} (hr : Region.ready .any ops listed = rs) (hne : rs ≠ []) (h : ∀ i ∈ rs, WOp P ops Q i listed n N E w0 M L Lk) : WA P ops Q listed (n + 1) N E w0 M L Lk :=
  fun hcl a w hE hL => wpK_all hr hne fun i hi => h i hi (by rw [hr]; exact hi) hcl a w hE hL
theorem wo_ef {i n : Nat} {listed : Array Bool} {Φ : List (Nat × Value) → Mem → Prop} (hi : ops[i]? = some o) (hg : o.guard = none) {listed' : Array Bool} (hl' : listed.setIfInBounds i true = listed')
    (he : Ef P Q o N E w0 M L Φ) (k : ∀ E' L', Φ E' L' → (lastB ops i = true ∨ SubL L' Lk) ∧ WA P ops Q listed' n N E' w0 M L' Lk) : WOp P ops Q i listed n N E w0 M L Lk := by
  intro hmem hcl a w hE hL
  subst hl'
  have hcl' := hcl.set hmem
  unfold wpOp
  simp only [hi, Region.wanted, hg, if_true]
  exact .inl (he _ (fun E' L' hΦ a w h1 h2 => ⟨fun hb => (k E' L' hΦ).1.elim (fun e => by rw [e] at hb; cases hb) (fun e => h2.sub e), (k E' L' hΦ).2 hcl' a w h1 h2⟩) a w hE hL)
theorem wa_done {n : Nat} {listed : Array Bool} (hr : Region.ready .any ops listed = []) (h : AtQ Q .normal N E w0 M L) : WA P ops Q listed n N E w0 M L Lk :=
  fun _ a w hE hL => wpK_done hr (h a w hE hL) n
theorem wa_split {n t : Nat} {listed : Array Bool} {p : Prop} {i : Decidable p} (hl : lk E t = some (.bool (@decide p i))) (ht : p → WA P ops Q listed n N ((t, .bool true) :: E) w0 M L Lk) (hf : ¬ p → WA P ops Q listed n N ((t, .bool false) :: E) w0 M L Lk) : WA P ops Q listed n N E w0 M L Lk := by
  intro hcl a w hE hL
  by_cases hp : p
  · refine ht hp hcl a w ⟨hE.size, hE.defers, fun k v hk => ?_⟩ hL
    simp only [lk] at hk
    cases hb : Nat.beq t k with
    | true =>
      have := Nat.eq_of_beq_eq_true hb
      subst this
      rw [hb] at hk
      simp at hk
      subst hk
      simpa [hp] using hE.get _ _ hl
    | false => rw [hb] at hk; exact hE.get k v hk
  · refine hf hp hcl a w ⟨hE.size, hE.defers, fun k v hk => ?_⟩ hL
    simp only [lk] at hk
    cases hb : Nat.beq t k with
    | true =>
      have := Nat.eq_of_beq_eq_true hb
      subst this
      rw [hb] at hk
      simp at hk
      subst hk
      simpa [hp] using hE.get _ _ hl
    | false => rw [hb] at hk; exact hE.get k v hk

/-! ### control -/
theorem wc_seq {x y : Code} (h : WC P (Exit.then (y.wp P Q) Q) x N E w0 M L) : WC P Q (.seq x y) N E w0 M L := fun a w hE hL => wp_seq (h a w hE hL)
theorem wc_skip (h : AtQ Q .normal N E w0 M L) : WC P Q .skip N E w0 M L := fun a w hE hL => wp_skip (h a w hE hL)
theorem wc_ret (h : AtQ Q .ret N E w0 M L) : WC P Q .ret N E w0 M L := fun a w hE hL => wp_ret (h a w hE hL)
theorem wc_exit {id : Nat} (h : AtQ Q (.exit id) N E w0 M L) : WC P Q (.exit id) N E w0 M L := fun a w hE hL => wp_exit (h a w hE hL)
theorem wc_block {id : Nat} {c : Code} (h : WC P (Exit.inBlock id Q) c N E w0 M L) : WC P Q (.block id c) N E w0 M L := fun a w hE hL => wp_block (h a w hE hL)
theorem wc_label {l : Nat} (h : AtQ Q .normal N E w0 M L) : WC P Q (.label l) N E w0 M L := fun a w hE hL => wp_label (h a w hE hL)
theorem wc_cond {c : Operand} {x y : Code} {p : Prop} {i : Decidable p} (hc : ev E c = some (.bool (@decide p i))) (ht : p → WC P Q x N E w0 M L) (hf : ¬ p → WC P Q y N E w0 M L) : WC P Q (.cond c x y) N E w0 M L := by
  intro a w hE hL
  refine wp_cond_split (t := decide p) (hE.ev hc) (fun h => ht (by simpa using h) a w hE hL) (fun h => hf (by simpa using h) a w hE hL)
theorem wc_condb {c : Operand} {x y : Code} {p : Bool} (hc : ev E c = some (.bool p)) (ht : p = true → WC P Q x N E w0 M L) (hf : p = false → WC P Q y N E w0 M L) : WC P Q (.cond c x y) N E w0 M L :=
  fun a w hE hL => wp_cond_split (t := p) (hE.ev hc) (fun h => ht h a w hE hL) (fun h => hf h a w hE hL)
theorem wc_condt {c : Operand} {x y : Code} (hc : ev E c = some (.bool true)) (ht : WC P Q x N E w0 M L) : WC P Q (.cond c x y) N E w0 M L :=
  fun a w hE hL => wp_cond_true (hE.ev hc) (ht a w hE hL)
theorem wc_condf {c : Operand} {x y : Code} (hc : ev E c = some (.bool false)) (hf : WC P Q y N E w0 M L) : WC P Q (.cond c x y) N E w0 M L :=
  fun a w hE hL => wp_cond_false (hE.ev hc) (hf a w hE hL)
theorem q_then {y : Code} (h : WC P Q y N E w0 M L) : AtQ (Exit.then (y.wp P Q) Q) .normal N E w0 M L := h
theorem q_thenExit {K : Act → World → Prop} {id : Nat} (h : AtQ Q (.exit id) N E w0 M L) : AtQ (Exit.then K Q) (.exit id) N E w0 M L := h
theorem q_thenRet {K : Act → World → Prop} (h : AtQ Q .ret N E w0 M L) : AtQ (Exit.then K Q) .ret N E w0 M L := h
theorem q_blockNormal {id : Nat} (h : AtQ Q .normal N E w0 M L) : AtQ (Exit.inBlock id Q) .normal N E w0 M L := h
theorem q_blockRet {id : Nat} (h : AtQ Q .ret N E w0 M L) : AtQ (Exit.inBlock id Q) .ret N E w0 M L := h
theorem q_blockExit {id : Nat} (h : AtQ Q .normal N E w0 M L) : AtQ (Exit.inBlock id Q) (.exit id) N E w0 M L := fun a w hE hL => by
  simp only [Exit.inBlock, if_true]
  exact h a w hE hL
theorem q_blockOther {id id' : Nat} (hne : Nat.beq id' id = false) (h : AtQ Q (.exit id') N E w0 M L) : AtQ (Exit.inBlock id Q) (.exit id') N E w0 M L := fun a w hE hL => by
  have : id' ≠ id := fun e => by subst e; simp at hne
  simp only [Exit.inBlock, if_neg this]
  exact h a w hE hL
/-- Less is known from here on. -/
theorem wc_less {c : Code} (hE : SubE E E') (hL : SubL L L') (h : WC P Q c N E' w0 M L') : WC P Q c N E w0 M L := fun a w h1 h2 => h a w (h1.sub hE) (h2.sub hL)
theorem q_less {e : Exit} (hE : SubE E E') (hL : SubL L L') (h : AtQ Q e N E' w0 M L') : AtQ Q e N E w0 M L := fun a w h1 h2 => h a w (h1.sub hE) (h2.sub hL)

/-- The next round begins. -/
def Again {X : Type} (N : Nat) (F : X → List (Nat × Value)) (G : X → Mem) (pre : X → Prop) (μ : X → Nat) (w0 : World) (M : List Nat) (m : Nat) : Act → World → Prop :=
  fun a w => ∃ x, pre x ∧ μ x < m ∧ Env N (F x) a ∧ Has w0 M (G x) w
theorem wc_loop {X : Type} {c : Code} (F : X → List (Nat × Value)) (G : X → Mem) (pre : X → Prop) (μ : X → Nat) (x0 : X) (h0 : pre x0) (hE : SubE E (F x0)) (hL : SubL L (G x0))
    (hb : ∀ x, pre x → WC P (Exit.then (Again N F G pre μ w0 M (μ x)) Q) c N (F x) w0 M (G x)) : WC P Q (.loop c) N E w0 M L := by
  intro a w h1 h2 b k cs
  have key : ∀ n x a w, μ x = n → pre x → Env N (F x) a → Has w0 M (G x) w →
      ∃ e a' w', Q e a' w' ∧ Arrives P (lone (b.at a (.code c :: .inLoop c :: k)) cs w) b k cs e a' w' := by
    intro n
    induction n using Nat.strongRecOn with
    | _ n ih =>
      intro x a w hn hx hE hL
      obtain ⟨e, a1, w1, hq, harr⟩ := hb x hx a w hE hL b (.inLoop c :: k) cs
      cases e with
      | normal =>
        obtain ⟨x', hx', hlt, hE', hL'⟩ := hq
        obtain ⟨e2, a2, w2, hq2, harr2⟩ := ih (μ x') (hn ▸ hlt) x' a1 w1 rfl hx' hE' hL'
        exact ⟨e2, a2, w2, hq2, .of_steps (Steps.trans harr (.one step_inLoop)) harr2⟩
      | exit id => exact ⟨_, a1, w1, hq, .pass (x := .inLoop c) rfl (fun _ _ => .inl (by simp)) harr⟩
      | goto l => exact ⟨_, a1, w1, hq, .pass (x := .inLoop c) rfl (fun _ _ => .inl (by simp)) harr⟩
      | ret => exact ⟨_, a1, w1, hq, .pass (x := .inLoop c) rfl (fun _ _ => .inl (by simp)) harr⟩
      | panic ch => exact ⟨_, a1, w1, hq, .pass (x := .inLoop c) rfl (fun _ _ => .inl (by simp)) harr⟩
      | outgrown => exact ⟨_, a1, w1, hq, .pass (x := .inLoop c) rfl (fun _ _ => .inl (by simp)) harr⟩
  obtain ⟨e, a', w', hq, harr⟩ := key _ x0 a w rfl h0 (h1.sub hE) (h2.sub hL)
  exact ⟨e, a', w', hq, .of_steps (.one step_loop) harr⟩
theorem q_again {X : Type} {F : X → List (Nat × Value)} {G : X → Mem} {pre : X → Prop} {μ : X → Nat} {m : Nat} (x : X) (hp : pre x) (hm : μ x < m) (hE : SubE E (F x)) (hL : SubL L (G x)) :
    AtQ (Exit.then (Again N F G pre μ w0 M m) Q) .normal N E w0 M L := fun a w h1 h2 => ⟨x, hp, hm, h1.sub hE, h2.sub hL⟩
end
end Go.Proofs.Ytdgmkbjopcopcaa
