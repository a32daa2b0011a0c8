/- An engine for walks: frames and memory told by lists; one rule an operation. Own work. -/
import Derived.WalkKit
import Derived.Deep.Quiet
import Derived.Maps.AppendAt
import Derived.Laws.MakeOwn
import Derived.Laws.OwnMore
set_option linter.unusedVariables false
set_option linter.unusedSimpArgs false
namespace Go.Proofs.Ytdgmkbjopcopcaa
open Go.RowKit

/-! ### 1. A frame told by a list -/
def lk : List (Nat × Value) → Nat → Option Value
  | [], _ => none
  | (k, v) :: E, n => bif Nat.beq k n then some v else lk E n

structure Env (N : Nat) (E : List (Nat × Value)) (a : Act) : Prop where
  size : a.tmps.size = N
  defers : a.defers = []
  get : ∀ k v, lk E k = some v → a.tmps.getD k undef = v

theorem Env.put {N : Nat} {E : List (Nat × Value)} {a : Act} (h : Env N E a) {d : Nat} (hd : Nat.blt d N = true) (v : Value) : Env N ((d, v) :: E) (a.put (some d) v) := by
  have hd' : d < N := by
    have := hd
    simp [Nat.blt] at this
    omega
  refine ⟨by simpa [Act.put] using h.size, h.defers, fun k u hk => ?_⟩
  simp only [lk] at hk
  have hs := h.size
  by_cases e : d = k
  · subst e
    simp at hk
    subst hk
    simp [Act.put, Array.getD_eq_getD_getElem?, hs, hd']
  · have hb : Nat.beq d k = false := by
      cases hx : Nat.beq d k with
      | false => rfl
      | true => exact absurd (Nat.eq_of_beq_eq_true hx) e
    rw [hb] at hk
    simp only [cond_false] at hk
    have := h.get k u hk
    simp only [Act.put, Array.getD_eq_getD_getElem?, Array.getElem?_setIfInBounds] at this ⊢
    rw [if_neg e]
    exact this

theorem Env.put_none {N : Nat} {E : List (Nat × Value)} {a : Act} (h : Env N E a) (v : Value) : Env N E (a.put none v) := h

def SubE : List (Nat × Value) → List (Nat × Value) → Prop
  | _, [] => True
  | E, (k, v) :: E' => lk E k = some v ∧ SubE E E'
theorem SubE.look {E : List (Nat × Value)} : ∀ {E' : List (Nat × Value)}, SubE E E' → ∀ k v, lk E' k = some v → lk E k = some v
  | [], _, k, v, h => by simp [lk] at h
  | (k', v') :: E', h, k, v, hl => by
    simp only [lk] at hl
    cases hb : Nat.beq k' k with
    | true =>
      have := Nat.eq_of_beq_eq_true hb
      subst this
      rw [hb] at hl
      simp at hl
      subst hl
      exact h.1
    | false =>
      rw [hb] at hl
      exact SubE.look h.2 k v hl
theorem Env.sub {N : Nat} {E E' : List (Nat × Value)} {a : Act} (h : Env N E a) (hs : SubE E E') : Env N E' a := ⟨h.size, h.defers, fun k v hk => h.get k v (hs.look k v hk)⟩

def ev (E : List (Nat × Value)) : Operand → Option Value
  | .tmp t => lk E t
  | .const v => some v
  | .global g => some (.pointer (some ⟨g, 0, none⟩))
  | .func f => some (.func (.func f) #[] #[])
theorem Env.ev {N : Nat} {E : List (Nat × Value)} {a : Act} (h : Env N E a) {x : Operand} {v : Value} (hx : ev E x = some v) : a.eval x = v := by
  cases x with
  | tmp t => exact h.get t v hx
  | const u => simpa [Ytdgmkbjopcopcaa.ev, Act.eval] using hx
  | global g => simpa [Ytdgmkbjopcopcaa.ev, Act.eval] using hx
  | func f => simpa [Ytdgmkbjopcopcaa.ev, Act.eval] using hx

/-! ### 2. Memory -/
/-- All blocks of w but those of M are in w' as they were. -/
structure Ext (M : List Nat) (w w' : World) : Prop where
  os : w'.os = w.os
  tape : w'.tape = w.tape
  output : w'.output = w.output
  size : w.heap.size ≤ w'.heap.size
  block : ∀ k, k < w.heap.size → k ∉ M → w'.heap[k]? = w.heap[k]?
theorem Ext.refl (M : List Nat) (w : World) : Ext M w w := ⟨rfl, rfl, rfl, Nat.le_refl _, fun _ _ _ => rfl⟩
theorem Ext.trans {M : List Nat} {a b c : World} (h : Ext M a b) (k : Ext M b c) : Ext M a c :=
  ⟨k.os.trans h.os, k.tape.trans h.tape, k.output.trans h.output, Nat.le_trans h.size k.size, fun i hi hm => (k.block i (Nat.lt_of_lt_of_le hi h.size) hm).trans (h.block i hi hm)⟩
theorem Ext.mono {M M' : List Nat} {a b : World} (h : Ext M a b) (hs : ∀ x, x ∈ M → x ∈ M') : Ext M' a b := ⟨h.os, h.tape, h.output, h.size, fun i hi hm => h.block i hi fun hx => hm (hs i hx)⟩
/-- what may change a block beside M: only those from w0's end on -/
theorem Ext.then {M M' : List Nat} {a b c : World} (h : Ext M a b) (k : Ext M' b c) (hM : ∀ x, x ∈ M' → x ∈ M ∨ a.heap.size ≤ x) : Ext M a c :=
  ⟨k.os.trans h.os, k.tape.trans h.tape, k.output.trans h.output, Nat.le_trans h.size k.size, fun i hi hm =>
    (k.block i (Nat.lt_of_lt_of_le hi h.size) (fun hx => (hM i hx).elim hm (fun hle => by omega))).trans (h.block i hi hm)⟩
theorem Ext.below {w w' : World} (h : Ext [] w w') : Below w.heap.size w w' := ⟨h.os, h.tape, h.output, h.size, fun k hk => h.block k hk (by simp)⟩

/-- A slice of n elements of sz cells each in a row of its own (or nil): the cells are xs. A byte that a string shares may stand behind the row's end. -/
def OwnR (w : World) (T : TypeId) (sz : Nat) (v : Value) (n : Nat) (xs : List Value) : Prop :=
  xs.length = n * sz ∧ ((v = .slice none 0 0 ∧ n = 0) ∨
    ∃ g cap cur lo hi, v = .slice (some ⟨g, 0, none⟩) n cap ∧ w.heap[g]? = some (.cells cur T (lo, hi)) ∧ (lo = hi ∨ cur.size ≤ lo) ∧ n ≤ cap ∧ cap ≤ maxLen ∧ cap * sz ≤ cur.size ∧ cur.toList.take (n * sz) = xs)
theorem OwnR.nil (w : World) (T : TypeId) (sz : Nat) : OwnR w T sz (.slice none 0 0) 0 [] := ⟨by simp, .inl ⟨rfl, rfl⟩⟩
theorem OwnR.lt {w : World} {T : TypeId} {sz n : Nat} {v : Value} {xs : List Value} (h : OwnR w T sz v n xs) : ∀ k, v.ownBlock = some k → k < w.heap.size := by
  intro k hk
  rcases h.2 with ⟨rfl, _⟩ | ⟨g, cap, cur, lo, hi, rfl, hg, _⟩
  · simp [Value.ownBlock] at hk
  · simp [Value.ownBlock] at hk
    subst hk
    exact (Array.getElem?_eq_some_iff.1 hg).1
theorem addr_add (g o j : Nat) : (⟨g, o, none⟩ : Addr).add j = ⟨g, o + j, none⟩ := by unfold Addr.add; split <;> simp_all
theorem OwnR.cells {w : World} {T : TypeId} {sz n : Nat} {v : Value} {xs : List Value} (h : OwnR w T sz v n xs) {g : Nat} (hg : v.ownBlock = some g) : ∀ j u, xs[j]? = some u → w.cell? ((⟨g, 0, none⟩ : Addr).add j) = some u := by
  intro j u hu
  rcases h.2 with ⟨rfl, _⟩ | ⟨g', cap, cur, lo, hi, rfl, hgg, _, _, _, _, htake⟩
  · simp [Value.ownBlock] at hg
  · simp [Value.ownBlock] at hg
    subst hg
    rw [addr_add, Nat.zero_add, cell_of_row w g' j cur T (lo, hi) hgg]
    rw [← htake, List.getElem?_take] at hu
    split at hu
    · simpa using hu
    · cases hu

/-- What is known of memory: a block of cells; a map; a slice's own row (or nil). -/
inductive Asn where
  | blk (b : Nat) (cs : List Value) (T : TypeId) (fr : Nat × Nat)
  | map (b : Nat) (es : List MapEntry) (clock : Nat)
  | own (v : Value) (T : TypeId) (sz : Nat) (n : Nat) (xs : List Value)
def Asn.foot : Asn → List Nat
  | .blk b _ _ _ => [b]
  | .map b _ _ => [b]
  | .own v _ _ _ _ => v.ownBlock.toList
def Asn.holds (w : World) : Asn → Prop
  | .blk b cs T fr => w.heap[b]? = some (.cells cs.toArray T fr)
  | .map b es k => w.heap[b]? = some (.map es.toArray k)
  | .own v T sz n xs => OwnR w T sz v n xs
abbrev Mem := List Asn
def foots (L : Mem) : List Nat := L.flatMap Asn.foot

theorem Asn.holds_lt {w : World} {x : Asn} (h : x.holds w) : ∀ b ∈ x.foot, b < w.heap.size := by
  intro b hb
  cases x with
  | blk b' cs T fr => simp only [Asn.foot, List.mem_singleton] at hb; subst hb; exact (Array.getElem?_eq_some_iff.1 h).1
  | map b' es k => simp only [Asn.foot, List.mem_singleton] at hb; subst hb; exact (Array.getElem?_eq_some_iff.1 h).1
  | own v T sz n xs => simp only [Asn.foot, Option.mem_toList] at hb; exact OwnR.lt h b hb
theorem Asn.holds_same {w w' : World} {x : Asn} (h : x.holds w) (he : ∀ b ∈ x.foot, w'.heap[b]? = w.heap[b]?) : x.holds w' := by
  cases x with
  | blk b cs T fr => exact (he b (by simp [Asn.foot])).trans h
  | map b es k => exact (he b (by simp [Asn.foot])).trans h
  | own v T sz n xs =>
    refine ⟨h.1, ?_⟩
    rcases h.2 with h2 | ⟨g, cap, cur, lo, hi, rfl, hg, r⟩
    · exact .inl h2
    · exact .inr ⟨g, cap, cur, lo, hi, rfl, (he g (by simp [Asn.foot, Value.ownBlock])).trans hg, r⟩

structure Has (w0 : World) (M : List Nat) (L : Mem) (w : World) : Prop where
  ext : Ext M w0 w
  all : ∀ x ∈ L, x.holds w
  new : ∀ b ∈ foots L, w0.heap.size ≤ b ∨ b ∈ M
  nodup : (foots L).Nodup

theorem Has.nil (w : World) : Has w [] [] w := ⟨Ext.refl _ _, by simp, by simp [foots], by simp [foots]⟩
theorem Has.lt {w0 w : World} {M : List Nat} {L : Mem} (h : Has w0 M L w) {b : Nat} (hb : b ∈ foots L) : b < w.heap.size := by
  obtain ⟨x, hx, hbx⟩ := List.mem_flatMap.1 hb
  exact Asn.holds_lt (h.all x hx) b hbx


/-- x stands in L; R is the rest. -/
inductive Pick : Mem → Asn → Mem → Prop
  | head {x : Asn} {L : Mem} : Pick (x :: L) x L
  | tail {x y : Asn} {L R : Mem} (h : Pick L x R) : Pick (y :: L) x (y :: R)
/-! The same, found by the instances: by its block, by its value. -/
class PkBlk (L : Mem) (b : Nat) (cs : outParam (List Value)) (T : outParam TypeId) (fr : outParam (Nat × Nat)) (R : outParam Mem) : Prop where
  out : Pick L (.blk b cs T fr) R
class PkMap (L : Mem) (b : Nat) (es : outParam (List MapEntry)) (k : outParam Nat) (R : outParam Mem) : Prop where
  out : Pick L (.map b es k) R
class PkOwn (L : Mem) (v : Value) (T : outParam TypeId) (sz n : outParam Nat) (xs : outParam (List Value)) (R : outParam Mem) : Prop where
  out : Pick L (.own v T sz n xs) R
instance (priority := low) PkBlk.tail {L R : Mem} {y : Asn} {b : Nat} {cs : List Value} {T : TypeId} {fr : Nat × Nat} [h : PkBlk L b cs T fr R] : PkBlk (y :: L) b cs T fr (y :: R) := ⟨.tail h.out⟩
instance PkBlk.head {L : Mem} {b : Nat} {cs : List Value} {T : TypeId} {fr : Nat × Nat} : PkBlk (.blk b cs T fr :: L) b cs T fr L := ⟨.head⟩
instance (priority := low) PkMap.tail {L R : Mem} {y : Asn} {b k : Nat} {es : List MapEntry} [h : PkMap L b es k R] : PkMap (y :: L) b es k (y :: R) := ⟨.tail h.out⟩
instance PkMap.head {L : Mem} {b k : Nat} {es : List MapEntry} : PkMap (.map b es k :: L) b es k L := ⟨.head⟩
instance (priority := low) PkOwn.tail {L R : Mem} {y : Asn} {v : Value} {T : TypeId} {sz n : Nat} {xs : List Value} [h : PkOwn L v T sz n xs R] : PkOwn (y :: L) v T sz n xs (y :: R) := ⟨.tail h.out⟩
instance PkOwn.head {L : Mem} {v : Value} {T : TypeId} {sz n : Nat} {xs : List Value} : PkOwn (.own v T sz n xs :: L) v T sz n xs L := ⟨.head⟩
/-- x' in x's place. -/
inductive Upd : Mem → Asn → Asn → Mem → Prop
  | head {x x' : Asn} {L : Mem} : Upd (x :: L) x x' (x' :: L)
  | tail {x x' y : Asn} {L L' : Mem} (h : Upd L x x' L') : Upd (y :: L) x x' (y :: L')
theorem Pick.perm {L R : Mem} {x : Asn} (h : Pick L x R) : L.Perm (x :: R) := by
  induction h with
  | head => exact List.Perm.refl _
  | tail _ ih => exact (List.Perm.cons _ ih).trans (List.Perm.swap _ _ _)
theorem Upd.perm {L L' : Mem} {x x' : Asn} (h : Upd L x x' L') : ∃ R, L.Perm (x :: R) ∧ L'.Perm (x' :: R) := by
  induction h with
  | head => exact ⟨_, List.Perm.refl _, List.Perm.refl _⟩
  | tail _ ih =>
    obtain ⟨R, h1, h2⟩ := ih
    exact ⟨_ :: R, (List.Perm.cons _ h1).trans (List.Perm.swap _ _ _), (List.Perm.cons _ h2).trans (List.Perm.swap _ _ _)⟩
theorem foots_perm {L L' : Mem} (h : L.Perm L') : (foots L).Perm (foots L') := h.flatMap_right _
theorem foots_cons (x : Asn) (L : Mem) : foots (x :: L) = x.foot ++ foots L := by simp [foots]
theorem foots_append (L L' : Mem) : foots (L ++ L') = foots L ++ foots L' := by simp [foots]

section
variable {w0 w w' : World} {M : List Nat} {L L' R : Mem}
theorem Has.perm (h : Has w0 M L w) (hp : L.Perm L') : Has w0 M L' w :=
  ⟨h.ext, fun x hx => h.all x (hp.mem_iff.2 hx), fun b hb => h.new b ((foots_perm hp).mem_iff.2 hb), (foots_perm hp).nodup_iff.1 h.nodup⟩
theorem Has.pick {x : Asn} (h : Has w0 M L w) (hp : Pick L x R) : x.holds w := h.all x (hp.perm.mem_iff.2 (by simp))
theorem Has.tail {x : Asn} (h : Has w0 M (x :: L) w) : Has w0 M L w :=
  ⟨h.ext, fun y hy => h.all y (by simp [hy]), fun b hb => h.new b (by rw [foots_cons]; simp [hb]), by have := h.nodup; rw [foots_cons] at this; exact (List.nodup_append.1 this).2.1⟩
theorem Has.left (h : Has w0 M (L ++ R) w) : Has w0 M L w :=
  ⟨h.ext, fun y hy => h.all y (by simp [hy]), fun b hb => h.new b (by rw [foots_append]; simp [hb]), by have := h.nodup; rw [foots_append] at this; exact (List.nodup_append.1 this).1⟩

/-- The one thing that has changed is x's own blocks, or what is new. -/
theorem Has.upd {x x' : Asn} (h : Has w0 M L w) (hu : Upd L x x' L') (he : Ext x.foot w w') (hx : x'.holds w') (hf : ∀ b ∈ x'.foot, b ∈ x.foot ∨ w.heap.size ≤ b) (hn : x'.foot.Nodup) : Has w0 M L' w' := by
  obtain ⟨R, h1, h2⟩ := hu.perm
  have hR := h.perm h1
  refine Has.perm (L := x' :: R) ?_ h2.symm
  have hnd := hR.nodup
  rw [foots_cons] at hnd
  obtain ⟨n1, n2, n3⟩ := List.nodup_append.1 hnd
  have hdis : ∀ b ∈ foots R, b ∉ x.foot := fun b hb hx => n3 b hx b hb rfl
  refine ⟨h.ext.then he (fun b hb => ?_), fun y hy => ?_, fun b hb => ?_, ?_⟩
  · exact (hR.new b (by rw [foots_cons]; simp [hb])).symm
  · rcases List.mem_cons.1 hy with rfl | hy
    · exact hx
    · refine Asn.holds_same (hR.all y (by simp [hy])) (fun b hb => ?_)
      have hbR : b ∈ foots R := List.mem_flatMap.2 ⟨y, hy, hb⟩
      exact he.block b (hR.lt (by rw [foots_cons]; simp [hbR])) (hdis b hbR)
  · rw [foots_cons] at hb
    rcases List.mem_append.1 hb with hb | hb
    · rcases hf b hb with hb | hb
      · exact hR.new b (by rw [foots_cons]; simp [hb])
      · exact .inl (Nat.le_trans h.ext.size hb)
    · exact hR.new b (by rw [foots_cons]; simp [hb])
  · rw [foots_cons]
    refine List.nodup_append.2 ⟨hn, n2, fun a ha b hb e => ?_⟩
    subst e
    rcases hf a ha with h' | h'
    · exact hdis a hb h'
    · have := hR.lt (b := a) (by rw [foots_cons]; simp [hb])
      omega
theorem Has.add {x : Asn} (h : Has w0 M L w) (he : Ext [] w w') (hx : x.holds w') (hf : ∀ b ∈ x.foot, w.heap.size ≤ b) (hn : x.foot.Nodup) : Has w0 M (x :: L) w' := by
  have h' : Has w0 M (.own (.slice none 0 0) 0 0 0 [] :: L) w :=
    ⟨h.ext, fun y hy => by
      rcases List.mem_cons.1 hy with rfl | hy
      · exact OwnR.nil _ _ _
      · exact h.all y hy, by rw [foots_cons]; simpa [Asn.foot, Value.ownBlock] using h.new, by rw [foots_cons]; simpa [Asn.foot, Value.ownBlock] using h.nodup⟩
  exact h'.upd (x := .own (.slice none 0 0) 0 0 0 []) (x' := x) .head (he.mono (by simp)) hx (fun b hb => .inr (hf b hb)) hn
theorem Has.same (h : Has w0 M L w) (he : Ext [] w w') : Has w0 M L w' := (h.add (x := .own (.slice none 0 0) 0 0 0 []) he (OwnR.nil _ _ _) (by simp [Asn.foot, Value.ownBlock]) (by simp [Asn.foot, Value.ownBlock])).tail
theorem Ext.drew (w : World) : Ext [] w w.drew := ⟨rfl, rfl, rfl, Nat.le_refl _, fun _ _ _ => rfl⟩
theorem Ext.alloc (M : List Nat) (w : World) (o : Obj) : Ext M w (w.alloc o) := ⟨rfl, rfl, rfl, by simp, fun k hk _ => Below.heap_alloc w o k hk⟩
theorem Has.alloc (h : Has w0 M L w) (cs : List Value) (T : TypeId) : Has w0 M (.blk w.heap.size cs T (0, 0) :: L) (w.alloc (.cells cs.toArray T)) :=
  h.add (Ext.alloc _ _ _) (heap_alloc_new w _) (by simp [Asn.foot]) (by simp [Asn.foot])
theorem Has.allocMap (h : Has w0 M L w) : Has w0 M (.map w.heap.size [] 0 :: L) (w.alloc (.map #[] 0)) :=
  h.add (Ext.alloc _ _ _) (heap_alloc_new w _) (by simp [Asn.foot]) (by simp [Asn.foot])

/-- L' stands in L, in whatever order. -/
inductive SubL : Mem → Mem → Prop
  | nil {L : Mem} : SubL L []
  | cons {L R L' : Mem} {x : Asn} (h : Pick L x R) (t : SubL R L') : SubL L (x :: L')
theorem SubL.perm {L L' : Mem} (h : SubL L L') : ∃ R, L.Perm (L' ++ R) := by
  induction h with
  | nil => exact ⟨_, List.Perm.refl _⟩
  | cons hp _ ih =>
    obtain ⟨R, hr⟩ := ih
    exact ⟨R, hp.perm.trans (List.Perm.cons _ hr)⟩
theorem Has.sub (h : Has w0 M L w) (hs : SubL L L') : Has w0 M L' w := by
  obtain ⟨R, hr⟩ := hs.perm
  exact (h.perm hr).left

/-- A call that may change the blocks M' alone, all of which stand in Lm. -/
theorem Has.call {Lm LR Lc : Mem} {M' : List Nat} (h : Has w0 M L w) (hs : L.Perm (Lm ++ LR)) (hM : ∀ b ∈ M', b ∈ foots Lm) (hc : Has w M' Lc w') : Has w0 M (Lc ++ LR) w' := by
  have hL := h.perm hs
  have hnd := hL.nodup
  rw [foots_append] at hnd
  obtain ⟨n1, n2, n3⟩ := List.nodup_append.1 hnd
  refine ⟨h.ext.then hc.ext (fun b hb => ?_), fun y hy => ?_, fun b hb => ?_, ?_⟩
  · exact (hL.new b (by rw [foots_append]; simp [hM b hb])).symm
  · rcases List.mem_append.1 hy with hy | hy
    · exact hc.all y hy
    · refine Asn.holds_same (hL.all y (by simp [hy])) (fun b hb => ?_)
      have hbR : b ∈ foots LR := List.mem_flatMap.2 ⟨y, hy, hb⟩
      exact hc.ext.block b (hL.lt (by rw [foots_append]; simp [hbR])) (fun hx => n3 b (hM b hx) b hbR rfl)
  · rw [foots_append] at hb
    rcases List.mem_append.1 hb with hb | hb
    · rcases hc.new b hb with hb' | hb'
      · exact .inl (Nat.le_trans h.ext.size hb')
      · exact hL.new b (by rw [foots_append]; simp [hM b hb'])
    · exact hL.new b (by rw [foots_append]; simp [hb])
  · rw [foots_append]
    refine List.nodup_append.2 ⟨hc.nodup, n2, fun a ha b hb e => ?_⟩
    subst e
    rcases hc.new a ha with h' | h'
    · have := hL.lt (b := a) (by rw [foots_append]; simp [hb])
      omega
    · exact n3 a (hM a h') a hb rfl
end

/-! ### 3. A slice that is read -/
/-- v is a slice of n elements of sz cells each; they read as xs. -/
structure Rd (w : World) (v : Value) (sz n : Nat) (xs : List Value) : Prop where
  len : xs.length = n * sz
  form : ∃ A cap, v = .slice A n cap ∧ n ≤ cap ∧ cap ≤ maxLen ∧ (A = none → cap = 0) ∧ ∀ ad, A = some ad → ∀ j u, xs[j]? = some u → w.cell? (ad.add j) = some u
/-- It lies below w's end, and in none of the blocks M. -/
structure RdI (w : World) (M : List Nat) (v : Value) (sz n : Nat) (xs : List Value) : Prop where
  rd : Rd w v sz n xs
  apart : ∀ ad k c, v = .slice (some ad) k c → 0 < xs.length → ad.block ∉ M
theorem Rd.below {w w' : World} {v : Value} {sz n : Nat} {xs : List Value} (h : Rd w v sz n xs) {M : List Nat} (he : Ext M w w') (ha : ∀ ad k c, v = .slice (some ad) k c → 0 < xs.length → ad.block ∉ M) : Rd w' v sz n xs := by
  refine ⟨h.len, ?_⟩
  obtain ⟨A, cap, rfl, h1, h2, h3, h4⟩ := h.form
  refine ⟨A, cap, rfl, h1, h2, h3, fun ad hA j u hu => ?_⟩
  subst hA
  have hc := h4 ad rfl j u hu
  have hb : (ad.add j).block = ad.block := by unfold Addr.add; split <;> rfl
  have hlt := World.block_lt_of_cell? w _ hc
  rw [hb] at hlt
  have hpos : 0 < xs.length := by
    have := (List.getElem?_eq_some_iff.1 hu).1
    omega
  rw [← hc]
  exact World.cell?_of_block (by rw [hb]; exact he.block _ hlt (ha ad n cap rfl hpos))
theorem Rd.nil (w : World) (sz : Nat) : Rd w (.slice none 0 0) sz 0 [] := ⟨by simp, none, 0, rfl, by simp, by simp, by simp, by simp⟩
theorem Rd.of_own {w : World} {v : Value} {T : TypeId} {sz n : Nat} {xs : List Value} (h : OwnR w T sz v n xs) : Rd w v sz n xs := by
  refine ⟨h.1, ?_⟩
  rcases h.2 with ⟨rfl, rfl⟩ | ⟨g, cap, cur, lo, hi, rfl, hg, hfr, h1, h2, h3⟩
  · exact ⟨none, 0, rfl, by simp, by simp, by simp, by simp⟩
  · exact ⟨some ⟨g, 0, none⟩, cap, rfl, h1, h2, by simp, fun ad hA j u hu => by
      simp only [Option.some.injEq] at hA
      subst hA
      exact h.cells (g := g) rfl j u hu⟩
theorem RdI.of_nil (w : World) (M : List Nat) (sz : Nat) : RdI w M (.slice none 0 0) sz 0 [] := ⟨Rd.nil w sz, by simp⟩
/-- What came in reads on. -/
theorem Has.rd {w0 w : World} {M : List Nat} {L : Mem} {v : Value} {sz n : Nat} {xs : List Value} (h : Has w0 M L w) (hr : RdI w0 M v sz n xs) : Rd w v sz n xs := hr.rd.below h.ext hr.apart
theorem Has.rdI {w0 w : World} {M M' : List Nat} {L : Mem} {v : Value} {sz n : Nat} {xs : List Value} (h : Has w0 M L w) (hr : RdI w0 M v sz n xs) (hM : ∀ b ∈ M', b ∈ foots L) : RdI w M' v sz n xs := by
  refine ⟨h.rd hr, fun ad k c hv hp hb => ?_⟩
  rcases h.new _ (hM _ hb) with h' | h'
  · obtain ⟨A, cap, hv2, _, _, _, h4⟩ := hr.rd.form
    rw [hv] at hv2
    injection hv2 with e1 e2 e3
    obtain ⟨u, hu⟩ : ∃ u, xs[0]? = some u := ⟨xs[0], by simp [hp]⟩
    have := World.block_lt_of_cell? _ _ (h4 ad e1.symm 0 u hu)
    simp [Addr.add] at this
    omega
  · exact hr.apart ad k c hv hp h'
theorem Has.rdOwn {w0 w : World} {M M' : List Nat} {L R : Mem} {v : Value} {T : TypeId} {sz n : Nat} {xs : List Value} (h : Has w0 M L w) (hp : Pick L (.own v T sz n xs) R) (hM : ∀ b ∈ M', b ∈ foots R) : RdI w M' v sz n xs := by
  refine ⟨Rd.of_own (h.pick hp), fun ad k c hv _ hb => ?_⟩
  have hn := (foots_perm hp.perm).nodup_iff.1 h.nodup
  rw [foots_cons] at hn
  exact (List.nodup_append.1 hn).2.2 ad.block (by subst hv; simp [Asn.foot, Value.ownBlock]) ad.block (hM _ hb) rfl

end Go.Proofs.Ytdgmkbjopcopcaa
