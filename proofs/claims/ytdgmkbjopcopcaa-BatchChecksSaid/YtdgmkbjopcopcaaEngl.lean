/- An engine for walks, twelfth part: the ways of a guard meet again. Own work. -/
import Derived.Test.YtdgmkbjopcopcaaEngk
set_option linter.unusedVariables false
set_option linter.unusedSimpArgs false
namespace Go.Proofs.Ytdgmkbjopcopcaa
open Go.RowKit
/-- what tests tell, in the form of statements -/
theorem bsA : (∀ a b : Bool, ((a && b) = true) = (a = true ∧ b = true)) ∧ (∀ a b : Bool, ((a || b) = true) = (a = true ∨ b = true)) ∧ (∀ a : Bool, ((!a) = true) = (a = false)) ∧ (∀ a : Bool, ((!a) = false) = (a = true)) ∧
    (∀ a b : Bool, ((a && b) = false) = (a = true → b = false)) ∧ (∀ a b : Bool, ((a || b) = false) = (a = false ∧ b = false)) ∧ (∀ (p : Prop) [Decidable p], (decide p = true) = p) ∧ (∀ (p : Prop) [Decidable p], (decide p = false) = ¬ p) ∧
    (∀ a : Bool, (¬ a = true) = (a = false)) ∧ (∀ a : Bool, (¬ a = false) = (a = true)) ∧ (∀ p : Prop, (¬ ¬ p) = p) ∧ ((!true) = false) ∧ ((!false) = true) ∧
    (∀ b : Bool, (true && b) = b) ∧ (∀ b : Bool, (b && true) = b) ∧ (∀ b : Bool, (false && b) = false) ∧ (∀ b : Bool, (b && false) = false) ∧ (∀ b : Bool, (true || b) = true) ∧ (∀ b : Bool, (b || true) = true) ∧ (∀ b : Bool, (false || b) = b) ∧ (∀ b : Bool, (b || false) = b) := by
  refine ⟨by simp, by simp, by simp, by simp, ?_, by simp, by simp, by simp, by simp, by simp, by simp, rfl, rfl, by simp, by simp, by simp, by simp, by simp, by simp, by simp, by simp⟩
  intro a b
  cases a <;> cases b <;> simp
/-- E tells all that E' tells -/
def LeE (E E' : List (Nat × Value)) : Prop := ∀ k v, lk E' k = some v → lk E k = some v
theorem LeE.refl (E : List (Nat × Value)) : LeE E E := fun _ _ h => h
theorem LeE.skip {E E' : List (Nat × Value)} {k : Nat} {v : Value} (h : LeE E E') (hn : lk E' k = none) : LeE ((k, v) :: E) E' := fun j u hj => by
  simp only [lk]
  cases hb : Nat.beq k j with
  | true =>
    have := Nat.eq_of_beq_eq_true hb
    subst this
    rw [hn] at hj
    cases hj
  | false => simpa using h j u hj
theorem LeE.cons {E E' : List (Nat × Value)} {k : Nat} {v : Value} (hl : lk E k = some v) (h : LeE E E') : LeE E ((k, v) :: E') := fun j u hj => by
  simp only [lk] at hj
  cases hb : Nat.beq k j with
  | true =>
    have := Nat.eq_of_beq_eq_true hb
    subst this
    rw [hb] at hj
    simp at hj
    subst hj
    exact hl
  | false =>
    rw [hb] at hj
    exact h j u (by simpa using hj)
theorem Env.le {N : Nat} {E E' : List (Nat × Value)} {a : Act} (h : Env N E a) (hs : LeE E E') : Env N E' a := ⟨h.size, h.defers, fun k v hk => h.get k v (hs k v hk)⟩
theorem Env.tl {N : Nat} {E : List (Nat × Value)} {a : Act} {t : Nat} {v u : Value} (h : Env N ((t, v) :: E) a) (e : v = u) : Env N ((t, u) :: E) a := e ▸ h
section
variable {P : Program} {Q : Post} {fn : Func} {N : Nat} {E E' : List (Nat × Value)} {w0 : World} {M : List Nat} {L L' Lk R : Mem} {ops : Array Oper} {t d : Nat}
theorem wl_le {l : List Oper} (h : WL P ops Q l N E' w0 M L') (hE : LeE E E') (hL : SubL L L') : WL P ops Q l N E w0 M L := fun a w h1 h2 => h a w (h1.le hE) (h2.sub hL)
theorem wa_le {n : Nat} {listed : Array Bool} (h : WA P ops Q listed n N E' w0 M L' Lk) (hE : LeE E E') (hL : SubL L L') : WA P ops Q listed n N E w0 M L Lk := fun hc a w h1 h2 => h hc a w (h1.le hE) (h2.sub hL)
theorem SubL.refl : ∀ (L : Mem), SubL L L
  | [] => .nil
  | _ :: L => .cons .head (SubL.refl L)
theorem wl_leR {l : List Oper} (h : WL P ops Q l N E' w0 M L) (hE : LeE E E') : WL P ops Q l N E w0 M L := wl_le h hE (SubL.refl L)
theorem wa_leR {n : Nat} {listed : Array Bool} (h : WA P ops Q listed n N E' w0 M L Lk) (hE : LeE E E') : WA P ops Q listed n N E w0 M L Lk := wa_le h hE (SubL.refl L)
/-- x && y -/
theorem wl_and {l l' : List Oper} {b c : Bool}
    (ht : b = true → WL P ops Q l' N ((d, .bool c) :: E) w0 M L → WL P ops Q l N ((t, .bool true) :: E) w0 M L)
    (hf : b = false → WL P ops Q l' N ((d, .bool false) :: E) w0 M L → WL P ops Q l N ((t, .bool false) :: E) w0 M L)
    (k : WL P ops Q l' N ((d, .bool (b && c)) :: E) w0 M L) : WL P ops Q l N ((t, .bool b) :: E) w0 M L := by
  cases b
  · exact hf rfl k
  · exact ht rfl k
theorem wl_andp {l l' : List Oper} {p : Prop} {i : Decidable p} {c : Bool}
    (ht : p → WL P ops Q l' N ((d, .bool c) :: E) w0 M L → WL P ops Q l N ((t, .bool true) :: E) w0 M L)
    (hf : ¬ p → WL P ops Q l' N ((d, .bool false) :: E) w0 M L → WL P ops Q l N ((t, .bool false) :: E) w0 M L)
    (k : WL P ops Q l' N ((d, .bool (@decide p i && c)) :: E) w0 M L) : WL P ops Q l N ((t, .bool (@decide p i)) :: E) w0 M L :=
  wl_and (fun h => ht (of_decide_eq_true h)) (fun h => hf (of_decide_eq_false h)) k
/-- x || y -/
theorem wl_or {l l' : List Oper} {b c : Bool}
    (hf : b = false → WL P ops Q l' N ((d, .bool c) :: E) w0 M L → WL P ops Q l N ((t, .bool false) :: E) w0 M L)
    (ht : b = true → WL P ops Q l' N ((d, .bool true) :: E) w0 M L → WL P ops Q l N ((t, .bool true) :: E) w0 M L)
    (k : WL P ops Q l' N ((d, .bool (b || c)) :: E) w0 M L) : WL P ops Q l N ((t, .bool b) :: E) w0 M L := by
  cases b
  · exact hf rfl k
  · exact ht rfl k
theorem wl_orp {l l' : List Oper} {p : Prop} {i : Decidable p} {c : Bool}
    (hf : ¬ p → WL P ops Q l' N ((d, .bool c) :: E) w0 M L → WL P ops Q l N ((t, .bool false) :: E) w0 M L)
    (ht : p → WL P ops Q l' N ((d, .bool true) :: E) w0 M L → WL P ops Q l N ((t, .bool true) :: E) w0 M L)
    (k : WL P ops Q l' N ((d, .bool (@decide p i || c)) :: E) w0 M L) : WL P ops Q l N ((t, .bool (@decide p i)) :: E) w0 M L :=
  wl_or (fun h => hf (of_decide_eq_false h)) (fun h => ht (of_decide_eq_true h)) k
theorem wl_dead {l l' : List Oper} {c : Bool} (h : False) (hK : WL P ops Q l' N ((d, .bool c) :: E) w0 M L) (e : c = false) : WL P ops Q l N E' w0 M L := h.elim
variable {n n' : Nat} {listed listed' : Array Bool}
theorem wa_dead {c : Bool} (h : False) (hK : WA P ops Q listed' n' N ((d, .bool c) :: E) w0 M L Lk) (e : c = false) : WA P ops Q listed n N E' w0 M L Lk := h.elim
theorem wa_and {b c : Bool}
    (ht : b = true → WA P ops Q listed' n' N ((d, .bool c) :: E) w0 M L Lk → WA P ops Q listed n N ((t, .bool true) :: E) w0 M L Lk)
    (hf : b = false → WA P ops Q listed' n' N ((d, .bool false) :: E) w0 M L Lk → WA P ops Q listed n N ((t, .bool false) :: E) w0 M L Lk)
    (k : WA P ops Q listed' n' N ((d, .bool (b && c)) :: E) w0 M L Lk) : WA P ops Q listed n N ((t, .bool b) :: E) w0 M L Lk := by
  cases b
  · exact hf rfl k
  · exact ht rfl k
theorem wa_andp {p : Prop} {i : Decidable p} {c : Bool}
    (ht : p → WA P ops Q listed' n' N ((d, .bool c) :: E) w0 M L Lk → WA P ops Q listed n N ((t, .bool true) :: E) w0 M L Lk)
    (hf : ¬ p → WA P ops Q listed' n' N ((d, .bool false) :: E) w0 M L Lk → WA P ops Q listed n N ((t, .bool false) :: E) w0 M L Lk)
    (k : WA P ops Q listed' n' N ((d, .bool (@decide p i && c)) :: E) w0 M L Lk) : WA P ops Q listed n N ((t, .bool (@decide p i)) :: E) w0 M L Lk :=
  wa_and (fun h => ht (of_decide_eq_true h)) (fun h => hf (of_decide_eq_false h)) k
theorem wa_or {b c : Bool}
    (hf : b = false → WA P ops Q listed' n' N ((d, .bool c) :: E) w0 M L Lk → WA P ops Q listed n N ((t, .bool false) :: E) w0 M L Lk)
    (ht : b = true → WA P ops Q listed' n' N ((d, .bool true) :: E) w0 M L Lk → WA P ops Q listed n N ((t, .bool true) :: E) w0 M L Lk)
    (k : WA P ops Q listed' n' N ((d, .bool (b || c)) :: E) w0 M L Lk) : WA P ops Q listed n N ((t, .bool b) :: E) w0 M L Lk := by
  cases b
  · exact hf rfl k
  · exact ht rfl k
theorem wa_orp {p : Prop} {i : Decidable p} {c : Bool}
    (hf : ¬ p → WA P ops Q listed' n' N ((d, .bool c) :: E) w0 M L Lk → WA P ops Q listed n N ((t, .bool false) :: E) w0 M L Lk)
    (ht : p → WA P ops Q listed' n' N ((d, .bool true) :: E) w0 M L Lk → WA P ops Q listed n N ((t, .bool true) :: E) w0 M L Lk)
    (k : WA P ops Q listed' n' N ((d, .bool (@decide p i || c)) :: E) w0 M L Lk) : WA P ops Q listed n N ((t, .bool (@decide p i)) :: E) w0 M L Lk :=
  wa_or (fun h => hf (of_decide_eq_false h)) (fun h => ht (of_decide_eq_true h)) k
/-- The code behind is one for both ways. -/
theorem wc_both {c c' : Code} {E0 : List (Nat × Value)} {L0 : Mem} (hk : WC P Q c' N E0 w0 M L0) (h : WC P Q c' N E0 w0 M L0 → WC P Q c N E w0 M L) : WC P Q c N E w0 M L := h hk
theorem wc_le {c : Code} (h : WC P Q c N E' w0 M L') (hE : LeE E E') (hL : SubL L L') : WC P Q c N E w0 M L := fun a w h1 h2 => h a w (h1.le hE) (h2.sub hL)
/-- The code behind a region is one for all its orders. -/
theorem wc_later0 {c c' : Code} {F : List (Nat × Value)} {G : Mem} (h : WC P Q c' N F w0 M G → WC P (Exit.then (c'.wp P Q) Q) c N E w0 M L) (k : WC P Q c' N F w0 M G) : WC P (Exit.then (c'.wp P Q) Q) c N E w0 M L := h k
theorem wc_later1 {X : Type} {c c' : Code} {F : X → List (Nat × Value)} {G : X → Mem} (h : (∀ x, WC P Q c' N (F x) w0 M (G x)) → WC P (Exit.then (c'.wp P Q) Q) c N E w0 M L) (k : ∀ x, WC P Q c' N (F x) w0 M (G x)) : WC P (Exit.then (c'.wp P Q) Q) c N E w0 M L := h k
theorem wc_later2 {X Y : Type} {c c' : Code} {F : X → Y → List (Nat × Value)} {G : X → Y → Mem} (h : (∀ x y, WC P Q c' N (F x y) w0 M (G x y)) → WC P (Exit.then (c'.wp P Q) Q) c N E w0 M L) (k : ∀ x y, WC P Q c' N (F x y) w0 M (G x y)) : WC P (Exit.then (c'.wp P Q) Q) c N E w0 M L := h k
theorem wc_later3 {X Y Z : Type} {c c' : Code} {F : X → Y → Z → List (Nat × Value)} {G : X → Y → Z → Mem} (h : (∀ x y z, WC P Q c' N (F x y z) w0 M (G x y z)) → WC P (Exit.then (c'.wp P Q) Q) c N E w0 M L) (k : ∀ x y z, WC P Q c' N (F x y z) w0 M (G x y z)) : WC P (Exit.then (c'.wp P Q) Q) c N E w0 M L := h k
end
/-! found by the instances: what memory is left; what tells no panic by the frame -/
class SubC (L L' : Mem) : Prop where
  out : SubL L L'
instance {L : Mem} : SubC L [] := ⟨.nil⟩
instance {L L' R : Mem} {b : Nat} {cs : List Value} {T : TypeId} {fr : Nat × Nat} [h : PkBlk L b cs T fr R] [k : SubC R L'] : SubC L (.blk b cs T fr :: L') := ⟨.cons h.out k.out⟩
instance {L L' R : Mem} {b c : Nat} {es : List MapEntry} [h : PkMap L b es c R] [k : SubC R L'] : SubC L (.map b es c :: L') := ⟨.cons h.out k.out⟩
instance {L L' R : Mem} {v : Value} {T : TypeId} {sz n : Nat} {us : List Value} [h : PkOwn L v T sz n us R] [k : SubC R L'] : SubC L (.own v T sz n us :: L') := ⟨.cons h.out k.out⟩
class CalmC (Q : Post) : Prop where
  out : Calm Q
instance {P : Program} {fn : Func} {R : Ending → World → Prop} : CalmC (bodyPost P fn R) := ⟨calm_body⟩
instance {K : Act → World → Prop} {Q : Post} [h : CalmC Q] : CalmC (Exit.then K Q) := ⟨calm_then h.out⟩
instance {id : Nat} {Q : Post} [h : CalmC Q] : CalmC (Exit.inBlock id Q) := ⟨calm_block h.out⟩
def takeOk (ops : Array Oper) (listed : Array Bool) (i : Nat) : Bool := Region.noSelect ops && (Region.free .any ops listed i && (Region.ready .any ops listed).contains i)
section
variable {P : Program} {Q : Post} {fn : Func} {N : Nat} {E E' : List (Nat × Value)} {w0 : World} {M : List Nat} {L L' Lk R : Mem} {ops : Array Oper} {o : Oper} {n d j t : Nat} {v u : Value} {want : Bool} {listed : Array Bool}
theorem wa_t (i : Nat) (hok : takeOk ops listed i = true) (hi : ops[i]? = some o) [hQ : CalmC Q] (hg : o.guard = none) (hd : o.dst = some d) (hN : Nat.blt d N = true) [hsub : SubC L Lk] (hy : Yl P o N E w0 M Lk v)
    (k : WA P ops Q (listed.setIfInBounds i true) n N ((d, v) :: E) w0 M L Lk) : WA P ops Q listed (n + 1) N E w0 M L Lk := by
  simp only [takeOk, Bool.and_eq_true] at hok
  exact wa_take hi hok.1 hok.2.1 hok.2.2 hQ.out hg hd hN hsub.out hy rfl k
theorem wa_gt (i : Nat) (hok : takeOk ops listed i = true) (hi : ops[i]? = some o) [hQ : CalmC Q] (hg : o.guard = some (j, want)) (hj : dstOf ops j = some t) (ht : Nat.blt t N = true) (hl : lk E t = some u) (hb : (boolOf u == some want) = true)
    (hd : o.dst = some d) (hN : Nat.blt d N = true) [hsub : SubC L Lk] (hy : Yl P o N E w0 M Lk v) (k : WA P ops Q (listed.setIfInBounds i true) n N ((d, v) :: E) w0 M L Lk) : WA P ops Q listed (n + 1) N E w0 M L Lk := by
  simp only [takeOk, Bool.and_eq_true] at hok
  exact wa_gtake hi hok.1 hok.2.1 hok.2.2 hQ.out hg hj ht hl hb hd hN hsub.out hy rfl k
theorem wa_gs (i : Nat) (hok : takeOk ops listed i = true) (hi : ops[i]? = some o) [hQ : CalmC Q] (hg : o.guard = some (j, want)) (hj : dstOf ops j = some t) (ht : Nat.blt t N = true) (hl : lk E t = some u) (hb : (boolOf u == some want) = false)
    (hd : o.dst = some d) (hN : Nat.blt d N = true) [hsub : SubC L Lk] (k : WA P ops Q (listed.setIfInBounds i true) n N ((d, undef) :: E) w0 M L Lk) : WA P ops Q listed (n + 1) N E w0 M L Lk := by
  simp only [takeOk, Bool.and_eq_true] at hok
  exact wa_gskip hi hok.1 hok.2.1 hok.2.2 hQ.out hg hj ht hl hb hd hN hsub.out rfl k
/-- a region that changes the block b -/
theorem wa_begin1 {id : Nat} {l : List Oper} {n : Nat} {bs : Array Bool} (b : Nat) {cs : List Value} {T : TypeId} {fr : Nat × Nat} [hp : PkBlk L b cs T fr R] (hm : P.follows .mixedOrders = true) (hn : l.length = n) (hb : Array.replicate n false = bs) (h : WA P l.toArray Q bs n N E w0 M L R) : WC P Q (.region id l.toArray true) N E w0 M L := by
  refine wc_turn (L' := .blk b cs T fr :: R) (fun w hw => hw.perm hp.out.perm) (wa_begin (Lk := R) hm hn hb fun hc a w hE hL => ?_)
  exact h hc a w hE (hL.perm hp.out.perm.symm)
theorem wa_begin2 {id : Nat} {l : List Oper} {n : Nat} {bs : Array Bool} (b b' : Nat) {cs cs' : List Value} {T T' : TypeId} {fr fr' : Nat × Nat} {R' : Mem} [hp : PkBlk L b cs T fr R] [hp' : PkBlk R b' cs' T' fr' R'] (hm : P.follows .mixedOrders = true) (hn : l.length = n) (hb : Array.replicate n false = bs) (h : WA P l.toArray Q bs n N E w0 M L R') : WC P Q (.region id l.toArray true) N E w0 M L := by
  have hpm : L.Perm (.blk b cs T fr :: .blk b' cs' T' fr' :: R') := hp.out.perm.trans (List.Perm.cons _ hp'.out.perm)
  refine wc_turn (L' := .blk b cs T fr :: .blk b' cs' T' fr' :: R') (fun w hw => hw.perm hpm) (wa_begin (Lk := R') hm hn hb fun hc a w hE hL => ?_)
  exact h hc a w hE (hL.perm hpm.symm)
variable {Φ : List (Nat × Value) → Mem → Prop}
theorem wa_e (i : Nat) (hr : Region.ready .any ops listed = [i]) (hi : ops[i]? = some o) (hg : o.guard = none) (he : Ef P Q o N E w0 M L Φ)
    (k : ∀ E' L', Φ E' L' → (lastB ops i = true ∨ SubL L' Lk) ∧ WA P ops Q (listed.setIfInBounds i true) n N E' w0 M L' Lk) : WA P ops Q listed (n + 1) N E w0 M L Lk := wa_ef hr hi hg rfl he k
theorem wa_ge (i : Nat) (hr : Region.ready .any ops listed = [i]) (hi : ops[i]? = some o) (hg : o.guard = some (j, want)) (hj : dstOf ops j = some t) (ht : Nat.blt t N = true) (hl : lk E t = some u) (hb : (boolOf u == some want) = true) (he : Ef P Q o N E w0 M L Φ)
    (k : ∀ E' L', Φ E' L' → (lastB ops i = true ∨ SubL L' Lk) ∧ WA P ops Q (listed.setIfInBounds i true) n N E' w0 M L' Lk) : WA P ops Q listed (n + 1) N E w0 M L Lk := wa_gef hr hi hg hj ht hl hb rfl he k
theorem wo_e {i : Nat} (hi : ops[i]? = some o) (hg : o.guard = none) (he : Ef P Q o N E w0 M L Φ)
    (k : ∀ E' L', Φ E' L' → (lastB ops i = true ∨ SubL L' Lk) ∧ WA P ops Q (listed.setIfInBounds i true) n N E' w0 M L' Lk) : WOp P ops Q i listed n N E w0 M L Lk := wo_ef hi hg rfl he k
theorem wo_ge {i : Nat} (hi : ops[i]? = some o) (hg : o.guard = some (j, want)) (hj : dstOf ops j = some t) (ht : Nat.blt t N = true) (hl : lk E t = some u) (hb : (boolOf u == some want) = true) (he : Ef P Q o N E w0 M L Φ)
    (k : ∀ E' L', Φ E' L' → (lastB ops i = true ∨ SubL L' Lk) ∧ WA P ops Q (listed.setIfInBounds i true) n N E' w0 M L' Lk) : WOp P ops Q i listed n N E w0 M L Lk := by
  intro hmem hcl a w hE hL
  have hcl' := hcl.set hmem
  unfold wpOp
  simp only [hi]
  rw [wanted_of hE hg hj ht hl, hb, if_pos rfl]
  exact .inl (he _ (fun E' L' hΦ a w h1 h2 => ⟨fun hb => (k E' L' hΦ).1.elim (fun e => by rw [e] at hb; cases hb) (fun e => h2.sub e), (k E' L' hΦ).2 hcl' a w h1 h2⟩) a w hE hL)
end
end Go.Proofs.Ytdgmkbjopcopcaa
