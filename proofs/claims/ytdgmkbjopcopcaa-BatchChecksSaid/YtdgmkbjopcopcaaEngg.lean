/- An engine for walks, seventh part: what came late. Own work. -/
import Derived.Test.YtdgmkbjopcopcaaEngf
set_option linter.unusedVariables false
set_option linter.unusedSimpArgs false
namespace Go.Proofs.Ytdgmkbjopcopcaa
open Go.RowKit
theorem OwnR.full {w : World} {T : TypeId} {sz n : Nat} {v : Value} {xs : List Value} (h : OwnR w T sz v n xs) : OwnR w T sz (fullv v n) n xs := by
  refine ⟨h.1, ?_⟩
  rcases h.2 with ⟨rfl, rfl⟩ | ⟨gb, cap, cur, lo, hi, rfl, hg, hf, hnc, hcm, hcs, htake⟩
  · exact .inl ⟨rfl, rfl⟩
  · exact .inr ⟨gb, n, cur, lo, hi, rfl, hg, hf, Nat.le_refl _, by omega, Nat.le_trans (Nat.mul_le_mul_right _ hnc) hcs, htake⟩
section
variable {P : Program} {Q : Post} {fn : Func} {N : Nat} {E E' : List (Nat × Value)} {w0 : World} {M : List Nat} {L L' Lk R : Mem} {dd : Nat} {d : Option Nat} {ty : TypeId} {pos : String} {af : Array Edge} {g : Option (Nat × Bool)} {x y z : Operand} {t t' : TypeId} {ops : Array Oper} {rest : List Oper} {o : Oper}
theorem wa_begin_all {id : Nat} {l : List Oper} {n : Nat} {b : Array Bool} (hm : P.follows .mixedOrders = true) (hn : l.length = n) (hb : Array.replicate n false = b) (h : WA P l.toArray Q b n N E w0 M L L) : WC P Q (.region id l.toArray true) N E w0 M L := wa_begin hm hn hb h
theorem wa_splitb {n t : Nat} {listed : Array Bool} {p : Bool} (hl : lk E t = some (.bool p)) (ht : p = true → WA P ops Q listed n N ((t, .bool true) :: E) w0 M L Lk) (hf : p = false → WA P ops Q listed n N ((t, .bool false) :: E) w0 M L Lk) : WA P ops Q listed n N E w0 M L Lk := by
  refine wa_split (t := t) (p := p = true) (i := inferInstance) (by rw [hl]; cases p <;> rfl) ht (fun h => hf (by simpa using h))
/-- a call that takes an own row and hands back another -/
theorem ef_callc {f : FuncId} {xs : List Operand} {ts : Array TypeId} {vs : List Value} {v : Value} {T : TypeId} {sz n n' : Nat} {us us' : List Value} (hN : Nat.blt dd N = true) (hf : Fun P f) (hx : evs E xs = some vs) [hp : PkOwn L v T sz n us R]
    (hc : ∀ w, Has w0 M L w → Calls P f vs.toArray w (RP v.ownBlock.toList w (fun v' L' => L' = [.own v' T sz n' us']))) :
    Ef P Q ⟨some dd, .call ⟨.value (.func f), xs.toArray, ts⟩, ty, pos, af, g⟩ N E w0 M L (fun E' L' => ∃ v', E' = (dd, v') :: E ∧ L' = .own v' T sz n' us' :: R) := by
  intro K hK a w hE hL
  refine ef_call (Lm := [.own v T sz n us]) (R := R) hN hf hx ⟨R, hp.out.perm, rfl⟩ (by simp [foots, Asn.foot]) hc K (fun E' L' hΦ => ?_) a w hE hL
  obtain ⟨v', Lc, rfl, rfl, rfl⟩ := hΦ
  exact hK _ _ ⟨v', rfl, rfl⟩
/-- what is known may be told otherwise -/
theorem wl_turn {l : List Oper} (ht : ∀ w, Has w0 M L w → Has w0 M L' w) (h : WL P ops Q l N E w0 M L') : WL P ops Q l N E w0 M L := fun a w hE hL => h a w hE (ht w hL)
theorem wc_turn {c : Code} (ht : ∀ w, Has w0 M L w → Has w0 M L' w) (h : WC P Q c N E w0 M L') : WC P Q c N E w0 M L := fun a w hE hL => h a w hE (ht w hL)
theorem Has.fullOwn {w : World} {v : Value} {T : TypeId} {sz n : Nat} {us : List Value} (h : Has w0 M L w) (hu : Upd L (.own v T sz n us) (.own (fullv v n) T sz n us) L') : Has w0 M L' w := by
  obtain ⟨R, hp, _⟩ := hu.perm
  have ho : OwnR w T sz v n us := (h.all (.own v T sz n us) (hp.mem_iff.2 (by simp)))
  have hb : (fullv v n).ownBlock = v.ownBlock := by
    cases v with
    | slice A l c => cases A <;> rfl
    | _ => rfl
  exact h.upd hu (Ext.refl _ _) ho.full (fun b hb' => .inl (by simpa only [Asn.foot, hb] using hb')) (by simp only [Asn.foot]; cases (fullv v n).ownBlock <;> simp)
theorem rd_own {v : Value} {T : TypeId} {sz n : Nat} {us : List Value} [hp : PkOwn L v T sz n us R] : ∀ w, Has w0 M L w → Rd w v sz n us := fun _ hw => Rd.of_own (hw.pick hp.out)
theorem rd_in {v : Value} {sz n : Nat} {us : List Value} (hr : RdI w0 M v sz n us) : ∀ w, Has w0 M L w → Rd w v sz n us := fun _ hw => hw.rd hr
theorem src_own {T e : TypeId} {v : Value} {sz n : Nat} {us : List Value} (hu : P.underlying t = some (.slice e)) [hp : PkOwn L v T sz n us R] (h1 : OneAll us) : ∀ w, Has w0 M L w → Src P w e t v sz n us := fun _ hw => src_rd hu (Rd.of_own (hw.pick hp.out)) h1
theorem src_in {e : TypeId} {v : Value} {sz n : Nat} {us : List Value} (hu : P.underlying t = some (.slice e)) (hr : RdI w0 M v sz n us) (h1 : OneAll us) : ∀ w, Has w0 M L w → Src P w e t v sz n us := fun _ hw => src_rd hu (hw.rd hr) h1
/-! loops with two, three, four indices -/
section
def Again2 {X0 X1 : Type} (N : Nat) (F : X0 → X1 → List (Nat × Value)) (G : X0 → X1 → Mem) (pre : X0 → X1 → Prop) (μ : X0 → X1 → Nat) (w0 : World) (M : List Nat) (m : Nat) : Act → World → Prop :=
  fun a w => ∃ x0 x1, pre x0 x1 ∧ μ x0 x1 < m ∧ Env N (F x0 x1) a ∧ Has w0 M (G x0 x1) w
theorem wc_loop2 {X0 X1 : Type} {c : Code} (F : X0 → X1 → List (Nat × Value)) (G : X0 → X1 → Mem) (pre : X0 → X1 → Prop) (μ : X0 → X1 → Nat) (a0 : X0) (a1 : X1) (h0 : pre a0 a1) (hE : SubE E (F a0 a1)) (hL : SubL L (G a0 a1))
    (hb : ∀ x0 x1, pre x0 x1 → WC P (Exit.then (Again2 N F G pre μ w0 M (μ x0 x1)) Q) c N (F x0 x1) w0 M (G x0 x1)) : WC P Q (.loop c) N E w0 M L :=
  wc_loop (fun p : X0 × X1 => F p.1 p.2) (fun p => G p.1 p.2) (fun p => pre p.1 p.2) (fun p => μ p.1 p.2) (a0, a1) h0 hE hL fun p hp a w h1 h2 =>
    wp_mono (hb p.1 p.2 hp a w h1 h2) fun e a w q => by
      cases e with
      | normal =>
        obtain ⟨x0, x1, q1, q2, q3, q4⟩ := q
        exact ⟨(x0, x1), q1, q2, q3, q4⟩
      | _ => exact q
theorem q_again2 {X0 X1 : Type} {F : X0 → X1 → List (Nat × Value)} {G : X0 → X1 → Mem} {pre : X0 → X1 → Prop} {μ : X0 → X1 → Nat} {m : Nat} (x0 : X0) (x1 : X1) (hp : pre x0 x1) (hm : μ x0 x1 < m) (hE : SubE E (F x0 x1)) (hL : SubL L (G x0 x1)) :
    AtQ (Exit.then (Again2 N F G pre μ w0 M m) Q) .normal N E w0 M L := fun a w h1 h2 => ⟨x0, x1, hp, hm, h1.sub hE, h2.sub hL⟩
def Again3 {X0 X1 X2 : Type} (N : Nat) (F : X0 → X1 → X2 → List (Nat × Value)) (G : X0 → X1 → X2 → Mem) (pre : X0 → X1 → X2 → Prop) (μ : X0 → X1 → X2 → Nat) (w0 : World) (M : List Nat) (m : Nat) : Act → World → Prop :=
  fun a w => ∃ x0 x1 x2, pre x0 x1 x2 ∧ μ x0 x1 x2 < m ∧ Env N (F x0 x1 x2) a ∧ Has w0 M (G x0 x1 x2) w
theorem wc_loop3 {X0 X1 X2 : Type} {c : Code} (F : X0 → X1 → X2 → List (Nat × Value)) (G : X0 → X1 → X2 → Mem) (pre : X0 → X1 → X2 → Prop) (μ : X0 → X1 → X2 → Nat) (a0 : X0) (a1 : X1) (a2 : X2) (h0 : pre a0 a1 a2) (hE : SubE E (F a0 a1 a2)) (hL : SubL L (G a0 a1 a2))
    (hb : ∀ x0 x1 x2, pre x0 x1 x2 → WC P (Exit.then (Again3 N F G pre μ w0 M (μ x0 x1 x2)) Q) c N (F x0 x1 x2) w0 M (G x0 x1 x2)) : WC P Q (.loop c) N E w0 M L :=
  wc_loop (fun p : X0 × X1 × X2 => F p.1 p.2.1 p.2.2) (fun p => G p.1 p.2.1 p.2.2) (fun p => pre p.1 p.2.1 p.2.2) (fun p => μ p.1 p.2.1 p.2.2) (a0, a1, a2) h0 hE hL fun p hp a w h1 h2 =>
    wp_mono (hb p.1 p.2.1 p.2.2 hp a w h1 h2) fun e a w q => by
      cases e with
      | normal =>
        obtain ⟨x0, x1, x2, q1, q2, q3, q4⟩ := q
        exact ⟨(x0, x1, x2), q1, q2, q3, q4⟩
      | _ => exact q
theorem q_again3 {X0 X1 X2 : Type} {F : X0 → X1 → X2 → List (Nat × Value)} {G : X0 → X1 → X2 → Mem} {pre : X0 → X1 → X2 → Prop} {μ : X0 → X1 → X2 → Nat} {m : Nat} (x0 : X0) (x1 : X1) (x2 : X2) (hp : pre x0 x1 x2) (hm : μ x0 x1 x2 < m) (hE : SubE E (F x0 x1 x2)) (hL : SubL L (G x0 x1 x2)) :
    AtQ (Exit.then (Again3 N F G pre μ w0 M m) Q) .normal N E w0 M L := fun a w h1 h2 => ⟨x0, x1, x2, hp, hm, h1.sub hE, h2.sub hL⟩
def Again4 {X0 X1 X2 X3 : Type} (N : Nat) (F : X0 → X1 → X2 → X3 → List (Nat × Value)) (G : X0 → X1 → X2 → X3 → Mem) (pre : X0 → X1 → X2 → X3 → Prop) (μ : X0 → X1 → X2 → X3 → Nat) (w0 : World) (M : List Nat) (m : Nat) : Act → World → Prop :=
  fun a w => ∃ x0 x1 x2 x3, pre x0 x1 x2 x3 ∧ μ x0 x1 x2 x3 < m ∧ Env N (F x0 x1 x2 x3) a ∧ Has w0 M (G x0 x1 x2 x3) w
theorem wc_loop4 {X0 X1 X2 X3 : Type} {c : Code} (F : X0 → X1 → X2 → X3 → List (Nat × Value)) (G : X0 → X1 → X2 → X3 → Mem) (pre : X0 → X1 → X2 → X3 → Prop) (μ : X0 → X1 → X2 → X3 → Nat) (a0 : X0) (a1 : X1) (a2 : X2) (a3 : X3) (h0 : pre a0 a1 a2 a3) (hE : SubE E (F a0 a1 a2 a3)) (hL : SubL L (G a0 a1 a2 a3))
    (hb : ∀ x0 x1 x2 x3, pre x0 x1 x2 x3 → WC P (Exit.then (Again4 N F G pre μ w0 M (μ x0 x1 x2 x3)) Q) c N (F x0 x1 x2 x3) w0 M (G x0 x1 x2 x3)) : WC P Q (.loop c) N E w0 M L :=
  wc_loop (fun p : X0 × X1 × X2 × X3 => F p.1 p.2.1 p.2.2.1 p.2.2.2) (fun p => G p.1 p.2.1 p.2.2.1 p.2.2.2) (fun p => pre p.1 p.2.1 p.2.2.1 p.2.2.2) (fun p => μ p.1 p.2.1 p.2.2.1 p.2.2.2) (a0, a1, a2, a3) h0 hE hL fun p hp a w h1 h2 =>
    wp_mono (hb p.1 p.2.1 p.2.2.1 p.2.2.2 hp a w h1 h2) fun e a w q => by
      cases e with
      | normal =>
        obtain ⟨x0, x1, x2, x3, q1, q2, q3, q4⟩ := q
        exact ⟨(x0, x1, x2, x3), q1, q2, q3, q4⟩
      | _ => exact q
theorem q_again4 {X0 X1 X2 X3 : Type} {F : X0 → X1 → X2 → X3 → List (Nat × Value)} {G : X0 → X1 → X2 → X3 → Mem} {pre : X0 → X1 → X2 → X3 → Prop} {μ : X0 → X1 → X2 → X3 → Nat} {m : Nat} (x0 : X0) (x1 : X1) (x2 : X2) (x3 : X3) (hp : pre x0 x1 x2 x3) (hm : μ x0 x1 x2 x3 < m) (hE : SubE E (F x0 x1 x2 x3)) (hL : SubL L (G x0 x1 x2 x3)) :
    AtQ (Exit.then (Again4 N F G pre μ w0 M m) Q) .normal N E w0 M L := fun a w h1 h2 => ⟨x0, x1, x2, x3, hp, hm, h1.sub hE, h2.sub hL⟩
def Again5 {X0 X1 X2 X3 X4 : Type} (N : Nat) (F : X0 → X1 → X2 → X3 → X4 → List (Nat × Value)) (G : X0 → X1 → X2 → X3 → X4 → Mem) (pre : X0 → X1 → X2 → X3 → X4 → Prop) (μ : X0 → X1 → X2 → X3 → X4 → Nat) (w0 : World) (M : List Nat) (m : Nat) : Act → World → Prop :=
  fun a w => ∃ x0 x1 x2 x3 x4, pre x0 x1 x2 x3 x4 ∧ μ x0 x1 x2 x3 x4 < m ∧ Env N (F x0 x1 x2 x3 x4) a ∧ Has w0 M (G x0 x1 x2 x3 x4) w
theorem wc_loop5 {X0 X1 X2 X3 X4 : Type} {c : Code} (F : X0 → X1 → X2 → X3 → X4 → List (Nat × Value)) (G : X0 → X1 → X2 → X3 → X4 → Mem) (pre : X0 → X1 → X2 → X3 → X4 → Prop) (μ : X0 → X1 → X2 → X3 → X4 → Nat) (a0 : X0) (a1 : X1) (a2 : X2) (a3 : X3) (a4 : X4) (h0 : pre a0 a1 a2 a3 a4) (hE : SubE E (F a0 a1 a2 a3 a4)) (hL : SubL L (G a0 a1 a2 a3 a4))
    (hb : ∀ x0 x1 x2 x3 x4, pre x0 x1 x2 x3 x4 → WC P (Exit.then (Again5 N F G pre μ w0 M (μ x0 x1 x2 x3 x4)) Q) c N (F x0 x1 x2 x3 x4) w0 M (G x0 x1 x2 x3 x4)) : WC P Q (.loop c) N E w0 M L :=
  wc_loop (fun p : X0 × X1 × X2 × X3 × X4 => F p.1 p.2.1 p.2.2.1 p.2.2.2.1 p.2.2.2.2) (fun p => G p.1 p.2.1 p.2.2.1 p.2.2.2.1 p.2.2.2.2) (fun p => pre p.1 p.2.1 p.2.2.1 p.2.2.2.1 p.2.2.2.2) (fun p => μ p.1 p.2.1 p.2.2.1 p.2.2.2.1 p.2.2.2.2) (a0, a1, a2, a3, a4) h0 hE hL fun p hp a w h1 h2 =>
    wp_mono (hb p.1 p.2.1 p.2.2.1 p.2.2.2.1 p.2.2.2.2 hp a w h1 h2) fun e a w q => by
      cases e with
      | normal =>
        obtain ⟨x0, x1, x2, x3, x4, q1, q2, q3, q4⟩ := q
        exact ⟨(x0, x1, x2, x3, x4), q1, q2, q3, q4⟩
      | _ => exact q
theorem q_again5 {X0 X1 X2 X3 X4 : Type} {F : X0 → X1 → X2 → X3 → X4 → List (Nat × Value)} {G : X0 → X1 → X2 → X3 → X4 → Mem} {pre : X0 → X1 → X2 → X3 → X4 → Prop} {μ : X0 → X1 → X2 → X3 → X4 → Nat} {m : Nat} (x0 : X0) (x1 : X1) (x2 : X2) (x3 : X3) (x4 : X4) (hp : pre x0 x1 x2 x3 x4) (hm : μ x0 x1 x2 x3 x4 < m) (hE : SubE E (F x0 x1 x2 x3 x4)) (hL : SubL L (G x0 x1 x2 x3 x4)) :
    AtQ (Exit.then (Again5 N F G pre μ w0 M m) Q) .normal N E w0 M L := fun a w h1 h2 => ⟨x0, x1, x2, x3, x4, hp, hm, h1.sub hE, h2.sub hL⟩
def Again6 {X0 X1 X2 X3 X4 X5 : Type} (N : Nat) (F : X0 → X1 → X2 → X3 → X4 → X5 → List (Nat × Value)) (G : X0 → X1 → X2 → X3 → X4 → X5 → Mem) (pre : X0 → X1 → X2 → X3 → X4 → X5 → Prop) (μ : X0 → X1 → X2 → X3 → X4 → X5 → Nat) (w0 : World) (M : List Nat) (m : Nat) : Act → World → Prop :=
  fun a w => ∃ x0 x1 x2 x3 x4 x5, pre x0 x1 x2 x3 x4 x5 ∧ μ x0 x1 x2 x3 x4 x5 < m ∧ Env N (F x0 x1 x2 x3 x4 x5) a ∧ Has w0 M (G x0 x1 x2 x3 x4 x5) w
theorem wc_loop6 {X0 X1 X2 X3 X4 X5 : Type} {c : Code} (F : X0 → X1 → X2 → X3 → X4 → X5 → List (Nat × Value)) (G : X0 → X1 → X2 → X3 → X4 → X5 → Mem) (pre : X0 → X1 → X2 → X3 → X4 → X5 → Prop) (μ : X0 → X1 → X2 → X3 → X4 → X5 → Nat) (a0 : X0) (a1 : X1) (a2 : X2) (a3 : X3) (a4 : X4) (a5 : X5) (h0 : pre a0 a1 a2 a3 a4 a5) (hE : SubE E (F a0 a1 a2 a3 a4 a5)) (hL : SubL L (G a0 a1 a2 a3 a4 a5))
    (hb : ∀ x0 x1 x2 x3 x4 x5, pre x0 x1 x2 x3 x4 x5 → WC P (Exit.then (Again6 N F G pre μ w0 M (μ x0 x1 x2 x3 x4 x5)) Q) c N (F x0 x1 x2 x3 x4 x5) w0 M (G x0 x1 x2 x3 x4 x5)) : WC P Q (.loop c) N E w0 M L :=
  wc_loop (fun p : X0 × X1 × X2 × X3 × X4 × X5 => F p.1 p.2.1 p.2.2.1 p.2.2.2.1 p.2.2.2.2.1 p.2.2.2.2.2) (fun p => G p.1 p.2.1 p.2.2.1 p.2.2.2.1 p.2.2.2.2.1 p.2.2.2.2.2) (fun p => pre p.1 p.2.1 p.2.2.1 p.2.2.2.1 p.2.2.2.2.1 p.2.2.2.2.2) (fun p => μ p.1 p.2.1 p.2.2.1 p.2.2.2.1 p.2.2.2.2.1 p.2.2.2.2.2) (a0, a1, a2, a3, a4, a5) h0 hE hL fun p hp a w h1 h2 =>
    wp_mono (hb p.1 p.2.1 p.2.2.1 p.2.2.2.1 p.2.2.2.2.1 p.2.2.2.2.2 hp a w h1 h2) fun e a w q => by
      cases e with
      | normal =>
        obtain ⟨x0, x1, x2, x3, x4, x5, q1, q2, q3, q4⟩ := q
        exact ⟨(x0, x1, x2, x3, x4, x5), q1, q2, q3, q4⟩
      | _ => exact q
theorem q_again6 {X0 X1 X2 X3 X4 X5 : Type} {F : X0 → X1 → X2 → X3 → X4 → X5 → List (Nat × Value)} {G : X0 → X1 → X2 → X3 → X4 → X5 → Mem} {pre : X0 → X1 → X2 → X3 → X4 → X5 → Prop} {μ : X0 → X1 → X2 → X3 → X4 → X5 → Nat} {m : Nat} (x0 : X0) (x1 : X1) (x2 : X2) (x3 : X3) (x4 : X4) (x5 : X5) (hp : pre x0 x1 x2 x3 x4 x5) (hm : μ x0 x1 x2 x3 x4 x5 < m) (hE : SubE E (F x0 x1 x2 x3 x4 x5)) (hL : SubL L (G x0 x1 x2 x3 x4 x5)) :
    AtQ (Exit.then (Again6 N F G pre μ w0 M m) Q) .normal N E w0 M L := fun a w h1 h2 => ⟨x0, x1, x2, x3, x4, x5, hp, hm, h1.sub hE, h2.sub hL⟩
end
/-! bytes -/
theorem wrap_u8 (m : Int) : Value.int .u8 (IntKind.u8.wrap m) = bv (UInt8.ofInt m) := by
  simp only [bv]
  congr 1
  simp only [IntKind.wrap, IntKind.bits, IntKind.signed]
  simp [UInt8.ofInt]
  omega
theorem y_convByte {k : IntKind} {m : Int} (hu : P.underlying t = some (.int k)) (hu' : P.underlying t' = some (.int .u8)) (hx : ev E x = some (.int k m)) : Yl P ⟨d, .convert t t' x, ty, pos, af, g⟩ N E w0 M L (bv (UInt8.ofInt m)) := by
  rw [← wrap_u8]
  exact y_conv hu hu' hx
theorem y_convFromByte {b : UInt8} (hu : P.underlying t = some (.int .u8)) (hu' : P.underlying t' = some (.int .i64)) (hx : ev E x = some (bv b)) : Yl P ⟨d, .convert t t' x, ty, pos, af, g⟩ N E w0 M L (.int .i64 (b.toNat : Int)) := by
  have := y_conv (P := P) (w0 := w0) (M := M) (L := L) (d := d) (ty := ty) (pos := pos) (af := af) (g := g) (N := N) hu hu' hx
  have hb := b.toNat_lt
  rwa [IntKind.wrap_i64, show ((b.toNat : Int) + 9223372036854775808) % 18446744073709551616 - 9223372036854775808 = b.toNat from by omega] at this
/-- results that lie in cells -/
theorem resc {a b t : Nat} {cs us : List Value} {T : TypeId} {fr : Nat × Nat} {n : Nat} (hr : fn.results = #[.cell a t]) (hl : lk E a = some (.pointer (some ⟨b, 0, none⟩))) (h1 : AggOf P t n) [hp : PkBlk L b cs T fr R] (hv : PartN cs 0 n us) :
    ∀ a w, Env N E a → Has w0 M L w → (results fn a.tmps).run P w = .ok (.agg us.toArray) w := fun ac w hE hL => by
  have hv' := hv.part
  obtain ⟨h2, rfl⟩ := hv'
  have hg := hE.get _ _ hl
  have := run_loadVarN (P := P) (t := t) h1 (w := w) (a := ⟨b, 0, none⟩) (fun j u hu => by rw [addr_add, cell_blk (R := R) hL]; exact h2 j u hu)
  simp only [Array.getD_eq_getD_getElem?] at hg
  simp [results, hr, hg, asAddr, this]
theorem resc1 {a b t : Nat} {cs : List Value} {v : Value} {T : TypeId} {fr : Nat × Nat} (hr : fn.results = #[.cell a t]) (hl : lk E a = some (.pointer (some ⟨b, 0, none⟩))) (h1 : One P t) [hp : PkBlk L b cs T fr R] (hv : cs[0]? = some v) :
    ∀ a w, Env N E a → Has w0 M L w → (results fn a.tmps).run P w = .ok v w := fun ac w hE hL => by
  have hg := hE.get _ _ hl
  have := run_loadVar1 (P := P) (t := t) h1 (w := w) (a := ⟨b, 0, none⟩) ((cell_blk (R := R) hL).trans hv)
  simp only [Array.getD_eq_getD_getElem?] at hg
  simp [results, hr, hg, asAddr, this]
end
end Go.Proofs.Ytdgmkbjopcopcaa
