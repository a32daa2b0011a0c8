/- Walks: raddleref01.Add, raddlelaw07.Light. Own work. -/
import Derived.Test.YtdgmkbjopcopcaaSama
import Derived.Test.YtdgmkbjopcopcaaEngm
set_option linter.unusedVariables false
set_option linter.unusedSimpArgs false
set_option maxRecDepth 100000
set_option maxHeartbeats 8000000
namespace Go.Proofs.Ytdgmkbjopcopcaa
open Go.RowKit

theorem c_Add (n m : Nat) (hn : n ≤ 4001) (hm : m ≤ 9223372036854775807) (w : World) : Calls Try.prog 62 #[.int .i64 (n : Int), .int .i64 (m : Int), .int .i64 4000] w (RV w (.int .i64 ((min (n + m) 4001 : Nat) : Int))) := by
  refine enter (N := 27) Try.func62 rfl Try.ntmps62 rfl (Has.nil _) ?_
  refine wc_seq ?_
  refine wc_region ?_
  refine wl_val rfl rfl rfl (y_assign rfl) ?_
  refine wl_nil ?_
  refine q_then ?_
  refine wc_seq ?_
  refine wc_seq ?_
  refine wc_region ?_
  refine wl_val rfl rfl rfl (y_move rfl) ?_
  refine wl_val rfl rfl rfl (y_move rfl) ?_
  refine wl_val rfl rfl rfl (y_gtr rfl rfl) ?_
  refine wl_val rfl rfl rfl (y_move rfl) ?_
  refine wl_split (t := 10) rfl (fun hg1 => ?_) (fun hg1 => ?_)
  · first
    | (exfalso; (first | with_reducible contradiction | omega | (simp at hg1; done)))
    | skip
      refine wl_gskip rfl rfl rfl rfl rfl rfl rfl ?_
      refine wl_gskip rfl rfl rfl rfl rfl rfl rfl ?_
      refine wl_gskip rfl rfl rfl rfl rfl rfl rfl ?_
      refine wl_val rfl rfl rfl (y_pickt rfl rfl) ?_
      refine wl_val rfl rfl rfl (y_move rfl) ?_
      first | refine wl_split (t := 15) rfl (fun hg2 => ?_) (fun hg2 => ?_) | refine wl_splitb (t := 15) rfl (fun hg2 => ?_) (fun hg2 => ?_)
      · first
        | (exfalso; (first | with_reducible contradiction | omega | (simp at hg2; done)))
        | skip
          refine wl_gskip rfl rfl rfl rfl rfl rfl rfl ?_
          refine wl_gskip rfl rfl rfl rfl rfl rfl rfl ?_
          refine wl_gskip rfl rfl rfl rfl rfl rfl rfl ?_
          refine wl_gskip rfl rfl rfl rfl rfl rfl rfl ?_
          refine wl_gskip rfl rfl rfl rfl rfl rfl rfl ?_
          refine wl_val rfl rfl rfl (y_pickt rfl rfl) ?_
          refine wl_nil ?_
          refine q_then ?_
          first | refine wc_cond rfl (fun hc0 => ?_) (fun hc0 => ?_) | refine wc_condb rfl (fun hc0 => ?_) (fun hc0 => ?_)
          · first
            | ((exfalso; (first | with_reducible contradiction | omega | (simp at hc0; done))))
            | skip
              refine wc_seq ?_
              refine wc_region ?_
              refine wl_val rfl rfl rfl (y_move rfl) ?_
              refine wl_val rfl rfl rfl (y_addn rfl rfl (by omega)) ?_
              refine wl_val rfl rfl rfl (y_assign rfl) ?_
              refine wl_nil ?_
              refine q_then ?_
              refine wc_ret ?_
              refine q_thenRet ?_
              apply q_retg (res1 Try.results62 rfl) -- ret 0
              case hΨ =>
                exact ⟨by congr 1; omega, rfl⟩
              case hs =>
                (repeat (first | exact SubL.nil | refine SubL.consOwn rfl rfl ?_ | refine SubL.consBlk rfl ?_)); fail_if_success focus skip
          · ((exfalso; (first | with_reducible contradiction | omega | (simp at hc0; done))))
      · (exfalso; (first | with_reducible contradiction | omega | (simp at hg2; done)))
  · first
    | (exfalso; (first | with_reducible contradiction | omega | (simp at hg1; done)))
    | skip
      refine wl_gval rfl rfl rfl rfl rfl rfl rfl (y_move rfl) ?_
      refine wl_gval rfl rfl rfl rfl rfl rfl rfl (y_move rfl) ?_
      refine wl_gval rfl rfl rfl rfl rfl rfl rfl (y_gtr rfl rfl) ?_
      first | refine wl_val rfl rfl rfl (y_pickt rfl rfl) ?_ | refine wl_val rfl rfl rfl (y_pickf rfl rfl) ?_
      refine wl_val rfl rfl rfl (y_move rfl) ?_
      refine wl_split (t := 15) rfl (fun hg3 => ?_) (fun hg3 => ?_)
      · first
        | (exfalso; (first | with_reducible contradiction | omega | (simp at hg3; done)))
        | skip
          refine wl_gskip rfl rfl rfl rfl rfl rfl rfl ?_
          refine wl_gskip rfl rfl rfl rfl rfl rfl rfl ?_
          refine wl_gskip rfl rfl rfl rfl rfl rfl rfl ?_
          refine wl_gskip rfl rfl rfl rfl rfl rfl rfl ?_
          refine wl_gskip rfl rfl rfl rfl rfl rfl rfl ?_
          refine wl_val rfl rfl rfl (y_pickt rfl rfl) ?_
          refine wl_nil ?_
          refine q_then ?_
          first | refine wc_cond rfl (fun hc0 => ?_) (fun hc0 => ?_) | refine wc_condb rfl (fun hc0 => ?_) (fun hc0 => ?_)
          · first
            | ((exfalso; (first | with_reducible contradiction | omega | (simp at hc0; done))))
            | skip
              refine wc_seq ?_
              refine wc_region ?_
              refine wl_val rfl rfl rfl (y_move rfl) ?_
              refine wl_val rfl rfl rfl (y_addn rfl rfl (by omega)) ?_
              refine wl_val rfl rfl rfl (y_assign rfl) ?_
              refine wl_nil ?_
              refine q_then ?_
              refine wc_ret ?_
              refine q_thenRet ?_
              apply q_retg (res1 Try.results62 rfl) -- ret 0
              case hΨ =>
                exact ⟨by congr 1; omega, rfl⟩
              case hs =>
                (repeat (first | exact SubL.nil | refine SubL.consOwn rfl rfl ?_ | refine SubL.consBlk rfl ?_)); fail_if_success focus skip
          · ((exfalso; (first | with_reducible contradiction | omega | (simp at hc0; done))))
      · first
        | (exfalso; (first | with_reducible contradiction | omega | (simp at hg3; done)))
        | skip
          refine wl_gval rfl rfl rfl rfl rfl rfl rfl (y_move rfl) ?_
          refine wl_gval rfl rfl rfl rfl rfl rfl rfl (y_move rfl) ?_
          refine wl_gval rfl rfl rfl rfl rfl rfl rfl (y_move rfl) ?_
          refine wl_gval rfl rfl rfl rfl rfl rfl rfl (y_subn rfl rfl (by omega)) ?_
          refine wl_gval rfl rfl rfl rfl rfl rfl rfl (y_gtr rfl rfl) ?_
          first | refine wl_val rfl rfl rfl (y_pickt rfl rfl) ?_ | refine wl_val rfl rfl rfl (y_pickf rfl rfl) ?_
          refine wl_nil ?_
          refine q_then ?_
          refine wc_cond rfl (fun hc0 => ?_) (fun hc0 => ?_)
          · first
            | ((exfalso; (first | with_reducible contradiction | omega | (simp at hc0; done))))
            | skip
              refine wc_seq ?_
              refine wc_region ?_
              refine wl_val rfl rfl rfl (y_move rfl) ?_
              refine wl_val rfl rfl rfl (y_addn rfl rfl (by omega)) ?_
              refine wl_val rfl rfl rfl (y_assign rfl) ?_
              refine wl_nil ?_
              refine q_then ?_
              refine wc_ret ?_
              refine q_thenRet ?_
              apply q_retg (res1 Try.results62 rfl) -- ret 0
              case hΨ =>
                exact ⟨by congr 1; omega, rfl⟩
              case hs =>
                (repeat (first | exact SubL.nil | refine SubL.consOwn rfl rfl ?_ | refine SubL.consBlk rfl ?_)); fail_if_success focus skip
          · first
            | ((exfalso; (first | with_reducible contradiction | omega | (simp at hc0; done))))
            | skip
              refine wc_skip ?_
              refine q_then ?_
              refine wc_seq ?_
              refine wc_region ?_
              refine wl_val rfl rfl rfl (y_move rfl) ?_
              refine wl_val rfl rfl rfl (y_move rfl) ?_
              refine wl_val rfl rfl rfl (y_addn rfl rfl (by omega)) ?_
              refine wl_val rfl rfl rfl (y_assign rfl) ?_
              refine wl_nil ?_
              refine q_then ?_
              refine wc_ret ?_
              apply q_retg (res1 Try.results62 rfl) -- ret 1
              case hΨ =>
                exact ⟨by congr 1; omega, rfl⟩
              case hs =>
                (repeat (first | exact SubL.nil | refine SubL.consOwn rfl rfl ?_ | refine SubL.consBlk rfl ?_)); fail_if_success focus skip
/-- a batch as a value: its requests lie elsewhere -/
structure Bt where
  noop : Bool
  hd : Hd
  rs : List Req
abbrev Bt.v (b : Bt) : Value := b.hd.v b.rs.length
def Bt.cells (b : Bt) : List Value := [.bool b.noop, b.v]
/-- its requests can be read; they fit their types -/
structure BtIn (w : World) (M : List Nat) (b : Bt) : Prop where
  rd : RdI w M b.v 19 b.rs.length (reqsC b.rs)
  tag : ∀ r ∈ b.rs, r.ok 9223372036854775807
def wtR (rs : List Req) (k : Nat) : Nat := ((rs.take k).map fun r => 20 + r.data.size).sum
def wtB (bs : List Bt) (i : Nat) : Nat := ((bs.take i).map fun b => 5 + wtR b.rs b.rs.length).sum
theorem wtR_succ {rs : List Req} {k : Nat} {r : Req} (h : rs[k]? = some r) : wtR rs (k + 1) = wtR rs k + (20 + r.data.size) := by
  rw [wtR, List.take_add_one, h]
  simp [wtR]
theorem wtB_succ {bs : List Bt} {i : Nat} {b : Bt} (h : bs[i]? = some b) : wtB bs (i + 1) = wtB bs i + (5 + wtR b.rs b.rs.length) := by
  rw [wtB, List.take_add_one, h]
  simp [wtB]
theorem sum_take_le (l : List Nat) (k : Nat) : (l.take k).sum ≤ l.sum := by
  conv => rhs; rw [← List.take_append_drop k l]
  rw [List.sum_append]
  omega
theorem wtR_le (rs : List Req) (k : Nat) : wtR rs k ≤ wtR rs rs.length := by
  simp only [wtR, List.take_length]
  rw [List.map_take]
  exact sum_take_le _ _
theorem wtB_le (bs : List Bt) (i : Nat) : wtB bs i ≤ wtB bs bs.length := by
  simp only [wtB, List.take_length]
  rw [List.map_take]
  exact sum_take_le _ _
def lightB (bs : List Bt) : Bool := decide (wtB bs bs.length ≤ 4000)
end Go.Proofs.Ytdgmkbjopcopcaa
