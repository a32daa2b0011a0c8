/- Equality of requests, votes, signs. Own work. -/
import Derived.Test.YtdgmkbjopcopcaaEngj
import Derived.Test.YtdgmkbjopcopcaaReqa
set_option linter.unusedVariables false
set_option linter.unusedSimpArgs false
set_option maxRecDepth 100000
set_option maxHeartbeats 8000000
namespace Go.Proofs.Ytdgmkbjopcopcaa
open Go.RowKit

theorem eq_dig {l m : List UInt8} (hl : l.length = 32) (hm : m.length = 32) : Eqs Try.prog 2 28 (.agg (bvs l).toArray) (.agg (bvs m).toArray) (decide (l = m)) := eqs_bytes Try.underlying28 Try.underlying5 siz5 hl hm
theorem eq_tag {l m : List UInt8} (hl : l.length = 16) (hm : m.length = 16) : Eqs Try.prog 2 69 (.agg (bvs l).toArray) (.agg (bvs m).toArray) (decide (l = m)) := eqs_bytes Try.underlying69 Try.underlying5 siz5 hl hm
theorem Eqs.is {P : Program} {k : Nat} {t : TypeId} {x y : Value} {b c : Bool} (h : Eqs P k t x y b) (e : b = c) : Eqs P k t x y c := e ▸ h
deriving instance DecidableEq for Req
theorem eq_req {r s : Req} (hr : r.tag.length = 16) (hs : s.tag.length = 16) : Eqs Try.prog 3 71 (.agg (reqc r).toArray) (.agg (reqc s).toArray) (decide (r = s)) := by
  have h1 : (bvs r.tag).length = 16 := by rw [bvs_len, hr]
  have h2 : (bvs s.tag).length = 16 := by rw [bvs_len, hs]
  refine Eqs.is (b := decide (r.client = s.client) && (decide (r.num = s.num) && (decide (r.data = s.data) && (decide (r.tag = s.tag) && true)))) ?_ ?_
  · refine eqs_struct (k := 2) (by simp [Program.fieldsOf, Try.underlying71]) Try.stoodInHeld71 ?_
    simp only [Program.fieldsOf, Try.underlying71]
    refine EqF.cons (by decide) (part1 one3 rfl) (part1 one3 rfl) ((eqs_int Try.underlying3).up (by omega)) ?_
    refine EqF.cons (by decide) (part1 one3 rfl) (part1 one3 rfl) ((eqs_int Try.underlying3).up (by omega)) ?_
    refine EqF.cons (by decide) (part1 one9 rfl) (part1 one9 rfl) ((eqs_str Try.underlying9).up (by omega)) ?_
    refine EqF.cons (by decide) (partN agg69 (.skip (.skip (.skip (.all h1))))) (partN agg69 (.skip (.skip (.skip (.all h2))))) (eq_tag hr hs) EqF.nil
  · cases r; cases s
    simp only [Req.mk.injEq, Bool.decide_and, Bool.and_true]
end Go.Proofs.Ytdgmkbjopcopcaa
