/- impl.WithoutForbidden. -/
import Derived.Test.YtkfjlimlodbcgaaGreatTd
import Derived.Test.YtkfjlimlodbcgaaGreatFp
import Derived.Test.YtkfjlimlodbcgaaGreatFb
import Derived.Test.YtkfjlimlodbcgaaGreatVr
namespace Go.Proofs.YtkfjlimlodbcgaaGreat
open Go.ChangeShapes Go.WideShapes Go.RowKit
set_option linter.unusedVariables false
set_option linter.unusedSimpArgs false
attribute [local irreducible] Calls
/-- The code of a sum and forbidden graphs; the terms whose graphs are free. -/
def pkC (tn te s : Int) (xs : List Trm) (gs : List (Int × Int)) : Int := if sumOk tn te s xs then forbC gs else 1
def wfP (gs : List (Int × Int)) (d : Trm) : Bool := !freeB d.1.2.1.toNat d.1.2.2 gs
def wfL (gs : List (Int × Int)) (xs : List Trm) : List Trm := xs.filter fun d => !wfP gs d
theorem partsOk_any (w : World) (tn te s : Int) (xs : List Trm) (gs : List (Int × Int)) (v gv : Value) (h : Lst shTerm w xs v) (hg : Lst shGr w gs gv) (he : 0 ≤ te ∧ te ≤ 4294967295) (hl : gs.length ≤ 1048576) :
    Calls Tryz.prog 28 #[.agg #[.int .i64 tn, .int .u32 te, .int .i64 s, v], gv] w fun e w' => e = .returned (.int .i64 (pkC tn te s xs gs)) ∧ Below w.heap.size w w' := by
  obtain ⟨A0, cap0, rfl, _, _⟩ := formTerm h
  obtain ⟨A1, cap1, rfl, _, _⟩ := formGraph hg
  have H := Lib.hid h
  have HG := Lib.hid hg
  clear h hg
  cases hs : sumOk tn te s xs
  · have hr : Hid (pkC tn te s xs gs = 1) := Lib.hid (by simp [pkC, hs])
    have HS := Lib.hid hs
    clear hs
    go_enter Tryz.func28, Tryz.ntmps28
    go_wp2_with (first | (go_at_call 36; refine Calls.mono (ValidSum_any _ tn te s xs _ (H.out.below (by (try with_reducible refine bsz ?_); repeat (first | with_reducible exact Below.refl _ _ | ((with_reducible refine bpre ?_); (try simp only [Array.append_assoc]); repeat (first | with_reducible exact Pre.refl _ | with_reducible exact Pre.base _ _ | with_reducible refine Pre.cons _ ?_)) | with_reducible assumption | ((with_reducible refine bsetr ?_); rfl) | with_reducible refine Below.setCell ?_ (by simp <;> omega) _ | with_reducible refine bpl ?_ _ _ | with_reducible refine bal ?_ _ | with_reducible refine bdrew1 ?_ | with_reducible refine bdrew ?_ _))) he) ?_; rw [HS.out]; rintro e w1 ⟨rfl, hb⟩; obtain ⟨X, m, rfl⟩ := plsOf hb; clear hb))
    exact bodyPost_ret (v := .int .i64 1) (by simp [results, Tryz.results28, go_sem]) rfl ⟨by rw [hr.out], (by (try with_reducible refine bsz ?_); repeat (first | with_reducible exact Below.refl _ _ | ((with_reducible refine bpre ?_); (try simp only [Array.append_assoc]); repeat (first | with_reducible exact Pre.refl _ | with_reducible exact Pre.base _ _ | with_reducible refine Pre.cons _ ?_)) | with_reducible assumption | ((with_reducible refine bsetr ?_); rfl) | with_reducible refine Below.setCell ?_ (by simp <;> omega) _ | with_reducible refine bpl ?_ _ _ | with_reducible refine bal ?_ _ | with_reducible refine bdrew1 ?_ | with_reducible refine bdrew ?_ _))⟩
  · have hr : Hid (pkC tn te s xs gs = forbC gs) := Lib.hid (by simp [pkC, hs])
    have HS := Lib.hid hs
    clear hs
    go_enter Tryz.func28, Tryz.ntmps28
    go_wp2_with (first | (go_at_call 36; refine Calls.mono (ValidSum_any _ tn te s xs _ (H.out.below (by (try with_reducible refine bsz ?_); repeat (first | with_reducible exact Below.refl _ _ | ((with_reducible refine bpre ?_); (try simp only [Array.append_assoc]); repeat (first | with_reducible exact Pre.refl _ | with_reducible exact Pre.base _ _ | with_reducible refine Pre.cons _ ?_)) | with_reducible assumption | ((with_reducible refine bsetr ?_); rfl) | with_reducible refine Below.setCell ?_ (by simp <;> omega) _ | with_reducible refine bpl ?_ _ _ | with_reducible refine bal ?_ _ | with_reducible refine bdrew1 ?_ | with_reducible refine bdrew ?_ _))) he) ?_; rw [HS.out]; rintro e w1 ⟨rfl, hb⟩; obtain ⟨X, m, rfl⟩ := plsOf hb; clear hb) | (go_at_call 51; refine Calls.mono (forbiddenOk_any _ gs _ (HG.out.below (by (try with_reducible refine bsz ?_); repeat (first | with_reducible exact Below.refl _ _ | ((with_reducible refine bpre ?_); (try simp only [Array.append_assoc]); repeat (first | with_reducible exact Pre.refl _ | with_reducible exact Pre.base _ _ | with_reducible refine Pre.cons _ ?_)) | with_reducible assumption | ((with_reducible refine bsetr ?_); rfl) | with_reducible refine Below.setCell ?_ (by simp <;> omega) _ | with_reducible refine bpl ?_ _ _ | with_reducible refine bal ?_ _ | with_reducible refine bdrew1 ?_ | with_reducible refine bdrew ?_ _))) hl) ?_; rintro e w1 ⟨rfl, hb⟩; obtain ⟨X, m, rfl⟩ := plsOf hb; clear hb))
    exact bodyPost_ret (v := .int .i64 (forbC gs)) (by simp [results, Tryz.results28, go_sem]) rfl ⟨by rw [hr.out], (by (try with_reducible refine bsz ?_); repeat (first | with_reducible exact Below.refl _ _ | ((with_reducible refine bpre ?_); (try simp only [Array.append_assoc]); repeat (first | with_reducible exact Pre.refl _ | with_reducible exact Pre.base _ _ | with_reducible refine Pre.cons _ ?_)) | with_reducible assumption | ((with_reducible refine bsetr ?_); rfl) | with_reducible refine Below.setCell ?_ (by simp <;> omega) _ | with_reducible refine bpl ?_ _ _ | with_reducible refine bal ?_ _ | with_reducible refine bdrew1 ?_ | with_reducible refine bdrew ?_ _))⟩
end Go.Proofs.YtkfjlimlodbcgaaGreat
