/- What all laws share: the knob, the layout of types, the count of what is left. -/
import Derived.Test.YtmefoamhmmjhdaaRows
import Derived.Test.YtmefoamhmmjhdaaProg
import Derived.Test.YtmefoamhmmjhdaaRow
import Derived.Test.YtmefoamhmmjhdaaRep
namespace Go.Proofs.Ytmefoamhmmjhdaa
open Go.ChangeShapes Go.WideShapes Go.ChangeAt Go.RowKit
theorem tryOwn : ownKnob Try.prog.godebug = none := by kernel_rfl
theorem tryLaid : laidOutB Try.prog = true := by kernel_rfl
/-- What is left of a size. -/
def szI (left n : Int) : Int := if left - n < 0 then -1 else left - n
theorem szI_bd {left n : Int} (h1 : -1 ≤ left) (h2 : left ≤ 1048576) (h3 : 0 ≤ n) : -1 ≤ szI left n ∧ szI left n ≤ 1048576 := by unfold szI; split <;> omega
theorem szI_pos {left n : Int} (h : ¬ szI left n < 0) : n ≤ left := by unfold szI at h; split at h <;> omega
theorem readsFr : Reads Try.prog shFr 28 :=
  reads_struct Try.underlying28 (by kernel_rfl) (readsF_cons rfl (by kernel_rfl) (reads_int Try.underlying2) (readsF_one rfl (by kernel_rfl) (reads_int Try.underlying2)))
theorem readsGr : Reads Try.prog shGr 34 :=
  reads_struct Try.underlying34 (by kernel_rfl) (readsF_cons rfl (by kernel_rfl) (reads_int Try.underlying2) (readsF_one rfl (by kernel_rfl) (reads_int Try.underlying32)))
theorem readsFlag : Reads Try.prog shFlag 74 :=
  reads_struct Try.underlying74 (by kernel_rfl) (readsF_cons rfl (by kernel_rfl) (reads_int Try.underlying2) (readsF_one rfl (by kernel_rfl) readsGr))
theorem readsTerm : Reads Try.prog shTerm 76 :=
  reads_struct Try.underlying76 (by kernel_rfl) (readsF_cons rfl (by kernel_rfl) readsFlag (readsF_one rfl (by kernel_rfl) readsFr))
theorem readsTermS : Reads Try.prog (shL shTerm) 35 := reads_slice Try.underlying35 (by kernel_rfl) readsTerm
theorem readsSum : Reads Try.prog shSum 37 :=
  reads_struct Try.underlying37 (by kernel_rfl) (readsF_cons rfl (by kernel_rfl) readsGr (readsF_cons rfl (by kernel_rfl) (reads_int Try.underlying2) (readsF_one rfl (by kernel_rfl) readsTermS)))
end Go.Proofs.Ytmefoamhmmjhdaa
