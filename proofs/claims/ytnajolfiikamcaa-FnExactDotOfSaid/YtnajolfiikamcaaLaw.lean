/- What all laws share: the knob, the layout of types, the count of what is left. -/
import Derived.Test.YtnajolfiikamcaaRows
import Derived.Test.YtnajolfiikamcaaProg
import Derived.Test.YtnajolfiikamcaaRow
import Derived.Test.YtnajolfiikamcaaRep
namespace Go.Proofs.Ytnajolfiikamcaa
open Go.ChangeShapes Go.WideShapes Go.ChangeAt Go.RowKit
theorem tryOwn : ownKnob Try.prog.godebug = none := by kernel_rfl
theorem tryLaid : laidOutB Try.prog = true := by kernel_rfl
/-- What is left of a size. -/
def szI (left n : Int) : Int := if left - n < 0 then -1 else left - n
theorem szI_bd {left n : Int} (h1 : -1 ≤ left) (h2 : left ≤ 1048576) (h3 : 0 ≤ n) : -1 ≤ szI left n ∧ szI left n ≤ 1048576 := by unfold szI; split <;> omega
theorem szI_pos {left n : Int} (h : ¬ szI left n < 0) : n ≤ left := by unfold szI at h; split at h <;> omega
theorem readsFr : Reads Try.prog shFr 28 :=
  reads_struct Try.underlying28 (by kernel_rfl) (readsF_cons rfl (by kernel_rfl) (reads_int Try.underlying2) (readsF_one rfl (by kernel_rfl) (reads_int Try.underlying2)))
theorem readsGr : Reads Try.prog shGr 34 :=
  reads_struct Try.underlying34 (by kernel_rfl) (readsF_cons rfl (by kernel_rfl) (reads_int Try.underlying2) (readsF_one rfl (by kernel_rfl) (reads_int Try.underlying32)))
theorem readsFlag : Reads Try.prog shFlag 150 :=
  reads_struct Try.underlying150 (by kernel_rfl) (readsF_cons rfl (by kernel_rfl) (reads_int Try.underlying2) (readsF_one rfl (by kernel_rfl) readsGr))
theorem readsTerm : Reads Try.prog shTerm 152 :=
  reads_struct Try.underlying152 (by kernel_rfl) (readsF_cons rfl (by kernel_rfl) readsFlag (readsF_one rfl (by kernel_rfl) readsFr))
theorem readsTermS : Reads Try.prog (shL shTerm) 35 := reads_slice Try.underlying35 (by kernel_rfl) readsTerm
theorem readsGrS : Reads Try.prog (shL shGr) 79 := reads_slice Try.underlying79 (by kernel_rfl) readsGr
theorem readsFrS : Reads Try.prog (shL shFr) 65 := reads_slice Try.underlying65 (by kernel_rfl) readsFr
theorem readsFrSS : Reads Try.prog (shL (shL shFr)) 88 := reads_slice Try.underlying88 (by kernel_rfl) readsFrS
theorem readsSum : Reads Try.prog shSum 37 :=
  reads_struct Try.underlying37 (by kernel_rfl) (readsF_cons rfl (by kernel_rfl) readsGr (readsF_cons rfl (by kernel_rfl) (reads_int Try.underlying2) (readsF_one rfl (by kernel_rfl) readsTermS)))
theorem readsState : Reads Try.prog shState 81 :=
  reads_struct Try.underlying81 (by kernel_rfl) (readsF_cons rfl (by kernel_rfl) readsGrS (readsF_cons rfl (by kernel_rfl) readsSum (readsF_one rfl (by kernel_rfl) readsFr)))
end Go.Proofs.Ytnajolfiikamcaa
