/- What all laws share: the knob, the layout of types, the count of what is left. -/
import Derived.Test.YtbpamifkfbcloaaRows
import Derived.Test.YtbpamifkfbcloaaProg
import Derived.Test.YtbpamifkfbcloaaRow
import Derived.Test.YtbpamifkfbcloaaRep
namespace Go.Proofs.Ytbpamifkfbcloaa
open Go.ChangeShapes Go.WideShapes Go.ChangeAt Go.RowKit
theorem tryOwn : ownKnob Try.prog.godebug = none := by kernel_rfl
theorem tryLaid : laidOutB Try.prog = true := by kernel_rfl
/-- What is left of a size. -/
def szI (left n : Int) : Int := if left - n < 0 then -1 else left - n
theorem szI_bd {left n : Int} (h1 : -1 ≤ left) (h2 : left ≤ 1048576) (h3 : 0 ≤ n) : -1 ≤ szI left n ∧ szI left n ≤ 1048576 := by unfold szI; split <;> omega
theorem szI_pos {left n : Int} (h : ¬ szI left n < 0) : n ≤ left := by unfold szI at h; split at h <;> omega
theorem readsFr : Reads Try.prog shFr 66 :=
  reads_struct Try.underlying66 (by kernel_rfl) (readsF_cons rfl (by kernel_rfl) (reads_int Try.underlying2) (readsF_one rfl (by kernel_rfl) (reads_int Try.underlying2)))
theorem readsGr : Reads Try.prog shGr 24 :=
  reads_struct Try.underlying24 (by kernel_rfl) (readsF_cons rfl (by kernel_rfl) (reads_int Try.underlying2) (readsF_one rfl (by kernel_rfl) (reads_int Try.underlying22)))
theorem readsFlag : Reads Try.prog shFlag 26 :=
  reads_struct Try.underlying26 (by kernel_rfl) (readsF_cons rfl (by kernel_rfl) (reads_int Try.underlying2) (readsF_one rfl (by kernel_rfl) readsGr))
theorem readsTerm : Reads Try.prog shTerm 139 :=
  reads_struct Try.underlying139 (by kernel_rfl) (readsF_cons rfl (by kernel_rfl) readsFlag (readsF_one rfl (by kernel_rfl) readsFr))
theorem readsTermS : Reads Try.prog (shL shTerm) 52 := reads_slice Try.underlying52 (by kernel_rfl) readsTerm
theorem readsGrS : Reads Try.prog (shL shGr) 65 := reads_slice Try.underlying65 (by kernel_rfl) readsGr
theorem readsFlagS : Reads Try.prog (shL shFlag) 39 := reads_slice Try.underlying39 (by kernel_rfl) readsFlag
theorem readsFrS : Reads Try.prog (shL shFr) 127 := reads_slice Try.underlying127 (by kernel_rfl) readsFr
theorem readsFrSS : Reads Try.prog (shL (shL shFr)) 40 := reads_slice Try.underlying40 (by kernel_rfl) readsFrS
theorem readsSum : Reads Try.prog shSum 54 :=
  reads_struct Try.underlying54 (by kernel_rfl) (readsF_cons rfl (by kernel_rfl) readsGr (readsF_cons rfl (by kernel_rfl) (reads_int Try.underlying2) (readsF_one rfl (by kernel_rfl) readsTermS)))
theorem readsState : Reads Try.prog shState 68 :=
  reads_struct Try.underlying68 (by kernel_rfl) (readsF_cons rfl (by kernel_rfl) readsGrS (readsF_cons rfl (by kernel_rfl) readsSum (readsF_one rfl (by kernel_rfl) readsFr)))
theorem readsBlock : Reads Try.prog shBlock 42 :=
  reads_struct Try.underlying42 (by kernel_rfl) (readsF_cons rfl (by kernel_rfl) readsFlagS (readsF_one rfl (by kernel_rfl) readsFrSS))
end Go.Proofs.Ytbpamifkfbcloaa
