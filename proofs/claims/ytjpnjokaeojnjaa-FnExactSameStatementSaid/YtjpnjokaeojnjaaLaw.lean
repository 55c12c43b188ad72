/- What all laws share: the knob, the layout of types, the count of what is left. -/
import Derived.Test.YtjpnjokaeojnjaaRows
import Derived.Test.YtjpnjokaeojnjaaProg
import Derived.Test.YtjpnjokaeojnjaaRow
import Derived.Test.YtjpnjokaeojnjaaRep
namespace Go.Proofs.Ytjpnjokaeojnjaa
open Go.ChangeShapes Go.WideShapes Go.ChangeAt Go.RowKit
theorem tryOwn : ownKnob Try.prog.godebug = none := by kernel_rfl
theorem tryLaid : laidOutB Try.prog = true := by kernel_rfl
/-- What is left of a size. -/
def szI (left n : Int) : Int := if left - n < 0 then -1 else left - n
theorem szI_bd {left n : Int} (h1 : -1 ≤ left) (h2 : left ≤ 1048576) (h3 : 0 ≤ n) : -1 ≤ szI left n ∧ szI left n ≤ 1048576 := by unfold szI; split <;> omega
theorem szI_pos {left n : Int} (h : ¬ szI left n < 0) : n ≤ left := by unfold szI at h; split at h <;> omega
theorem readsFr : Reads Try.prog shFr 30 :=
  reads_struct Try.underlying30 (by kernel_rfl) (readsF_cons rfl (by kernel_rfl) (reads_int Try.underlying2) (readsF_one rfl (by kernel_rfl) (reads_int Try.underlying2)))
theorem readsGr : Reads Try.prog shGr 25 :=
  reads_struct Try.underlying25 (by kernel_rfl) (readsF_cons rfl (by kernel_rfl) (reads_int Try.underlying2) (readsF_one rfl (by kernel_rfl) (reads_int Try.underlying23)))
theorem readsFlag : Reads Try.prog shFlag 65 :=
  reads_struct Try.underlying65 (by kernel_rfl) (readsF_cons rfl (by kernel_rfl) (reads_int Try.underlying2) (readsF_one rfl (by kernel_rfl) readsGr))
theorem readsTerm : Reads Try.prog shTerm 199 :=
  reads_struct Try.underlying199 (by kernel_rfl) (readsF_cons rfl (by kernel_rfl) readsFlag (readsF_one rfl (by kernel_rfl) readsFr))
theorem readsTermS : Reads Try.prog (shL shTerm) 26 := reads_slice Try.underlying26 (by kernel_rfl) readsTerm
theorem readsGrS : Reads Try.prog (shL shGr) 22 := reads_slice Try.underlying22 (by kernel_rfl) readsGr
theorem readsFlagS : Reads Try.prog (shL shFlag) 82 := reads_slice Try.underlying82 (by kernel_rfl) readsFlag
theorem readsFrS : Reads Try.prog (shL shFr) 74 := reads_slice Try.underlying74 (by kernel_rfl) readsFr
theorem readsFrSS : Reads Try.prog (shL (shL shFr)) 55 := reads_slice Try.underlying55 (by kernel_rfl) readsFrS
theorem readsSum : Reads Try.prog shSum 28 :=
  reads_struct Try.underlying28 (by kernel_rfl) (readsF_cons rfl (by kernel_rfl) readsGr (readsF_cons rfl (by kernel_rfl) (reads_int Try.underlying2) (readsF_one rfl (by kernel_rfl) readsTermS)))
theorem readsState : Reads Try.prog shState 32 :=
  reads_struct Try.underlying32 (by kernel_rfl) (readsF_cons rfl (by kernel_rfl) readsGrS (readsF_cons rfl (by kernel_rfl) readsSum (readsF_one rfl (by kernel_rfl) readsFr)))
theorem readsBlock : Reads Try.prog shBlock 84 :=
  reads_struct Try.underlying84 (by kernel_rfl) (readsF_cons rfl (by kernel_rfl) readsFlagS (readsF_one rfl (by kernel_rfl) readsFrSS))
theorem readsBlockS : Reads Try.prog (shL shBlock) 45 := reads_slice Try.underlying45 (by kernel_rfl) readsBlock
theorem readsCert : Reads Try.prog shCert 47 :=
  reads_struct Try.underlying47 (by kernel_rfl) (readsF_cons rfl (by kernel_rfl) (reads_int Try.underlying2) (readsF_one rfl (by kernel_rfl) readsBlockS))
end Go.Proofs.Ytjpnjokaeojnjaa
