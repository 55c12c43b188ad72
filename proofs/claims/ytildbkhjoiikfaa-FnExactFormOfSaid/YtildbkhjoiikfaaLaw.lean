/- What all laws share: the knob, the layout of types, the count of what is left. -/
import Derived.Test.YtildbkhjoiikfaaRows
import Derived.Test.YtildbkhjoiikfaaProg
import Derived.Test.YtildbkhjoiikfaaRow
import Derived.Test.YtildbkhjoiikfaaRep
namespace Go.Proofs.Ytildbkhjoiikfaa
open Go.ChangeShapes Go.WideShapes Go.ChangeAt Go.RowKit
theorem tryOwn : ownKnob Try.prog.godebug = none := by kernel_rfl
theorem tryLaid : laidOutB Try.prog = true := by kernel_rfl
/-- What is left of a size. -/
def szI (left n : Int) : Int := if left - n < 0 then -1 else left - n
theorem szI_bd {left n : Int} (h1 : -1 ≤ left) (h2 : left ≤ 1048576) (h3 : 0 ≤ n) : -1 ≤ szI left n ∧ szI left n ≤ 1048576 := by unfold szI; split <;> omega
theorem szI_pos {left n : Int} (h : ¬ szI left n < 0) : n ≤ left := by unfold szI at h; split at h <;> omega
theorem readsFr : Reads Try.prog shFr 40 :=
  reads_struct Try.underlying40 (by kernel_rfl) (readsF_cons rfl (by kernel_rfl) (reads_int Try.underlying2) (readsF_one rfl (by kernel_rfl) (reads_int Try.underlying2)))
theorem readsGr : Reads Try.prog shGr 24 :=
  reads_struct Try.underlying24 (by kernel_rfl) (readsF_cons rfl (by kernel_rfl) (reads_int Try.underlying2) (readsF_one rfl (by kernel_rfl) (reads_int Try.underlying22)))
theorem readsFlag : Reads Try.prog shFlag 80 :=
  reads_struct Try.underlying80 (by kernel_rfl) (readsF_cons rfl (by kernel_rfl) (reads_int Try.underlying2) (readsF_one rfl (by kernel_rfl) readsGr))
theorem readsTerm : Reads Try.prog shTerm 199 :=
  reads_struct Try.underlying199 (by kernel_rfl) (readsF_cons rfl (by kernel_rfl) readsFlag (readsF_one rfl (by kernel_rfl) readsFr))
theorem readsTermS : Reads Try.prog (shL shTerm) 36 := reads_slice Try.underlying36 (by kernel_rfl) readsTerm
theorem readsGrS : Reads Try.prog (shL shGr) 35 := reads_slice Try.underlying35 (by kernel_rfl) readsGr
theorem readsFlagS : Reads Try.prog (shL shFlag) 89 := reads_slice Try.underlying89 (by kernel_rfl) readsFlag
theorem readsFrS : Reads Try.prog (shL shFr) 52 := reads_slice Try.underlying52 (by kernel_rfl) readsFr
theorem readsFrSS : Reads Try.prog (shL (shL shFr)) 51 := reads_slice Try.underlying51 (by kernel_rfl) readsFrS
theorem readsSum : Reads Try.prog shSum 38 :=
  reads_struct Try.underlying38 (by kernel_rfl) (readsF_cons rfl (by kernel_rfl) readsGr (readsF_cons rfl (by kernel_rfl) (reads_int Try.underlying2) (readsF_one rfl (by kernel_rfl) readsTermS)))
theorem readsState : Reads Try.prog shState 42 :=
  reads_struct Try.underlying42 (by kernel_rfl) (readsF_cons rfl (by kernel_rfl) readsGrS (readsF_cons rfl (by kernel_rfl) readsSum (readsF_one rfl (by kernel_rfl) readsFr)))
theorem readsBlock : Reads Try.prog shBlock 91 :=
  reads_struct Try.underlying91 (by kernel_rfl) (readsF_cons rfl (by kernel_rfl) readsFlagS (readsF_one rfl (by kernel_rfl) readsFrSS))
theorem readsBlockS : Reads Try.prog (shL shBlock) 65 := reads_slice Try.underlying65 (by kernel_rfl) readsBlock
theorem readsCert : Reads Try.prog shCert 67 :=
  reads_struct Try.underlying67 (by kernel_rfl) (readsF_cons rfl (by kernel_rfl) (reads_int Try.underlying2) (readsF_one rfl (by kernel_rfl) readsBlockS))
end Go.Proofs.Ytildbkhjoiikfaa
