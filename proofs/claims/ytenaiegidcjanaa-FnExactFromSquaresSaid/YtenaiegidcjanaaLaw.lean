/- What all laws share: the knob, the layout of types, the count of what is left. -/
import Derived.Test.YtenaiegidcjanaaRows
import Derived.Test.YtenaiegidcjanaaProg
import Derived.Test.YtenaiegidcjanaaRow
import Derived.Test.YtenaiegidcjanaaRep
namespace Go.Proofs.Ytenaiegidcjanaa
open Go.ChangeShapes Go.WideShapes Go.ChangeAt Go.RowKit
theorem tryOwn : ownKnob Try.prog.godebug = none := by kernel_rfl
theorem tryLaid : laidOutB Try.prog = true := by kernel_rfl
/-- What is left of a size. -/
def szI (left n : Int) : Int := if left - n < 0 then -1 else left - n
theorem szI_bd {left n : Int} (h1 : -1 ≤ left) (h2 : left ≤ 1048576) (h3 : 0 ≤ n) : -1 ≤ szI left n ∧ szI left n ≤ 1048576 := by unfold szI; split <;> omega
theorem szI_pos {left n : Int} (h : ¬ szI left n < 0) : n ≤ left := by unfold szI at h; split at h <;> omega
theorem readsFr : Reads Try.prog shFr 64 :=
  reads_struct Try.underlying64 (by kernel_rfl) (readsF_cons rfl (by kernel_rfl) (reads_int Try.underlying2) (readsF_one rfl (by kernel_rfl) (reads_int Try.underlying2)))
theorem readsGr : Reads Try.prog shGr 102 :=
  reads_struct Try.underlying102 (by kernel_rfl) (readsF_cons rfl (by kernel_rfl) (reads_int Try.underlying2) (readsF_one rfl (by kernel_rfl) (reads_int Try.underlying78)))
theorem readsFlag : Reads Try.prog shFlag 104 :=
  reads_struct Try.underlying104 (by kernel_rfl) (readsF_cons rfl (by kernel_rfl) (reads_int Try.underlying2) (readsF_one rfl (by kernel_rfl) readsGr))
theorem readsFlagS : Reads Try.prog (shL shFlag) 75 := reads_slice Try.underlying75 (by kernel_rfl) readsFlag
theorem readsFrS : Reads Try.prog (shL shFr) 32 := reads_slice Try.underlying32 (by kernel_rfl) readsFr
theorem readsFrSS : Reads Try.prog (shL (shL shFr)) 33 := reads_slice Try.underlying33 (by kernel_rfl) readsFrS
theorem readsBlock : Reads Try.prog shBlock 77 :=
  reads_struct Try.underlying77 (by kernel_rfl) (readsF_cons rfl (by kernel_rfl) readsFlagS (readsF_one rfl (by kernel_rfl) readsFrSS))
theorem readsBlockS : Reads Try.prog (shL shBlock) 22 := reads_slice Try.underlying22 (by kernel_rfl) readsBlock
theorem readsCert : Reads Try.prog shCert 24 :=
  reads_struct Try.underlying24 (by kernel_rfl) (readsF_cons rfl (by kernel_rfl) (reads_int Try.underlying2) (readsF_one rfl (by kernel_rfl) readsBlockS))
end Go.Proofs.Ytenaiegidcjanaa
