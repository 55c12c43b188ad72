/- '==' and '!=' at this program's flat structs. -/
import Derived.Test.YtenaiegidcjanaaProg
import Derived.Test.YtenaiegidcjanaaBase
import Derived.Laws.StructEq
namespace Go.Proofs.Ytenaiegidcjanaa
open Go.RowKit
def eq2 (a b c d : Int) : Bool := decide (a = c ∧ b = d)
def eq3 (a b c d e f : Int) : Bool := decide (a = d ∧ b = e ∧ c = f)
def eq5 (a b c d e f g h i j : Int) : Bool := decide (a = f ∧ b = g ∧ c = h ∧ d = i ∧ e = j)
theorem eq2_self (a b : Int) : eq2 a b a b = true := by simp [eq2]
theorem eq3_self (a b c : Int) : eq3 a b c a b c = true := by simp [eq3]
theorem eq5_self (a b c d e : Int) : eq5 a b c d e a b c d e = true := by simp [eq5]
@[go_sem high] theorem eqlGraph (a b c d : Int) (w : World) : (binOp .eql 80 (.agg #[.int .i64 a, .int .u32 b]) (.agg #[.int .i64 c, .int .u32 d])).run Try.prog w = .ok (.bool (eq2 a b c d)) w := by
  have hS : Try.prog.underlying 80 = some (.struct (Try.prog.fieldsOf 80)) := by kernel_rfl
  have hp : Try.prog.stoodInHeld 80 = false := by kernel_rfl
  have u1 := Try.underlying2
  have u2 := Try.underlying78
  rw [run_eql_struct, show (10000 : Nat) = 9999 + 1 from rfl, run_equalIn_struct w 9999 _ _ _ hS hp]
  simp only [Program.fieldsOf, Try.underlying80]
  go_simp
  unfold eq2
  by_cases h1 : a = c <;> by_cases h2 : b = d <;> simp [h1, h2]
@[go_sem high] theorem neqGraph (a b c d : Int) (w : World) : (binOp .neq 80 (.agg #[.int .i64 a, .int .u32 b]) (.agg #[.int .i64 c, .int .u32 d])).run Try.prog w = .ok (.bool (!eq2 a b c d)) w := by
  have h := eqlGraph a b c d w
  rw [run_eql_struct] at h
  rw [run_neq_struct]
  cases hr : (Op.equalIn 10000 80 (.agg #[.int .i64 a, .int .u32 b]) (.agg #[.int .i64 c, .int .u32 d])).run Try.prog w with
  | ok v w' => rw [hr] at h; simp only [Result.andThen_ok, Result.ok.injEq, Value.bool.injEq] at h ⊢; rw [h.1]; exact ⟨rfl, h.2⟩
  | halt x w' => rw [hr] at h; simp [Result.andThen] at h
@[go_sem high] theorem eqlFraction (a b c d : Int) (w : World) : (binOp .eql 61 (.agg #[.int .i64 a, .int .i64 b]) (.agg #[.int .i64 c, .int .i64 d])).run Try.prog w = .ok (.bool (eq2 a b c d)) w := by
  have hS : Try.prog.underlying 61 = some (.struct (Try.prog.fieldsOf 61)) := by kernel_rfl
  have hp : Try.prog.stoodInHeld 61 = false := by kernel_rfl
  have u1 := Try.underlying2
  rw [run_eql_struct, show (10000 : Nat) = 9999 + 1 from rfl, run_equalIn_struct w 9999 _ _ _ hS hp]
  simp only [Program.fieldsOf, Try.underlying61]
  go_simp
  unfold eq2
  by_cases h1 : a = c <;> by_cases h2 : b = d <;> simp [h1, h2]
@[go_sem high] theorem neqFraction (a b c d : Int) (w : World) : (binOp .neq 61 (.agg #[.int .i64 a, .int .i64 b]) (.agg #[.int .i64 c, .int .i64 d])).run Try.prog w = .ok (.bool (!eq2 a b c d)) w := by
  have h := eqlFraction a b c d w
  rw [run_eql_struct] at h
  rw [run_neq_struct]
  cases hr : (Op.equalIn 10000 61 (.agg #[.int .i64 a, .int .i64 b]) (.agg #[.int .i64 c, .int .i64 d])).run Try.prog w with
  | ok v w' => rw [hr] at h; simp only [Result.andThen_ok, Result.ok.injEq, Value.bool.injEq] at h ⊢; rw [h.1]; exact ⟨rfl, h.2⟩
  | halt x w' => rw [hr] at h; simp [Result.andThen] at h
@[go_sem high] theorem eqlFlag (a b c d e f : Int) (w : World) : (binOp .eql 82 (.agg #[.int .i64 a, .int .i64 b, .int .u32 c]) (.agg #[.int .i64 d, .int .i64 e, .int .u32 f])).run Try.prog w = .ok (.bool (eq3 a b c d e f)) w := by
  have hS : Try.prog.underlying 82 = some (.struct (Try.prog.fieldsOf 82)) := by kernel_rfl
  have hp : Try.prog.stoodInHeld 82 = false := by kernel_rfl
  have u1 := Try.underlying2
  have u2 := Try.underlying78
  rw [run_eql_struct, show (10000 : Nat) = 9999 + 1 from rfl, run_equalIn_struct w 9999 _ _ _ hS hp]
  simp only [Program.fieldsOf, Try.underlying82]
  go_simp
  unfold eq3
  by_cases h1 : a = d <;> by_cases h2 : b = e <;> by_cases h3 : c = f <;> simp [h1, h2, h3]
@[go_sem high] theorem neqFlag (a b c d e f : Int) (w : World) : (binOp .neq 82 (.agg #[.int .i64 a, .int .i64 b, .int .u32 c]) (.agg #[.int .i64 d, .int .i64 e, .int .u32 f])).run Try.prog w = .ok (.bool (!eq3 a b c d e f)) w := by
  have h := eqlFlag a b c d e f w
  rw [run_eql_struct] at h
  rw [run_neq_struct]
  cases hr : (Op.equalIn 10000 82 (.agg #[.int .i64 a, .int .i64 b, .int .u32 c]) (.agg #[.int .i64 d, .int .i64 e, .int .u32 f])).run Try.prog w with
  | ok v w' => rw [hr] at h; simp only [Result.andThen_ok, Result.ok.injEq, Value.bool.injEq] at h ⊢; rw [h.1]; exact ⟨rfl, h.2⟩
  | halt x w' => rw [hr] at h; simp [Result.andThen] at h
@[go_sem] theorem gdGraph : Try.prog.eqGuardType Try.prog.depth 80 = false := by kernel_rfl
@[go_sem] theorem gdFraction : Try.prog.eqGuardType Try.prog.depth 61 = false := by kernel_rfl
@[go_sem] theorem gdFlag : Try.prog.eqGuardType Try.prog.depth 82 = false := by kernel_rfl
end Go.Proofs.Ytenaiegidcjanaa
