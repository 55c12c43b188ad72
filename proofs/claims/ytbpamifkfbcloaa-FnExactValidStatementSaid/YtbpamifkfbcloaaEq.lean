/- '==' and '!=' at this program's flat structs. -/
import Derived.Test.YtbpamifkfbcloaaProg
import Derived.Test.YtbpamifkfbcloaaBase
import Derived.Laws.StructEq
namespace Go.Proofs.Ytbpamifkfbcloaa
open Go.RowKit
def eq2 (a b c d : Int) : Bool := decide (a = c ∧ b = d)
def eq3 (a b c d e f : Int) : Bool := decide (a = d ∧ b = e ∧ c = f)
def eq5 (a b c d e f g h i j : Int) : Bool := decide (a = f ∧ b = g ∧ c = h ∧ d = i ∧ e = j)
theorem eq2_self (a b : Int) : eq2 a b a b = true := by simp [eq2]
theorem eq3_self (a b c : Int) : eq3 a b c a b c = true := by simp [eq3]
theorem eq5_self (a b c d e : Int) : eq5 a b c d e a b c d e = true := by simp [eq5]
@[go_sem high] theorem eqlGraph (a b c d : Int) (w : World) : (binOp .eql 27 (.agg #[.int .i64 a, .int .u32 b]) (.agg #[.int .i64 c, .int .u32 d])).run Try.prog w = .ok (.bool (eq2 a b c d)) w := by
  have hS : Try.prog.underlying 27 = some (.struct (Try.prog.fieldsOf 27)) := by kernel_rfl
  have hp : Try.prog.stoodInHeld 27 = false := by kernel_rfl
  have u1 := Try.underlying2
  have u2 := Try.underlying22
  rw [run_eql_struct, show (10000 : Nat) = 9999 + 1 from rfl, run_equalIn_struct w 9999 _ _ _ hS hp]
  simp only [Program.fieldsOf, Try.underlying27]
  go_simp
  unfold eq2
  by_cases h1 : a = c <;> by_cases h2 : b = d <;> simp [h1, h2]
@[go_sem high] theorem neqGraph (a b c d : Int) (w : World) : (binOp .neq 27 (.agg #[.int .i64 a, .int .u32 b]) (.agg #[.int .i64 c, .int .u32 d])).run Try.prog w = .ok (.bool (!eq2 a b c d)) w := by
  have h := eqlGraph a b c d w
  rw [run_eql_struct] at h
  rw [run_neq_struct]
  cases hr : (Op.equalIn 10000 27 (.agg #[.int .i64 a, .int .u32 b]) (.agg #[.int .i64 c, .int .u32 d])).run Try.prog w with
  | ok v w' => rw [hr] at h; simp only [Result.andThen_ok, Result.ok.injEq, Value.bool.injEq] at h ⊢; rw [h.1]; exact ⟨rfl, h.2⟩
  | halt x w' => rw [hr] at h; simp [Result.andThen] at h
@[go_sem high] theorem eqlFraction (a b c d : Int) (w : World) : (binOp .eql 60 (.agg #[.int .i64 a, .int .i64 b]) (.agg #[.int .i64 c, .int .i64 d])).run Try.prog w = .ok (.bool (eq2 a b c d)) w := by
  have hS : Try.prog.underlying 60 = some (.struct (Try.prog.fieldsOf 60)) := by kernel_rfl
  have hp : Try.prog.stoodInHeld 60 = false := by kernel_rfl
  have u1 := Try.underlying2
  rw [run_eql_struct, show (10000 : Nat) = 9999 + 1 from rfl, run_equalIn_struct w 9999 _ _ _ hS hp]
  simp only [Program.fieldsOf, Try.underlying60]
  go_simp
  unfold eq2
  by_cases h1 : a = c <;> by_cases h2 : b = d <;> simp [h1, h2]
@[go_sem high] theorem neqFraction (a b c d : Int) (w : World) : (binOp .neq 60 (.agg #[.int .i64 a, .int .i64 b]) (.agg #[.int .i64 c, .int .i64 d])).run Try.prog w = .ok (.bool (!eq2 a b c d)) w := by
  have h := eqlFraction a b c d w
  rw [run_eql_struct] at h
  rw [run_neq_struct]
  cases hr : (Op.equalIn 10000 60 (.agg #[.int .i64 a, .int .i64 b]) (.agg #[.int .i64 c, .int .i64 d])).run Try.prog w with
  | ok v w' => rw [hr] at h; simp only [Result.andThen_ok, Result.ok.injEq, Value.bool.injEq] at h ⊢; rw [h.1]; exact ⟨rfl, h.2⟩
  | halt x w' => rw [hr] at h; simp [Result.andThen] at h
@[go_sem high] theorem eqlFlag (a b c d e f : Int) (w : World) : (binOp .eql 34 (.agg #[.int .i64 a, .int .i64 b, .int .u32 c]) (.agg #[.int .i64 d, .int .i64 e, .int .u32 f])).run Try.prog w = .ok (.bool (eq3 a b c d e f)) w := by
  have hS : Try.prog.underlying 34 = some (.struct (Try.prog.fieldsOf 34)) := by kernel_rfl
  have hp : Try.prog.stoodInHeld 34 = false := by kernel_rfl
  have u1 := Try.underlying2
  have u2 := Try.underlying22
  rw [run_eql_struct, show (10000 : Nat) = 9999 + 1 from rfl, run_equalIn_struct w 9999 _ _ _ hS hp]
  simp only [Program.fieldsOf, Try.underlying34]
  go_simp
  unfold eq3
  by_cases h1 : a = d <;> by_cases h2 : b = e <;> by_cases h3 : c = f <;> simp [h1, h2, h3]
@[go_sem high] theorem neqFlag (a b c d e f : Int) (w : World) : (binOp .neq 34 (.agg #[.int .i64 a, .int .i64 b, .int .u32 c]) (.agg #[.int .i64 d, .int .i64 e, .int .u32 f])).run Try.prog w = .ok (.bool (!eq3 a b c d e f)) w := by
  have h := eqlFlag a b c d e f w
  rw [run_eql_struct] at h
  rw [run_neq_struct]
  cases hr : (Op.equalIn 10000 34 (.agg #[.int .i64 a, .int .i64 b, .int .u32 c]) (.agg #[.int .i64 d, .int .i64 e, .int .u32 f])).run Try.prog w with
  | ok v w' => rw [hr] at h; simp only [Result.andThen_ok, Result.ok.injEq, Value.bool.injEq] at h ⊢; rw [h.1]; exact ⟨rfl, h.2⟩
  | halt x w' => rw [hr] at h; simp [Result.andThen] at h
@[go_sem high] theorem eqlTerm (a b c d e f g h i j : Int) (w : World) : (binOp .eql 82 (.agg #[.int .i64 a, .int .i64 b, .int .u32 c, .int .i64 d, .int .i64 e]) (.agg #[.int .i64 f, .int .i64 g, .int .u32 h, .int .i64 i, .int .i64 j])).run Try.prog w = .ok (.bool (eq5 a b c d e f g h i j)) w := by
  have hS : Try.prog.underlying 82 = some (.struct (Try.prog.fieldsOf 82)) := by kernel_rfl
  have hp : Try.prog.stoodInHeld 82 = false := by kernel_rfl
  have u1 := Try.underlying2
  have u2 := Try.underlying22
  rw [run_eql_struct, show (10000 : Nat) = 9999 + 1 from rfl, run_equalIn_struct w 9999 _ _ _ hS hp]
  simp only [Program.fieldsOf, Try.underlying82]
  go_simp
  unfold eq5
  by_cases h1 : a = f <;> by_cases h2 : b = g <;> by_cases h3 : c = h <;> by_cases h4 : d = i <;> by_cases h5 : e = j <;> simp [h1, h2, h3, h4, h5]
@[go_sem high] theorem neqTerm (a b c d e f g h i j : Int) (w : World) : (binOp .neq 82 (.agg #[.int .i64 a, .int .i64 b, .int .u32 c, .int .i64 d, .int .i64 e]) (.agg #[.int .i64 f, .int .i64 g, .int .u32 h, .int .i64 i, .int .i64 j])).run Try.prog w = .ok (.bool (!eq5 a b c d e f g h i j)) w := by
  have h' := eqlTerm a b c d e f g h i j w
  rw [run_eql_struct] at h'
  rw [run_neq_struct]
  cases hr : (Op.equalIn 10000 82 (.agg #[.int .i64 a, .int .i64 b, .int .u32 c, .int .i64 d, .int .i64 e]) (.agg #[.int .i64 f, .int .i64 g, .int .u32 h, .int .i64 i, .int .i64 j])).run Try.prog w with
  | ok v w' => rw [hr] at h'; simp only [Result.andThen_ok, Result.ok.injEq, Value.bool.injEq] at h' ⊢; rw [h'.1]; exact ⟨rfl, h'.2⟩
  | halt x w' => rw [hr] at h'; simp [Result.andThen] at h'
@[go_sem] theorem gdGraph : Try.prog.eqGuardType Try.prog.depth 27 = false := by kernel_rfl
@[go_sem] theorem gdFraction : Try.prog.eqGuardType Try.prog.depth 60 = false := by kernel_rfl
@[go_sem] theorem gdFlag : Try.prog.eqGuardType Try.prog.depth 34 = false := by kernel_rfl
@[go_sem] theorem gdTerm : Try.prog.eqGuardType Try.prog.depth 82 = false := by kernel_rfl
end Go.Proofs.Ytbpamifkfbcloaa
