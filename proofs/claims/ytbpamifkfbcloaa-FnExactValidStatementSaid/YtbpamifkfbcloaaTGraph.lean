/- The laws' copies and equality of impl.Graph. -/
import Derived.Test.YtbpamifkfbcloaaProg
import Derived.Test.YtbpamifkfbcloaaSl
import Derived.Test.YtbpamifkfbcloaaLaw
import Derived.BigGuardPart
import Derived.Deep.RegionHeld3
import Derived.Test.YtbpamifkfbcloaaLGraph
namespace Go.Proofs.Ytbpamifkfbcloaa
open Go.ChangeShapes Go.WideShapes Go.ChangeAt Go.RowKit
set_option linter.unusedVariables false
set_option linter.unusedSimpArgs false

theorem toGraph_any (x0 x1 : Int) (w : World) :
    Calls Try.prog 35 #[.agg #[.int .i64 x0, .int .u32 x1]] w fun e w' => e = .returned (.agg #[.int .i64 x0, .int .u32 x1]) ∧ Below w.heap.size w w' := by
  go_enter Try.func35, Try.ntmps35
  go_wp2
  exact bodyPost_ret (v := .agg #[.int .i64 x0, .int .u32 x1]) (by simp [results, Try.results35, go_sem]) rfl ⟨rfl, (by (try with_reducible refine bsz ?_); repeat (first | with_reducible exact Below.refl _ _ | ((with_reducible refine bpre ?_); (try simp only [Array.append_assoc]); repeat (first | with_reducible exact Pre.refl _ | with_reducible exact Pre.base _ _ | with_reducible refine Pre.cons _ ?_)) | with_reducible assumption | ((with_reducible refine bsetr ?_); rfl) | with_reducible refine Below.setCell ?_ (by simp <;> omega) _ | with_reducible refine bpl ?_ _ _ | with_reducible refine bal ?_ _ | with_reducible refine bdrew1 ?_ | with_reducible refine bdrew ?_ _))⟩
theorem eqGraph_same (x0 x1 : Int) (w : World) :
    Calls Try.prog 40 #[.agg #[.int .i64 x0, .int .u32 x1], .agg #[.int .i64 x0, .int .u32 x1]] w fun e w' => e = .returned (.bool true) ∧ Below w.heap.size w w' := by
  have h0 : (x0 != x0) = false := by simp
  have h1 : (x1 != x1) = false := by simp
  go_enter Try.func40, Try.ntmps40
  go_wp2
  go_ret
  exact ⟨rfl, (by (try with_reducible refine bsz ?_); repeat (first | with_reducible exact Below.refl _ _ | ((with_reducible refine bpre ?_); (try simp only [Array.append_assoc]); repeat (first | with_reducible exact Pre.refl _ | with_reducible exact Pre.base _ _ | with_reducible refine Pre.cons _ ?_)) | with_reducible assumption | ((with_reducible refine bsetr ?_); rfl) | with_reducible refine Below.setCell ?_ (by simp <;> omega) _ | with_reducible refine bpl ?_ _ _ | with_reducible refine bal ?_ _ | with_reducible refine bdrew1 ?_ | with_reducible refine bdrew ?_ _))⟩
theorem toGraphS_any (w : World) (xs : List (Int × Int)) (v : Value) (h : Lst shGr w xs v) (hb : xs.length ≤ 1048576) :
    Calls Try.prog 70 #[v] w fun e w' => ∃ A cap F, e = .returned (.slice A xs.length cap) ∧ Own shGr w.heap.size w' xs (.slice A xs.length cap) F ∧ Below w.heap.size w w' := by
  obtain ⟨A, cap, rfl, hc, hm, hoks, hel⟩ := lstGraph h
  clear h
  have hoks := Lib.hid hoks
  obtain ⟨cur, hcur, hmk⟩ := mk_slice (P := Try.prog) Try.underlying71 (sz := 2) (bytes := 16) (e := 27) (by kernel_rfl) xs.length (by omega) (by omega)
  have hel' := Lib.hid hel; clear hel
  go_enter Try.func70, Try.ntmps70
  go_wp2
  go_loopw [4] (fun i wr => ∃ (k : Nat), k ≤ xs.length ∧ i = .int .i64 k ∧ Part wr w.heap.size 27 (xs.length * 2) ((xs.take k).flatMap encGr) ∧ Below w.heap.size w wr) (fun i _ => xs.length - (intOf i).toNat)
  case atStart => exact ⟨0, Nat.zero_le _, rfl, Part.new hcur, (by (try with_reducible refine bsz ?_); repeat (first | with_reducible exact Below.refl _ _ | ((with_reducible refine bpre ?_); (try simp only [Array.append_assoc]); repeat (first | with_reducible exact Pre.refl _ | with_reducible exact Pre.base _ _ | with_reducible refine Pre.cons _ ?_)) | with_reducible assumption | ((with_reducible refine bsetr ?_); rfl) | with_reducible refine Below.setCell ?_ (by simp <;> omega) _ | with_reducible refine bpl ?_ _ _ | with_reducible refine bal ?_ _ | with_reducible refine bdrew1 ?_ | with_reducible refine bdrew ?_ _))⟩
  case round =>
    clear hmk hcur
    obtain ⟨k, hk, rfl, hg, hB⟩ := hrel
    by_cases hlt : k < xs.length
    · obtain ⟨bl, off, rfl, hel⟩ := hel'.out (by omega)
      clear hel'
      obtain ⟨d, hd, hok, c0, c1⟩ := hel k hlt
      clear hel
      replace c0 := bkeep hB c0
      replace c1 := bkeep hB c1
      obtain ⟨⟨u0, e0⟩, f0⟩ := hg.cell (p := k * 2) (by omega)
      obtain ⟨⟨u1, e1⟩, f1⟩ := hg.cell (p := k * 2 + 1) (by omega)
      have hz := hg.lt
      have hd := Lib.hid hd
      go_wp2_with (first | (go_at_call 35; refine Calls.mono (toGraph_any _ _ _) ?_; rintro e w1 ⟨rfl, hb⟩; obtain ⟨X, m, rfl⟩ := plsOf hb; clear hb))
      go_roundw
      case rel =>
        have hL : ((xs.take k).flatMap encGr).length = k * 2 := (flatMap_len (n := 2) (fun _ => rfl) _).trans (by rw [take_len hk])
        refine ⟨k + 1, by omega, by go_num, ?_, (by (try with_reducible refine bsz ?_); repeat (first | with_reducible exact Below.refl _ _ | ((with_reducible refine bpre ?_); (try simp only [Array.append_assoc]); repeat (first | with_reducible exact Pre.refl _ | with_reducible exact Pre.base _ _ | with_reducible refine Pre.cons _ ?_)) | with_reducible assumption | ((with_reducible refine bsetr ?_); rfl) | with_reducible refine Below.setCell ?_ (by simp <;> omega) _ | with_reducible refine bpl ?_ _ _ | with_reducible refine bal ?_ _ | with_reducible refine bdrew1 ?_ | with_reducible refine bdrew ?_ _))⟩
        rw [flatMap_take encGr hd.out]
        have p0 := hg
        have l0 := hL
        have p1 := Part.push p0 (p := k * 2) l0.symm (by omega) (.int .i64 d.1)
        have l1 := len1 l0 (.int .i64 d.1)
        have p2 := Part.push p1 (p := k * 2 + 1) l1.symm (by omega) (.int .u32 d.2)
        have l2 := len1 l1 (.int .u32 d.2)
        exact (p2.eq (by simp)).pls _ _
      case measure => simp [intOf]; omega
    · have e : k = xs.length := by omega
      subst e
      rw [List.take_length] at hg
      go_wp2
      exact bodyPost_ret (v := .slice (some ⟨w.heap.size, 0, none⟩) xs.length xs.length) (by simp [results, Try.results70, go_sem]) rfl ⟨_, _, _, rfl, hg.own (s := shGr) flatGr (fun _ => rfl) (Nat.le_refl _) (Nat.le_trans hc hm) (Nat.le_refl _) hoks.out (Nat.le_refl _), (by (try with_reducible refine bsz ?_); repeat (first | with_reducible exact Below.refl _ _ | ((with_reducible refine bpre ?_); (try simp only [Array.append_assoc]); repeat (first | with_reducible exact Pre.refl _ | with_reducible exact Pre.base _ _ | with_reducible refine Pre.cons _ ?_)) | with_reducible assumption | ((with_reducible refine bsetr ?_); rfl) | with_reducible refine Below.setCell ?_ (by simp <;> omega) _ | with_reducible refine bpl ?_ _ _ | with_reducible refine bal ?_ _ | with_reducible refine bdrew1 ?_ | with_reducible refine bdrew ?_ _))⟩
theorem eqGraphS_same (w : World) (xs : List (Int × Int)) (v v' : Value) (h : Lst shGr w xs v) (h' : Lst shGr w xs v') (hb : xs.length ≤ 9223372036854775806) :
    Calls Try.prog 73 #[v, v'] w fun e w' => e = .returned (.bool true) ∧ Below w.heap.size w w' := by
  obtain ⟨A, cap, rfl, hc, hm, _, hel⟩ := lstGraph h
  obtain ⟨A', cap', rfl, hc', hm', _, hel'⟩ := lstGraph h'
  clear h h'
  have H1 := Lib.hid hel
  have H2 := Lib.hid hel'
  clear hel hel'
  go_enter Try.func73, Try.ntmps73
  go_wp2
  go_loopw [5] (fun i wr => ∃ (k : Nat), k ≤ xs.length ∧ i = .int .i64 k ∧ Below w.heap.size w wr) (fun i _ => xs.length - (intOf i).toNat)
  case atStart => exact ⟨0, Nat.zero_le _, rfl, (by (try with_reducible refine bsz ?_); repeat (first | with_reducible exact Below.refl _ _ | ((with_reducible refine bpre ?_); (try simp only [Array.append_assoc]); repeat (first | with_reducible exact Pre.refl _ | with_reducible exact Pre.base _ _ | with_reducible refine Pre.cons _ ?_)) | with_reducible assumption | ((with_reducible refine bsetr ?_); rfl) | with_reducible refine Below.setCell ?_ (by simp <;> omega) _ | with_reducible refine bpl ?_ _ _ | with_reducible refine bal ?_ _ | with_reducible refine bdrew1 ?_ | with_reducible refine bdrew ?_ _))⟩
  case round =>
    obtain ⟨k, hk, rfl, hB⟩ := hrel
    by_cases hlt : k < xs.length
    · obtain ⟨bl, off, rfl, hel⟩ := H1.out (by omega)
      obtain ⟨bl', off', rfl, hel'⟩ := H2.out (by omega)
      clear H1 H2
      obtain ⟨d, hd, hok, c0, c1⟩ := hel k hlt
      obtain ⟨d', hd', _, e0, e1⟩ := hel' k hlt
      rw [hd] at hd'
      cases hd'
      clear hel hel' hd
      replace c0 := bkeep hB c0
      replace e0 := bkeep hB e0
      replace c1 := bkeep hB c1
      replace e1 := bkeep hB e1
      have z1 : bl < wr.heap.size := World.block_lt_of_cell? _ _ c0
      have z2 : bl' < wr.heap.size := World.block_lt_of_cell? _ _ e0
      go_wp2
      go_region_held3 (fun w' => w'.cell? ⟨bl, off + k * 2, none⟩ = some (.int .i64 d.1) ∧ w'.cell? ⟨bl, off + k * 2 + 1, none⟩ = some (.int .u32 d.2) ∧ w'.cell? ⟨bl', off' + k * 2, none⟩ = some (.int .i64 d.1) ∧ w'.cell? ⟨bl', off' + k * 2 + 1, none⟩ = some (.int .u32 d.2)) (simp [*, go_sem]) (first | (go_at_call 40; refine Calls.mono (eqGraph_same _ _ _) ?_; rintro e w1 ⟨rfl, hb⟩; obtain ⟨X, m, rfl⟩ := plsOf hb; clear hb))
      all_goals (go_wp2_with fail)
      go_roundw
      case rel => exact ⟨k + 1, by omega, by go_num, (by (try with_reducible refine bsz ?_); repeat (first | with_reducible exact Below.refl _ _ | ((with_reducible refine bpre ?_); (try simp only [Array.append_assoc]); repeat (first | with_reducible exact Pre.refl _ | with_reducible exact Pre.base _ _ | with_reducible refine Pre.cons _ ?_)) | with_reducible assumption | ((with_reducible refine bsetr ?_); rfl) | with_reducible refine Below.setCell ?_ (by simp <;> omega) _ | with_reducible refine bpl ?_ _ _ | with_reducible refine bal ?_ _ | with_reducible refine bdrew1 ?_ | with_reducible refine bdrew ?_ _))⟩
      case measure => simp [intOf]; omega
    · go_wp2
      go_ret
      exact ⟨rfl, (by (try with_reducible refine bsz ?_); repeat (first | with_reducible exact Below.refl _ _ | ((with_reducible refine bpre ?_); (try simp only [Array.append_assoc]); repeat (first | with_reducible exact Pre.refl _ | with_reducible exact Pre.base _ _ | with_reducible refine Pre.cons _ ?_)) | with_reducible assumption | ((with_reducible refine bsetr ?_); rfl) | with_reducible refine Below.setCell ?_ (by simp <;> omega) _ | with_reducible refine bpl ?_ _ _ | with_reducible refine bal ?_ _ | with_reducible refine bdrew1 ?_ | with_reducible refine bdrew ?_ _))⟩
theorem szGraphS_any (n cap : Nat) (A : Option Addr) (left : Int) (w : World) (h1 : -1 ≤ left) (h2 : left ≤ 1048576) (hn : n ≤ cap) (hm : cap ≤ maxLen) :
    Calls Try.prog 68 #[.slice A n cap, .int .i64 left] w fun e w' => e = .returned (.int .i64 (szI left n)) ∧ w = w' := by
  unfold maxLen at hm
  by_cases hl : left - (n : Int) < 0
  · have hx : szI left n = -1 := if_pos hl
    rw [hx]
    go_enter Try.func68, Try.ntmps68
    go_wp2
    go_ret
    exact ⟨rfl, rfl⟩
  · have hx : szI left n = left - n := if_neg hl
    rw [hx]
    go_enter Try.func68, Try.ntmps68
    go_wp2
    go_ret
    exact ⟨rfl, rfl⟩
end Go.Proofs.Ytbpamifkfbcloaa
