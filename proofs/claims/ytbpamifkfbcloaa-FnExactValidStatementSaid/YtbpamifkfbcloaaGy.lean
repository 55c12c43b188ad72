/- Lists of numbers that grow: impl.first, spec.l01First, spec.l03Order. -/
import Derived.Test.YtbpamifkfbcloaaGx
import Derived.Test.YtbpamifkfbcloaaAp
import Derived.OwnWalk
namespace Go.Proofs.Ytbpamifkfbcloaa
open Go.ChangeShapes Go.WideShapes Go.RowKit
set_option linter.unusedVariables false
set_option linter.unusedSimpArgs false
attribute [local irreducible] Calls
/-- A list that is being appended to. -/
def AppI (B : Nat) (w : World) (v : Value) (L : List Int) : Prop := w.ownsRow B 2 1 v L.length (L.map fun d => .int .i64 d) ∧ ∀ d ∈ L, okI .i64 d
theorem AppI.new {B : Nat} {w : World} {g : Nat} (hg : w.heap[g]? = some (.cells #[] 2 (0, 0))) (hB : B ≤ g) : AppI B w (.slice (some ⟨g, 0, none⟩) 0 0) [] :=
  ⟨⟨by simp, .inr ⟨g, 0, #[], rfl, hB, hg, Nat.le_refl _, Nat.zero_le _, by simp, by simp⟩⟩, by simp⟩
theorem AppI.move {B : Nat} {w w' : World} {v : Value} {L : List Int} (h : AppI B w v L) (hk : ∀ b, B ≤ b → b < w.heap.size → w'.heap[b]? = w.heap[b]?) : AppI B w' v L := ⟨ownsRow_move h.1 hk, h.2⟩
theorem AppI.below {B : Nat} {w w' : World} {v : Value} {L : List Int} (h : AppI B w v L) (hb : Below w.heap.size w w') : AppI B w' v L := h.move fun b _ hl => hb.block b hl
theorem AppI.mono {B B' : Nat} {w : World} {v : Value} {L : List Int} (h : AppI B w v L) (hB : B' ≤ B) : AppI B' w v L := by
  obtain ⟨⟨h1, h2⟩, h3⟩ := h
  refine ⟨⟨h1, ?_⟩, h3⟩
  rcases h2 with h2 | ⟨g, cap, cur, rfl, hg, r⟩
  · exact .inl h2
  · exact .inr ⟨g, cap, cur, rfl, by omega, r⟩
theorem AppI.form {B : Nat} {w : World} {v : Value} {L : List Int} (h : AppI B w v L) : ∃ A cap, v = .slice A L.length cap := by
  obtain ⟨⟨_, h1⟩, _⟩ := h
  rcases h1 with ⟨rfl, h0⟩ | ⟨g, cap, cur, rfl, _⟩
  · exact ⟨none, 0, by rw [h0]⟩
  · exact ⟨_, _, rfl⟩
theorem AppI.ge {B : Nat} {w : World} {v : Value} {L : List Int} (h : AppI B w v L) : ∀ k, v.ownBlock = some k → B ≤ k ∧ k < w.heap.size := fun k hk => h.1.lt k hk
theorem AppI.own {B : Nat} {w : World} {v : Value} {L : List Int} (h : AppI B w v L) : ∃ F, Own (shI .i64) B w L v F := by
  obtain ⟨⟨_, h1⟩, h2⟩ := h
  rcases h1 with ⟨rfl, h0⟩ | ⟨g, cap, cur, rfl, hg, hh, hc, hm, hs, ht⟩
  · have : L = [] := List.length_eq_zero_iff.1 h0
    subst this
    exact ⟨[], Own.nil _ B w 0 (Nat.zero_le _) none⟩
  · refine ⟨[g], own_of_row (flat_int .i64) (fun _ => rfl) hh hc hm (by show L.length * 1 ≤ cur.size; omega) ?_ h2 hg⟩
    rw [ht]
    clear h2 ht hs hc
    induction L with
    | nil => rfl
    | cons d L ih => rw [List.map_cons, List.flatMap_cons, ih (by simp)]; rfl
theorem AppI.lst {B : Nat} {w : World} {v : Value} {L : List Int} (h : AppI B w v L) : Lst (shI .i64) w L v := by
  obtain ⟨F, h⟩ := h.own
  exact h.lst
theorem AppI.next {B : Nat} {w w1 : World} {v : Value} {L : List Int} {d : Int} (h : AppI B w v L) (hd : okI .i64 d) {g cap : Nat} (ho : w1.ownsRow B 2 1 (.slice (some ⟨g, 0, none⟩) (L.length + 1) cap) (L.length + 1) (L.map (fun d => .int .i64 d) ++ [.int .i64 d])) :
    AppI B w1 (.slice (some ⟨g, 0, none⟩) (L.length + 1) cap) (L ++ [d]) := by
  refine ⟨by rw [List.length_append, List.map_append]; exact ho, fun a ha => ?_⟩
  rcases List.mem_append.1 ha with ha | ha
  · exact h.2 a ha
  · simp at ha; subst ha; exact hd
def seqI (n : Nat) : List Int := (List.range n).map fun (i : Nat) => (i : Int)
theorem seqI_len (n : Nat) : (seqI n).length = n := by simp [seqI]
theorem seqI_succ (n : Nat) : seqI (n + 1) = seqI n ++ [(n : Int)] := by simp [seqI, List.range_succ]
theorem okN {n : Nat} (h : n ≤ 100) : okI .i64 (n : Int) := by simp [okI, Lit.wf, IntKind.min, IntKind.max, IntKind.signed, IntKind.bits]; omega
theorem first_any (w : World) (n : Nat) (hn : n ≤ 100) : Calls Try.prog 81 #[.int .i64 n] w fun e w' => ∃ v, e = .returned v ∧ AppI w.heap.size w' v (seqI n) ∧ Below w.heap.size w w' := by
  obtain ⟨i1, z1, hi1, hz1, hs1, hb1, hl1⟩ := infoB_spec (P := Try.prog) (e := 2) (sz := 1) (bytes := 8) (by kernel_rfl)
  have I1 := Lib.hid hi1
  have Z1 := Lib.hid hz1
  clear hi1 hz1
  go_enter Try.func81, Try.ntmps81
  go_wp2_with fail
  go_loopw [3, 7] (fun o i wr => ∃ (k : Nat), k ≤ n ∧ i = .int .i64 k ∧ Hid (AppI w.heap.size wr o (seqI k)) ∧ Below w.heap.size w wr) (fun _ i _ => n - (intOf i).toNat)
  case atStart => exact ⟨0, Nat.zero_le _, rfl, Lib.hid (AppI.new (blknew _ _) (Nat.le_refl _)), (by (try with_reducible refine bsz ?_); repeat (first | with_reducible exact Below.refl _ _ | ((with_reducible refine bpre ?_); (try simp only [Array.append_assoc]); repeat (first | with_reducible exact Pre.refl _ | with_reducible exact Pre.base _ _ | with_reducible refine Pre.cons _ ?_)) | with_reducible assumption | ((with_reducible refine bsetr ?_); rfl) | with_reducible refine Below.setCell ?_ (by simp <;> omega) _ | with_reducible refine bpl ?_ _ _ | with_reducible refine bal ?_ _ | with_reducible refine bdrew1 ?_ | with_reducible refine bdrew ?_ _))⟩
  case round =>
    obtain ⟨k, hk, rfl, hA, hB⟩ := hrel
    have hz := hB.size
    by_cases hlt : k < n
    · have hk8 : (k : Int) < 9223372036854775807 := by omega
      have hW := Lib.hid (hA.out.below (w' := wr.alloc (.cells #[.int .i64 k] 2)) ((bal (Below.refl _ _) _)))
      go_wp2_with (at_builtin; refine wpList_append_lies _ rfl (.tmp 10) (.tmp 12) 119 rfl w.heap.size 2 i1 z1 1 8 Try.underlying119 I1.out Z1.out hs1 hb1 hl1 (by decide) u3 (seqI k).length _ rfl hW.out.1 ⟨wr.heap.size, 0, none⟩ 1 1 [.int .i64 k] rfl rfl (World.news_of_block (blknew _ _)) (by simp [Value.oneCell']) (by decide) (by rw [seqI_len]; unfold maxLen; omega) (by rw [seqI_len]; omega) (by simp; omega) _ rfl ?_; intro g1 cap1 w2 hown hgrow hat hlt3)
      go_roundw
      case rel =>
        have hN := hW.out.next (okN (n := k) (by omega)) hown
        have hAo := hA.out.ge
        have hb2 := grown_below (B := w.heap.size) hgrow (fun q hq => (hAo q hq).1) (by simp; omega)
        exact ⟨k + 1, by omega, by go_num, Lib.hid (by rw [seqI_succ]; exact hN), (hB.trans ((bal (Below.refl _ _) _).mono (by omega))).trans hb2⟩
      case measure => simp [intOf]; omega
    · have e : k = n := by omega
      subst e
      go_wp2_with fail
      exact bodyPost_ret (v := u3) (by simp [results, Try.results81, go_sem]) rfl ⟨u3, rfl, hA.out, hB⟩
theorem l01First_any (w : World) (n : Nat) (hn : n ≤ 100) : Calls Try.prog 77 #[.int .i64 n] w fun e w' => ∃ v, e = .returned v ∧ AppI w.heap.size w' v (seqI n) ∧ Below w.heap.size w w' := by
  obtain ⟨i1, z1, hi1, hz1, hs1, hb1, hl1⟩ := infoB_spec (P := Try.prog) (e := 2) (sz := 1) (bytes := 8) (by kernel_rfl)
  have I1 := Lib.hid hi1
  have Z1 := Lib.hid hz1
  clear hi1 hz1
  go_enter Try.func77, Try.ntmps77
  go_wp2_with fail
  go_loopw [3, 4] (fun o i wr => ∃ (k : Nat), k ≤ n ∧ i = .int .i64 k ∧ Hid (AppI w.heap.size wr o (seqI k)) ∧ Below w.heap.size w wr) (fun _ i _ => n - (intOf i).toNat)
  case atStart => exact ⟨0, Nat.zero_le _, rfl, Lib.hid (AppI.new (blknew _ _) (Nat.le_refl _)), (by (try with_reducible refine bsz ?_); repeat (first | with_reducible exact Below.refl _ _ | ((with_reducible refine bpre ?_); (try simp only [Array.append_assoc]); repeat (first | with_reducible exact Pre.refl _ | with_reducible exact Pre.base _ _ | with_reducible refine Pre.cons _ ?_)) | with_reducible assumption | ((with_reducible refine bsetr ?_); rfl) | with_reducible refine Below.setCell ?_ (by simp <;> omega) _ | with_reducible refine bpl ?_ _ _ | with_reducible refine bal ?_ _ | with_reducible refine bdrew1 ?_ | with_reducible refine bdrew ?_ _))⟩
  case round =>
    obtain ⟨k, hk, rfl, hA, hB⟩ := hrel
    have hz := hB.size
    by_cases hlt : k < n
    · have hk8 : (k : Int) < 9223372036854775807 := by omega
      have hW := Lib.hid (hA.out.below (w' := wr.alloc (.cells #[.int .i64 k] 2)) ((bal (Below.refl _ _) _)))
      go_wp2_with (at_builtin; refine wpList_append_lies _ rfl (.tmp 11) (.tmp 13) 119 rfl w.heap.size 2 i1 z1 1 8 Try.underlying119 I1.out Z1.out hs1 hb1 hl1 (by decide) u3 (seqI k).length _ rfl hW.out.1 ⟨wr.heap.size, 0, none⟩ 1 1 [.int .i64 k] rfl rfl (World.news_of_block (blknew _ _)) (by simp [Value.oneCell']) (by decide) (by rw [seqI_len]; unfold maxLen; omega) (by rw [seqI_len]; omega) (by simp; omega) _ rfl ?_; intro g1 cap1 w2 hown hgrow hat hlt3)
      go_roundw
      case rel =>
        have hN := hW.out.next (okN (n := k) (by omega)) hown
        have hAo := hA.out.ge
        have hb2 := grown_below (B := w.heap.size) hgrow (fun q hq => (hAo q hq).1) (by simp; omega)
        exact ⟨k + 1, by omega, by go_num, Lib.hid (by rw [seqI_succ]; exact hN), (hB.trans ((bal (Below.refl _ _) _).mono (by omega))).trans hb2⟩
      case measure => simp [intOf]; omega
    · have e : k = n := by omega
      subst e
      go_wp2_with fail
      exact bodyPost_ret (v := u3) (by simp [results, Try.results77, go_sem]) rfl ⟨u3, rfl, hA.out, hB⟩
/-- The first ones, then own ones behind them. -/
def ordL (k : Nat) (L : List Int) : List Int := seqI k ++ L.map fun d => (k : Int) + d
theorem ordL_take (k : Nat) (L : List Int) {i : Nat} (hi : i < L.length) : ordL k (L.take (i + 1)) = ordL k (L.take i) ++ [(k : Int) + gi L i] := by
  have e : gi L i = L[i] := by simp [gi, List.getElem?_eq_getElem hi]
  unfold ordL
  rw [List.take_add_one, List.getElem?_eq_getElem hi, List.map_append, e, List.append_assoc]
  rfl
theorem ordL_len (k : Nat) (L : List Int) : (ordL k L).length = k + L.length := by simp [ordL, seqI_len]
theorem l03Order_any (w : World) (n : Nat) (L : List Int) (v : Value) (h : Lst (shI .i64) w L v) (hn : n ≤ 100) (hl : L.length ≤ 100) (hL : ∀ i, i < L.length → 0 ≤ gi L i ∧ gi L i ≤ 100) :
    Calls Try.prog 79 #[.int .i64 n, v] w fun e w' => ∃ v, e = .returned v ∧ AppI w.heap.size w' v (ordL n L) ∧ Below w.heap.size w w' := by
  obtain ⟨i1, z1, hi1, hz1, hs1, hb1, hl1⟩ := infoB_spec (P := Try.prog) (e := 2) (sz := 1) (bytes := 8) (by kernel_rfl)
  have I1 := Lib.hid hi1
  have Z1 := Lib.hid hz1
  clear hi1 hz1
  obtain ⟨A, cap, rfl, hc, hm, hel⟩ := lstI h
  have H1 := Lib.hid hel
  have HL := Lib.hid hL
  clear hel hL
  unfold maxLen at hm
  go_enter Try.func79, Try.ntmps79
  go_wp2_with fail
  refine Calls.mono (l01First_any _ n hn) ?_
  rintro e w1 ⟨u9, rfl, hA0, hb⟩
  have hA0 := Lib.hid hA0
  have HB := Lib.hid hb
  clear hb
  go_wp2_with fail
  go_loopw [5, 6] (fun o i wr => ∃ (k : Nat), k ≤ L.length ∧ i = .int .i64 k ∧ Hid (AppI w.heap.size wr o (ordL n (L.take k))) ∧ Below w.heap.size w wr) (fun _ i _ => L.length - (intOf i).toNat)
  case atStart => exact ⟨0, Nat.zero_le _, rfl, Lib.hid (by rw [List.take_zero]; simpa [ordL] using hA0.out), HB.out⟩
  case round =>
    obtain ⟨k, hk, rfl, hA, hB⟩ := hrel
    have hz := hB.size
    by_cases hlt : k < L.length
    · have hk8 : (k : Int) < 9223372036854775807 := by omega
      obtain ⟨bl, off, rfl, hel⟩ := H1.out (by omega)
      have c0 := bkeep hB (hel k hlt)
      have hv := HL.out k hlt
      clear hel
      have hW := Lib.hid (hA.out.below (w' := wr.alloc (.cells #[.int .i64 ((n : Int) + gi L k)] 2)) ((bal (Below.refl _ _) _)))
      go_wp2_with (at_builtin; refine wpList_append_lies _ rfl (.tmp 15) (.tmp 22) 119 rfl w.heap.size 2 i1 z1 1 8 Try.underlying119 I1.out Z1.out hs1 hb1 hl1 (by decide) u5 (ordL n (L.take k)).length _ rfl hW.out.1 ⟨wr.heap.size, 0, none⟩ 1 1 [.int .i64 ((n : Int) + gi L k)] rfl rfl (World.news_of_block (blknew _ _)) (by simp [Value.oneCell']) (by decide) (by rw [ordL_len, take_len (by omega)]; unfold maxLen; omega) (by rw [ordL_len, take_len (by omega)]; omega) (by simp; omega) _ rfl ?_; intro g1 cap1 w2 hown hgrow hat hlt3)
      go_roundw
      case rel =>
        have hN := hW.out.next (d := (n : Int) + gi L k) (by simp [okI, Lit.wf, IntKind.min, IntKind.max, IntKind.signed, IntKind.bits]; omega) hown
        have hAo := hA.out.ge
        have hb2 := grown_below (B := w.heap.size) hgrow (fun q hq => (hAo q hq).1) (by simp; omega)
        exact ⟨k + 1, by omega, by go_num, Lib.hid (by rw [ordL_take n L hlt]; exact hN), (hB.trans ((bal (Below.refl _ _) _).mono (by omega))).trans hb2⟩
      case measure => simp [intOf]; omega
    · have e : k = L.length := by omega
      have hA1 := hA.out
      rw [e, List.take_length] at hA1
      clear hA
      subst e
      go_wp2_with fail
      exact bodyPost_ret (v := u5) (by simp [results, Try.results79, go_sem]) rfl ⟨u5, rfl, hA1, hB⟩
end Go.Proofs.Ytbpamifkfbcloaa
