import Derived.BigGuardPart
import Derived.Test.YtekchdgpaemofaaGreatYyGo
import Derived.Test.YtekchdgpaemofaaGreatYySl
import Derived.Test.YtekchdgpaemofaaGreatYyIx
import Derived.Test.YtekchdgpaemofaaGreatYyFr2
namespace Go.Proofs.YtekchdgpaemofaaGreat
open Go.ChangeShapes Go.WideShapes Go.RowKit
set_option linter.unusedVariables false
set_option linter.unusedSimpArgs false
attribute [local irreducible] Calls
abbrev Flg := Int × (Int × Int)
def flV (d : Flg) : Bool := flOk d.1 d.2.1 d.2.2
def badFl (d : Flg) : Bool := !flV d
def tyE (d : Flg) : Int := onE d.2.2 (seqI d.1.toNat)
def tyNe (f d : Flg) : Bool := !eq2 d.1 (tyE d) f.1 (tyE f)
def nNe (f d : Flg) : Bool := d.2.1 != f.2.1
def hdF (fs : List Flg) : Flg := fs.headD (0, (0, 0))
def flagsB (fs : List Flg) : Bool := !anyB badFl fs
def sameTy (fs : List Flg) : Bool := !anyB (tyNe (hdF fs)) fs
def alikesB (fs : List Flg) : Bool := sameTy fs && !anyB (nNe (hdF fs)) fs
theorem flV_iff (d : Flg) : flV d = true ↔ (0 ≤ d.1 ∧ d.1 ≤ 3) ∧ (0 ≤ d.2.1 ∧ d.2.1 ≤ 5) ∧ d.1 ≤ d.2.1 ∧ d.2.2 < limN d.2.1 := by
  rw [flV, flOk_iff, grOk]
  simp [inB]
  omega
theorem okFl {d : Flg} (h : okFlag d) : 0 ≤ d.2.2 ∧ d.2.2 ≤ 4294967295 := u32_wf h.2.2
theorem flagsB_iff {fs : List Flg} : flagsB fs = true ↔ ∀ d ∈ fs, flV d = true := by simp [flagsB, anyB, badFl]
theorem typeOf_i (w : World) (d : Flg) (h : 0 ≤ d.1 ∧ d.1 ≤ 5) : Calls Tryz.prog 67 #[.agg #[.int .i64 d.1, .int .i64 d.2.1, .int .u32 d.2.2]] w fun e0 w' => e0 = .returned (.agg #[.int .i64 d.1, .int .u32 (tyE d)]) ∧ Below w.heap.size w w' := by
  have := typeOf_any w d.1.toNat d.2.1 d.2.2 (by omega)
  rw [show ((d.1.toNat : Nat) : Int) = d.1 by omega] at this
  exact this
theorem badFlag_i (W : World) (d : Flg) (hd : okFlag d) : Calls Tryz.prog 134 #[.agg #[.int .i64 d.1, .int .i64 d.2.1, .int .u32 d.2.2]] W fun e W' => e = .returned (.bool (badFl d)) ∧ Below W.heap.size W W' := badFlag_any d.1 d.2.1 d.2.2 W (okFl hd)
theorem flagsOk_any (w : World) (fs : List Flg) (v : Value) (h : Lst shFlag w fs v) (hl : fs.length ≤ 1048576) : Calls Tryz.prog 64 #[v] w fun e w' => e = .returned (.int .i64 (if flagsB fs then 0 else 1)) ∧ Below w.heap.size w w' := by
  have eg : ∀ args w, (callFunc 134 args).run Tryz.prog w = .ok (.enter 134 args) w := enters_of Tryz.func134 (by kernel_rfl) rfl
  obtain ⟨A, cap, rfl, hc, hm, hok, _⟩ := lstFlag h
  unfold maxLen at hm
  have HO := Lib.hid hok
  clear hok
  cases hv : anyB badFl fs
  · have hr : (if flagsB fs then (0 : Int) else 1) = 0 := by simp [flagsB, hv]
    rw [hr]
    have HV := Lib.hid hv
    clear hv hr
    go_enter Tryz.func64, Tryz.ntmps64
    go_wp2_with (first | (go_at_call 133; refine Calls.mono (hasFlag_any _ fs _ 134 #[] badFl (h.below belA) (by omega) eg (fun W d _ hd => badFlag_i W d (HO.out d hd))) ?_; rw [HV.out]; rintro e w1 ⟨rfl, hb⟩; obtain ⟨X, m, rfl⟩ := plsOf hb; clear hb))
    exact bodyPost_ret (v := .int .i64 0) (by simp [results, Tryz.results64, go_sem]) rfl ⟨rfl, belA⟩
  · have hr : (if flagsB fs then (0 : Int) else 1) = 1 := by simp [flagsB, hv]
    rw [hr]
    have HV := Lib.hid hv
    clear hv hr
    go_enter Tryz.func64, Tryz.ntmps64
    go_wp2_with (first | (go_at_call 133; refine Calls.mono (hasFlag_any _ fs _ 134 #[] badFl (h.below belA) (by omega) eg (fun W d _ hd => badFlag_i W d (HO.out d hd))) ?_; rw [HV.out]; rintro e w1 ⟨rfl, hb⟩; obtain ⟨X, m, rfl⟩ := plsOf hb; clear hb))
    exact bodyPost_ret (v := .int .i64 1) (by simp [results, Tryz.results64, go_sem]) rfl ⟨rfl, belA⟩
theorem same1 (W : World) (bl p o n cap : Nat) (f d : Flg) (h0 : W.cell? ⟨bl, 0, none⟩ = some (.slice (some ⟨p, o, none⟩) n cap)) (hn : 0 < n)
    (h1 : W.cell? ⟨p, o, none⟩ = some (.int .i64 f.1)) (h2 : W.cell? ⟨p, o + 1, none⟩ = some (.int .i64 f.2.1)) (h3 : W.cell? ⟨p, o + 2, none⟩ = some (.int .u32 f.2.2)) (hf : 0 ≤ f.1 ∧ f.1 ≤ 5) (hd : 0 ≤ d.1 ∧ d.1 ≤ 5) :
    Calls Tryz.prog 212 #[.agg #[.int .i64 d.1, .int .i64 d.2.1, .int .u32 d.2.2], .pointer (some ⟨bl, 0, none⟩)] W fun e W' => e = .returned (.bool (tyNe f d)) ∧ Below W.heap.size W W' := by
  have z0 := World.block_lt_of_cell? _ _ h0
  have z1 := World.block_lt_of_cell? _ _ h1
  simp only at z0 z1
  have hn' : (0 : Int) < (n : Int) := by omega
  go_enter Tryz.func212, Tryz.ntmps212
  go_wp2_with fail
  (refine wp_region_held_drew (S := (fun w' => w'.cell? ⟨bl, 0, none⟩ = some (.slice (some ⟨p, o, none⟩) n cap) ∧ w'.cell? ⟨p, o, none⟩ = some (.int .i64 f.1) ∧ w'.cell? ⟨p, o + 1, none⟩ = some (.int .i64 f.2.1) ∧ w'.cell? ⟨p, o + 2, none⟩ = some (.int .u32 f.2.2) ∧ w'.cell? ⟨W.heap.size, 0, none⟩ = some (.int .i64 d.1) ∧ w'.cell? ⟨W.heap.size, 1, none⟩ = some (.int .i64 d.2.1) ∧ w'.cell? ⟨W.heap.size, 2, none⟩ = some (.int .u32 d.2.2))) (by kernel_rfl) ?_ (fun hHeld => ?_); (focus (simp [*, go_sem])); refine rt 0 (some 4) (v := ?_) rfl rfl ?_ ?_; rotate_left; (focus (intro w' hSw; (try dsimp only at hSw); go_simp; (try with_reducible rfl))); (try simp only [Act.put, nA, nB, nC]); refine rt 2 (some 6) (v := ?_) rfl rfl ?_ ?_; rotate_left; (focus (intro w' hSw; (try dsimp only at hSw); go_simp; (try with_reducible rfl))); (try simp only [Act.put, nA, nB, nC]); refine rt 3 (some 7) (v := ?_) rfl rfl ?_ ?_; rotate_left; (focus (intro w' hSw; (try dsimp only at hSw); go_simp; (try with_reducible rfl))); (try simp only [Act.put, nA, nB, nC]); refine rt 4 (some 8) (v := ?_) rfl rfl ?_ ?_; rotate_left; (focus (intro w' hSw; (try dsimp only at hSw); go_simp; (try with_reducible rfl))); (try simp only [Act.put, nA, nB, nC]); refine wpAnyH_ready (rs := [1]) (by kernel_rfl) (by simp) ?_; refine AllReadyH.cons rfl (fun K hK => ?_) AllReadyH.nil; go_simp; (go_at_call 67; refine Calls.mono (typeOf_i _ d hd) ?_; rintro e w1 ⟨rfl, hb⟩; obtain ⟨X1, m1, rfl⟩ := plsOf hb; clear hb); go_wp2_with fail; refine hK.out _ _ ?_ (fun hHeld => ?_); (focus (simp [*, go_sem])); clear hK K; (try simp only [Act.put, nA, nB, nC]); refine wpAnyH_ready (rs := [5]) (by kernel_rfl) (by simp) ?_; refine AllReadyH.cons rfl (fun K hK => ?_) AllReadyH.nil; go_simp; (go_at_call 67; refine Calls.mono (typeOf_i _ f hf) ?_; rintro e w1 ⟨rfl, hb⟩; obtain ⟨X2, m2, rfl⟩ := plsOf hb; clear hb); go_wp2_with fail; refine hK.out _ _ ?_ (fun hHeld => ?_); (focus (simp [*, go_sem])); clear hK K; (try simp only [Act.put, nA, nB, nC]); refine rt 6 (some 10) (v := ?_) rfl rfl ?_ ?_; rotate_left; (focus (intro w' hSw; (try dsimp only at hSw); go_simp; (try with_reducible rfl))); (try simp only [Act.put, nA, nB, nC]); refine rt 7 (some 3) (v := ?_) rfl rfl ?_ ?_; rotate_left; (focus (intro w' hSw; (try dsimp only at hSw); go_simp; (try with_reducible rfl))); (try simp only [Act.put, nA, nB, nC]); refine wpAnyH_done (by kernel_rfl) ?_ _)
  clear hHeld
  go_wp2_with fail
  exact bodyPost_ret (v := .bool (!eq2 d.1 (tyE d) f.1 (tyE f))) (by simp [results, Tryz.results212, go_sem]) rfl ⟨rfl, belA⟩
theorem alk1 (W : World) (bl p o n cap : Nat) (f d : Flg) (h0 : W.cell? ⟨bl, 0, none⟩ = some (.slice (some ⟨p, o, none⟩) n cap)) (hn : 0 < n)
    (h2 : W.cell? ⟨p, o + 1, none⟩ = some (.int .i64 f.2.1)) :
    Calls Tryz.prog 139 #[.agg #[.int .i64 d.1, .int .i64 d.2.1, .int .u32 d.2.2], .pointer (some ⟨bl, 0, none⟩)] W fun e W' => e = .returned (.bool (nNe f d)) ∧ Below W.heap.size W W' := by
  have z0 := World.block_lt_of_cell? _ _ h0
  have z1 := World.block_lt_of_cell? _ _ h2
  simp only at z0 z1
  have hn' : (0 : Int) < (n : Int) := by omega
  go_enter Tryz.func139, Tryz.ntmps139
  go_wp2_with fail
  go_quiet (fail)
  go_wp2_with fail
  exact bodyPost_ret (v := .bool (d.2.1 != f.2.1)) (by simp [results, Tryz.results139, go_sem]) rfl ⟨rfl, belA⟩
theorem sameType_any (w : World) (fs : List Flg) (v : Value) (h : Lst shFlag w fs v) (hl : fs.length ≤ 1048576) (hV : ∀ d ∈ fs, 0 ≤ d.1 ∧ d.1 ≤ 5) : Calls Tryz.prog 138 #[v] w fun e w' => e = .returned (.bool (sameTy fs)) ∧ Below w.heap.size w w' := by
  have eg : ∀ args w, (callFunc 212 args).run Tryz.prog w = .ok (.enter 212 args) w := enters_of Tryz.func212 (by kernel_rfl) rfl
  obtain ⟨A, cap, rfl, hc, hm, hok, hel⟩ := lstFlag h
  have hb : fs.length ≤ 9223372036854775806 := by omega
  have HH : ∀ bl : Nat, w.heap.size ≤ bl → Hid (∀ (W : World) (d : Flg), W.cell? ⟨bl, 0, none⟩ = some (.slice A fs.length cap) → Below w.heap.size w W → d ∈ fs → Calls Tryz.prog 212 (#[.agg #[.int .i64 d.1, .int .i64 d.2.1, .int .u32 d.2.2]] ++ #[.pointer (some ⟨bl, 0, none⟩)]) W fun e W' => e = .returned (.bool (tyNe (hdF fs) d)) ∧ Below W.heap.size W W') := fun bl hbl => Lib.hid (by
    intro W d hc0 hW hd
    have hp : 0 < fs.length := List.length_pos_of_mem hd
    obtain ⟨p, o, rfl, hel2⟩ := hel hp
    obtain ⟨f, hf, _, c0, c1, c2⟩ := hel2 0 hp
    have e : hdF fs = f := by
      cases fs with
      | nil => cases hd
      | cons x xs => simp at hf; subst hf; rfl
    rw [e]
    simp only [Nat.zero_mul, Nat.add_zero] at c0 c1 c2
    exact same1 W bl p o fs.length cap f d hc0 hp (bkeep hW c0) (bkeep hW c1) (bkeep hW c2) (hV f (List.mem_of_getElem? hf)) (hV d hd))
  have H1 := Lib.hid h
  clear h hel hok hV
  go_enter Tryz.func138, Tryz.ntmps138
  go_wp2_with (first | (go_at_call 133; refine Calls.mono (hasFlag_any _ fs _ 212 #[.pointer (some ⟨w.heap.size, 0, none⟩)] (tyNe (hdF fs)) (H1.out.below belA) hb eg (fun W d hW hd => (HH w.heap.size (Nat.le_refl _)).out W d (bkeep hW (by simp [go_sem])) (Below.trans belA (hW.mono (by first | (simp; done) | (simp; omega)))) hd)) ?_; rintro e w1 ⟨rfl, hb⟩; obtain ⟨X, m, rfl⟩ := plsOf hb; clear hb))
  exact bodyPost_ret (v := .bool (!anyB (tyNe (hdF fs)) fs)) (by simp [results, Tryz.results138, go_sem]) rfl ⟨rfl, belA⟩
theorem alikes_any (w : World) (fs : List Flg) (v : Value) (h : Lst shFlag w fs v) (hl : fs.length ≤ 1048576) (hV : ∀ d ∈ fs, 0 ≤ d.1 ∧ d.1 ≤ 5) : Calls Tryz.prog 66 #[v] w fun e w' => e = .returned (.bool (alikesB fs)) ∧ Below w.heap.size w w' := by
  have eg : ∀ args w, (callFunc 139 args).run Tryz.prog w = .ok (.enter 139 args) w := enters_of Tryz.func139 (by kernel_rfl) rfl
  obtain ⟨A, cap, rfl, hc, hm, hok, hel⟩ := lstFlag h
  have hb : fs.length ≤ 9223372036854775806 := by omega
  have HH : ∀ bl : Nat, w.heap.size ≤ bl → Hid (∀ (W : World) (d : Flg), W.cell? ⟨bl, 0, none⟩ = some (.slice A fs.length cap) → Below w.heap.size w W → d ∈ fs → Calls Tryz.prog 139 (#[.agg #[.int .i64 d.1, .int .i64 d.2.1, .int .u32 d.2.2]] ++ #[.pointer (some ⟨bl, 0, none⟩)]) W fun e W' => e = .returned (.bool (nNe (hdF fs) d)) ∧ Below W.heap.size W W') := fun bl hbl => Lib.hid (by
    intro W d hc0 hW hd
    have hp : 0 < fs.length := List.length_pos_of_mem hd
    obtain ⟨p, o, rfl, hel2⟩ := hel hp
    obtain ⟨f, hf, _, c0, c1, c2⟩ := hel2 0 hp
    have e : hdF fs = f := by
      cases fs with
      | nil => cases hd
      | cons x xs => simp at hf; subst hf; rfl
    rw [e]
    simp only [Nat.zero_mul, Nat.add_zero] at c0 c1 c2
    exact alk1 W bl p o fs.length cap f d hc0 hp (bkeep hW c1))
  have H1 := Lib.hid h
  have HV := Lib.hid hV
  clear h hel hok hV
  cases hs : sameTy fs
  · have hr : Hid (alikesB fs = false) := Lib.hid (by simp [alikesB, hs])
    have HS := Lib.hid hs
    clear hs
    go_enter Tryz.func66, Tryz.ntmps66
    go_wp2_with (first | (go_at_call 138; refine Calls.mono ((HS.out ▸ sameType_any _ fs _ (H1.out.below belA) hl HV.out)) ?_; rintro e w1 ⟨rfl, hb⟩; obtain ⟨X, m, rfl⟩ := plsOf hb; clear hb))
    exact bodyPost_ret (v := .bool false) (by simp [results, Tryz.results66, go_sem]) rfl ⟨by rw [hr.out], belA⟩
  · have hr : Hid (alikesB fs = !anyB (nNe (hdF fs)) fs) := Lib.hid (by simp [alikesB, hs])
    have HS := Lib.hid hs
    clear hs
    go_enter Tryz.func66, Tryz.ntmps66
    go_wp2_with (first | (go_at_call 138; refine Calls.mono ((HS.out ▸ sameType_any _ fs _ (H1.out.below belA) hl HV.out)) ?_; rintro e w1 ⟨rfl, hb⟩; obtain ⟨X, m, rfl⟩ := plsOf hb; clear hb) | (go_at_call 133; refine Calls.mono (hasFlag_any _ fs _ 139 #[.pointer (some ⟨w.heap.size, 0, none⟩)] (nNe (hdF fs)) (H1.out.below belA) hb eg (fun W d hW hd => (HH w.heap.size (Nat.le_refl _)).out W d (bkeep hW (by simp [go_sem])) (Below.trans belA (hW.mono (by first | (simp; done) | (simp; omega)))) hd)) ?_; rintro e w1 ⟨rfl, hb⟩; obtain ⟨X, m, rfl⟩ := plsOf hb; clear hb))
    exact bodyPost_ret (v := .bool (!anyB (nNe (hdF fs)) fs)) (by simp [results, Tryz.results66, go_sem]) rfl ⟨by rw [hr.out], belA⟩
end Go.Proofs.YtekchdgpaemofaaGreat

/- Flags of one type and one size, spec: l04Family. -/
namespace Go.Proofs.YtekchdgpaemofaaGreat
open Go.ChangeShapes Go.WideShapes Go.RowKit
set_option linter.unusedVariables false
set_option linter.unusedSimpArgs false
attribute [local irreducible] Calls
def famC (fs : List Flg) : Int := if flagsB fs then (if 8 < fs.length then 3 else if fs.length = 0 then 4 else if alikesB fs then 0 else 4) else 1
theorem l03Type_i (w : World) (d : Flg) (h : 0 ≤ d.1 ∧ d.1 ≤ 5) : Calls Tryz.prog 57 #[.agg #[.int .i64 d.1, .int .i64 d.2.1, .int .u32 d.2.2]] w fun e0 w' => e0 = .returned (.agg #[.int .i64 d.1, .int .u32 (tyE d)]) ∧ Below w.heap.size w w' := by
  have := l03Type_any w d.1.toNat d.2.1 d.2.2 (by omega)
  rw [show ((d.1.toNat : Nat) : Int) = d.1 by omega] at this
  exact this
theorem l03Ok_i (W : World) (d : Flg) (hd : okFlag d) : Calls Tryz.prog 55 #[.agg #[.int .i64 d.1, .int .i64 d.2.1, .int .u32 d.2.2]] W fun e W' => e = .returned (.bool (flV d)) ∧ Below W.heap.size W W' := l03Ok_any d.1 d.2.1 d.2.2 W (okFl hd)
theorem hdF_eq {fs : List Flg} {f : Flg} (h : fs[0]? = some f) : hdF fs = f := by
  cases fs with
  | nil => cases h
  | cons x xs => simp at h; subst h; rfl
theorem alikesB_iff {fs : List Flg} {f : Flg} (h : fs[0]? = some f) : alikesB fs = true ↔ ∀ a ∈ fs, tyNe f a = false ∧ nNe f a = false := by
  rw [alikesB, sameTy, hdF_eq h]
  simp only [anyB, Bool.and_eq_true, Bool.not_eq_true', List.any_eq_false, Bool.not_eq_true]
  exact ⟨fun h a ha => ⟨h.1 a ha, h.2 a ha⟩, fun h => ⟨fun a ha => (h a ha).1, fun a ha => (h a ha).2⟩⟩
set_option maxHeartbeats 1000000 in
theorem l04Family_any (w : World) (fs : List Flg) (v : Value) (h : Lst shFlag w fs v) : Calls Tryz.prog 56 #[v] w fun e w' => e = .returned (.int .i64 (famC fs)) ∧ Below w.heap.size w w' := by
  obtain ⟨A, cap, rfl, hc, hm, hok, hel⟩ := lstFlag h
  unfold maxLen at hm
  clear h
  have H1 := Lib.hid hel
  have HO := Lib.hid hok
  clear hel hok
  go_enter Tryz.func56, Tryz.ntmps56
  go_wp2_with fail
  go_loopw [3] (fun i wr => ∃ (k : Nat), k ≤ fs.length ∧ i = .int .i64 k ∧ Hid (∀ a ∈ fs.take k, flV a = true) ∧ Below w.heap.size w wr) (fun i _ => fs.length - (intOf i).toNat)
  case atStart => exact ⟨0, Nat.zero_le _, rfl, Lib.hid (by simp), belA⟩
  case round =>
    obtain ⟨k, hk, rfl, HT, hB⟩ := hrel
    by_cases hlt : k < fs.length
    · obtain ⟨bl, off, rfl, hel⟩ := H1.out (by omega)
      clear H1
      obtain ⟨d, hd, hok, c0, c1, c2⟩ := hel k hlt
      clear hel
      have hmem : Hid (d ∈ fs) := Lib.hid (List.mem_of_getElem? hd)
      have HD := Lib.hid hd
      have HOK := Lib.hid hok
      clear hd hok
      replace c0 := bkeep hB c0
      replace c1 := bkeep hB c1
      replace c2 := bkeep hB c2
      cases hp : flV d
      · have hr : Hid (famC fs = 1) := Lib.hid (by
          have : flagsB fs = false := by
            rw [Bool.eq_false_iff]
            intro hc
            rw [flagsB_iff.1 hc d hmem.out] at hp
            cases hp
          simp [famC, this])
        have HP := Lib.hid hp
        clear hp
        go_wp2_with (first | (go_at_call 55; refine Calls.mono ((HP.out ▸ l03Ok_i _ d HOK.out)) ?_; rintro e w1 ⟨rfl, hb⟩; obtain ⟨X, m, rfl⟩ := plsOf hb; clear hb))
        exact bodyPost_ret (v := .int .i64 1) (by simp [results, Tryz.results56, go_sem]) rfl ⟨by rw [hr.out], belA⟩
      · have HP := Lib.hid hp
        clear hp
        go_wp2_with (first | (go_at_call 55; refine Calls.mono ((HP.out ▸ l03Ok_i _ d HOK.out)) ?_; rintro e w1 ⟨rfl, hb⟩; obtain ⟨X, m, rfl⟩ := plsOf hb; clear hb))
        go_roundw
        case rel => exact ⟨k + 1, by omega, by go_num, Lib.hid (mem_take_succ HT.out HD.out HP.out), belA⟩
        case measure => simp [intOf]; omega
    · have e : k = fs.length := by omega
      subst e
      have hV : Hid (flagsB fs = true) := Lib.hid (flagsB_iff.2 (by have := HT.out; rwa [List.take_length] at this))
      clear HT
      by_cases h8 : 8 < fs.length
      · have hr : Hid (famC fs = 3) := Lib.hid (by simp [famC, hV.out, h8])
        have h8' : (8 : Int) < (fs.length : Int) := by omega
        go_wp2_with fail
        exact bodyPost_ret (v := .int .i64 3) (by simp [results, Tryz.results56, go_sem]) rfl ⟨by rw [hr.out], belA⟩
      · by_cases h0 : fs.length = 0
        · have hr : Hid (famC fs = 4) := Lib.hid (by simp [famC, hV.out, h0])
          have h8' : ¬ (8 : Int) < (fs.length : Int) := by omega
          have h0' : ((fs.length : Int) == 0) = true := by rw [h0]; rfl
          have H0 := Lib.hid h0
          clear h0
          go_wp2_with fail
          exact bodyPost_ret (v := .int .i64 4) (by simp [results, Tryz.results56, go_sem]) rfl ⟨by rw [hr.out], belA⟩
        · have h8' : (fs.length : Int) ≤ 8 := by omega
          have h0' : ((fs.length : Int) == 0) = false := by rw [beq_eq_false_iff_ne]; omega
          obtain ⟨bl, off, rfl, hel⟩ := H1.out (by omega)
          obtain ⟨f, hf, hokf, f0, f1, f2⟩ := hel 0 (by omega)
          have HF := Lib.hid hf
          have HEL := Lib.hid hel
          simp only [Nat.zero_mul, Nat.add_zero] at f0 f1 f2
          have zb : bl < w.heap.size := World.block_lt_of_cell? _ _ f0
          have hfb : Hid (0 ≤ f.1 ∧ f.1 ≤ 5) := Lib.hid (by have := (flV_iff f).1 (flagsB_iff.1 hV.out f (List.mem_of_getElem? hf)); omega)
          have hfam : Hid (famC fs = if alikesB fs then 0 else 4) := Lib.hid (by simp [famC, hV.out, h8, h0])
          clear hf hel H1 h8 hokf
          go_wp2_with fail
          have HB := Lib.hid hB
          obtain ⟨W0, rfl⟩ : ∃ x, x = wr := ⟨_, rfl⟩
          go_loopw [4] (fun i wr => ∃ (k : Nat), 1 ≤ k ∧ k ≤ fs.length ∧ i = .int .i64 k ∧ Hid (∀ a ∈ fs.take k, tyNe f a = false ∧ nNe f a = false) ∧ Below w.heap.size w wr) (fun i _ => fs.length - (intOf i).toNat)
          case atStart =>
            refine ⟨1, Nat.le_refl _, by omega, rfl, Lib.hid fun a ha => ?_, hB⟩
            have : fs.take 1 = [f] := by
              have := HF.out
              cases fs with
              | nil => cases this
              | cons x xs => simp at this; subst this; rfl
            rw [this] at ha
            simp at ha
            subst ha
            simp [tyNe, nNe, eq2_self]
          case round =>
            clear hB HB
            obtain ⟨k, hk1, hk, rfl, HT, hB⟩ := hrel
            have hz := hB.size
            have zb2 : bl < wr.heap.size := by omega
            by_cases hlt : k < fs.length
            · obtain ⟨d, hd, hok, c0, c1, c2⟩ := HEL.out k hlt
              have HD := Lib.hid hd
              replace c0 := bkeep hB c0
              replace c1 := bkeep hB c1
              replace c2 := bkeep hB c2
              have g0 := bkeep hB f0
              have g1 := bkeep hB f1
              have g2 := bkeep hB f2
              have hdb : Hid (0 ≤ d.1 ∧ d.1 ≤ 5) := Lib.hid (by have := (flV_iff d).1 (flagsB_iff.1 hV.out d (List.mem_of_getElem? hd)); omega)
              have F0 := Lib.hid f0
              have F1 := Lib.hid f1
              have F2 := Lib.hid f2
              have hk8 : (k : Int) < (fs.length : Int) := by omega
              have hp8 : (0 : Int) < (fs.length : Int) := by omega
              have hp0 : 0 < fs.length := by omega
              clear hd hok f0 f1 f2
              cases he : eq2 d.1 (tyE d) f.1 (tyE f)
              · have hr : Hid (famC fs = 4) := Lib.hid (by
                  have : alikesB fs = false := by
                    rw [Bool.eq_false_iff]
                    intro hc
                    have := ((alikesB_iff HF.out).1 hc d (List.mem_of_getElem? HD.out)).1
                    simp [tyNe, he] at this
                  rw [hfam.out, this]; rfl)
                go_wp2_with fail
                (refine wp_region_held_drew (S := (fun w' => w'.cell? ⟨bl, off, none⟩ = some (.int .i64 f.1) ∧ w'.cell? ⟨bl, off + 1, none⟩ = some (.int .i64 f.2.1) ∧ w'.cell? ⟨bl, off + 2, none⟩ = some (.int .u32 f.2.2) ∧ w'.cell? ⟨bl, off + k * 3, none⟩ = some (.int .i64 d.1) ∧ w'.cell? ⟨bl, off + k * 3 + 1, none⟩ = some (.int .i64 d.2.1) ∧ w'.cell? ⟨bl, off + k * 3 + 2, none⟩ = some (.int .u32 d.2.2))) (by kernel_rfl) ?_ (fun hHeld => ?_); (focus (simp [*, go_sem])); refine rt 0 (some 29) (v := ?_) rfl rfl ?_ ?_; rotate_left; (focus (intro w' hSw; (try dsimp only at hSw); go_simp; (try with_reducible rfl))); (try simp only [Act.put, nA, nB, nC]); refine rt 1 (some 30) (v := ?_) rfl rfl ?_ ?_; rotate_left; (focus (intro w' hSw; (try dsimp only at hSw); go_simp; (try with_reducible rfl))); (try simp only [Act.put, nA, nB, nC]); refine rt 2 (some 31) (v := ?_) rfl rfl ?_ ?_; rotate_left; (focus (intro w' hSw; (try dsimp only at hSw); go_simp; (try with_reducible rfl))); (try simp only [Act.put, nA, nB, nC]); refine rt 3 (some 32) (v := ?_) rfl rfl ?_ ?_; rotate_left; (focus (intro w' hSw; (try dsimp only at hSw); go_simp; (try with_reducible rfl))); (try simp only [Act.put, nA, nB, nC]); refine rt 5 (some 34) (v := ?_) rfl rfl ?_ ?_; rotate_left; (focus (intro w' hSw; (try dsimp only at hSw); go_simp; (try with_reducible rfl))); (try simp only [Act.put, nA, nB, nC]); refine rt 6 (some 35) (v := ?_) rfl rfl ?_ ?_; rotate_left; (focus (intro w' hSw; (try dsimp only at hSw); go_simp; (try with_reducible rfl))); (try simp only [Act.put, nA, nB, nC]); refine rt 7 (some 36) (v := ?_) rfl rfl ?_ ?_; rotate_left; (focus (intro w' hSw; (try dsimp only at hSw); go_simp; (try with_reducible rfl))); (try simp only [Act.put, nA, nB, nC]); refine wpAnyH_ready (rs := [4]) (by kernel_rfl) (by simp) ?_; refine AllReadyH.cons rfl (fun K hK => ?_) AllReadyH.nil; go_simp; (go_at_call 57; refine Calls.mono (l03Type_i _ d hdb.out) ?_; rintro e w1 ⟨rfl, hb⟩; obtain ⟨X1, m1, rfl⟩ := plsOf hb; clear hb); go_wp2_with fail; refine hK.out _ _ ?_ (fun hHeld => ?_); (focus (simp [*, go_sem])); clear hK K; (try simp only [Act.put, nA, nB, nC]); refine wpAnyH_ready (rs := [8]) (by kernel_rfl) (by simp) ?_; refine AllReadyH.cons rfl (fun K hK => ?_) AllReadyH.nil; go_simp; (go_at_call 57; refine Calls.mono (l03Type_i _ f hfb.out) ?_; rintro e w1 ⟨rfl, hb⟩; obtain ⟨X2, m2, rfl⟩ := plsOf hb; clear hb); go_wp2_with fail; refine hK.out _ _ ?_ (fun hHeld => ?_); (focus (simp [*, go_sem])); clear hK K; (try simp only [Act.put, nA, nB, nC]); refine rt 9 (some 38) (v := ?_) rfl rfl ?_ ?_; rotate_left; (focus (intro w' hSw; (try dsimp only at hSw); go_simp; (try with_reducible rfl))); (try simp only [Act.put, nA, nB, nC]); refine rt 10 (some 39) (v := ?_) rfl rfl ?_ ?_; rotate_left; (focus (intro w' hSw; (try dsimp only at hSw); go_simp; (try with_reducible rfl))); (try simp only [Act.put, nA, nB, nC]); refine rg_take 11 (some 40) (v := undef) rfl (by kernel_rfl) (by kernel_rfl) (by kernel_rfl) (by kernel_rfl) (fun _ _ _ h => h) (Or.inr ⟨by kernel_rfl, rfl⟩) (by assumption) ?_; (try simp only [Act.put, nA, nB, nC]); refine rg_take 12 (some 41) (v := undef) rfl (by kernel_rfl) (by kernel_rfl) (by kernel_rfl) (by kernel_rfl) (fun _ _ _ h => h) (Or.inr ⟨by kernel_rfl, rfl⟩) (by assumption) ?_; (try simp only [Act.put, nA, nB, nC]); refine rg_take 13 (some 42) (v := undef) rfl (by kernel_rfl) (by kernel_rfl) (by kernel_rfl) (by kernel_rfl) (fun _ _ _ h => h) (Or.inr ⟨by kernel_rfl, rfl⟩) (by assumption) ?_; (try simp only [Act.put, nA, nB, nC]); refine rg_take 14 (some 43) (v := undef) rfl (by kernel_rfl) (by kernel_rfl) (by kernel_rfl) (by kernel_rfl) (fun _ _ _ h => h) (Or.inr ⟨by kernel_rfl, rfl⟩) (by assumption) ?_; (try simp only [Act.put, nA, nB, nC]); refine rg_take 15 (some 44) (v := undef) rfl (by kernel_rfl) (by kernel_rfl) (by kernel_rfl) (by kernel_rfl) (fun _ _ _ h => h) (Or.inr ⟨by kernel_rfl, rfl⟩) (by assumption) ?_; (try simp only [Act.put, nA, nB, nC]); refine rg_take 16 (some 45) (v := undef) rfl (by kernel_rfl) (by kernel_rfl) (by kernel_rfl) (by kernel_rfl) (fun _ _ _ h => h) (Or.inr ⟨by kernel_rfl, rfl⟩) (by assumption) ?_; (try simp only [Act.put, nA, nB, nC]); refine rg_take 17 (some 46) (v := undef) rfl (by kernel_rfl) (by kernel_rfl) (by kernel_rfl) (by kernel_rfl) (fun _ _ _ h => h) (Or.inr ⟨by kernel_rfl, rfl⟩) (by assumption) ?_; (try simp only [Act.put, nA, nB, nC]); refine rg_take 18 (some 47) (v := undef) rfl (by kernel_rfl) (by kernel_rfl) (by kernel_rfl) (by kernel_rfl) (fun _ _ _ h => h) (Or.inr ⟨by kernel_rfl, rfl⟩) (by assumption) ?_; (try simp only [Act.put, nA, nB, nC]); refine rg_take 19 (some 48) (v := undef) rfl (by kernel_rfl) (by kernel_rfl) (by kernel_rfl) (by kernel_rfl) (fun _ _ _ h => h) (Or.inr ⟨by kernel_rfl, rfl⟩) (by assumption) ?_; (try simp only [Act.put, nA, nB, nC]); refine rg_take 20 (some 49) (v := undef) rfl (by kernel_rfl) (by kernel_rfl) (by kernel_rfl) (by kernel_rfl) (fun _ _ _ h => h) (Or.inr ⟨by kernel_rfl, rfl⟩) (by assumption) ?_; (try simp only [Act.put, nA, nB, nC]); refine rg_take 21 (some 50) (v := undef) rfl (by kernel_rfl) (by kernel_rfl) (by kernel_rfl) (by kernel_rfl) (fun _ _ _ h => h) (Or.inr ⟨by kernel_rfl, rfl⟩) (by assumption) ?_; (try simp only [Act.put, nA, nB, nC]); refine rg_take 22 (some 51) (v := undef) rfl (by kernel_rfl) (by kernel_rfl) (by kernel_rfl) (by kernel_rfl) (fun _ _ _ h => h) (Or.inr ⟨by kernel_rfl, rfl⟩) (by assumption) ?_; (try simp only [Act.put, nA, nB, nC]); refine rt 23 (some 52) (v := ?_) rfl rfl ?_ ?_; rotate_left; (focus (intro w' hSw; (try dsimp only at hSw); go_simp; (try with_reducible rfl))); (try simp only [Act.put, nA, nB, nC]); refine wpAnyH_done (by kernel_rfl) ?_ _)
                clear hHeld
                go_wp2_with fail
                exact bodyPost_ret (v := .int .i64 4) (by simp [results, Tryz.results56, go_sem]) rfl ⟨by rw [hr.out], belA⟩
              · cases hn : (d.2.1 != f.2.1)
                · have HE := Lib.hid he
                  have HN := Lib.hid hn
                  go_wp2_with fail
                  (refine wp_region_held_drew (S := (fun w' => w'.cell? ⟨bl, off, none⟩ = some (.int .i64 f.1) ∧ w'.cell? ⟨bl, off + 1, none⟩ = some (.int .i64 f.2.1) ∧ w'.cell? ⟨bl, off + 2, none⟩ = some (.int .u32 f.2.2) ∧ w'.cell? ⟨bl, off + k * 3, none⟩ = some (.int .i64 d.1) ∧ w'.cell? ⟨bl, off + k * 3 + 1, none⟩ = some (.int .i64 d.2.1) ∧ w'.cell? ⟨bl, off + k * 3 + 2, none⟩ = some (.int .u32 d.2.2))) (by kernel_rfl) ?_ (fun hHeld => ?_); (focus (simp [*, go_sem])); refine rt 0 (some 29) (v := ?_) rfl rfl ?_ ?_; rotate_left; (focus (intro w' hSw; (try dsimp only at hSw); go_simp; (try with_reducible rfl))); (try simp only [Act.put, nA, nB, nC]); refine rt 1 (some 30) (v := ?_) rfl rfl ?_ ?_; rotate_left; (focus (intro w' hSw; (try dsimp only at hSw); go_simp; (try with_reducible rfl))); (try simp only [Act.put, nA, nB, nC]); refine rt 2 (some 31) (v := ?_) rfl rfl ?_ ?_; rotate_left; (focus (intro w' hSw; (try dsimp only at hSw); go_simp; (try with_reducible rfl))); (try simp only [Act.put, nA, nB, nC]); refine rt 3 (some 32) (v := ?_) rfl rfl ?_ ?_; rotate_left; (focus (intro w' hSw; (try dsimp only at hSw); go_simp; (try with_reducible rfl))); (try simp only [Act.put, nA, nB, nC]); refine rt 5 (some 34) (v := ?_) rfl rfl ?_ ?_; rotate_left; (focus (intro w' hSw; (try dsimp only at hSw); go_simp; (try with_reducible rfl))); (try simp only [Act.put, nA, nB, nC]); refine rt 6 (some 35) (v := ?_) rfl rfl ?_ ?_; rotate_left; (focus (intro w' hSw; (try dsimp only at hSw); go_simp; (try with_reducible rfl))); (try simp only [Act.put, nA, nB, nC]); refine rt 7 (some 36) (v := ?_) rfl rfl ?_ ?_; rotate_left; (focus (intro w' hSw; (try dsimp only at hSw); go_simp; (try with_reducible rfl))); (try simp only [Act.put, nA, nB, nC]); refine wpAnyH_ready (rs := [4]) (by kernel_rfl) (by simp) ?_; refine AllReadyH.cons rfl (fun K hK => ?_) AllReadyH.nil; go_simp; (go_at_call 57; refine Calls.mono (l03Type_i _ d hdb.out) ?_; rintro e w1 ⟨rfl, hb⟩; obtain ⟨X1, m1, rfl⟩ := plsOf hb; clear hb); go_wp2_with fail; refine hK.out _ _ ?_ (fun hHeld => ?_); (focus (simp [*, go_sem])); clear hK K; (try simp only [Act.put, nA, nB, nC]); refine wpAnyH_ready (rs := [8]) (by kernel_rfl) (by simp) ?_; refine AllReadyH.cons rfl (fun K hK => ?_) AllReadyH.nil; go_simp; (go_at_call 57; refine Calls.mono (l03Type_i _ f hfb.out) ?_; rintro e w1 ⟨rfl, hb⟩; obtain ⟨X2, m2, rfl⟩ := plsOf hb; clear hb); go_wp2_with fail; refine hK.out _ _ ?_ (fun hHeld => ?_); (focus (simp [*, go_sem])); clear hK K; (try simp only [Act.put, nA, nB, nC]); refine rt 9 (some 38) (v := ?_) rfl rfl ?_ ?_; rotate_left; (focus (intro w' hSw; (try dsimp only at hSw); go_simp; (try with_reducible rfl))); (try simp only [Act.put, nA, nB, nC]); refine rt 10 (some 39) (v := ?_) rfl rfl ?_ ?_; rotate_left; (focus (intro w' hSw; (try dsimp only at hSw); go_simp; (try with_reducible rfl))); (try simp only [Act.put, nA, nB, nC]); refine rt 11 (some 40) (v := ?_) rfl rfl ?_ ?_; rotate_left; (focus (intro w' hSw; (try dsimp only at hSw); go_simp; (try with_reducible rfl))); (try simp only [Act.put, nA, nB, nC]); refine rt 12 (some 41) (v := ?_) rfl rfl ?_ ?_; rotate_left; (focus (intro w' hSw; (try dsimp only at hSw); go_simp; (try with_reducible rfl))); (try simp only [Act.put, nA, nB, nC]); refine rt 13 (some 42) (v := ?_) rfl rfl ?_ ?_; rotate_left; (focus (intro w' hSw; (try dsimp only at hSw); go_simp; (try with_reducible rfl))); (try simp only [Act.put, nA, nB, nC]); refine rt 14 (some 43) (v := ?_) rfl rfl ?_ ?_; rotate_left; (focus (intro w' hSw; (try dsimp only at hSw); go_simp; (try with_reducible rfl))); (try simp only [Act.put, nA, nB, nC]); refine rt 15 (some 44) (v := ?_) rfl rfl ?_ ?_; rotate_left; (focus (intro w' hSw; (try dsimp only at hSw); go_simp; (try with_reducible rfl))); (try simp only [Act.put, nA, nB, nC]); refine rt 16 (some 45) (v := ?_) rfl rfl ?_ ?_; rotate_left; (focus (intro w' hSw; (try dsimp only at hSw); go_simp; (try with_reducible rfl))); (try simp only [Act.put, nA, nB, nC]); refine rt 17 (some 46) (v := ?_) rfl rfl ?_ ?_; rotate_left; (focus (intro w' hSw; (try dsimp only at hSw); go_simp; (try with_reducible rfl))); (try simp only [Act.put, nA, nB, nC]); refine rt 18 (some 47) (v := ?_) rfl rfl ?_ ?_; rotate_left; (focus (intro w' hSw; (try dsimp only at hSw); go_simp; (try with_reducible rfl))); (try simp only [Act.put, nA, nB, nC]); refine rt 19 (some 48) (v := ?_) rfl rfl ?_ ?_; rotate_left; (focus (intro w' hSw; (try dsimp only at hSw); go_simp; (try with_reducible rfl))); (try simp only [Act.put, nA, nB, nC]); refine rt 20 (some 49) (v := ?_) rfl rfl ?_ ?_; rotate_left; (focus (intro w' hSw; (try dsimp only at hSw); go_simp; (try with_reducible rfl))); (try simp only [Act.put, nA, nB, nC]); refine rt 21 (some 50) (v := ?_) rfl rfl ?_ ?_; rotate_left; (focus (intro w' hSw; (try dsimp only at hSw); go_simp; (try with_reducible rfl))); (try simp only [Act.put, nA, nB, nC]); refine rt 22 (some 51) (v := ?_) rfl rfl ?_ ?_; rotate_left; (focus (intro w' hSw; (try dsimp only at hSw); go_simp; (try with_reducible rfl))); (try simp only [Act.put, nA, nB, nC]); refine rt 23 (some 52) (v := ?_) rfl rfl ?_ ?_; rotate_left; (focus (intro w' hSw; (try dsimp only at hSw); go_simp; (try with_reducible rfl))); (try simp only [Act.put, nA, nB, nC]); refine wpAnyH_done (by kernel_rfl) ?_ _)
                  clear hHeld
                  go_wp2_with fail
                  go_roundw
                  case rel => exact ⟨k + 1, by omega, by omega, by go_num, Lib.hid (mem_take_succ HT.out HD.out ⟨by simp [tyNe, HE.out], HN.out⟩), belA⟩
                  case measure => simp [intOf]; omega
                · have hr : Hid (famC fs = 4) := Lib.hid (by
                    have : alikesB fs = false := by
                      rw [Bool.eq_false_iff]
                      intro hc
                      have := ((alikesB_iff HF.out).1 hc d (List.mem_of_getElem? HD.out)).2
                      rw [nNe, hn] at this
                      cases this
                    rw [hfam.out, this]; rfl)
                  go_wp2_with fail
                  (refine wp_region_held_drew (S := (fun w' => w'.cell? ⟨bl, off, none⟩ = some (.int .i64 f.1) ∧ w'.cell? ⟨bl, off + 1, none⟩ = some (.int .i64 f.2.1) ∧ w'.cell? ⟨bl, off + 2, none⟩ = some (.int .u32 f.2.2) ∧ w'.cell? ⟨bl, off + k * 3, none⟩ = some (.int .i64 d.1) ∧ w'.cell? ⟨bl, off + k * 3 + 1, none⟩ = some (.int .i64 d.2.1) ∧ w'.cell? ⟨bl, off + k * 3 + 2, none⟩ = some (.int .u32 d.2.2))) (by kernel_rfl) ?_ (fun hHeld => ?_); (focus (simp [*, go_sem])); refine rt 0 (some 29) (v := ?_) rfl rfl ?_ ?_; rotate_left; (focus (intro w' hSw; (try dsimp only at hSw); go_simp; (try with_reducible rfl))); (try simp only [Act.put, nA, nB, nC]); refine rt 1 (some 30) (v := ?_) rfl rfl ?_ ?_; rotate_left; (focus (intro w' hSw; (try dsimp only at hSw); go_simp; (try with_reducible rfl))); (try simp only [Act.put, nA, nB, nC]); refine rt 2 (some 31) (v := ?_) rfl rfl ?_ ?_; rotate_left; (focus (intro w' hSw; (try dsimp only at hSw); go_simp; (try with_reducible rfl))); (try simp only [Act.put, nA, nB, nC]); refine rt 3 (some 32) (v := ?_) rfl rfl ?_ ?_; rotate_left; (focus (intro w' hSw; (try dsimp only at hSw); go_simp; (try with_reducible rfl))); (try simp only [Act.put, nA, nB, nC]); refine rt 5 (some 34) (v := ?_) rfl rfl ?_ ?_; rotate_left; (focus (intro w' hSw; (try dsimp only at hSw); go_simp; (try with_reducible rfl))); (try simp only [Act.put, nA, nB, nC]); refine rt 6 (some 35) (v := ?_) rfl rfl ?_ ?_; rotate_left; (focus (intro w' hSw; (try dsimp only at hSw); go_simp; (try with_reducible rfl))); (try simp only [Act.put, nA, nB, nC]); refine rt 7 (some 36) (v := ?_) rfl rfl ?_ ?_; rotate_left; (focus (intro w' hSw; (try dsimp only at hSw); go_simp; (try with_reducible rfl))); (try simp only [Act.put, nA, nB, nC]); refine wpAnyH_ready (rs := [4]) (by kernel_rfl) (by simp) ?_; refine AllReadyH.cons rfl (fun K hK => ?_) AllReadyH.nil; go_simp; (go_at_call 57; refine Calls.mono (l03Type_i _ d hdb.out) ?_; rintro e w1 ⟨rfl, hb⟩; obtain ⟨X1, m1, rfl⟩ := plsOf hb; clear hb); go_wp2_with fail; refine hK.out _ _ ?_ (fun hHeld => ?_); (focus (simp [*, go_sem])); clear hK K; (try simp only [Act.put, nA, nB, nC]); refine wpAnyH_ready (rs := [8]) (by kernel_rfl) (by simp) ?_; refine AllReadyH.cons rfl (fun K hK => ?_) AllReadyH.nil; go_simp; (go_at_call 57; refine Calls.mono (l03Type_i _ f hfb.out) ?_; rintro e w1 ⟨rfl, hb⟩; obtain ⟨X2, m2, rfl⟩ := plsOf hb; clear hb); go_wp2_with fail; refine hK.out _ _ ?_ (fun hHeld => ?_); (focus (simp [*, go_sem])); clear hK K; (try simp only [Act.put, nA, nB, nC]); refine rt 9 (some 38) (v := ?_) rfl rfl ?_ ?_; rotate_left; (focus (intro w' hSw; (try dsimp only at hSw); go_simp; (try with_reducible rfl))); (try simp only [Act.put, nA, nB, nC]); refine rt 10 (some 39) (v := ?_) rfl rfl ?_ ?_; rotate_left; (focus (intro w' hSw; (try dsimp only at hSw); go_simp; (try with_reducible rfl))); (try simp only [Act.put, nA, nB, nC]); refine rt 11 (some 40) (v := ?_) rfl rfl ?_ ?_; rotate_left; (focus (intro w' hSw; (try dsimp only at hSw); go_simp; (try with_reducible rfl))); (try simp only [Act.put, nA, nB, nC]); refine rt 12 (some 41) (v := ?_) rfl rfl ?_ ?_; rotate_left; (focus (intro w' hSw; (try dsimp only at hSw); go_simp; (try with_reducible rfl))); (try simp only [Act.put, nA, nB, nC]); refine rt 13 (some 42) (v := ?_) rfl rfl ?_ ?_; rotate_left; (focus (intro w' hSw; (try dsimp only at hSw); go_simp; (try with_reducible rfl))); (try simp only [Act.put, nA, nB, nC]); refine rt 14 (some 43) (v := ?_) rfl rfl ?_ ?_; rotate_left; (focus (intro w' hSw; (try dsimp only at hSw); go_simp; (try with_reducible rfl))); (try simp only [Act.put, nA, nB, nC]); refine rt 15 (some 44) (v := ?_) rfl rfl ?_ ?_; rotate_left; (focus (intro w' hSw; (try dsimp only at hSw); go_simp; (try with_reducible rfl))); (try simp only [Act.put, nA, nB, nC]); refine rt 16 (some 45) (v := ?_) rfl rfl ?_ ?_; rotate_left; (focus (intro w' hSw; (try dsimp only at hSw); go_simp; (try with_reducible rfl))); (try simp only [Act.put, nA, nB, nC]); refine rt 17 (some 46) (v := ?_) rfl rfl ?_ ?_; rotate_left; (focus (intro w' hSw; (try dsimp only at hSw); go_simp; (try with_reducible rfl))); (try simp only [Act.put, nA, nB, nC]); refine rt 18 (some 47) (v := ?_) rfl rfl ?_ ?_; rotate_left; (focus (intro w' hSw; (try dsimp only at hSw); go_simp; (try with_reducible rfl))); (try simp only [Act.put, nA, nB, nC]); refine rt 19 (some 48) (v := ?_) rfl rfl ?_ ?_; rotate_left; (focus (intro w' hSw; (try dsimp only at hSw); go_simp; (try with_reducible rfl))); (try simp only [Act.put, nA, nB, nC]); refine rt 20 (some 49) (v := ?_) rfl rfl ?_ ?_; rotate_left; (focus (intro w' hSw; (try dsimp only at hSw); go_simp; (try with_reducible rfl))); (try simp only [Act.put, nA, nB, nC]); refine rt 21 (some 50) (v := ?_) rfl rfl ?_ ?_; rotate_left; (focus (intro w' hSw; (try dsimp only at hSw); go_simp; (try with_reducible rfl))); (try simp only [Act.put, nA, nB, nC]); refine rt 22 (some 51) (v := ?_) rfl rfl ?_ ?_; rotate_left; (focus (intro w' hSw; (try dsimp only at hSw); go_simp; (try with_reducible rfl))); (try simp only [Act.put, nA, nB, nC]); refine rt 23 (some 52) (v := ?_) rfl rfl ?_ ?_; rotate_left; (focus (intro w' hSw; (try dsimp only at hSw); go_simp; (try with_reducible rfl))); (try simp only [Act.put, nA, nB, nC]); refine wpAnyH_done (by kernel_rfl) ?_ _)
                  clear hHeld
                  go_wp2_with fail
                  exact bodyPost_ret (v := .int .i64 4) (by simp [results, Tryz.results56, go_sem]) rfl ⟨by rw [hr.out], belA⟩
            · have e : k = fs.length := by omega
              subst e
              have hr : Hid (famC fs = 0) := Lib.hid (by
                have : alikesB fs = true := (alikesB_iff HF.out).2 (by have := HT.out; rwa [List.take_length] at this)
                rw [hfam.out, this]; rfl)
              go_wp2_with fail
              exact bodyPost_ret (v := .int .i64 0) (by simp [results, Tryz.results56, go_sem]) rfl ⟨by rw [hr.out], belA⟩
end Go.Proofs.YtekchdgpaemofaaGreat
