/- Flags of one type and one size, impl: flagsOk, sameType, alikes. -/
import Derived.Test.YtkfjlimlodbcgaaGo
import Derived.Test.YtkfjlimlodbcgaaSl
import Derived.Test.YtkfjlimlodbcgaaIx
namespace Go.Proofs.Ytkfjlimlodbcgaa
open Go.ChangeShapes Go.WideShapes Go.RowKit
set_option linter.unusedVariables false
set_option linter.unusedSimpArgs false
attribute [local irreducible] Calls
abbrev Flg := Int × (Int × Int)
def flV (d : Flg) : Bool := flOk d.1 d.2.1 d.2.2
def badFl (d : Flg) : Bool := !flV d
/-- A flag's type: the edges on its labelled vertices. -/
def tyE (d : Flg) : Int := onE d.2.2 (seqI d.1.toNat)
def tyNe (f d : Flg) : Bool := !eq2 d.1 (tyE d) f.1 (tyE f)
def nNe (f d : Flg) : Bool := d.2.1 != f.2.1
def hdF (fs : List Flg) : Flg := fs.headD (0, (0, 0))
def flagsB (fs : List Flg) : Bool := !anyB badFl fs
def sameTy (fs : List Flg) : Bool := !anyB (tyNe (hdF fs)) fs
def alikesB (fs : List Flg) : Bool := sameTy fs && !anyB (nNe (hdF fs)) fs
theorem flV_iff (d : Flg) : flV d = true ↔ (0 ≤ d.1 ∧ d.1 ≤ 3) ∧ (0 ≤ d.2.1 ∧ d.2.1 ≤ 5) ∧ d.1 ≤ d.2.1 ∧ d.2.2 < limN d.2.1 := by
  rw [flV, flOk_iff, grOk]
  simp [inB]
  omega
theorem okFl {d : Flg} (h : okFlag d) : 0 ≤ d.2.2 ∧ d.2.2 ≤ 4294967295 := u32_wf h.2.2
theorem flagsB_iff {fs : List Flg} : flagsB fs = true ↔ ∀ d ∈ fs, flV d = true := by simp [flagsB, anyB, badFl]
theorem typeOf_i (w : World) (d : Flg) (h : 0 ≤ d.1 ∧ d.1 ≤ 5) : Calls Try.prog 45 #[.agg #[.int .i64 d.1, .int .i64 d.2.1, .int .u32 d.2.2]] w fun e0 w' => e0 = .returned (.agg #[.int .i64 d.1, .int .u32 (tyE d)]) ∧ Below w.heap.size w w' := by
  have := typeOf_any w d.1.toNat d.2.1 d.2.2 (by omega)
  rw [show ((d.1.toNat : Nat) : Int) = d.1 by omega] at this
  exact this
theorem badFlag_i (W : World) (d : Flg) (hd : okFlag d) : Calls Try.prog 41 #[.agg #[.int .i64 d.1, .int .i64 d.2.1, .int .u32 d.2.2]] W fun e W' => e = .returned (.bool (badFl d)) ∧ Below W.heap.size W W' := badFlag_any d.1 d.2.1 d.2.2 W (okFl hd)
theorem flagsOk_any (w : World) (fs : List Flg) (v : Value) (h : Lst shFlag w fs v) (hl : fs.length ≤ 1048576) : Calls Try.prog 59 #[v] w fun e w' => e = .returned (.int .i64 (if flagsB fs then 0 else 1)) ∧ Below w.heap.size w w' := by
  have eg : ∀ args w, (callFunc 41 args).run Try.prog w = .ok (.enter 41 args) w := enters_of Try.func41 (by kernel_rfl) rfl
  obtain ⟨A, cap, rfl, hc, hm, hok, _⟩ := lstFlag h
  unfold maxLen at hm
  have HO := Lib.hid hok
  clear hok
  cases hv : anyB badFl fs
  · have hr : (if flagsB fs then (0 : Int) else 1) = 0 := by simp [flagsB, hv]
    rw [hr]
    have HV := Lib.hid hv
    clear hv hr
    go_enter Try.func59, Try.ntmps59
    go_wp2_with (first | (go_at_call 114; refine Calls.mono (hasFlag_any _ fs _ 41 #[] badFl (h.below (by (try with_reducible refine bsz ?_); repeat (first | with_reducible exact Below.refl _ _ | ((with_reducible refine bpre ?_); (try simp only [Array.append_assoc]); repeat (first | with_reducible exact Pre.refl _ | with_reducible exact Pre.base _ _ | with_reducible refine Pre.cons _ ?_)) | with_reducible assumption | ((with_reducible refine bsetr ?_); rfl) | with_reducible refine Below.setCell ?_ (by simp <;> omega) _ | with_reducible refine bpl ?_ _ _ | with_reducible refine bal ?_ _ | with_reducible refine bdrew1 ?_ | with_reducible refine bdrew ?_ _))) (by omega) eg (fun W d _ hd => badFlag_i W d (HO.out d hd))) ?_; rw [HV.out]; rintro e w1 ⟨rfl, hb⟩; obtain ⟨X, m, rfl⟩ := plsOf hb; clear hb))
    exact bodyPost_ret (v := .int .i64 0) (by simp [results, Try.results59, go_sem]) rfl ⟨rfl, (by (try with_reducible refine bsz ?_); repeat (first | with_reducible exact Below.refl _ _ | ((with_reducible refine bpre ?_); (try simp only [Array.append_assoc]); repeat (first | with_reducible exact Pre.refl _ | with_reducible exact Pre.base _ _ | with_reducible refine Pre.cons _ ?_)) | with_reducible assumption | ((with_reducible refine bsetr ?_); rfl) | with_reducible refine Below.setCell ?_ (by simp <;> omega) _ | with_reducible refine bpl ?_ _ _ | with_reducible refine bal ?_ _ | with_reducible refine bdrew1 ?_ | with_reducible refine bdrew ?_ _))⟩
  · have hr : (if flagsB fs then (0 : Int) else 1) = 1 := by simp [flagsB, hv]
    rw [hr]
    have HV := Lib.hid hv
    clear hv hr
    go_enter Try.func59, Try.ntmps59
    go_wp2_with (first | (go_at_call 114; refine Calls.mono (hasFlag_any _ fs _ 41 #[] badFl (h.below (by (try with_reducible refine bsz ?_); repeat (first | with_reducible exact Below.refl _ _ | ((with_reducible refine bpre ?_); (try simp only [Array.append_assoc]); repeat (first | with_reducible exact Pre.refl _ | with_reducible exact Pre.base _ _ | with_reducible refine Pre.cons _ ?_)) | with_reducible assumption | ((with_reducible refine bsetr ?_); rfl) | with_reducible refine Below.setCell ?_ (by simp <;> omega) _ | with_reducible refine bpl ?_ _ _ | with_reducible refine bal ?_ _ | with_reducible refine bdrew1 ?_ | with_reducible refine bdrew ?_ _))) (by omega) eg (fun W d _ hd => badFlag_i W d (HO.out d hd))) ?_; rw [HV.out]; rintro e w1 ⟨rfl, hb⟩; obtain ⟨X, m, rfl⟩ := plsOf hb; clear hb))
    exact bodyPost_ret (v := .int .i64 1) (by simp [results, Try.results59, go_sem]) rfl ⟨rfl, (by (try with_reducible refine bsz ?_); repeat (first | with_reducible exact Below.refl _ _ | ((with_reducible refine bpre ?_); (try simp only [Array.append_assoc]); repeat (first | with_reducible exact Pre.refl _ | with_reducible exact Pre.base _ _ | with_reducible refine Pre.cons _ ?_)) | with_reducible assumption | ((with_reducible refine bsetr ?_); rfl) | with_reducible refine Below.setCell ?_ (by simp <;> omega) _ | with_reducible refine bpl ?_ _ _ | with_reducible refine bal ?_ _ | with_reducible refine bdrew1 ?_ | with_reducible refine bdrew ?_ _))⟩
theorem same1 (W : World) (bl p o n cap : Nat) (f d : Flg) (h0 : W.cell? ⟨bl, 0, none⟩ = some (.slice (some ⟨p, o, none⟩) n cap)) (hn : 0 < n)
    (h1 : W.cell? ⟨p, o, none⟩ = some (.int .i64 f.1)) (h2 : W.cell? ⟨p, o + 1, none⟩ = some (.int .i64 f.2.1)) (h3 : W.cell? ⟨p, o + 2, none⟩ = some (.int .u32 f.2.2)) (hf : 0 ≤ f.1 ∧ f.1 ≤ 5) (hd : 0 ≤ d.1 ∧ d.1 ≤ 5) :
    Calls Try.prog 115 #[.agg #[.int .i64 d.1, .int .i64 d.2.1, .int .u32 d.2.2], .pointer (some ⟨bl, 0, none⟩)] W fun e W' => e = .returned (.bool (tyNe f d)) ∧ Below W.heap.size W W' := by
  have z0 := World.block_lt_of_cell? _ _ h0
  have z1 := World.block_lt_of_cell? _ _ h1
  simp only at z0 z1
  have hn' : (0 : Int) < (n : Int) := by omega
  go_enter Try.func115, Try.ntmps115
  go_wp2_with fail
  (refine wp_region_held_drew (S := (fun w' => w'.cell? ⟨bl, 0, none⟩ = some (.slice (some ⟨p, o, none⟩) n cap) ∧ w'.cell? ⟨p, o, none⟩ = some (.int .i64 f.1) ∧ w'.cell? ⟨p, o + 1, none⟩ = some (.int .i64 f.2.1) ∧ w'.cell? ⟨p, o + 2, none⟩ = some (.int .u32 f.2.2) ∧ w'.cell? ⟨W.heap.size, 0, none⟩ = some (.int .i64 d.1) ∧ w'.cell? ⟨W.heap.size, 1, none⟩ = some (.int .i64 d.2.1) ∧ w'.cell? ⟨W.heap.size, 2, none⟩ = some (.int .u32 d.2.2))) (by kernel_rfl) ?_ (fun hHeld => ?_); (focus (simp [*, go_sem])); refine rg_take 0 (some 4) (v := ?_) rfl (by kernel_rfl) (by kernel_rfl) (by kernel_rfl) (by kernel_rfl) (fun _ _ _ h => h) (Or.inl ⟨by kernel_rfl, ?_⟩) (by assumption) ?_; rotate_left; (focus (intro w' hSw; (try dsimp only at hSw); go_simp; (try with_reducible rfl))); (try simp only [Act.put, List.setIfInBounds_toArray, List.set_cons_zero, List.set_cons_succ]); refine rg_take 2 (some 6) (v := ?_) rfl (by kernel_rfl) (by kernel_rfl) (by kernel_rfl) (by kernel_rfl) (fun _ _ _ h => h) (Or.inl ⟨by kernel_rfl, ?_⟩) (by assumption) ?_; rotate_left; (focus (intro w' hSw; (try dsimp only at hSw); go_simp; (try with_reducible rfl))); (try simp only [Act.put, List.setIfInBounds_toArray, List.set_cons_zero, List.set_cons_succ]); refine rg_take 3 (some 7) (v := ?_) rfl (by kernel_rfl) (by kernel_rfl) (by kernel_rfl) (by kernel_rfl) (fun _ _ _ h => h) (Or.inl ⟨by kernel_rfl, ?_⟩) (by assumption) ?_; rotate_left; (focus (intro w' hSw; (try dsimp only at hSw); go_simp; (try with_reducible rfl))); (try simp only [Act.put, List.setIfInBounds_toArray, List.set_cons_zero, List.set_cons_succ]); refine rg_take 4 (some 8) (v := ?_) rfl (by kernel_rfl) (by kernel_rfl) (by kernel_rfl) (by kernel_rfl) (fun _ _ _ h => h) (Or.inl ⟨by kernel_rfl, ?_⟩) (by assumption) ?_; rotate_left; (focus (intro w' hSw; (try dsimp only at hSw); go_simp; (try with_reducible rfl))); (try simp only [Act.put, List.setIfInBounds_toArray, List.set_cons_zero, List.set_cons_succ]); refine wpAnyH_ready (rs := [1]) (by kernel_rfl) (by simp) ?_; refine AllReadyH.cons rfl (fun K hK => ?_) AllReadyH.nil; go_simp; (go_at_call 45; refine Calls.mono (typeOf_i _ d hd) ?_; rintro e w1 ⟨rfl, hb⟩; obtain ⟨X1, m1, rfl⟩ := plsOf hb; clear hb); go_wp2_with fail; refine hK.out _ _ ?_ (fun hHeld => ?_); (focus (simp [*, go_sem])); clear hK K; (try simp only [Act.put, List.setIfInBounds_toArray, List.set_cons_zero, List.set_cons_succ]); refine wpAnyH_ready (rs := [5]) (by kernel_rfl) (by simp) ?_; refine AllReadyH.cons rfl (fun K hK => ?_) AllReadyH.nil; go_simp; (go_at_call 45; refine Calls.mono (typeOf_i _ f hf) ?_; rintro e w1 ⟨rfl, hb⟩; obtain ⟨X2, m2, rfl⟩ := plsOf hb; clear hb); go_wp2_with fail; refine hK.out _ _ ?_ (fun hHeld => ?_); (focus (simp [*, go_sem])); clear hK K; (try simp only [Act.put, List.setIfInBounds_toArray, List.set_cons_zero, List.set_cons_succ]); refine rg_take 6 (some 10) (v := ?_) rfl (by kernel_rfl) (by kernel_rfl) (by kernel_rfl) (by kernel_rfl) (fun _ _ _ h => h) (Or.inl ⟨by kernel_rfl, ?_⟩) (by assumption) ?_; rotate_left; (focus (intro w' hSw; (try dsimp only at hSw); go_simp; (try with_reducible rfl))); (try simp only [Act.put, List.setIfInBounds_toArray, List.set_cons_zero, List.set_cons_succ]); refine rg_take 7 (some 3) (v := ?_) rfl (by kernel_rfl) (by kernel_rfl) (by kernel_rfl) (by kernel_rfl) (fun _ _ _ h => h) (Or.inl ⟨by kernel_rfl, ?_⟩) (by assumption) ?_; rotate_left; (focus (intro w' hSw; (try dsimp only at hSw); go_simp; (try with_reducible rfl))); (try simp only [Act.put, List.setIfInBounds_toArray, List.set_cons_zero, List.set_cons_succ]); refine wpAnyH_done (by kernel_rfl) ?_ _)
  clear hHeld
  go_wp2_with fail
  exact bodyPost_ret (v := .bool (!eq2 d.1 (tyE d) f.1 (tyE f))) (by simp [results, Try.results115, go_sem]) rfl ⟨rfl, (by (try with_reducible refine bsz ?_); repeat (first | with_reducible exact Below.refl _ _ | ((with_reducible refine bpre ?_); (try simp only [Array.append_assoc]); repeat (first | with_reducible exact Pre.refl _ | with_reducible exact Pre.base _ _ | with_reducible refine Pre.cons _ ?_)) | with_reducible assumption | ((with_reducible refine bsetr ?_); rfl) | with_reducible refine Below.setCell ?_ (by simp <;> omega) _ | with_reducible refine bpl ?_ _ _ | with_reducible refine bal ?_ _ | with_reducible refine bdrew1 ?_ | with_reducible refine bdrew ?_ _))⟩
theorem alk1 (W : World) (bl p o n cap : Nat) (f d : Flg) (h0 : W.cell? ⟨bl, 0, none⟩ = some (.slice (some ⟨p, o, none⟩) n cap)) (hn : 0 < n)
    (h2 : W.cell? ⟨p, o + 1, none⟩ = some (.int .i64 f.2.1)) :
    Calls Try.prog 153 #[.agg #[.int .i64 d.1, .int .i64 d.2.1, .int .u32 d.2.2], .pointer (some ⟨bl, 0, none⟩)] W fun e W' => e = .returned (.bool (nNe f d)) ∧ Below W.heap.size W W' := by
  have z0 := World.block_lt_of_cell? _ _ h0
  have z1 := World.block_lt_of_cell? _ _ h2
  simp only at z0 z1
  have hn' : (0 : Int) < (n : Int) := by omega
  go_enter Try.func153, Try.ntmps153
  go_wp2_with fail
  go_quiet (fail)
  go_wp2_with fail
  exact bodyPost_ret (v := .bool (d.2.1 != f.2.1)) (by simp [results, Try.results153, go_sem]) rfl ⟨rfl, (by (try with_reducible refine bsz ?_); repeat (first | with_reducible exact Below.refl _ _ | ((with_reducible refine bpre ?_); (try simp only [Array.append_assoc]); repeat (first | with_reducible exact Pre.refl _ | with_reducible exact Pre.base _ _ | with_reducible refine Pre.cons _ ?_)) | with_reducible assumption | ((with_reducible refine bsetr ?_); rfl) | with_reducible refine Below.setCell ?_ (by simp <;> omega) _ | with_reducible refine bpl ?_ _ _ | with_reducible refine bal ?_ _ | with_reducible refine bdrew1 ?_ | with_reducible refine bdrew ?_ _))⟩
theorem sameType_any (w : World) (fs : List Flg) (v : Value) (h : Lst shFlag w fs v) (hl : fs.length ≤ 1048576) (hV : ∀ d ∈ fs, 0 ≤ d.1 ∧ d.1 ≤ 5) : Calls Try.prog 60 #[v] w fun e w' => e = .returned (.bool (sameTy fs)) ∧ Below w.heap.size w w' := by
  have eg : ∀ args w, (callFunc 115 args).run Try.prog w = .ok (.enter 115 args) w := enters_of Try.func115 (by kernel_rfl) rfl
  obtain ⟨A, cap, rfl, hc, hm, hok, hel⟩ := lstFlag h
  have hb : fs.length ≤ 9223372036854775806 := by omega
  have HH : ∀ bl : Nat, w.heap.size ≤ bl → Hid (∀ (W : World) (d : Flg), W.cell? ⟨bl, 0, none⟩ = some (.slice A fs.length cap) → Below w.heap.size w W → d ∈ fs → Calls Try.prog 115 (#[.agg #[.int .i64 d.1, .int .i64 d.2.1, .int .u32 d.2.2]] ++ #[.pointer (some ⟨bl, 0, none⟩)]) W fun e W' => e = .returned (.bool (tyNe (hdF fs) d)) ∧ Below W.heap.size W W') := fun bl hbl => Lib.hid (by
    intro W d hc0 hW hd
    have hp : 0 < fs.length := List.length_pos_of_mem hd
    obtain ⟨p, o, rfl, hel2⟩ := hel hp
    obtain ⟨f, hf, _, c0, c1, c2⟩ := hel2 0 hp
    have e : hdF fs = f := by
      cases fs with
      | nil => cases hd
      | cons x xs => simp at hf; subst hf; rfl
    rw [e]
    simp only [Nat.zero_mul, Nat.add_zero] at c0 c1 c2
    exact same1 W bl p o fs.length cap f d hc0 hp (bkeep hW c0) (bkeep hW c1) (bkeep hW c2) (hV f (List.mem_of_getElem? hf)) (hV d hd))
  have H1 := Lib.hid h
  clear h hel hok hV
  go_enter Try.func60, Try.ntmps60
  go_wp2_with (first | (go_at_call 114; refine Calls.mono (hasFlag_any _ fs _ 115 #[.pointer (some ⟨w.heap.size, 0, none⟩)] (tyNe (hdF fs)) (H1.out.below (by (try with_reducible refine bsz ?_); repeat (first | with_reducible exact Below.refl _ _ | ((with_reducible refine bpre ?_); (try simp only [Array.append_assoc]); repeat (first | with_reducible exact Pre.refl _ | with_reducible exact Pre.base _ _ | with_reducible refine Pre.cons _ ?_)) | with_reducible assumption | ((with_reducible refine bsetr ?_); rfl) | with_reducible refine Below.setCell ?_ (by simp <;> omega) _ | with_reducible refine bpl ?_ _ _ | with_reducible refine bal ?_ _ | with_reducible refine bdrew1 ?_ | with_reducible refine bdrew ?_ _))) hb eg (fun W d hW hd => (HH w.heap.size (Nat.le_refl _)).out W d (bkeep hW (by simp [go_sem])) (Below.trans (by (try with_reducible refine bsz ?_); repeat (first | with_reducible exact Below.refl _ _ | ((with_reducible refine bpre ?_); (try simp only [Array.append_assoc]); repeat (first | with_reducible exact Pre.refl _ | with_reducible exact Pre.base _ _ | with_reducible refine Pre.cons _ ?_)) | with_reducible assumption | ((with_reducible refine bsetr ?_); rfl) | with_reducible refine Below.setCell ?_ (by simp <;> omega) _ | with_reducible refine bpl ?_ _ _ | with_reducible refine bal ?_ _ | with_reducible refine bdrew1 ?_ | with_reducible refine bdrew ?_ _)) (hW.mono (by first | (simp; done) | (simp; omega)))) hd)) ?_; rintro e w1 ⟨rfl, hb⟩; obtain ⟨X, m, rfl⟩ := plsOf hb; clear hb))
  exact bodyPost_ret (v := .bool (!anyB (tyNe (hdF fs)) fs)) (by simp [results, Try.results60, go_sem]) rfl ⟨rfl, (by (try with_reducible refine bsz ?_); repeat (first | with_reducible exact Below.refl _ _ | ((with_reducible refine bpre ?_); (try simp only [Array.append_assoc]); repeat (first | with_reducible exact Pre.refl _ | with_reducible exact Pre.base _ _ | with_reducible refine Pre.cons _ ?_)) | with_reducible assumption | ((with_reducible refine bsetr ?_); rfl) | with_reducible refine Below.setCell ?_ (by simp <;> omega) _ | with_reducible refine bpl ?_ _ _ | with_reducible refine bal ?_ _ | with_reducible refine bdrew1 ?_ | with_reducible refine bdrew ?_ _))⟩
theorem alikes_any (w : World) (fs : List Flg) (v : Value) (h : Lst shFlag w fs v) (hl : fs.length ≤ 1048576) (hV : ∀ d ∈ fs, 0 ≤ d.1 ∧ d.1 ≤ 5) : Calls Try.prog 116 #[v] w fun e w' => e = .returned (.bool (alikesB fs)) ∧ Below w.heap.size w w' := by
  have eg : ∀ args w, (callFunc 153 args).run Try.prog w = .ok (.enter 153 args) w := enters_of Try.func153 (by kernel_rfl) rfl
  obtain ⟨A, cap, rfl, hc, hm, hok, hel⟩ := lstFlag h
  have hb : fs.length ≤ 9223372036854775806 := by omega
  have HH : ∀ bl : Nat, w.heap.size ≤ bl → Hid (∀ (W : World) (d : Flg), W.cell? ⟨bl, 0, none⟩ = some (.slice A fs.length cap) → Below w.heap.size w W → d ∈ fs → Calls Try.prog 153 (#[.agg #[.int .i64 d.1, .int .i64 d.2.1, .int .u32 d.2.2]] ++ #[.pointer (some ⟨bl, 0, none⟩)]) W fun e W' => e = .returned (.bool (nNe (hdF fs) d)) ∧ Below W.heap.size W W') := fun bl hbl => Lib.hid (by
    intro W d hc0 hW hd
    have hp : 0 < fs.length := List.length_pos_of_mem hd
    obtain ⟨p, o, rfl, hel2⟩ := hel hp
    obtain ⟨f, hf, _, c0, c1, c2⟩ := hel2 0 hp
    have e : hdF fs = f := by
      cases fs with
      | nil => cases hd
      | cons x xs => simp at hf; subst hf; rfl
    rw [e]
    simp only [Nat.zero_mul, Nat.add_zero] at c0 c1 c2
    exact alk1 W bl p o fs.length cap f d hc0 hp (bkeep hW c1))
  have H1 := Lib.hid h
  have HV := Lib.hid hV
  clear h hel hok hV
  cases hs : sameTy fs
  · have hr : Hid (alikesB fs = false) := Lib.hid (by simp [alikesB, hs])
    have HS := Lib.hid hs
    clear hs
    go_enter Try.func116, Try.ntmps116
    go_wp2_with (first | (go_at_call 60; refine Calls.mono ((HS.out ▸ sameType_any _ fs _ (H1.out.below (by (try with_reducible refine bsz ?_); repeat (first | with_reducible exact Below.refl _ _ | ((with_reducible refine bpre ?_); (try simp only [Array.append_assoc]); repeat (first | with_reducible exact Pre.refl _ | with_reducible exact Pre.base _ _ | with_reducible refine Pre.cons _ ?_)) | with_reducible assumption | ((with_reducible refine bsetr ?_); rfl) | with_reducible refine Below.setCell ?_ (by simp <;> omega) _ | with_reducible refine bpl ?_ _ _ | with_reducible refine bal ?_ _ | with_reducible refine bdrew1 ?_ | with_reducible refine bdrew ?_ _))) hl HV.out)) ?_; rintro e w1 ⟨rfl, hb⟩; obtain ⟨X, m, rfl⟩ := plsOf hb; clear hb))
    exact bodyPost_ret (v := .bool false) (by simp [results, Try.results116, go_sem]) rfl ⟨by rw [hr.out], (by (try with_reducible refine bsz ?_); repeat (first | with_reducible exact Below.refl _ _ | ((with_reducible refine bpre ?_); (try simp only [Array.append_assoc]); repeat (first | with_reducible exact Pre.refl _ | with_reducible exact Pre.base _ _ | with_reducible refine Pre.cons _ ?_)) | with_reducible assumption | ((with_reducible refine bsetr ?_); rfl) | with_reducible refine Below.setCell ?_ (by simp <;> omega) _ | with_reducible refine bpl ?_ _ _ | with_reducible refine bal ?_ _ | with_reducible refine bdrew1 ?_ | with_reducible refine bdrew ?_ _))⟩
  · have hr : Hid (alikesB fs = !anyB (nNe (hdF fs)) fs) := Lib.hid (by simp [alikesB, hs])
    have HS := Lib.hid hs
    clear hs
    go_enter Try.func116, Try.ntmps116
    go_wp2_with (first | (go_at_call 60; refine Calls.mono ((HS.out ▸ sameType_any _ fs _ (H1.out.below (by (try with_reducible refine bsz ?_); repeat (first | with_reducible exact Below.refl _ _ | ((with_reducible refine bpre ?_); (try simp only [Array.append_assoc]); repeat (first | with_reducible exact Pre.refl _ | with_reducible exact Pre.base _ _ | with_reducible refine Pre.cons _ ?_)) | with_reducible assumption | ((with_reducible refine bsetr ?_); rfl) | with_reducible refine Below.setCell ?_ (by simp <;> omega) _ | with_reducible refine bpl ?_ _ _ | with_reducible refine bal ?_ _ | with_reducible refine bdrew1 ?_ | with_reducible refine bdrew ?_ _))) hl HV.out)) ?_; rintro e w1 ⟨rfl, hb⟩; obtain ⟨X, m, rfl⟩ := plsOf hb; clear hb) | (go_at_call 114; refine Calls.mono (hasFlag_any _ fs _ 153 #[.pointer (some ⟨w.heap.size, 0, none⟩)] (nNe (hdF fs)) (H1.out.below (by (try with_reducible refine bsz ?_); repeat (first | with_reducible exact Below.refl _ _ | ((with_reducible refine bpre ?_); (try simp only [Array.append_assoc]); repeat (first | with_reducible exact Pre.refl _ | with_reducible exact Pre.base _ _ | with_reducible refine Pre.cons _ ?_)) | with_reducible assumption | ((with_reducible refine bsetr ?_); rfl) | with_reducible refine Below.setCell ?_ (by simp <;> omega) _ | with_reducible refine bpl ?_ _ _ | with_reducible refine bal ?_ _ | with_reducible refine bdrew1 ?_ | with_reducible refine bdrew ?_ _))) hb eg (fun W d hW hd => (HH w.heap.size (Nat.le_refl _)).out W d (bkeep hW (by simp [go_sem])) (Below.trans (by (try with_reducible refine bsz ?_); repeat (first | with_reducible exact Below.refl _ _ | ((with_reducible refine bpre ?_); (try simp only [Array.append_assoc]); repeat (first | with_reducible exact Pre.refl _ | with_reducible exact Pre.base _ _ | with_reducible refine Pre.cons _ ?_)) | with_reducible assumption | ((with_reducible refine bsetr ?_); rfl) | with_reducible refine Below.setCell ?_ (by simp <;> omega) _ | with_reducible refine bpl ?_ _ _ | with_reducible refine bal ?_ _ | with_reducible refine bdrew1 ?_ | with_reducible refine bdrew ?_ _)) (hW.mono (by first | (simp; done) | (simp; omega)))) hd)) ?_; rintro e w1 ⟨rfl, hb⟩; obtain ⟨X, m, rfl⟩ := plsOf hb; clear hb))
    exact bodyPost_ret (v := .bool (!anyB (nNe (hdF fs)) fs)) (by simp [results, Try.results116, go_sem]) rfl ⟨by rw [hr.out], (by (try with_reducible refine bsz ?_); repeat (first | with_reducible exact Below.refl _ _ | ((with_reducible refine bpre ?_); (try simp only [Array.append_assoc]); repeat (first | with_reducible exact Pre.refl _ | with_reducible exact Pre.base _ _ | with_reducible refine Pre.cons _ ?_)) | with_reducible assumption | ((with_reducible refine bsetr ?_); rfl) | with_reducible refine Below.setCell ?_ (by simp <;> omega) _ | with_reducible refine bpl ?_ _ _ | with_reducible refine bal ?_ _ | with_reducible refine bdrew1 ?_ | with_reducible refine bdrew ?_ _))⟩
end Go.Proofs.Ytkfjlimlodbcgaa
