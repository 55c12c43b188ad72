/- spec.l02Square, spec.l02Scale. -/
import Derived.Test.YtenaiegidcjanaaSm
import Derived.Test.YtenaiegidcjanaaFsq
namespace Go.Proofs.Ytenaiegidcjanaa
open Go.ChangeShapes Go.WideShapes Go.ChangeAt Go.RowKit
set_option linter.unusedVariables false
set_option linter.unusedSimpArgs false
attribute [local irreducible] Calls
def sqO (xs : List (Int × Int)) : Option (List (List (Int × Int))) := matO xs.length fun i j => mulO (at1 xs i) (at1 xs j)
def scO (xss : List (List (Int × Int))) (p : Int × Int) : Option (List (List (Int × Int))) := matO xss.length fun i j => mulO (at2 xss i j) p
set_option maxHeartbeats 2000000 in
theorem l02Square_any (w : World) (xs : List (Int × Int)) (v : Value) (h : Lst shFr w xs v) (hn8 : xs.length ≤ 8) (hI : ∀ d ∈ xs, inF d) :
    Calls Try.prog 30 #[v] w fun e w' => MatRet w.heap.size (mR 0 (sqO xs)) (mC 0 (sqO xs)) e w' ∧ Below w.heap.size w w' := by
  obtain ⟨A0, cap0, rfl, hc0, hm0, _, hel⟩ := lstFraction h
  have HEL := Lib.hid hel
  have HI := Lib.hid hI
  clear hI hel
  unfold maxLen at hm0
  go_enter Try.func30, Try.ntmps30
  go_wp2_with fail
  refine Calls.mono (l02Empty_any _ xs.length (by omega)) ?_
  rintro e0 w1 ⟨A2, cap2, F2, rfl, hO2, hb⟩
  obtain ⟨X2, m2, rfl⟩ := plsOf hb
  clear hb
  have hO2 := Lib.hid hO2
  go_wp2_with fail
  go_loopw [5] (fun i wr => ∃ (k : Nat), k ≤ xs.length ∧ i = .int .i64 k ∧ Hid (Own (shL shFr) w.heap.size wr (matL xs.length xs.length (upTo k 0 fun i j => kD (mulO (at1 xs i) (at1 xs j)))) (.slice A2 xs.length cap2) F2) ∧ Hid (∀ a, a < k → ∀ b, b < xs.length → noB (mulO (at1 xs a) (at1 xs b)) = false) ∧ Below w.heap.size w wr) (fun i _ => xs.length - (intOf i).toNat)
  case atStart => exact ⟨0, Nat.zero_le _, rfl, Lib.hid (by rw [upTo_zero]; exact hO2.out), Lib.hid (fun a ha => absurd ha (Nat.not_lt_zero a)), (by (try with_reducible refine bsz ?_); repeat (first | with_reducible exact Below.refl _ _ | ((with_reducible refine bpre ?_); (try simp only [Array.append_assoc]); repeat (first | with_reducible exact Pre.refl _ | with_reducible exact Pre.base _ _ | with_reducible refine Pre.cons _ ?_)) | with_reducible assumption | ((with_reducible refine bsetr ?_); rfl) | with_reducible refine Below.setCell ?_ (by simp <;> omega) _ | with_reducible refine bpl ?_ _ _ | with_reducible refine bal ?_ _ | with_reducible refine bdrew1 ?_ | with_reducible refine bdrew ?_ _))⟩
  case round =>
    obtain ⟨k, hk, rfl, hO, hZ, hB⟩ := hrel
    clear hO2
    by_cases hlt : k < xs.length
    · have hk8 : (k : Int) < 9223372036854775807 := by omega
      go_wp2_with fail
      obtain ⟨W0, rfl⟩ : ∃ x, x = wr := ⟨_, rfl⟩
      go_loopw [6] (fun j wr => ∃ (l : Nat), l ≤ xs.length ∧ j = .int .i64 l ∧ Hid (Own (shL shFr) w.heap.size wr (matL xs.length xs.length (upTo k l fun i j => kD (mulO (at1 xs i) (at1 xs j)))) (.slice A2 xs.length cap2) F2) ∧ Hid (∀ b, b < l → noB (mulO (at1 xs k) (at1 xs b)) = false) ∧ Below w.heap.size w wr) (fun j _ => xs.length - (intOf j).toNat)
      case atStart => exact ⟨0, Nat.zero_le _, rfl, hO, Lib.hid (fun a ha => absurd ha (Nat.not_lt_zero a)), (by (try with_reducible refine bsz ?_); repeat (first | with_reducible exact Below.refl _ _ | ((with_reducible refine bpre ?_); (try simp only [Array.append_assoc]); repeat (first | with_reducible exact Pre.refl _ | with_reducible exact Pre.base _ _ | with_reducible refine Pre.cons _ ?_)) | with_reducible assumption | ((with_reducible refine bsetr ?_); rfl) | with_reducible refine Below.setCell ?_ (by simp <;> omega) _ | with_reducible refine bpl ?_ _ _ | with_reducible refine bal ?_ _ | with_reducible refine bdrew1 ?_ | with_reducible refine bdrew ?_ _))⟩
      case round =>
        obtain ⟨l, hll, rfl, hOl, hZl, hBl⟩ := hrel
        by_cases hlt2 : l < xs.length
        · have hl8 : (l : Int) < 9223372036854775807 := by omega
          have hz := hBl.size
          obtain ⟨a1, o1, rfl, hel⟩ := HEL.out (by omega)
          obtain ⟨d1, hd1, _, x1, x2⟩ := hel k hlt
          obtain ⟨d2, hd2, _, y1, y2⟩ := hel l hlt2
          have ex : at1 xs k = d1 := by simp [at1, hd1]
          have ey : at1 xs l = d2 := by simp [at1, hd2]
          have hxi := Lib.hid (HI.out d1 (List.mem_of_getElem? hd1))
          have hyi := Lib.hid (HI.out d2 (List.mem_of_getElem? hd2))
          rw [← ex] at x1 x2 hxi
          rw [← ey] at y1 y2 hyi
          have zb1 : a1 < w.heap.size := World.block_lt_of_cell? _ _ x1
          clear hel hd1 hd2 ex ey
          replace x1 := bkeep hBl x1
          replace x2 := bkeep hBl x2
          replace y1 := bkeep hBl y1
          replace y2 := bkeep hBl y2
          replace zb1 : a1 < wr.heap.size := by omega
          cases hzz : mulO (at1 xs k) (at1 xs l) with
          | none =>
            have hr : Hid (sqO xs = none) := Lib.hid (matO_t (matZ_t hlt hlt2 (by rw [hzz]; rfl)))
            go_wp2_with fail
            go_region_held3 (fun w' => w'.cell? ⟨a1, o1 + k * 2, none⟩ = some (.int .i64 (at1 xs k).1) ∧ w'.cell? ⟨a1, o1 + k * 2 + 1, none⟩ = some (.int .i64 (at1 xs k).2) ∧ w'.cell? ⟨a1, o1 + l * 2, none⟩ = some (.int .i64 (at1 xs l).1) ∧ w'.cell? ⟨a1, o1 + l * 2 + 1, none⟩ = some (.int .i64 (at1 xs l).2)) (simp [*, go_sem]) (first | (go_at_call 54; refine Calls.mono (rmul_any _ _ _ hxi.out hyi.out) ?_; rintro e w1 ⟨rfl, hb⟩; obtain ⟨X, m, rfl⟩ := plsOf hb; clear hb))
            all_goals (go_wp2_with fail)
            all_goals (
              refine bodyPost_ret (v := .tuple #[.slice (some ⟨_, 0, none⟩) 0 0, .int .i64 3]) (by simp [results, Try.results30, go_sem, *]; rfl) rfl ⟨?_, (by (try with_reducible refine bsz ?_); repeat (first | with_reducible exact Below.refl _ _ | ((with_reducible refine bpre ?_); (try simp only [Array.append_assoc]); repeat (first | with_reducible exact Pre.refl _ | with_reducible exact Pre.base _ _ | with_reducible refine Pre.cons _ ?_)) | with_reducible assumption | ((with_reducible refine bsetr ?_); rfl) | with_reducible refine Below.setCell ?_ (by simp <;> omega) _ | with_reducible refine bpl ?_ _ _ | with_reducible refine bal ?_ _ | with_reducible refine bdrew1 ?_ | with_reducible refine bdrew ?_ _))⟩
              rw [hr.out]
              exact ⟨_, 0, [], rfl, Own.nil _ _ _ 0 (Nat.zero_le _) _⟩)
          | some z =>
            obtain ⟨g2, g3, cap4, rfl, hcap, hcap4, hg2, hg3, hge, hgn, c0, f3, f4, ⟨v3, e3⟩, ⟨v4, e4⟩, hput⟩ := mat_store hOl.out hlt hlt2
            have hput := Lib.hid hput
            clear hOl
            go_wp2_with fail
            go_region_held3 (fun w' => w'.cell? ⟨a1, o1 + k * 2, none⟩ = some (.int .i64 (at1 xs k).1) ∧ w'.cell? ⟨a1, o1 + k * 2 + 1, none⟩ = some (.int .i64 (at1 xs k).2) ∧ w'.cell? ⟨a1, o1 + l * 2, none⟩ = some (.int .i64 (at1 xs l).1) ∧ w'.cell? ⟨a1, o1 + l * 2 + 1, none⟩ = some (.int .i64 (at1 xs l).2)) (simp [*, go_sem]) (first | (go_at_call 54; refine Calls.mono (rmul_any _ _ _ hxi.out hyi.out) ?_; rintro e w1 ⟨rfl, hb⟩; obtain ⟨X, m, rfl⟩ := plsOf hb; clear hb))
            all_goals (go_wp2_with fail)
            all_goals (go_region)
            all_goals (go_wp2_with fail)
            all_goals (
              go_roundw
              case rel =>
                
                refine ⟨l + 1, by omega, by go_num, Lib.hid ?_, Lib.hid (fun b hb => ?_), (by (try with_reducible refine bsz ?_); repeat (first | with_reducible exact Below.refl _ _ | ((with_reducible refine bpre ?_); (try simp only [Array.append_assoc]); repeat (first | with_reducible exact Pre.refl _ | with_reducible exact Pre.base _ _ | with_reducible refine Pre.cons _ ?_)) | with_reducible assumption | ((with_reducible refine bsetr ?_); rfl) | with_reducible refine Below.setCell ?_ (by simp <;> omega) _ | with_reducible refine bpl ?_ _ _ | with_reducible refine bal ?_ _ | with_reducible refine bdrew1 ?_ | with_reducible refine bdrew ?_ _))⟩
                · rw [← upTo_step, show kD (mulO (at1 xs k) (at1 xs l)) = z by rw [hzz]; rfl]
                  exact hput.out z _ (inF_ok (mulO_in hxi.out.2.2.1 hyi.out.2.2.1 hzz)) (bsz2 (by repeat (first | exact Below.refl _ _ | refine bpl ?_ _ _ | refine bal ?_ _ | refine bdrew1 ?_ | refine bdrew ?_ _)))
                · rcases Nat.lt_or_ge b l with h1 | h1
                  · exact hZl.out b h1
                  · have : b = l := by omega
                    subst this
                    rw [hzz]; rfl
              case measure => simp [intOf]; omega)
        · have e : l = xs.length := by omega
          subst e
          go_wp2_with fail
          go_roundw
          case rel =>
            
            refine ⟨k + 1, by omega, by go_num, Lib.hid ?_, Lib.hid (fun a ha b hb => ?_), (by (try with_reducible refine bsz ?_); repeat (first | with_reducible exact Below.refl _ _ | ((with_reducible refine bpre ?_); (try simp only [Array.append_assoc]); repeat (first | with_reducible exact Pre.refl _ | with_reducible exact Pre.base _ _ | with_reducible refine Pre.cons _ ?_)) | with_reducible assumption | ((with_reducible refine bsetr ?_); rfl) | with_reducible refine Below.setCell ?_ (by simp <;> omega) _ | with_reducible refine bpl ?_ _ _ | with_reducible refine bal ?_ _ | with_reducible refine bdrew1 ?_ | with_reducible refine bdrew ?_ _))⟩
            · rw [← upTo_row]
              exact hOl.out
            · rcases Nat.lt_or_ge a k with h1 | h1
              · exact hZ.out a h1 b hb
              · have : a = k := by omega
                subst this
                exact hZl.out b hb
          case measure => simp [intOf]; omega
    · have e : k = xs.length := by omega
      have hr : Hid (sqO xs = some (matL xs.length xs.length fun i j => kD (mulO (at1 xs i) (at1 xs j)))) := Lib.hid (matO_f (matZ_f fun a ha b hb => hZ.out a (by omega) b hb))
      subst e
      have hO2 : Hid (Own (shL shFr) w.heap.size wr (matL xs.length xs.length fun i j => kD (mulO (at1 xs i) (at1 xs j))) (.slice A2 xs.length cap2) F2) := Lib.hid (by rw [← upTo_all]; exact hO.out)
      go_wp2_with fail
      refine bodyPost_ret (v := .tuple #[.slice A2 xs.length cap2, .int .i64 0]) (by simp [results, Try.results30, go_sem, *]) rfl ⟨?_, (by (try with_reducible refine bsz ?_); repeat (first | with_reducible exact Below.refl _ _ | ((with_reducible refine bpre ?_); (try simp only [Array.append_assoc]); repeat (first | with_reducible exact Pre.refl _ | with_reducible exact Pre.base _ _ | with_reducible refine Pre.cons _ ?_)) | with_reducible assumption | ((with_reducible refine bsetr ?_); rfl) | with_reducible refine Below.setCell ?_ (by simp <;> omega) _ | with_reducible refine bpl ?_ _ _ | with_reducible refine bal ?_ _ | with_reducible refine bdrew1 ?_ | with_reducible refine bdrew ?_ _))⟩
      rw [hr.out]
      exact MatRet.some (matL_len _ _ _) hO2.out
set_option maxHeartbeats 2000000 in
theorem l02Scale_any (w : World) (xss : List (List (Int × Int))) (p : Int × Int) (v : Value) (h : Lst (shL shFr) w xss v) (hM : SqM xss) (hp : inF p) :
    Calls Try.prog 31 #[v, .agg #[.int .i64 p.1, .int .i64 p.2]] w fun e w' => MatRet w.heap.size (mR 0 (scO xss p)) (mC 0 (scO xss p)) e w' ∧ Below w.heap.size w w' := by
  obtain ⟨A0, cap0, rfl, hc0, hm0⟩ := formFrSS h
  have HM := Lib.hid hM
  have HP := Lib.hid hp
  have hn8 := hM.1
  clear hM hp
  unfold maxLen at hm0
  go_enter Try.func31, Try.ntmps31
  go_wp2_with fail
  refine Calls.mono (l02Empty_any _ xss.length (by omega)) ?_
  rintro e0 w1 ⟨A2, cap2, F2, rfl, hO2, hb⟩
  obtain ⟨X2, m2, rfl⟩ := plsOf hb
  clear hb
  have hO2 := Lib.hid hO2
  go_wp2_with fail
  go_loopw [7] (fun i wr => ∃ (k : Nat), k ≤ xss.length ∧ i = .int .i64 k ∧ wr.heap[w.heap.size]? = some (.cells #[.int .i64 p.1, .int .i64 p.2] 61 (0, 0)) ∧ Hid (Own (shL shFr) (w.heap.size + 1) wr (matL xss.length xss.length (upTo k 0 fun i j => kD (mulO (at2 xss i j) p))) (.slice A2 xss.length cap2) F2) ∧ Hid (∀ a, a < k → ∀ b, b < xss.length → noB (mulO (at2 xss a b) p) = false) ∧ Below w.heap.size w wr) (fun i _ => xss.length - (intOf i).toNat)
  case atStart => exact ⟨0, Nat.zero_le _, rfl, (by repeat (first | with_reducible assumption | with_reducible refine pls_block _ _ ?_ | with_reducible apply blkset2 | with_reducible apply blkset1 | ((with_reducible refine blksetN ?_ ?_ _); (focus (simp <;> omega))) | with_reducible exact blknew _ _ | ((with_reducible refine blknew' _ _ _ ?_); (simp <;> omega)) | with_reducible refine blkal ?_ _)), Lib.hid (by rw [upTo_zero]; have := hO2.out; simpa using this), Lib.hid (fun a ha => absurd ha (Nat.not_lt_zero a)), (by (try with_reducible refine bsz ?_); repeat (first | with_reducible exact Below.refl _ _ | ((with_reducible refine bpre ?_); (try simp only [Array.append_assoc]); repeat (first | with_reducible exact Pre.refl _ | with_reducible exact Pre.base _ _ | with_reducible refine Pre.cons _ ?_)) | with_reducible assumption | ((with_reducible refine bsetr ?_); rfl) | with_reducible refine Below.setCell ?_ (by simp <;> omega) _ | with_reducible refine bpl ?_ _ _ | with_reducible refine bal ?_ _ | with_reducible refine bdrew1 ?_ | with_reducible refine bdrew ?_ _))⟩
  case round =>
    obtain ⟨k, hk, rfl, b0, hO, hZ, hB⟩ := hrel
    clear hO2
    by_cases hlt : k < xss.length
    · have hk8 : (k : Int) < 9223372036854775807 := by omega
      go_wp2_with fail
      obtain ⟨W0, rfl⟩ : ∃ x, x = wr := ⟨_, rfl⟩
      go_loopw [8] (fun j wr => ∃ (l : Nat), l ≤ xss.length ∧ j = .int .i64 l ∧ wr.heap[w.heap.size]? = some (.cells #[.int .i64 p.1, .int .i64 p.2] 61 (0, 0)) ∧ Hid (Own (shL shFr) (w.heap.size + 1) wr (matL xss.length xss.length (upTo k l fun i j => kD (mulO (at2 xss i j) p))) (.slice A2 xss.length cap2) F2) ∧ Hid (∀ b, b < l → noB (mulO (at2 xss k b) p) = false) ∧ Below w.heap.size w wr) (fun j _ => xss.length - (intOf j).toNat)
      case atStart => exact ⟨0, Nat.zero_le _, rfl, (by repeat (first | with_reducible assumption | with_reducible refine pls_block _ _ ?_ | with_reducible apply blkset2 | with_reducible apply blkset1 | ((with_reducible refine blksetN ?_ ?_ _); (focus (simp <;> omega))) | with_reducible exact blknew _ _ | ((with_reducible refine blknew' _ _ _ ?_); (simp <;> omega)) | with_reducible refine blkal ?_ _)), hO, Lib.hid (fun a ha => absurd ha (Nat.not_lt_zero a)), (by (try with_reducible refine bsz ?_); repeat (first | with_reducible exact Below.refl _ _ | ((with_reducible refine bpre ?_); (try simp only [Array.append_assoc]); repeat (first | with_reducible exact Pre.refl _ | with_reducible exact Pre.base _ _ | with_reducible refine Pre.cons _ ?_)) | with_reducible assumption | ((with_reducible refine bsetr ?_); rfl) | with_reducible refine Below.setCell ?_ (by simp <;> omega) _ | with_reducible refine bpl ?_ _ _ | with_reducible refine bal ?_ _ | with_reducible refine bdrew1 ?_ | with_reducible refine bdrew ?_ _))⟩
      case round =>
        obtain ⟨l, hll, rfl, b0, hOl, hZl, hBl⟩ := hrel
        obtain ⟨s0, s1, f0, f1⟩ := blk2 b0
        have zb0 := blklt b0
        have B0 := Lib.hid b0
        clear b0
        by_cases hlt2 : l < xss.length
        · have hl8 : (l : Int) < 9223372036854775807 := by omega
          have hz := hBl.size
          obtain ⟨a1, o1, r1, p1, d1, rfl, k1, k3, za1, zr1, hx, q1, x1, x2⟩ := mat_at h HM.out hlt hlt2
          replace q1 := bkeep hBl q1
          replace x1 := bkeep hBl x1
          replace x2 := bkeep hBl x2
          have zb1 : a1 < wr.heap.size := by omega
          have zb3 : r1 < wr.heap.size := by omega
          have hxi := Lib.hid hx
          clear hx
          cases hzz : mulO (at2 xss k l) p with
          | none =>
            have hr : Hid (scO xss p = none) := Lib.hid (matO_t (matZ_t hlt hlt2 (by rw [hzz]; rfl)))
            go_wp2_with fail
            go_region_held3 (fun w' => w'.cell? ⟨a1, o1 + k, none⟩ = some (.slice (some ⟨r1, p1, none⟩) xss.length d1) ∧ w'.cell? ⟨r1, p1 + l * 2, none⟩ = some (.int .i64 (at2 xss k l).1) ∧ w'.cell? ⟨r1, p1 + l * 2 + 1, none⟩ = some (.int .i64 (at2 xss k l).2) ∧ w'.cell? ⟨w.heap.size, 0, none⟩ = some (.int .i64 p.1) ∧ w'.cell? ⟨w.heap.size, 1, none⟩ = some (.int .i64 p.2)) (simp [*, go_sem]) (first | (go_at_call 54; refine Calls.mono (rmul_any _ _ _ hxi.out HP.out) ?_; rintro e w1 ⟨rfl, hb⟩; obtain ⟨X, m, rfl⟩ := plsOf hb; clear hb))
            all_goals (go_wp2_with fail)
            all_goals (
              refine bodyPost_ret (v := .tuple #[.slice (some ⟨_, 0, none⟩) 0 0, .int .i64 3]) (by simp [results, Try.results31, go_sem, *]; rfl) rfl ⟨?_, (by (try with_reducible refine bsz ?_); repeat (first | with_reducible exact Below.refl _ _ | ((with_reducible refine bpre ?_); (try simp only [Array.append_assoc]); repeat (first | with_reducible exact Pre.refl _ | with_reducible exact Pre.base _ _ | with_reducible refine Pre.cons _ ?_)) | with_reducible assumption | ((with_reducible refine bsetr ?_); rfl) | with_reducible refine Below.setCell ?_ (by simp <;> omega) _ | with_reducible refine bpl ?_ _ _ | with_reducible refine bal ?_ _ | with_reducible refine bdrew1 ?_ | with_reducible refine bdrew ?_ _))⟩
              rw [hr.out]
              exact ⟨_, 0, [], rfl, Own.nil _ _ _ 0 (Nat.zero_le _) _⟩)
          | some z =>
            obtain ⟨g2, g3, cap4, rfl, hcap, hcap4, hg2, hg3, hge, hgn, c0, f3, f4, ⟨v3, e3⟩, ⟨v4, e4⟩, hput⟩ := mat_store hOl.out hlt hlt2
            have hput := Lib.hid hput
            clear hOl
            go_wp2_with fail
            go_region_held3 (fun w' => w'.cell? ⟨a1, o1 + k, none⟩ = some (.slice (some ⟨r1, p1, none⟩) xss.length d1) ∧ w'.cell? ⟨r1, p1 + l * 2, none⟩ = some (.int .i64 (at2 xss k l).1) ∧ w'.cell? ⟨r1, p1 + l * 2 + 1, none⟩ = some (.int .i64 (at2 xss k l).2) ∧ w'.cell? ⟨w.heap.size, 0, none⟩ = some (.int .i64 p.1) ∧ w'.cell? ⟨w.heap.size, 1, none⟩ = some (.int .i64 p.2)) (simp [*, go_sem]) (first | (go_at_call 54; refine Calls.mono (rmul_any _ _ _ hxi.out HP.out) ?_; rintro e w1 ⟨rfl, hb⟩; obtain ⟨X, m, rfl⟩ := plsOf hb; clear hb))
            all_goals (go_wp2_with fail)
            all_goals (go_region)
            all_goals (go_wp2_with fail)
            all_goals (
              go_roundw
              case rel =>
                have b0 := B0.out
                refine ⟨l + 1, by omega, by go_num, (by (try change (World.alloc (pls _ _ _) _).heap[w.heap.size]? = _); exact (by repeat (first | with_reducible assumption | with_reducible refine pls_block _ _ ?_ | with_reducible apply blkset2 | with_reducible apply blkset1 | ((with_reducible refine blksetN ?_ ?_ _); (focus (simp <;> omega))) | with_reducible exact blknew _ _ | ((with_reducible refine blknew' _ _ _ ?_); (simp <;> omega)) | with_reducible refine blkal ?_ _))), Lib.hid ?_, Lib.hid (fun b hb => ?_), (by (try with_reducible refine bsz ?_); repeat (first | with_reducible exact Below.refl _ _ | ((with_reducible refine bpre ?_); (try simp only [Array.append_assoc]); repeat (first | with_reducible exact Pre.refl _ | with_reducible exact Pre.base _ _ | with_reducible refine Pre.cons _ ?_)) | with_reducible assumption | ((with_reducible refine bsetr ?_); rfl) | with_reducible refine Below.setCell ?_ (by simp <;> omega) _ | with_reducible refine bpl ?_ _ _ | with_reducible refine bal ?_ _ | with_reducible refine bdrew1 ?_ | with_reducible refine bdrew ?_ _))⟩
                · rw [← upTo_step, show kD (mulO (at2 xss k l) p) = z by rw [hzz]; rfl]
                  exact hput.out z _ (inF_ok (mulO_in hxi.out.2.2.1 HP.out.2.2.1 hzz)) (bsz2 (by repeat (first | exact Below.refl _ _ | refine bpl ?_ _ _ | refine bal ?_ _ | refine bdrew1 ?_ | refine bdrew ?_ _)))
                · rcases Nat.lt_or_ge b l with h1 | h1
                  · exact hZl.out b h1
                  · have : b = l := by omega
                    subst this
                    rw [hzz]; rfl
              case measure => simp [intOf]; omega)
        · have e : l = xss.length := by omega
          subst e
          go_wp2_with fail
          go_roundw
          case rel =>
            have b0 := B0.out
            refine ⟨k + 1, by omega, by go_num, (by repeat (first | with_reducible assumption | with_reducible refine pls_block _ _ ?_ | with_reducible apply blkset2 | with_reducible apply blkset1 | ((with_reducible refine blksetN ?_ ?_ _); (focus (simp <;> omega))) | with_reducible exact blknew _ _ | ((with_reducible refine blknew' _ _ _ ?_); (simp <;> omega)) | with_reducible refine blkal ?_ _)), Lib.hid ?_, Lib.hid (fun a ha b hb => ?_), (by (try with_reducible refine bsz ?_); repeat (first | with_reducible exact Below.refl _ _ | ((with_reducible refine bpre ?_); (try simp only [Array.append_assoc]); repeat (first | with_reducible exact Pre.refl _ | with_reducible exact Pre.base _ _ | with_reducible refine Pre.cons _ ?_)) | with_reducible assumption | ((with_reducible refine bsetr ?_); rfl) | with_reducible refine Below.setCell ?_ (by simp <;> omega) _ | with_reducible refine bpl ?_ _ _ | with_reducible refine bal ?_ _ | with_reducible refine bdrew1 ?_ | with_reducible refine bdrew ?_ _))⟩
            · rw [← upTo_row]
              exact hOl.out
            · rcases Nat.lt_or_ge a k with h1 | h1
              · exact hZ.out a h1 b hb
              · have : a = k := by omega
                subst this
                exact hZl.out b hb
          case measure => simp [intOf]; omega
    · have e : k = xss.length := by omega
      have hr : Hid (scO xss p = some (matL xss.length xss.length fun i j => kD (mulO (at2 xss i j) p))) := Lib.hid (matO_f (matZ_f fun a ha b hb => hZ.out a (by omega) b hb))
      subst e
      have hO2 : Hid (Own (shL shFr) w.heap.size wr (matL xss.length xss.length fun i j => kD (mulO (at2 xss i j) p)) (.slice A2 xss.length cap2) F2) := Lib.hid (by rw [← upTo_all]; exact hO.out.below (Nat.le_succ _) (Below.refl _ _))
      go_wp2_with fail
      refine bodyPost_ret (v := .tuple #[.slice A2 xss.length cap2, .int .i64 0]) (by simp [results, Try.results31, go_sem, *]) rfl ⟨?_, (by (try with_reducible refine bsz ?_); repeat (first | with_reducible exact Below.refl _ _ | ((with_reducible refine bpre ?_); (try simp only [Array.append_assoc]); repeat (first | with_reducible exact Pre.refl _ | with_reducible exact Pre.base _ _ | with_reducible refine Pre.cons _ ?_)) | with_reducible assumption | ((with_reducible refine bsetr ?_); rfl) | with_reducible refine Below.setCell ?_ (by simp <;> omega) _ | with_reducible refine bpl ?_ _ _ | with_reducible refine bal ?_ _ | with_reducible refine bdrew1 ?_ | with_reducible refine bdrew ?_ _))⟩
      rw [hr.out]
      exact MatRet.some (matL_len _ _ _) hO2.out
end Go.Proofs.Ytenaiegidcjanaa
