/- spec.FlagDensities. -/
import Derived.Test.YtfdobpeekipafaaFd
import Derived.Test.YtfdobpeekipafaaDv
import Derived.Test.YtfdobpeekipafaaSb
namespace Go.Proofs.Ytfdobpeekipafaa
open Go.ChangeShapes Go.WideShapes Go.RowKit
set_option linter.unusedVariables false
set_option linter.unusedSimpArgs false
attribute [local irreducible] Calls
/-- The flags of a right type: their code and list. -/
theorem afC_len {tn n : Nat} {te : Int} (ht : tn ≤ 3) (htn : tn ≤ n) (hn : n ≤ 5) (h0 : 0 ≤ te) (h1 : te < limN tn) : afC tn te n [] = (if (flagsL tn te n []).length ≤ 64 then 0 else 3) := by
  have hg : grOk tn te = true := by simp [grOk, inB]; omega
  have hs : spOk tn n = true := by simp [spOk, inB]; omega
  unfold afC
  rw [if_pos hg, if_pos (show forbC [] = 0 from rfl), if_pos hs]
  rfl
theorem afL_len {tn n : Nat} {te : Int} (h : afC tn te n [] = 0) : afL tn te n [] = flagsF tn te n [] := by
  unfold afL
  exact if_pos h
theorem own_blF {B : Nat} {w : World} {xs : List Flg} {bl off n cap : Nat} {F : List Nat} (h : Own shFlag B w xs (.slice (some ⟨bl, off, none⟩) n cap) F) (hp : 0 < xs.length) : bl ∈ F := by
  obtain ⟨⟨A, c, hv, _, _, h4⟩, _, _⟩ := h
  rcases h4 with ⟨rfl, _⟩ | ⟨g, cur, t, Fs, e, _, _, hF, _⟩
  · exact absurd hp (Nat.lt_irrefl 0)
  · subst e
    have : bl = g := by simp at hv; exact hv.1.1
    rw [hF, this]
    simp
set_option maxHeartbeats 4000000 in
theorem sFlagDensities_any (w : World) (s k n e : Int) (he : 0 ≤ e ∧ e ≤ 4294967295) :
    Calls Try.prog 15 #[.int .i64 s, .agg #[.int .i64 k, .int .i64 n, .int .u32 e]] w (FrsCode w.heap.size w (fdL s k n e) (fdC s k n e)) := by
  cases h1 : flOk k n e
  · have hc : Hid (fdC s k n e = 1) := Lib.hid (by simp [fdC, h1])
    have hl : Hid (fdL s k n e = []) := Lib.hid (by unfold fdL; rw [hc.out]; rfl)
    have H1 : Hid (flOk k n e = false) := Lib.hid h1
    clear h1
    go_enter Try.func15, Try.ntmps15
    go_wp2_with (first | (go_at_call 47; refine Calls.mono (l03Ok_any k n e _ he) ?_; rw [H1.out]; rintro e w1 ⟨rfl, hb⟩; obtain ⟨X, m, rfl⟩ := plsOf hb; clear hb))
    exact bodyPost_ret (v := .tuple #[.slice (some ⟨_, 0, none⟩) 0 0, .int .i64 1]) (by simp [results, Try.results15, go_sem] <;> rfl) rfl (frsCode_no _ _ _ _ _ _ hl.out hc.out (by (try with_reducible refine bsz ?_); repeat (first | with_reducible exact Below.refl _ _ | ((with_reducible refine bpre ?_); (try simp only [Array.append_assoc]); repeat (first | with_reducible exact Pre.refl _ | with_reducible exact Pre.base _ _ | with_reducible refine Pre.cons _ ?_)) | with_reducible assumption | ((with_reducible refine bsetr ?_); rfl) | with_reducible refine Below.setCell ?_ (by simp <;> omega) _ | with_reducible refine bpl ?_ _ _ | with_reducible refine bal ?_ _ | with_reducible refine bdrew1 ?_ | with_reducible refine bdrew ?_ _)))
  have H1 : Hid (flOk k n e = true) := Lib.hid h1
  cases h2 : inB s k n
  · have hc : Hid (fdC s k n e = 2) := Lib.hid (by simp [fdC, h1, h2])
    have hl : Hid (fdL s k n e = []) := Lib.hid (by unfold fdL; rw [hc.out]; rfl)
    have H2 := Lib.hid h2
    clear h1 h2
    go_enter Try.func15, Try.ntmps15
    go_wp2_with (first | (go_at_call 47; refine Calls.mono (l03Ok_any k n e _ he) ?_; rw [H1.out]; rintro e w1 ⟨rfl, hb⟩; obtain ⟨X, m, rfl⟩ := plsOf hb; clear hb) | (go_at_call 48; refine Calls.mono ((H2.out ▸ sin_any s k n _)) ?_; rintro e w1 ⟨rfl, rfl⟩))
    exact bodyPost_ret (v := .tuple #[.slice (some ⟨_, 0, none⟩) 0 0, .int .i64 2]) (by simp [results, Try.results15, go_sem] <;> rfl) rfl (frsCode_no _ _ _ _ _ _ hl.out hc.out (by (try with_reducible refine bsz ?_); repeat (first | with_reducible exact Below.refl _ _ | ((with_reducible refine bpre ?_); (try simp only [Array.append_assoc]); repeat (first | with_reducible exact Pre.refl _ | with_reducible exact Pre.base _ _ | with_reducible refine Pre.cons _ ?_)) | with_reducible assumption | ((with_reducible refine bsetr ?_); rfl) | with_reducible refine Below.setCell ?_ (by simp <;> omega) _ | with_reducible refine bpl ?_ _ _ | with_reducible refine bal ?_ _ | with_reducible refine bdrew1 ?_ | with_reducible refine bdrew ?_ _)))
  have H2 := Lib.hid h2
  obtain ⟨g1, g2, g3⟩ := (flOk_iff _ _ _).1 h1
  obtain ⟨kN, rfl⟩ := Int.eq_ofNat_of_zero_le g2.1
  obtain ⟨nN, rfl⟩ := Int.eq_ofNat_of_zero_le (show 0 ≤ n by omega)
  obtain ⟨hs1, hs2⟩ := inB_iff.1 h2
  obtain ⟨sN, rfl⟩ := Int.eq_ofNat_of_zero_le (show 0 ≤ s by omega)
  have hn5 : nN ≤ 5 := by simp [grOk, inB] at g1; omega
  have hk3 : kN ≤ 3 := by omega
  have hks : kN ≤ sN := by omega
  have hsn : sN ≤ nN := by omega
  have hk5 : kN ≤ 5 := by omega
  have hs5 : sN ≤ 5 := by omega
  obtain ⟨TE, hTE⟩ : ∃ TE, Hid (onE e (seqI kN) = TE) := ⟨_, Lib.hid rfl⟩
  have hcl : Hid (fdC sN kN nN e = if (flagsL kN TE sN []).length ≤ 64 then 0 else 3) := Lib.hid (by
    unfold fdC
    rw [if_pos h1, if_pos h2, ← hTE.out]
    rfl)
  have hoe : Hid (okI .u32 e) := Lib.hid (by simp [okI, Lit.wf, IntKind.min, IntKind.max, IntKind.signed, IntKind.bits]; omega)
  have HTY : Hid (∀ w, Calls Try.prog 49 #[.agg #[.int .i64 kN, .int .i64 nN, .int .u32 e]] w fun e0 w' => e0 = .returned (.agg #[.int .i64 kN, .int .u32 TE]) ∧ Below w.heap.size w w') := Lib.hid fun w => by
    have := l03Type_any w kN nN e hk5
    rw [hTE.out] at this
    exact this
  obtain ⟨GL, hGL, N, hN, hLn, hNl⟩ : ∃ GL : List Flg, Hid (flagsF kN TE sN [] = GL) ∧ ∃ N : Nat, Hid (GL.length = N) ∧ Hid ((flagsL kN TE sN []).length = N) ∧ N ≤ 1024 :=
    ⟨_, Lib.hid rfl, _, Lib.hid rfl, Lib.hid (List.length_map _).symm, by rw [show (flagsF kN TE sN []).length = (flagsL kN TE sN []).length from List.length_map _]; exact flagsL_len kN TE sN hs5 []⟩
  have hlt := onE_lt e (L := seqI kN) (by rw [seqI_len]; exact hk5)
  rw [seqI_len, hTE.out] at hlt
  have HAF : Hid (∀ (c : Int) (L : List Flg), afC kN TE sN [] = c → afL kN TE sN [] = L → ∀ w v, Lst shGr w [] v → Calls Try.prog 37 #[.agg #[.int .i64 kN, .int .u32 TE], .int .i64 sN, v] w (FlsCode w.heap.size w L c)) := Lib.hid fun c L h1 h2 w v h => by
    have := sAllFlags_any w kN TE sN [] v h ⟨hlt.1, by
      have h2 : limN kN ≤ 1024 := by
        have : kN = 0 ∨ kN = 1 ∨ kN = 2 ∨ kN = 3 := by omega
        rcases this with rfl | rfl | rfl | rfl <;> decide
      omega⟩
    rw [h1, h2] at this
    exact this
  have hac : Hid (afC kN TE sN [] = if N ≤ 64 then 0 else 3) := Lib.hid (by rw [afC_len hk3 hks hs5 hlt.1 hlt.2, hLn.out])
  clear hlt
  clear h1 h2 g1 g2 g3 hs1 hs2
  by_cases h64 : N ≤ 64
  rotate_left
  · have hc : Hid (fdC sN kN nN e = 3) := Lib.hid (by rw [hcl.out, hLn.out, if_neg h64])
    have hl : Hid (fdL sN kN nN e = []) := Lib.hid (by unfold fdL; rw [hc.out]; rfl)
    have HA := Lib.hid (HAF.out 3 _ (by rw [hac.out, if_neg h64]) rfl)
    go_enter Try.func15, Try.ntmps15
    go_wp2_with (first | (go_at_call 47; refine Calls.mono (l03Ok_any kN nN e _ he) ?_; rw [H1.out]; rintro e w1 ⟨rfl, hb⟩; obtain ⟨X, m, rfl⟩ := plsOf hb; clear hb) | (go_at_call 48; refine Calls.mono ((H2.out ▸ sin_any sN kN nN _)) ?_; rintro e w1 ⟨rfl, rfl⟩) | (go_at_call 49; refine Calls.mono (HTY.out _) ?_; rintro e w1 ⟨rfl, hb⟩; obtain ⟨X1, m1, rfl⟩ := plsOf hb; clear hb))
    refine Calls.mono (HA.out _ _ (Own.nil shGr 0 _ 0 (Nat.zero_le _) _).lst) ?_
    rintro e0 w1 ⟨A1, cap1, F1, rfl, hO1, hb⟩
    have hbl : Below w.heap.size w w1 := Below.trans (by (try with_reducible refine bsz ?_); repeat (first | with_reducible exact Below.refl _ _ | ((with_reducible refine bpre ?_); (try simp only [Array.append_assoc]); repeat (first | with_reducible exact Pre.refl _ | with_reducible exact Pre.base _ _ | with_reducible refine Pre.cons _ ?_)) | with_reducible assumption | ((with_reducible refine bsetr ?_); rfl) | with_reducible refine Below.setCell ?_ (by simp <;> omega) _ | with_reducible refine bpl ?_ _ _ | with_reducible refine bal ?_ _ | with_reducible refine bdrew1 ?_ | with_reducible refine bdrew ?_ _)) (hb.mono (by simp <;> omega))
    clear hO1 hb
    go_wp2_with fail
    exact bodyPost_ret (v := .tuple #[.slice (some ⟨_, 0, none⟩) 0 0, .int .i64 3]) (by simp [results, Try.results15, go_sem] <;> rfl) rfl (frsCode_no _ _ _ _ _ _ hl.out hc.out (by (try with_reducible refine bsz ?_); repeat (first | with_reducible exact Below.refl _ _ | ((with_reducible refine bpre ?_); (try simp only [Array.append_assoc]); repeat (first | with_reducible exact Pre.refl _ | with_reducible exact Pre.base _ _ | with_reducible refine Pre.cons _ ?_)) | with_reducible assumption | ((with_reducible refine bsetr ?_); rfl) | with_reducible refine Below.setCell ?_ (by simp <;> omega) _ | with_reducible refine bpl ?_ _ _ | with_reducible refine bal ?_ _ | with_reducible refine bdrew1 ?_ | with_reducible refine bdrew ?_ _)))
  have HA := Lib.hid (HAF.out 0 GL (by rw [hac.out, if_pos h64]) (by rw [afL_len (by rw [hac.out, if_pos h64]), hGL.out]))
  go_enter Try.func15, Try.ntmps15
  go_wp2_with (first | (go_at_call 47; refine Calls.mono (l03Ok_any kN nN e _ he) ?_; rw [H1.out]; rintro e w1 ⟨rfl, hb⟩; obtain ⟨X, m, rfl⟩ := plsOf hb; clear hb) | (go_at_call 48; refine Calls.mono ((H2.out ▸ sin_any sN kN nN _)) ?_; rintro e w1 ⟨rfl, rfl⟩) | (go_at_call 49; refine Calls.mono (HTY.out _) ?_; rintro e w1 ⟨rfl, hb⟩; obtain ⟨X1, m1, rfl⟩ := plsOf hb; clear hb))
  refine Calls.mono (HA.out _ _ (Own.nil shGr 0 _ 0 (Nat.zero_le _) _).lst) ?_
  rintro e0 w1 ⟨A1, cap1, F1, rfl, hO1, hb⟩
  rw [show List.length (α := shFlag.T) GL = N from hN.out] at hO1 ⊢
  have hF1 : Hid (∀ b ∈ F1, w.heap.size + 1 ≤ b ∧ b < w1.heap.size) := Lib.hid fun b hb => ⟨by have := hO1.ge b hb; simp at this; omega, hO1.lt b hb⟩
  have hz1 : w.heap.size + 1 ≤ w1.heap.size := by have := hb.size; simp at this; omega
  have hbl : Below w.heap.size w w1 := Below.trans (by (try with_reducible refine bsz ?_); repeat (first | with_reducible exact Below.refl _ _ | ((with_reducible refine bpre ?_); (try simp only [Array.append_assoc]); repeat (first | with_reducible exact Pre.refl _ | with_reducible exact Pre.base _ _ | with_reducible refine Pre.cons _ ?_)) | with_reducible assumption | ((with_reducible refine bsetr ?_); rfl) | with_reducible refine Below.setCell ?_ (by simp <;> omega) _ | with_reducible refine bpl ?_ _ _ | with_reducible refine bal ?_ _ | with_reducible refine bdrew1 ?_ | with_reducible refine bdrew ?_ _)) (hb.mono (by simp <;> omega))
  have k0 : w1.heap[w.heap.size]? = some (.cells #[.int .i64 kN, .int .i64 nN, .int .u32 e] 41 (0, 0)) := bblk hb (by simp <;> omega) (by repeat (first | with_reducible assumption | with_reducible refine pls_block _ _ ?_ | with_reducible apply blkset2 | with_reducible apply blkset1 | ((with_reducible refine blksetN ?_ ?_ _); (focus (simp <;> omega))) | with_reducible exact blknew _ _ | ((with_reducible refine blknew' _ _ _ ?_); (simp <;> omega)) | with_reducible refine blkal ?_ _))
  have HO1 := Lib.hid (show Own shFlag w.heap.size w1 GL (.slice A1 N cap1) F1 from hO1.below (by simp <;> omega) (Below.refl _ _))
  have HB1 := Lib.hid hbl
  have K0 := Lib.hid k0
  clear hb hO1 hbl k0
  obtain ⟨i1, zv1, hi1, hz1', hsz1, hby1, hl1⟩ := infoB_spec (P := Try.prog) (e := 47) (sz := 2) (bytes := 16) (by kernel_rfl)
  have I1 := Lib.hid hi1
  have Z1 := Lib.hid hz1'
  have hc : Hid (fdC sN kN nN e = 0) := Lib.hid (by rw [hcl.out, hLn.out, if_pos h64])
  have hl : Hid (fdL sN kN nN e = dnsL kN nN e GL) := Lib.hid (by unfold fdL; rw [hc.out, if_pos rfl, show (kN : Int).toNat = kN from rfl, show (sN : Int).toNat = sN from rfl, show (nN : Int).toNat = nN from rfl, hTE.out, hGL.out])
  have hmem : Hid (∀ h ∈ GL, h.1 = kN ∧ h.2.1 = sN ∧ flV h = true ∧ okFlag h) := Lib.hid fun h hh => flagsF_mem hk3 hks hs5 (by rw [hGL.out]; exact hh)
  clear hi1 hz1'
  go_wp2_with fail
  go_loopw [8, 9] (fun o i wr => ∃ (a : Nat), a ≤ N ∧ i = .int .i64 a ∧ wr.heap[w.heap.size]? = some (.cells #[.int .i64 kN, .int .i64 nN, .int .u32 e] 41 (0, 0)) ∧ Hid (AppS shFr (w.heap.size + 1) 47 wr o (dnsL kN nN e (GL.take a))) ∧ Hid (Own shFlag 0 wr GL (.slice A1 N cap1) F1) ∧ Hid (∀ q, o.ownBlock = some q → q ∉ F1) ∧ Below w.heap.size w wr ∧ w1.heap.size ≤ wr.heap.size) (fun _ i _ => N - (intOf i).toNat)
  case atStart =>
    have hb1 := HB1.out
    have hk0 := K0.out
    exact ⟨0, Nat.zero_le _, rfl, (by repeat (first | with_reducible assumption | with_reducible refine pls_block _ _ ?_ | with_reducible apply blkset2 | with_reducible apply blkset1 | ((with_reducible refine blksetN ?_ ?_ _); (focus (simp <;> omega))) | with_reducible exact blknew _ _ | ((with_reducible refine blknew' _ _ _ ?_); (simp <;> omega)) | with_reducible refine blkal ?_ _)), Lib.hid (AppS.new shFr (blknew _ _) (by omega)), Lib.hid (HO1.out.below (Nat.zero_le _) (by (try with_reducible refine bsz ?_); repeat (first | with_reducible exact Below.refl _ _ | ((with_reducible refine bpre ?_); (try simp only [Array.append_assoc]); repeat (first | with_reducible exact Pre.refl _ | with_reducible exact Pre.base _ _ | with_reducible refine Pre.cons _ ?_)) | with_reducible assumption | ((with_reducible refine bsetr ?_); rfl) | with_reducible refine Below.setCell ?_ (by simp <;> omega) _ | with_reducible refine bpl ?_ _ _ | with_reducible refine bal ?_ _ | with_reducible refine bdrew1 ?_ | with_reducible refine bdrew ?_ _))), Lib.hid (fun q hq hm => by
      have : q = w1.heap.size := by simpa [Value.ownBlock] using hq.symm
      have := (hF1.out q hm).2
      omega), (by (try with_reducible refine bsz ?_); repeat (first | with_reducible exact Below.refl _ _ | ((with_reducible refine bpre ?_); (try simp only [Array.append_assoc]); repeat (first | with_reducible exact Pre.refl _ | with_reducible exact Pre.base _ _ | with_reducible refine Pre.cons _ ?_)) | with_reducible assumption | ((with_reducible refine bsetr ?_); rfl) | with_reducible refine Below.setCell ?_ (by simp <;> omega) _ | with_reducible refine bpl ?_ _ _ | with_reducible refine bal ?_ _ | with_reducible refine bdrew1 ?_ | with_reducible refine bdrew ?_ _)), by simp⟩
  case round =>
    obtain ⟨a, ha, rfl, b0, hA, hG, hQ, hB, hzz⟩ := hrel
    obtain ⟨q0, q1, q2⟩ := blkc3 b0
    have y0 := blklt b0
    have B0 := Lib.hid b0
    clear b0
    by_cases hlt : a < N
    · have hk8 : (a : Int) < (N : Int) := by omega
      obtain ⟨_, _, hv, _, _, hoks, hel⟩ := lstFlag hG.out.lst
      injection hv with e1 e2 e3
      obtain ⟨bl, off, e4, hel⟩ := hel (by omega)
      rw [← e1] at e4
      subst e4
      obtain ⟨d, hd, hok, c0, c1, c2⟩ := hel a (by omega)
      have zb := World.block_lt_of_cell? _ _ c0
      simp only at zb
      obtain ⟨m1, m2, m3, m4⟩ := hmem.out d (List.mem_of_getElem? hd)
      have HD := Lib.hid hd
      have hdk : d.2.1.toNat = sN := by rw [m2]; rfl
      have hDok := Lib.hid (dns_ok (k := kN) (n := nN) (e := e) (f := d) hk3 hn5 (by omega) (by omega)).1
      have HDN : Hid (∀ w, Calls Try.prog 50 #[.agg #[.int .i64 d.1, .int .i64 d.2.1, .int .u32 d.2.2], .agg #[.int .i64 kN, .int .i64 nN, .int .u32 e]] w fun r w' => r = .returned (.agg #[.int .i64 (dns kN nN e d).1, .int .i64 (dns kN nN e d).2]) ∧ Below w.heap.size w w') := Lib.hid fun w => l04Density_any w kN nN e d hk3 (by omega) hn5 hoe.out m3 m4 m1 (by omega)
      have hnx : Hid (dnsL kN nN e (GL.take (a + 1)) = dnsL kN nN e (GL.take a) ++ [dns kN nN e d]) := Lib.hid (by unfold dnsL; rw [List.take_add_one, HD.out, List.map_append]; rfl)
      have hml : Hid (List.length (α := shFr.T) (dnsL kN nN e (GL.take a)) = a) := Lib.hid ((List.length_map _).trans (take_len (by rw [hN.out]; exact ha)))
      clear hel hoks hd hok e1 e2 e3 m1 m2 m3 m4 hdk
      obtain ⟨W0, rfl⟩ : ∃ x, x = wr := ⟨_, rfl⟩
      obtain ⟨D, hDD⟩ : ∃ D : Int × Int, Hid (dns kN nN e d = D) := ⟨_, Lib.hid rfl⟩
      rw [hDD.out] at hDok hnx HDN
      have HGE := Lib.hid hA.out.ge
      have hblF : Hid (bl ∈ F1) := Lib.hid (own_blF hG.out (by have := hN.out; show 0 < List.length (α := Flg) GL; omega))
      have hblr := hF1.out bl hblF.out
      go_wp2_with fail
      (refine wp_region_held_drew (S := (fun w' => w'.cell? ⟨bl, off + a * 3, none⟩ = some (.int .i64 d.1) ∧ w'.cell? ⟨bl, off + a * 3 + 1, none⟩ = some (.int .i64 d.2.1) ∧ w'.cell? ⟨bl, off + a * 3 + 2, none⟩ = some (.int .u32 d.2.2) ∧ w'.cell? ⟨w.heap.size, 0, none⟩ = some (.int .i64 kN) ∧ w'.cell? ⟨w.heap.size, 1, none⟩ = some (.int .i64 nN) ∧ w'.cell? ⟨w.heap.size, 2, none⟩ = some (.int .u32 e))) (by kernel_rfl) ?_ (fun hHeld => ?_); (focus (first | (simp [*, go_sem]; done) | fail)); refine rg_take 0 (some 42) (v := ?_) rfl (by kernel_rfl) (by kernel_rfl) (by kernel_rfl) (by kernel_rfl) (fun _ _ _ h => h) (Or.inl ⟨by kernel_rfl, ?_⟩) (by assumption) ?_; rotate_left; (focus (intro w' hSw; (try dsimp only at hSw); go_simp; (try with_reducible rfl))); (try simp only [Act.put, List.setIfInBounds_toArray, List.set_cons_zero, List.set_cons_succ]); refine rg_take 1 (some 43) (v := ?_) rfl (by kernel_rfl) (by kernel_rfl) (by kernel_rfl) (by kernel_rfl) (fun _ _ _ h => h) (Or.inl ⟨by kernel_rfl, ?_⟩) (by assumption) ?_; rotate_left; (focus (intro w' hSw; (try dsimp only at hSw); go_simp; (try with_reducible rfl))); (try simp only [Act.put, List.setIfInBounds_toArray, List.set_cons_zero, List.set_cons_succ]); refine rg_take 2 (some 44) (v := ?_) rfl (by kernel_rfl) (by kernel_rfl) (by kernel_rfl) (by kernel_rfl) (fun _ _ _ h => h) (Or.inl ⟨by kernel_rfl, ?_⟩) (by assumption) ?_; rotate_left; (focus (intro w' hSw; (try dsimp only at hSw); go_simp; (try with_reducible rfl))); (try simp only [Act.put, List.setIfInBounds_toArray, List.set_cons_zero, List.set_cons_succ]); refine rg_take 3 (some 45) (v := ?_) rfl (by kernel_rfl) (by kernel_rfl) (by kernel_rfl) (by kernel_rfl) (fun _ _ _ h => h) (Or.inl ⟨by kernel_rfl, ?_⟩) (by assumption) ?_; rotate_left; (focus (intro w' hSw; (try dsimp only at hSw); go_simp; (try with_reducible rfl))); (try simp only [Act.put, List.setIfInBounds_toArray, List.set_cons_zero, List.set_cons_succ]); refine rg_take 4 (some 46) (v := ?_) rfl (by kernel_rfl) (by kernel_rfl) (by kernel_rfl) (by kernel_rfl) (fun _ _ _ h => h) (Or.inl ⟨by kernel_rfl, ?_⟩) (by assumption) ?_; rotate_left; (focus (intro w' hSw; (try dsimp only at hSw); go_simp; (try with_reducible rfl))); (try simp only [Act.put, List.setIfInBounds_toArray, List.set_cons_zero, List.set_cons_succ]); refine rg_take 5 (some 47) (v := ?_) rfl (by kernel_rfl) (by kernel_rfl) (by kernel_rfl) (by kernel_rfl) (fun _ _ _ h => h) (Or.inl ⟨by kernel_rfl, ?_⟩) (by assumption) ?_; rotate_left; (focus (intro w' hSw; (try dsimp only at hSw); go_simp; (try with_reducible rfl))); (try simp only [Act.put, List.setIfInBounds_toArray, List.set_cons_zero, List.set_cons_succ]); refine wpAnyH_ready (rs := [6]) (by kernel_rfl) (by simp) ?_; refine AllReadyH.cons rfl (fun K hK => ?_) AllReadyH.nil; go_simp; (go_at_call 50; refine Calls.mono (HDN.out _) ?_; rintro e0 w3 ⟨rfl, hb⟩; have n0 := bkeep hb hHeld.1; have n1 := bkeep hb hHeld.2.1; have n2 := bkeep hb hHeld.2.2.1; have n3 := bkeep hb hHeld.2.2.2.1; have n4 := bkeep hb hHeld.2.2.2.2.1; have n5 := bkeep hb hHeld.2.2.2.2.2; have hW3 : Below W0.heap.size W0 w3 := Below.trans (bdrew1 (Below.refl _ _)) (hb.mono (by simp)); have HW3 := Lib.hid hW3; have hz3 := hW3.size; have hz8 : bl < w3.heap.size := (by omega); have hz9 : w.heap.size < w3.heap.size := (by omega); clear hb hW3); go_wp2_with fail; refine hK.out _ _ ?_ (fun hHeld => ?_); (focus (first | (simp [*, go_sem]; done) | fail)); clear hK K; (try simp only [Act.put, List.setIfInBounds_toArray, List.set_cons_zero, List.set_cons_succ]); refine wpAnyH_ready (rs := [7]) (by kernel_rfl) (by simp) ?_; refine AllReadyH.cons rfl (fun K hK => ?_) AllReadyH.nil; (try go_simp); refine hK.out _ _ ?_ (fun hHeld => ?_); (focus (first | (simp [*, go_sem]; done) | fail)); clear hK K; (try simp only [Act.put, List.setIfInBounds_toArray, List.set_cons_zero, List.set_cons_succ]); refine wpAnyH_ready (rs := [8]) (by kernel_rfl) (by simp) ?_; refine AllReadyH.cons rfl (fun K hK => ?_) AllReadyH.nil; (obtain ⟨L, hown0, hnext⟩ := AppS.flat flatFr ((hA.out.below HW3.out).below (bal (Below.refl _ _) (.cells #[.int .i64 D.1, .int .i64 D.2] 47))); rw [hml.out] at hown0 hnext; refine step_append_lies _ rfl (.tmp 42) (.tmp 49) 37 rfl (w.heap.size + 1) 47 i1 zv1 2 16 Try.underlying37 I1.out Z1.out hsz1 hby1 hl1 (by decide) u8 a L rfl hown0 ⟨w3.heap.size, 0, none⟩ 1 1 [.int .i64 D.1, .int .i64 D.2] rfl rfl (World.news_of_block (blknew _ _)) (by simp [Value.oneCell']) (by decide) (by unfold maxLen; omega) (by omega) (by simp; omega) _ rfl ?_; intro g1 cap2 w2 hown hgrow hat hlt3; have hN2 := Lib.hid (hnext D hDok.out g1 cap2 w2 hown hgrow hat); have hW4 : Hid (Below W0.heap.size W0 (w3.alloc (.cells #[.int .i64 D.1, .int .i64 D.2] 47))) := Lib.hid (bal HW3.out _); have hblk : w2.heap[bl]? = w3.heap[bl]? := (hgrow.block bl (by simp; omega) (fun e => hQ.out _ e.symm hblF.out)).trans (Below.heap_alloc _ _ _ hz8); have hblw : w2.heap[w.heap.size]? = w3.heap[w.heap.size]? := (hgrow.block w.heap.size (by simp; omega) (fun e => by have := (HGE.out _ e.symm).1; omega)).trans (Below.heap_alloc _ _ _ hz9); have r0 := (World.cell?_of_block hblk).trans n0; have r1 := (World.cell?_of_block hblk).trans n1; have r2 := (World.cell?_of_block hblk).trans n2; have r3 := (World.cell?_of_block hblw).trans n3; have r4 := (World.cell?_of_block hblw).trans n4; have r5 := (World.cell?_of_block hblw).trans n5; have hgrow := Lib.hid hgrow; have hat := Lib.hid hat; clear hown0 hnext hown hblk hblw); refine hK.out _ _ ?_ (fun hHeld => ?_); (focus (first | (simp [*, go_sem]; done) | fail)); clear hK K; (try simp only [Act.put, List.setIfInBounds_toArray, List.set_cons_zero, List.set_cons_succ]); refine rg_take 9 (some 8) (v := ?_) rfl (by kernel_rfl) (by kernel_rfl) (by kernel_rfl) (by kernel_rfl) (fun _ _ _ h => h) (Or.inl ⟨by kernel_rfl, ?_⟩) (by assumption) ?_; rotate_left; (focus (intro w' hSw; (try dsimp only at hSw); go_simp; (try with_reducible rfl))); (try simp only [Act.put, List.setIfInBounds_toArray, List.set_cons_zero, List.set_cons_succ]); refine wpAnyH_done (by kernel_rfl) ?_ _)
      clear hHeld
      go_wp2_with fail
      go_roundw
      case rel =>
        have hb2 := grown_below (B := w.heap.size + 1) hgrow.out (fun q hq => (HGE.out q hq).1) (by simp; omega)
        have hW2 := hW4.out
        refine ⟨a + 1, by omega, by go_num, bblk hb2 (by omega) (bblk hW2 y0 B0.out), Lib.hid (by rw [hnx.out]; exact hN2.out), Lib.hid ((hG.out.below (Nat.le_refl _) hW2).grown hgrow.out hQ.out), Lib.hid fun q hq hm => ?_, (bthen hB hW2).trans (hb2.mono (by omega)), by have := hb2.size; simp at this; omega⟩
        have hqg : q = g1 := by simpa [Value.ownBlock] using hq.symm
        subst hqg
        rcases hat.out with hat | hat
        · exact hQ.out q hat hm
        · have := (hF1.out q hm).2
          simp at hat
          omega
      case measure => simp [intOf]; omega
    · have ee : a = N := by omega
      subst ee
      obtain ⟨A2, cap2, F2, rfl, hO2⟩ := hA.out.own
      have hfull : Hid (dnsL kN nN e (GL.take a) = fdL sN kN nN e) := Lib.hid (by rw [hl.out, show GL.take a = GL from by rw [← hN.out]; exact List.take_length])
      have hfl : Hid (List.length (α := shFr.T) (dnsL kN nN e (GL.take a)) = a) := Lib.hid ((List.length_map _).trans (take_len (by rw [hN.out]; exact Nat.le_refl _)))
      rw [hfl.out] at hO2 ⊢
      have HO2 := Lib.hid (hO2.below (B' := w.heap.size) (by omega) (Below.refl _ _))
      clear hO2
      go_wp2_with fail
      refine bodyPost_ret (v := .tuple #[.slice A2 a cap2, .int .i64 0]) (by simp [results, Try.results15, go_sem]) rfl ?_
      rw [hc.out, ← hfull.out]
      have hfl2 : (dnsL kN nN e (GL.take a)).length = a := hfl.out
      exact ⟨A2, cap2, F2, by rw [hfl2], by rw [hfl2]; exact HO2.out, hB⟩
end Go.Proofs.Ytfdobpeekipafaa
