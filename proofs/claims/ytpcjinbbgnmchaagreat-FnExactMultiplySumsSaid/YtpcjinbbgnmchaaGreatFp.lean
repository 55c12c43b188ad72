/- Parts and free graphs, impl: isLeast, hasPart, free. -/
import Derived.Test.YtpcjinbbgnmchaaGreatPp
import Derived.Test.YtpcjinbbgnmchaaGreatAl
import Derived.Test.YtpcjinbbgnmchaaGreatIx
namespace Go.Proofs.YtpcjinbbgnmchaaGreat
open Go.ChangeShapes Go.WideShapes Go.RowKit
set_option linter.unusedVariables false
set_option linter.unusedSimpArgs false
attribute [local irreducible] Calls
theorem isLeast1 (W : World) (bg n : Nat) (e : Int) (L : List Int) (v : Value) (hL : VL L) (hlen : L.length = n) (hg : W.heap[bg]? = some (.cells #[.int .i64 n, .int .u32 e] 31 (0, 0))) (hv : Lst (shI .i64) W L v) :
    Calls Tryz.prog 230 #[v, .pointer (some ⟨bg, 0, none⟩)] W fun e0 W' => e0 = .returned (.bool (decide (onE e L < e))) ∧ Below W.heap.size W W' := by
  obtain ⟨s0, s1, f0, f1⟩ := blk2 hg
  have z0 := blklt hg
  have HV := Lib.hid hv
  have HL := Lib.hid hL
  have HN := Lib.hid hlen
  clear hL hlen hg hv
  go_enter Tryz.func230, Tryz.ntmps230
  go_wp2_with fail
  (refine wp_region_held_drew (S := (fun w' => w'.cell? ⟨bg, 0, none⟩ = some (.int .i64 n) ∧ w'.cell? ⟨bg, 1, none⟩ = some (.int .u32 e))) (by kernel_rfl) ?_ (fun hHeld => ?_); (focus (simp [*, go_sem])); refine rt 0 (some 4) (v := ?_) rfl rfl ?_ ?_; rotate_left; (focus (intro w' hSw; (try dsimp only at hSw); go_simp; (try with_reducible rfl))); (try simp only [Act.put, nA, nB, nC]); refine rt 1 (some 5) (v := ?_) rfl rfl ?_ ?_; rotate_left; (focus (intro w' hSw; (try dsimp only at hSw); go_simp; (try with_reducible rfl))); (try simp only [Act.put, nA, nB, nC]); refine rt 4 (some 8) (v := ?_) rfl rfl ?_ ?_; rotate_left; (focus (intro w' hSw; (try dsimp only at hSw); go_simp; (try with_reducible rfl))); (try simp only [Act.put, nA, nB, nC]); refine rt 5 (some 9) (v := ?_) rfl rfl ?_ ?_; rotate_left; (focus (intro w' hSw; (try dsimp only at hSw); go_simp; (try with_reducible rfl))); (try simp only [Act.put, nA, nB, nC]); refine wpAnyH_ready (rs := [2]) (by kernel_rfl) (by simp) ?_; refine AllReadyH.cons rfl (fun K hK => ?_) AllReadyH.nil; go_simp; (go_at_call 169; refine Calls.mono (on_any _ n e L v (HV.out.below belA) HL.out) ?_; rw [HN.out]; rintro e0 w1 ⟨rfl, hb⟩; obtain ⟨X8, m8, rfl⟩ := plsOf hb; clear hb); go_wp2_with fail; refine hK.out _ _ ?_ (fun hHeld => ?_); (focus (simp [*, go_sem])); clear hK K; (try simp only [Act.put, nA, nB, nC]); refine rt 3 (some 7) (v := ?_) rfl rfl ?_ ?_; rotate_left; (focus (intro w' hSw; (try dsimp only at hSw); go_simp; (try with_reducible rfl))); (try simp only [Act.put, nA, nB, nC]); refine rt 6 (some 10) (v := ?_) rfl rfl ?_ ?_; rotate_left; (focus (intro w' hSw; (try dsimp only at hSw); go_simp; (try with_reducible rfl))); (try simp only [Act.put, nA, nB, nC]); refine rt 7 (some 3) (v := ?_) rfl rfl ?_ ?_; rotate_left; (focus (intro w' hSw; (try dsimp only at hSw); go_simp; (try with_reducible rfl))); (try simp only [Act.put, nA, nB, nC]); refine wpAnyH_done (by kernel_rfl) ?_ _)
  clear hHeld
  go_wp2_with fail
  exact bodyPost_ret (v := .bool (decide (onE e L < e))) (by simp [results, Tryz.results230, go_sem]) rfl ⟨rfl, belA⟩
theorem isLeast_any (w : World) (n q : Nat) (e : Int) (hn : n ≤ 5) (hq : q ≤ n) (h0 : 0 ≤ e) (he : e < limN n) :
    Calls Tryz.prog 206 #[.agg #[.int .i64 n, .int .u32 e], .int .i64 q] w fun e0 w' => e0 = .returned (.bool (leastI n q e == e)) ∧ Below w.heap.size w w' := by
  have eg : ∀ args w, (callFunc 230 args).run Tryz.prog w = .ok (.enter 230 args) w := enters_of Tryz.func230 (by kernel_rfl) rfl
  have HH : ∀ bg : Nat, Hands 230 #[.pointer (some ⟨bg, 0, none⟩)] 0 [] (fun (_ : Unit) (W : World) => W.heap[bg]? = some (.cells #[.int .i64 n, .int .u32 e] 31 (0, 0))) (fun L => decide (onE e L < e)) (fun u _ => u) (fun L => VL L ∧ L.length = n) := fun bg =>
    { enters := eg
      keep := fun s W W' h hb => (hb.block _ (blklt h)).trans h
      call := fun s W L v h hI hB hv => (isLeast1 W bg n e L v h.1 h.2 hI hv).mono fun e0 W' ⟨h1, h2⟩ => ⟨h1, (h2.block _ (blklt hI)).trans hI, Chg.of h2 _⟩
      lt := by simp }
  have HHH := Lib.hid HH
  clear HH
  have HO := Lib.hid (lsts_ok hn hq)
  have hres : Hid ((!(handed (fun L => decide (onE e L < e)) (fun (u : Unit) _ => u) (lsts n (n - q) (seqI q)) ()).1) = (leastI n q e == e)) := Lib.hid (by rw [handed_any]; exact isLeast_eq hn hq h0 he)
  go_enter Tryz.func206, Tryz.ntmps206
  go_wp2_with (first | (go_at_call 198; refine Calls.mono (orders_any (HHH.out w.heap.size) n q e (by omega) hq _ () (Nat.zero_le _) blkA HO.out) ?_; rintro e0 w1 ⟨rfl, _, hC⟩; have hb := hC.below (B := _) (by simp) (Nat.le_refl _); obtain ⟨X5, m5, rfl⟩ := plsOf hb; clear hb hC))
  exact bodyPost_ret (v := .bool (!(handed (fun L => decide (onE e L < e)) (fun (u : Unit) _ => u) (lsts n (n - q) (seqI q)) ()).1)) (by simp [results, Tryz.results206, go_sem]) rfl ⟨by rw [hres.out], belA⟩
theorem hasPart1 (W : World) (bh bg n m : Nat) (e f : Int) (L : List Int) (v : Value) (hL : VL L) (hh : W.heap[bh]? = some (.cells #[.int .i64 m, .int .u32 f] 31 (0, 0))) (hg : W.heap[bg]? = some (.cells #[.int .i64 n, .int .u32 e] 31 (0, 0))) (hv : Lst (shI .i64) W L v) :
    Calls Tryz.prog 231 #[v, .pointer (some ⟨bh, 0, none⟩), .pointer (some ⟨bg, 0, none⟩)] W fun e0 W' => e0 = .returned (.bool (bits .andNot .u32 f (onE e L) == 0)) ∧ Below W.heap.size W W' := by
  obtain ⟨s0, s1, f0, f1⟩ := blk2 hg
  obtain ⟨t0, t1, _, _⟩ := blk2 hh
  have z0 := blklt hg
  have z1 := blklt hh
  have HV := Lib.hid hv
  have HL := Lib.hid hL
  clear hL hg hh hv
  go_enter Tryz.func231, Tryz.ntmps231
  go_wp2_with fail
  (refine wp_region_held_drew (S := (fun w' => w'.cell? ⟨bh, 0, none⟩ = some (.int .i64 m) ∧ w'.cell? ⟨bh, 1, none⟩ = some (.int .u32 f) ∧ w'.cell? ⟨bg, 0, none⟩ = some (.int .i64 n) ∧ w'.cell? ⟨bg, 1, none⟩ = some (.int .u32 e))) (by kernel_rfl) ?_ (fun hHeld => ?_); (focus (simp [*, go_sem])); refine rt 0 (some 5) (v := ?_) rfl rfl ?_ ?_; rotate_left; (focus (intro w' hSw; (try dsimp only at hSw); go_simp; (try with_reducible rfl))); (try simp only [Act.put, nA, nB, nC]); refine rt 1 (some 6) (v := ?_) rfl rfl ?_ ?_; rotate_left; (focus (intro w' hSw; (try dsimp only at hSw); go_simp; (try with_reducible rfl))); (try simp only [Act.put, nA, nB, nC]); refine rt 2 (some 7) (v := ?_) rfl rfl ?_ ?_; rotate_left; (focus (intro w' hSw; (try dsimp only at hSw); go_simp; (try with_reducible rfl))); (try simp only [Act.put, nA, nB, nC]); refine rt 3 (some 8) (v := ?_) rfl rfl ?_ ?_; rotate_left; (focus (intro w' hSw; (try dsimp only at hSw); go_simp; (try with_reducible rfl))); (try simp only [Act.put, nA, nB, nC]); refine wpAnyH_ready (rs := [4]) (by kernel_rfl) (by simp) ?_; refine AllReadyH.cons rfl (fun K hK => ?_) AllReadyH.nil; go_simp; (go_at_call 169; refine Calls.mono (on_any _ n e L v (HV.out.below belA) HL.out) ?_; rintro e0 w1 ⟨rfl, hb⟩; obtain ⟨X8, m8, rfl⟩ := plsOf hb; clear hb); go_wp2_with fail; refine hK.out _ _ ?_ (fun hHeld => ?_); (focus (simp [*, go_sem])); clear hK K; (try simp only [Act.put, nA, nB, nC]); refine rt 5 (some 10) (v := ?_) rfl rfl ?_ ?_; rotate_left; (focus (intro w' hSw; (try dsimp only at hSw); go_simp; (try with_reducible rfl))); (try simp only [Act.put, nA, nB, nC]); refine rt 6 (some 11) (v := ?_) rfl rfl ?_ ?_; rotate_left; (focus (intro w' hSw; (try dsimp only at hSw); go_simp; (try with_reducible rfl))); (try simp only [Act.put, nA, nB, nC]); refine rt 7 (some 12) (v := ?_) rfl rfl ?_ ?_; rotate_left; (focus (intro w' hSw; (try dsimp only at hSw); go_simp; (try with_reducible rfl))); (try simp only [Act.put, nA, nB, nC]); refine rt 8 (some 4) (v := ?_) rfl rfl ?_ ?_; rotate_left; (focus (intro w' hSw; (try dsimp only at hSw); go_simp; (try with_reducible rfl))); (try simp only [Act.put, nA, nB, nC]); refine wpAnyH_done (by kernel_rfl) ?_ _)
  clear hHeld
  go_wp2_with fail
  exact bodyPost_ret (v := .bool (bits .andNot .u32 f (onE e L) == 0)) (by simp [results, Tryz.results231, go_sem]) rfl ⟨rfl, belA⟩
theorem arrs_ok {n m : Nat} (hn : n ≤ 5) (hm : m ≤ 5) : ∀ L ∈ arrs n m, VL L := by
  intro L hL
  by_cases h : m ≤ n
  · exact ((arrs_all hn h).2.2 L hL).1
  · rw [arrs_none hn hm (by omega)] at hL
    cases hL
theorem hasPart_any (w : World) (n m : Nat) (e f : Int) (hn : n ≤ 5) (hm : m ≤ 5) :
    Calls Tryz.prog 207 #[.agg #[.int .i64 n, .int .u32 e], .agg #[.int .i64 m, .int .u32 f]] w fun e0 w' => e0 = .returned (.bool (partB n e m f)) ∧ Below w.heap.size w w' := by
  have eg : ∀ args w, (callFunc 231 args).run Tryz.prog w = .ok (.enter 231 args) w := enters_of Tryz.func231 (by kernel_rfl) rfl
  have HH : ∀ bh bg : Nat, Hands 231 #[.pointer (some ⟨bh, 0, none⟩), .pointer (some ⟨bg, 0, none⟩)] 0 [] (fun (_ : Unit) (W : World) => W.heap[bh]? = some (.cells #[.int .i64 m, .int .u32 f] 31 (0, 0)) ∧ W.heap[bg]? = some (.cells #[.int .i64 n, .int .u32 e] 31 (0, 0))) (fun L => bits .andNot .u32 f (onE e L) == 0) (fun u _ => u) (fun L => VL L) := fun bh bg =>
    { enters := eg
      keep := fun s W W' h hb => ⟨(hb.block _ (blklt h.1)).trans h.1, (hb.block _ (blklt h.2)).trans h.2⟩
      call := fun s W L v h hI hB hv => (hasPart1 W bh bg n m e f L v h hI.1 hI.2 hv).mono fun e0 W' ⟨h1, h2⟩ => ⟨h1, ⟨(h2.block _ (blklt hI.1)).trans hI.1, (h2.block _ (blklt hI.2)).trans hI.2⟩, Chg.of h2 _⟩
      lt := by simp }
  have HHH := Lib.hid HH
  clear HH
  have HO : Hid (∀ L ∈ lsts n m [], VL L) := Lib.hid (arrs_ok hn hm)
  have hres : Hid ((handed (fun L => bits .andNot .u32 f (onE e L) == 0) (fun (u : Unit) _ => u) (lsts n m []) ()).1 = partB n e m f) := Lib.hid (by rw [handed_any]; rfl)
  go_enter Tryz.func207, Tryz.ntmps207
  go_wp2_with (first | (go_at_call 190; refine Calls.mono (listed_any (HHH.out (w.heap.size + 1) w.heap.size) n m (by omega) (by omega) m [] _ (.slice none 0 0) () (by simp) ⟨World.ownsRow_nil _ _ _ _, by simp⟩ (Nat.zero_le _) ⟨blkA, blkA⟩ HO.out) ?_; rintro e0 w1 ⟨rfl, _, hC⟩; have hb := hC.below (B := _) (by simp) (Nat.le_refl _); obtain ⟨X5, m5, rfl⟩ := plsOf hb; clear hb hC))
  exact bodyPost_ret (v := .bool (handed (fun L => bits .andNot .u32 f (onE e L) == 0) (fun (u : Unit) _ => u) (lsts n m []) ()).1) (by simp [results, Tryz.results207, go_sem]) rfl ⟨by rw [hres.out], belA⟩
theorem free_any (w : World) (n : Nat) (e : Int) (gs : List (Int × Int)) (v : Value) (h : Lst shGr w gs v) (hn : n ≤ 5) (hl : gs.length ≤ 1048576) (hg : ∀ d ∈ gs, 0 ≤ d.1 ∧ d.1 ≤ 5) :
    Calls Tryz.prog 164 #[.agg #[.int .i64 n, .int .u32 e], v] w fun e0 w' => e0 = .returned (.bool (freeB n e gs)) ∧ Below w.heap.size w w' := by
  have eg : ∀ args w, (callFunc 207 args).run Tryz.prog w = .ok (.enter 207 args) w := enters_of Tryz.func207 (by kernel_rfl) rfl
  have hf : Hid (∀ (W : World) (d : Int × Int), d ∈ gs → Calls Tryz.prog 207 #[.agg #[.int .i64 n, .int .u32 e], .agg #[.int .i64 d.1, .int .u32 d.2]] W fun e0 W' => e0 = .returned (.bool (partB n e d.1.toNat d.2)) ∧ Below W.heap.size W W') := Lib.hid fun W d hd => by
    have h1 := hg d hd
    have := hasPart_any W n d.1.toNat e d.2 hn (by omega)
    rwa [show ((d.1.toNat : Nat) : Int) = d.1 by omega] at this
  obtain ⟨A, cap, rfl, _, _⟩ := formGraph h
  have H := Lib.hid h
  clear h hg
  go_enter Tryz.func164, Tryz.ntmps164
  go_wp2_with (first | (go_at_call 180; refine Calls.mono (hasGraphB_any _ gs _ 207 (.agg #[.int .i64 n, .int .u32 e]) (fun h => partB n e h.1.toNat h.2) (H.out.below belA) (by omega) eg (fun W d _ hd => hf.out W d hd)) ?_; rintro e w1 ⟨rfl, hb⟩; obtain ⟨X, m, rfl⟩ := plsOf hb; clear hb))
  exact bodyPost_ret (v := .bool (!anyB (fun h => partB n e h.1.toNat h.2) gs)) (by simp [results, Tryz.results164, go_sem]) rfl ⟨rfl, belA⟩
end Go.Proofs.YtpcjinbbgnmchaaGreat
