/- The product of two sums in a flag: impl.MultiplySums$1. -/
import Derived.Test.YtpcjinbbgnmchaaGreatPw
namespace Go.Proofs.YtpcjinbbgnmchaaGreat
open Go.ChangeShapes Go.WideShapes Go.RowKit
set_option linter.unusedVariables false
set_option linter.unusedSimpArgs false
attribute [local irreducible] Calls
/-- What stays while the products are added. -/
def MI (b : Nat) (w : World) (g : Bool) (q xb : Nat) (d : Int × Int) (h : Flg) (x : Trm) (G : Bool) (P : World) : Prop :=
  Fl b 0 w (g || G) P ∧ P.heap[q]? = some (.cells #[.int .i64 d.1, .int .i64 d.2] 53 (0, 0)) ∧ P.heap[w.heap.size]? = some (.cells #[.int .i64 h.1, .int .i64 h.2.1, .int .u32 h.2.2] 81 (0, 0)) ∧ P.heap[w.heap.size + 1]? = some (.cells #[.int .i64 0, .int .i64 0] 53 (0, 0)) ∧ P.heap[xb]? = some (.cells #[.int .i64 x.1.1, .int .i64 x.1.2.1, .int .u32 x.1.2.2, .int .i64 x.2.1, .int .i64 x.2.2] 84 (0, 0))
section
variable {b : Nat} {w : World} {g : Bool} {q xb : Nat} {d : Int × Int} {h : Flg} {x : Trm} {G : Bool} {P P' : World}
theorem MI.below (hm : MI b w g q xb d h x G P) (hb : Below P.heap.size P P') : MI b w g q xb d h x G P' :=
  ⟨hm.1.below hb, bblk hb (blklt hm.2.1) hm.2.1, bblk hb (blklt hm.2.2.1) hm.2.2.1, bblk hb (blklt hm.2.2.2.1) hm.2.2.2.1, bblk hb (blklt hm.2.2.2.2) hm.2.2.2.2⟩
theorem MI.lt (hm : MI b w g q xb d h x G P) (hb : b < w.heap.size) : b < P.heap.size := Nat.lt_of_lt_of_le hb hm.1.size
theorem MI.cell {g0 : Bool} (hm : MI b w g q xb d h x G P) (h0 : w.cell? ⟨b, 0, none⟩ = some (.bool g0)) : P.cell? ⟨b, 0, none⟩ = some (.bool (g || G)) := hm.1.flag h0
theorem MI.froz (hm : MI b w g q xb d h x G P) (hb : b < w.heap.size) (h0 : w.frozen? ⟨b, 0, none⟩ = false) : P.frozen? ⟨b, 0, none⟩ = false := by rw [hm.1.frozen (a := ⟨b, 0, none⟩) hb]; exact h0
theorem MI.fl {z : Bool} (hm : MI b w g q xb d h x G P) (hb : Fl b 0 P ((g || G) || z) P') (h1 : q ≠ b) (h2 : w.heap.size ≠ b) (h3 : w.heap.size + 1 ≠ b) (h4 : xb ≠ b) : MI b w g q xb d h x (G || z) P' :=
  ⟨by have := hm.1.trans hb; rw [Bool.or_assoc] at this; exact this, fl_blk hb hm.2.1 h1, fl_blk hb hm.2.2.1 h2, fl_blk hb hm.2.2.2.1 h3, fl_blk hb hm.2.2.2.2 h4⟩
end
set_option maxHeartbeats 4000000 in
theorem mult1_any (w : World) (b ab bb : Nat) (g : Bool) (tn te s tn' te' s' : Int) (T U : List Trm) (v u : Value) (h : Flg) (J : Trm → Trm → Int × Int) (hab : w.heap[ab]? = some (.cells #[.int .i64 tn, .int .u32 te, .int .i64 s, v] 34 (0, 0))) (hbb : w.heap[bb]? = some (.cells #[.int .i64 tn', .int .u32 te', .int .i64 s', u] 34 (0, 0)))
    (hT : Lst shTerm w T v) (hU : Lst shTerm w U u) (hl : T.length ≤ 1000) (hl' : U.length ≤ 1000) (hin : ∀ x ∈ T, inF x.2 ∧ ∀ y ∈ U, inF y.2 ∧ inF (J x y))
    (hjn : ∀ x ∈ T, ∀ y ∈ U, ∀ W, Calls Tryz.prog 46 #[.agg #[.int .i64 x.1.1, .int .i64 x.1.2.1, .int .u32 x.1.2.2], .agg #[.int .i64 y.1.1, .int .i64 y.1.2.1, .int .u32 y.1.2.2], .agg #[.int .i64 h.1, .int .i64 h.2.1, .int .u32 h.2.2]] W fun r w' => r = .returned (.agg #[.int .i64 (J x y).1, .int .i64 (J x y).2]) ∧ Below W.heap.size W w')
    (hc : w.cell? ⟨b, 0, none⟩ = some (.bool g)) (hf : w.frozen? ⟨b, 0, none⟩ = false) :
    Calls Tryz.prog 42 #[.pointer (some ⟨b, 0, none⟩), .agg #[.int .i64 h.1, .int .i64 h.2.1, .int .u32 h.2.2], .pointer (some ⟨ab, 0, none⟩), .pointer (some ⟨bb, 0, none⟩)] w fun r w' => r = .returned (.agg #[.int .i64 (mpF J U T).1.1, .int .i64 (mpF J U T).1.2]) ∧ Fl b 0 w (g || (mpF J U T).2) w' := by
  have HIN := Lib.hid hin
  have HJN := Lib.hid hjn
  have hbw := World.block_lt_of_cell? _ _ hc
  simp only at hbw
  obtain ⟨A, cap, rfl, hcc, hm, hok, hel⟩ := lstTerm hT
  obtain ⟨A', cap', rfl, hcc', hm', hok', hel'⟩ := lstTerm hU
  unfold maxLen at hm hm'
  have HEL := Lib.hid hel
  have HEL' := Lib.hid hel'
  obtain ⟨N, hN⟩ : ∃ N, Hid (T.length = N) := ⟨_, Lib.hid rfl⟩
  obtain ⟨N', hN'⟩ : ∃ N, Hid (U.length = N) := ⟨_, Lib.hid rfl⟩
  rw [hN.out] at hl hcc HEL hab
  rw [hN'.out] at hl' hcc' HEL' hbb
  have HC0 := Lib.hid hc
  have HF0 := Lib.hid hf
  have KA := Lib.hid hab
  have KB := Lib.hid hbb
  obtain ⟨a0, a1, a2, a3⟩ := blkc4 hab
  obtain ⟨b0, b1, b2, b3⟩ := blkc4 hbb
  have ya := blklt hab
  have yb := blklt hbb
  clear hT hU hin hjn hok hok' hel hel' hc hf hab hbb a0 a1 a2 b0 b1 b2
  go_enter Tryz.func42, Tryz.ntmps42
  go_wp2_with fail
  refine Calls.mono (zero_any _) ?_
  rintro e0 w1 ⟨rfl, hb⟩
  have HB1 := Lib.hid (show Below w.heap.size w w1 from Below.trans belA (hb.mono (by simp <;> omega)))
  have k1 : w1.heap[w.heap.size]? = some (.cells #[.int .i64 h.1, .int .i64 h.2.1, .int .u32 h.2.2] 81 (0, 0)) := bblk hb (by simp <;> omega) blkA
  have k2 : w1.heap[w.heap.size + 1]? = some (.cells #[.int .i64 0, .int .i64 0] 53 (0, 0)) := bblk hb (by simp <;> omega) blkA
  replace a3 := bkeep HB1.out a3
  have y2 := blklt k2
  have K1 := Lib.hid k1
  have K2 := Lib.hid k2
  have hz1 := HB1.out.size
  obtain ⟨q, hq⟩ : ∃ q, w1.heap.size = q := ⟨_, rfl⟩
  clear hb k1 k2 b3
  have hqw : w.heap.size + 1 < q := by omega
  have hqb : q ≠ b := by omega
  have hwb : w.heap.size ≠ b := by omega
  have hwb1 : w.heap.size + 1 ≠ b := by omega
  have yaq : ab < q := by omega
  go_wp2_with fail
  go_loopw [16] (fun i wr => ∃ (a : Nat) (d : Int × Int) (G : Bool), a ≤ N ∧ i = .int .i64 a ∧ Hid (mpF J U (T.take a) = (d, G)) ∧ Hid (inF d) ∧ Hid (Fl b 0 w (g || G) wr) ∧ wr.heap[q]? = some (.cells #[.int .i64 d.1, .int .i64 d.2] 53 (0, 0)) ∧ wr.heap[w.heap.size]? = some (.cells #[.int .i64 h.1, .int .i64 h.2.1, .int .u32 h.2.2] 81 (0, 0)) ∧ wr.heap[w.heap.size + 1]? = some (.cells #[.int .i64 0, .int .i64 0] 53 (0, 0))) (fun i _ => N - (intOf i).toNat)
  case atStart =>
    have hb1 := HB1.out
    have k1 := K1.out
    have k2 := K2.out
    refine ⟨0, (0, 1), false, Nat.zero_le _, rfl, Lib.hid rfl, Lib.hid zero_in, Lib.hid ?_, blknew' _ _ _ hq.symm, blkA, blkA⟩
    rw [Bool.or_false]
    exact (Fl.start HC0.out).below belA
  case round =>
    obtain ⟨a, d0, G0, ha, rfl, hI, hd0, hFl, kq, kg, kr⟩ := hrel
    obtain ⟨W0, rfl⟩ : ∃ x, x = wr := ⟨_, rfl⟩
    have KQ := Lib.hid kq
    have KG := Lib.hid kg
    have KR := Lib.hid kr
    have yr := blklt kr
    have yq := blklt kq
    obtain ⟨r0, r1, rf0, rf1⟩ := blk2 kr
    obtain ⟨q0, q1⟩ := blkc2 kq
    have hzF := hFl.out.size
    have b3 := (blkc4 (fl_blk hFl.out KB.out (by intro e; have := KB.out; have h2 := HC0.out; subst e; simp [World.cell?, this] at h2))).2.2.2
    by_cases hlt : a < N
    · have hk8 : (a : Int) < (N : Int) := by omega
      obtain ⟨bl, off, rfl, hel⟩ := HEL.out (by omega)
      obtain ⟨x, hx, hxo, x0, x1, x2, x3, x4⟩ := hel a hlt
      replace x0 := hFl.out.keep HC0.out (by simp) x0
      replace x1 := hFl.out.keep HC0.out (by simp) x1
      replace x2 := hFl.out.keep HC0.out (by simp) x2
      replace x3 := hFl.out.keep HC0.out (by simp) x3
      replace x4 := hFl.out.keep HC0.out (by simp) x4
      have hxm := List.mem_of_getElem? hx
      have HXI := Lib.hid (HIN.out x hxm)
      have HX := Lib.hid (HXI.out.1)
      have HJX := Lib.hid (HJN.out x hxm)
      have hnx := Lib.hid (mpF_succ (J := J) (ys := U) hx)
      have hxb : W0.heap.size ≠ b := by omega
      obtain ⟨xb, hxbe⟩ : ∃ xb, W0.heap.size = xb := ⟨_, rfl⟩
      have ybx : bb < xb := by omega
      replace hxb : xb ≠ b := by omega
      clear kq kg kr hel hx hxo hxm r0 r1 rf0 rf1
      go_wp2_with fail
      go_loopw [23] (fun i wr => ∃ (c : Nat) (d : Int × Int) (G : Bool), c ≤ N' ∧ i = .int .i64 c ∧ Hid (mpR J x (U.take c) (d0, G0) = (d, G)) ∧ Hid (inF d) ∧ Hid (MI b w g q xb d h x G wr)) (fun i _ => N' - (intOf i).toNat)
      case atStart =>
        refine ⟨0, d0, G0, Nat.zero_le _, rfl, Lib.hid rfl, hd0, Lib.hid ⟨hFl.out.below belA, blkal KQ.out _, blkal KG.out _, blkal KR.out _, blknew' _ _ _ hxbe.symm⟩⟩
      case round =>
        obtain ⟨c, d, G, hcN, rfl, hJ, hd, hMI⟩ := hrel
        obtain ⟨V0, rfl⟩ : ∃ x, x = wr := ⟨_, rfl⟩
        obtain ⟨q0, q1⟩ := blkc2 hMI.out.2.1
        obtain ⟨g1, g2, g3⟩ := blkc3 hMI.out.2.2.1
        obtain ⟨t0, t1, t2, t3, t4⟩ := (blk5 hMI.out.2.2.2.2).1
        have yq := blklt hMI.out.2.1
        have yg := blklt hMI.out.2.2.1
        have yx := blklt hMI.out.2.2.2.2
        have hzV := hMI.out.1.size
        by_cases hlt2 : c < N'
        · have hk9 : (c : Int) < (N' : Int) := by omega
          obtain ⟨bl', off', rfl, hel2⟩ := HEL'.out (by omega)
          obtain ⟨y, hy, hyo, z0, z1, z2, z3, z4⟩ := hel2 c hlt2
          replace z0 := hMI.out.1.keep HC0.out (by simp) z0
          replace z1 := hMI.out.1.keep HC0.out (by simp) z1
          replace z2 := hMI.out.1.keep HC0.out (by simp) z2
          replace z3 := hMI.out.1.keep HC0.out (by simp) z3
          replace z4 := hMI.out.1.keep HC0.out (by simp) z4
          have hym := List.mem_of_getElem? hy
          obtain ⟨hy1, hy2⟩ := HXI.out.2 y hym
          have HY := Lib.hid hy1
          have HJ0 := Lib.hid (HJX.out y hym)
          obtain ⟨Jv, hJv⟩ : ∃ Jv, Hid (J x y = Jv) := ⟨_, Lib.hid rfl⟩
          obtain ⟨P1, hP⟩ : ∃ P1, Hid (kD (mulO x.2 y.2) = P1) := ⟨_, Lib.hid rfl⟩
          obtain ⟨M, hM⟩ : ∃ M, Hid (kD (mulO Jv P1) = M) := ⟨_, Lib.hid rfl⟩
          obtain ⟨d', hd'⟩ : ∃ d', Hid (kD (addO d M) = d') := ⟨_, Lib.hid rfl⟩
          have HJ := Lib.hid HJ0.out
          have HJI : Hid (inF Jv) := Lib.hid (by rw [← hJv.out]; exact hy2)
          rw [hJv.out] at HJ
          have HPI : Hid (inF P1) := Lib.hid (by rw [← hP.out]; exact kmulI HX.out HY.out)
          have HMI : Hid (inF M) := Lib.hid (by rw [← hM.out]; exact kmulI HJI.out HPI.out)
          have HDI : Hid (inF d') := Lib.hid (by rw [← hd'.out]; exact kaddI hd.out HMI.out)
          have hnx2 : Hid (mpR J x (U.take (c + 1)) (d0, G0) = (d', ((G || noB (mulO x.2 y.2)) || noB (mulO Jv P1)) || noB (addO d M))) := Lib.hid (by
            rw [mpR_succ hy, hJ.out]
            unfold mpS
            simp only
            rw [hJv.out, hP.out, hM.out, hd'.out])
          have HKP : Hid (∀ V w' : World, Below V.heap.size V w' → (fun w' => w'.cell? ⟨q, 0, none⟩ = some (.int .i64 d.1) ∧ w'.cell? ⟨q, 1, none⟩ = some (.int .i64 d.2) ∧ w'.cell? ⟨xb, 0, none⟩ = some (.int .i64 x.1.1) ∧ w'.cell? ⟨xb, 1, none⟩ = some (.int .i64 x.1.2.1) ∧ w'.cell? ⟨xb, 2, none⟩ = some (.int .u32 x.1.2.2) ∧ w'.cell? ⟨xb, 3, none⟩ = some (.int .i64 x.2.1) ∧ w'.cell? ⟨xb, 4, none⟩ = some (.int .i64 x.2.2) ∧ w'.cell? ⟨V0.heap.size, 0, none⟩ = some (.int .i64 y.1.1) ∧ w'.cell? ⟨V0.heap.size, 1, none⟩ = some (.int .i64 y.1.2.1) ∧ w'.cell? ⟨V0.heap.size, 2, none⟩ = some (.int .u32 y.1.2.2) ∧ w'.cell? ⟨V0.heap.size, 3, none⟩ = some (.int .i64 y.2.1) ∧ w'.cell? ⟨V0.heap.size, 4, none⟩ = some (.int .i64 y.2.2) ∧ w'.cell? ⟨w.heap.size, 0, none⟩ = some (.int .i64 h.1) ∧ w'.cell? ⟨w.heap.size, 1, none⟩ = some (.int .i64 h.2.1) ∧ w'.cell? ⟨w.heap.size, 2, none⟩ = some (.int .u32 h.2.2)) V → (fun w' => w'.cell? ⟨q, 0, none⟩ = some (.int .i64 d.1) ∧ w'.cell? ⟨q, 1, none⟩ = some (.int .i64 d.2) ∧ w'.cell? ⟨xb, 0, none⟩ = some (.int .i64 x.1.1) ∧ w'.cell? ⟨xb, 1, none⟩ = some (.int .i64 x.1.2.1) ∧ w'.cell? ⟨xb, 2, none⟩ = some (.int .u32 x.1.2.2) ∧ w'.cell? ⟨xb, 3, none⟩ = some (.int .i64 x.2.1) ∧ w'.cell? ⟨xb, 4, none⟩ = some (.int .i64 x.2.2) ∧ w'.cell? ⟨V0.heap.size, 0, none⟩ = some (.int .i64 y.1.1) ∧ w'.cell? ⟨V0.heap.size, 1, none⟩ = some (.int .i64 y.1.2.1) ∧ w'.cell? ⟨V0.heap.size, 2, none⟩ = some (.int .u32 y.1.2.2) ∧ w'.cell? ⟨V0.heap.size, 3, none⟩ = some (.int .i64 y.2.1) ∧ w'.cell? ⟨V0.heap.size, 4, none⟩ = some (.int .i64 y.2.2) ∧ w'.cell? ⟨w.heap.size, 0, none⟩ = some (.int .i64 h.1) ∧ w'.cell? ⟨w.heap.size, 1, none⟩ = some (.int .i64 h.2.1) ∧ w'.cell? ⟨w.heap.size, 2, none⟩ = some (.int .u32 h.2.2)) w') := Lib.hid fun V w' hb h => ⟨bkeep hb h.1, bkeep hb h.2.1, bkeep hb h.2.2.1, bkeep hb h.2.2.2.1, bkeep hb h.2.2.2.2.1, bkeep hb h.2.2.2.2.2.1, bkeep hb h.2.2.2.2.2.2.1, bkeep hb h.2.2.2.2.2.2.2.1, bkeep hb h.2.2.2.2.2.2.2.2.1, bkeep hb h.2.2.2.2.2.2.2.2.2.1, bkeep hb h.2.2.2.2.2.2.2.2.2.2.1, bkeep hb h.2.2.2.2.2.2.2.2.2.2.2.1, bkeep hb h.2.2.2.2.2.2.2.2.2.2.2.2.1, bkeep hb h.2.2.2.2.2.2.2.2.2.2.2.2.2.1, bkeep hb h.2.2.2.2.2.2.2.2.2.2.2.2.2.2⟩
          have HKF : Hid (∀ (V w' : World) (gg g2 : Bool), V.cell? ⟨b, 0, none⟩ = some (.bool gg) → Fl b 0 V g2 w' → (fun w' => w'.cell? ⟨q, 0, none⟩ = some (.int .i64 d.1) ∧ w'.cell? ⟨q, 1, none⟩ = some (.int .i64 d.2) ∧ w'.cell? ⟨xb, 0, none⟩ = some (.int .i64 x.1.1) ∧ w'.cell? ⟨xb, 1, none⟩ = some (.int .i64 x.1.2.1) ∧ w'.cell? ⟨xb, 2, none⟩ = some (.int .u32 x.1.2.2) ∧ w'.cell? ⟨xb, 3, none⟩ = some (.int .i64 x.2.1) ∧ w'.cell? ⟨xb, 4, none⟩ = some (.int .i64 x.2.2) ∧ w'.cell? ⟨V0.heap.size, 0, none⟩ = some (.int .i64 y.1.1) ∧ w'.cell? ⟨V0.heap.size, 1, none⟩ = some (.int .i64 y.1.2.1) ∧ w'.cell? ⟨V0.heap.size, 2, none⟩ = some (.int .u32 y.1.2.2) ∧ w'.cell? ⟨V0.heap.size, 3, none⟩ = some (.int .i64 y.2.1) ∧ w'.cell? ⟨V0.heap.size, 4, none⟩ = some (.int .i64 y.2.2) ∧ w'.cell? ⟨w.heap.size, 0, none⟩ = some (.int .i64 h.1) ∧ w'.cell? ⟨w.heap.size, 1, none⟩ = some (.int .i64 h.2.1) ∧ w'.cell? ⟨w.heap.size, 2, none⟩ = some (.int .u32 h.2.2)) V → (fun w' => w'.cell? ⟨q, 0, none⟩ = some (.int .i64 d.1) ∧ w'.cell? ⟨q, 1, none⟩ = some (.int .i64 d.2) ∧ w'.cell? ⟨xb, 0, none⟩ = some (.int .i64 x.1.1) ∧ w'.cell? ⟨xb, 1, none⟩ = some (.int .i64 x.1.2.1) ∧ w'.cell? ⟨xb, 2, none⟩ = some (.int .u32 x.1.2.2) ∧ w'.cell? ⟨xb, 3, none⟩ = some (.int .i64 x.2.1) ∧ w'.cell? ⟨xb, 4, none⟩ = some (.int .i64 x.2.2) ∧ w'.cell? ⟨V0.heap.size, 0, none⟩ = some (.int .i64 y.1.1) ∧ w'.cell? ⟨V0.heap.size, 1, none⟩ = some (.int .i64 y.1.2.1) ∧ w'.cell? ⟨V0.heap.size, 2, none⟩ = some (.int .u32 y.1.2.2) ∧ w'.cell? ⟨V0.heap.size, 3, none⟩ = some (.int .i64 y.2.1) ∧ w'.cell? ⟨V0.heap.size, 4, none⟩ = some (.int .i64 y.2.2) ∧ w'.cell? ⟨w.heap.size, 0, none⟩ = some (.int .i64 h.1) ∧ w'.cell? ⟨w.heap.size, 1, none⟩ = some (.int .i64 h.2.1) ∧ w'.cell? ⟨w.heap.size, 2, none⟩ = some (.int .u32 h.2.2)) w') := Lib.hid fun V w' gg g2 hc hf h => ⟨hf.keep hc (by simp) h.1, hf.keep hc (by simp) h.2.1, hf.keep hc (by simp) h.2.2.1, hf.keep hc (by simp) h.2.2.2.1, hf.keep hc (by simp) h.2.2.2.2.1, hf.keep hc (by simp) h.2.2.2.2.2.1, hf.keep hc (by simp) h.2.2.2.2.2.2.1, hf.keep hc (by simp) h.2.2.2.2.2.2.2.1, hf.keep hc (by simp) h.2.2.2.2.2.2.2.2.1, hf.keep hc (by simp) h.2.2.2.2.2.2.2.2.2.1, hf.keep hc (by simp) h.2.2.2.2.2.2.2.2.2.2.1, hf.keep hc (by simp) h.2.2.2.2.2.2.2.2.2.2.2.1, hf.keep hc (by simp) h.2.2.2.2.2.2.2.2.2.2.2.2.1, hf.keep hc (by simp) h.2.2.2.2.2.2.2.2.2.2.2.2.2.1, hf.keep hc (by simp) h.2.2.2.2.2.2.2.2.2.2.2.2.2.2⟩
          have HM : Hid (MI b w g q xb d h x G (V0.alloc (.cells #[.int .i64 y.1.1, .int .i64 y.1.2.1, .int .u32 y.1.2.2, .int .i64 y.2.1, .int .i64 y.2.2] 84)).drew) := Lib.hid ((hMI.out.below (bal (Below.refl _ _) _)).below (bdrew1 (Below.refl _ _)))
          clear hel2 hy hyo hym hy1 hy2 HJ0
          go_wp2_with fail
          (refine last_region (S := (fun w' => w'.cell? ⟨q, 0, none⟩ = some (.int .i64 d.1) ∧ w'.cell? ⟨q, 1, none⟩ = some (.int .i64 d.2) ∧ w'.cell? ⟨xb, 0, none⟩ = some (.int .i64 x.1.1) ∧ w'.cell? ⟨xb, 1, none⟩ = some (.int .i64 x.1.2.1) ∧ w'.cell? ⟨xb, 2, none⟩ = some (.int .u32 x.1.2.2) ∧ w'.cell? ⟨xb, 3, none⟩ = some (.int .i64 x.2.1) ∧ w'.cell? ⟨xb, 4, none⟩ = some (.int .i64 x.2.2) ∧ w'.cell? ⟨V0.heap.size, 0, none⟩ = some (.int .i64 y.1.1) ∧ w'.cell? ⟨V0.heap.size, 1, none⟩ = some (.int .i64 y.1.2.1) ∧ w'.cell? ⟨V0.heap.size, 2, none⟩ = some (.int .u32 y.1.2.2) ∧ w'.cell? ⟨V0.heap.size, 3, none⟩ = some (.int .i64 y.2.1) ∧ w'.cell? ⟨V0.heap.size, 4, none⟩ = some (.int .i64 y.2.2) ∧ w'.cell? ⟨w.heap.size, 0, none⟩ = some (.int .i64 h.1) ∧ w'.cell? ⟨w.heap.size, 1, none⟩ = some (.int .i64 h.2.1) ∧ w'.cell? ⟨w.heap.size, 2, none⟩ = some (.int .u32 h.2.2))) 17 (by kernel_rfl) ?_ (fun hHeld => ?_); (focus (first | exact hS | (simp [*, go_sem]; done) | fail)); refine last_take 0 (some 27) (v := ?_) rfl (by kernel_rfl) (by kernel_rfl) (by kernel_rfl) (by kernel_rfl) (by decide) (by kernel_rfl) (fun _ _ _ h => h) (Or.inl ⟨by kernel_rfl, ?_⟩) (by assumption) ?_; rotate_left; (focus (intro w' hSw; (try dsimp only at hSw); go_simp; (try with_reducible rfl))); (try simp only [Act.put, nA, nB, nC]); refine last_take 1 (some 28) (v := ?_) rfl (by kernel_rfl) (by kernel_rfl) (by kernel_rfl) (by kernel_rfl) (by decide) (by kernel_rfl) (fun _ _ _ h => h) (Or.inl ⟨by kernel_rfl, ?_⟩) (by assumption) ?_; rotate_left; (focus (intro w' hSw; (try dsimp only at hSw); go_simp; (try with_reducible rfl))); (try simp only [Act.put, nA, nB, nC]); refine last_take 2 (some 29) (v := ?_) rfl (by kernel_rfl) (by kernel_rfl) (by kernel_rfl) (by kernel_rfl) (by decide) (by kernel_rfl) (fun _ _ _ h => h) (Or.inl ⟨by kernel_rfl, ?_⟩) (by assumption) ?_; rotate_left; (focus (intro w' hSw; (try dsimp only at hSw); go_simp; (try with_reducible rfl))); (try simp only [Act.put, nA, nB, nC]); refine last_take 3 (some 30) (v := ?_) rfl (by kernel_rfl) (by kernel_rfl) (by kernel_rfl) (by kernel_rfl) (by decide) (by kernel_rfl) (fun _ _ _ h => h) (Or.inl ⟨by kernel_rfl, ?_⟩) (by assumption) ?_; rotate_left; (focus (intro w' hSw; (try dsimp only at hSw); go_simp; (try with_reducible rfl))); (try simp only [Act.put, nA, nB, nC]); refine last_take 4 (some 31) (v := ?_) rfl (by kernel_rfl) (by kernel_rfl) (by kernel_rfl) (by kernel_rfl) (by decide) (by kernel_rfl) (fun _ _ _ h => h) (Or.inl ⟨by kernel_rfl, ?_⟩) (by assumption) ?_; rotate_left; (focus (intro w' hSw; (try dsimp only at hSw); go_simp; (try with_reducible rfl))); (try simp only [Act.put, nA, nB, nC]); refine last_take 5 (some 32) (v := ?_) rfl (by kernel_rfl) (by kernel_rfl) (by kernel_rfl) (by kernel_rfl) (by decide) (by kernel_rfl) (fun _ _ _ h => h) (Or.inl ⟨by kernel_rfl, ?_⟩) (by assumption) ?_; rotate_left; (focus (intro w' hSw; (try dsimp only at hSw); go_simp; (try with_reducible rfl))); (try simp only [Act.put, nA, nB, nC]); refine last_take 6 (some 33) (v := ?_) rfl (by kernel_rfl) (by kernel_rfl) (by kernel_rfl) (by kernel_rfl) (by decide) (by kernel_rfl) (fun _ _ _ h => h) (Or.inl ⟨by kernel_rfl, ?_⟩) (by assumption) ?_; rotate_left; (focus (intro w' hSw; (try dsimp only at hSw); go_simp; (try with_reducible rfl))); (try simp only [Act.put, nA, nB, nC]); refine last_take 7 (some 34) (v := ?_) rfl (by kernel_rfl) (by kernel_rfl) (by kernel_rfl) (by kernel_rfl) (by decide) (by kernel_rfl) (fun _ _ _ h => h) (Or.inl ⟨by kernel_rfl, ?_⟩) (by assumption) ?_; rotate_left; (focus (intro w' hSw; (try dsimp only at hSw); go_simp; (try with_reducible rfl))); (try simp only [Act.put, nA, nB, nC]); refine last_take 9 (some 36) (v := ?_) rfl (by kernel_rfl) (by kernel_rfl) (by kernel_rfl) (by kernel_rfl) (by decide) (by kernel_rfl) (fun _ _ _ h => h) (Or.inl ⟨by kernel_rfl, ?_⟩) (by assumption) ?_; rotate_left; (focus (intro w' hSw; (try dsimp only at hSw); go_simp; (try with_reducible rfl))); (try simp only [Act.put, nA, nB, nC]); refine last_take 10 (some 37) (v := ?_) rfl (by kernel_rfl) (by kernel_rfl) (by kernel_rfl) (by kernel_rfl) (by decide) (by kernel_rfl) (fun _ _ _ h => h) (Or.inl ⟨by kernel_rfl, ?_⟩) (by assumption) ?_; rotate_left; (focus (intro w' hSw; (try dsimp only at hSw); go_simp; (try with_reducible rfl))); (try simp only [Act.put, nA, nB, nC]); refine last_take 11 (some 38) (v := ?_) rfl (by kernel_rfl) (by kernel_rfl) (by kernel_rfl) (by kernel_rfl) (by decide) (by kernel_rfl) (fun _ _ _ h => h) (Or.inl ⟨by kernel_rfl, ?_⟩) (by assumption) ?_; rotate_left; (focus (intro w' hSw; (try dsimp only at hSw); go_simp; (try with_reducible rfl))); (try simp only [Act.put, nA, nB, nC]); refine last_take 12 (some 39) (v := ?_) rfl (by kernel_rfl) (by kernel_rfl) (by kernel_rfl) (by kernel_rfl) (by decide) (by kernel_rfl) (fun _ _ _ h => h) (Or.inl ⟨by kernel_rfl, ?_⟩) (by assumption) ?_; rotate_left; (focus (intro w' hSw; (try dsimp only at hSw); go_simp; (try with_reducible rfl))); (try simp only [Act.put, nA, nB, nC]); refine last_take 13 (some 40) (v := ?_) rfl (by kernel_rfl) (by kernel_rfl) (by kernel_rfl) (by kernel_rfl) (by decide) (by kernel_rfl) (fun _ _ _ h => h) (Or.inl ⟨by kernel_rfl, ?_⟩) (by assumption) ?_; rotate_left; (focus (intro w' hSw; (try dsimp only at hSw); go_simp; (try with_reducible rfl))); (try simp only [Act.put, nA, nB, nC]); refine last_ready (i := 8) (by kernel_rfl) rfl (fun K hK => ?_); go_simp; (go_at_call 46; refine Calls.mono (HJ.out _) ?_; rintro e0 w3 ⟨rfl, hb⟩; have hS := HKP.out _ _ hb hHeld; have HM := Lib.hid (HM.out.below hb); clear hb); go_wp2_with fail; refine hK.out _ _ ?_ (fun hHeld => ?_); (focus (first | exact hS | (simp [*, go_sem]; done) | fail)); clear hK K; (try simp only [Act.put, nA, nB, nC]); refine last_ready (i := 14) (by kernel_rfl) rfl (fun K hK => ?_); go_simp; (go_at_call 45; refine Calls.mono (kmul_any b 0 _ x.2 y.2 _ (HM.out.lt hbw) (HM.out.cell HC0.out) (HM.out.froz hbw HF0.out) HX.out HY.out) ?_; rw [hP.out]; rintro e0 w3 ⟨rfl, hb⟩; have hS := HKF.out _ _ _ _ (HM.out.cell HC0.out) hb hHeld; have HM := Lib.hid (HM.out.fl hb hqb hwb hwb1 hxb); clear hb); go_wp2_with fail; refine hK.out _ _ ?_ (fun hHeld => ?_); (focus (first | exact hS | (simp [*, go_sem]; done) | fail)); clear hK K; (try simp only [Act.put, nA, nB, nC]); refine last_ready (i := 15) (by kernel_rfl) rfl (fun K hK => ?_); go_simp; (go_at_call 45; refine Calls.mono (kmul_any b 0 _ Jv P1 _ (HM.out.lt hbw) (HM.out.cell HC0.out) (HM.out.froz hbw HF0.out) HJI.out HPI.out) ?_; rw [hM.out]; rintro e0 w3 ⟨rfl, hb⟩; have hS := HKF.out _ _ _ _ (HM.out.cell HC0.out) hb hHeld; have HM := Lib.hid (HM.out.fl hb hqb hwb hwb1 hxb); clear hb); go_wp2_with fail; refine hK.out _ _ ?_ (fun hHeld => ?_); (focus (first | exact hS | (simp [*, go_sem]; done) | fail)); clear hK K; (try simp only [Act.put, nA, nB, nC]); refine last_ready (i := 16) (by kernel_rfl) rfl (fun K hK => ?_); go_simp; (go_at_call 44; refine Calls.mono (kadd_any b 0 _ d M _ (HM.out.lt hbw) (HM.out.cell HC0.out) (HM.out.froz hbw HF0.out) hd.out HMI.out) ?_; rw [hd'.out]; rintro e0 w3 ⟨rfl, hb⟩; have hS := HKF.out _ _ _ _ (HM.out.cell HC0.out) hb hHeld; have HM := Lib.hid (HM.out.fl hb hqb hwb hwb1 hxb); clear hb; obtain ⟨k0, k1, kf0, kf1⟩ := blk2 HM.out.2.1; have yk := blklt HM.out.2.1); go_wp2_with fail; refine hK.out _ _ ?_ (fun hHeld => ?_); (focus (first | exact hS | (simp [*, go_sem]; done) | fail)); clear hK K; (try simp only [Act.put, nA, nB, nC]); refine last_end (by kernel_rfl) rfl (fun K hK => ?_); (try go_simp); refine hK.out _ _ ?_; clear hK K hHeld; (try simp only [Act.put, nA, nB, nC]); refine last_done (by kernel_rfl) ?_ _)
          all_goals
            go_wp2_with fail
            go_roundw
            case rel =>
              exact ⟨c + 1, d', _, by omega, by go_num, hnx2, HDI, Lib.hid ⟨Below.setCell (Below.setCell HM.out.1 (by show w.heap.size ≤ q; omega) _) (by show w.heap.size ≤ q; omega) _, blkset2 HM.out.2.1 _ _, blkset (blkset HM.out.2.2.1 (by show w.heap.size ≠ q; omega) _) (by show w.heap.size ≠ q; omega) _, blkset (blkset HM.out.2.2.2.1 (by show w.heap.size + 1 ≠ q; omega) _) (by show w.heap.size + 1 ≠ q; omega) _, blkset (blkset HM.out.2.2.2.2 (by show xb ≠ q; omega) _) (by show xb ≠ q; omega) _⟩⟩
            case measure => simp [intOf]; omega
        · have ee : c = N' := by omega
          subst ee
          have hfin : Hid (mpF J U (T.take (a + 1)) = (d, G)) := Lib.hid (by
            have h2 := hJ.out
            rw [← hN'.out, List.take_length] at h2
            rw [hnx.out, hI.out]
            exact h2)
          go_wp2_with fail
          go_roundw
          case rel =>
            exact ⟨a + 1, d, G, by omega, by go_num, hfin, hd, Lib.hid hMI.out.1, hMI.out.2.1, hMI.out.2.2.1, hMI.out.2.2.2.1⟩
          case measure => simp [intOf]; omega
    · have ee : a = N := by omega
      subst ee
      have hfin : Hid (mpF J U T = (d0, G0)) := Lib.hid (by have := hI.out; rw [← hN.out, List.take_length] at this; exact this)
      clear kq kg kr
      go_wp2_with fail
      refine bodyPost_ret (v := .agg #[.int .i64 d0.1, .int .i64 d0.2]) (by simp [results, Tryz.results42, go_sem, *]) rfl ?_
      rw [hfin.out]
      exact ⟨rfl, Below.setCell (Below.setCell hFl.out (by show w.heap.size ≤ w.heap.size + 1; omega) _) (by show w.heap.size ≤ w.heap.size + 1; omega) _⟩
end Go.Proofs.YtpcjinbbgnmchaaGreat
