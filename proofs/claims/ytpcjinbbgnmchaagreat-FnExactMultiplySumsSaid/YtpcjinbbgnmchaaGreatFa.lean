/- impl.allFlags. -/
import Derived.Test.YtpcjinbbgnmchaaGreatLe
import Derived.Test.YtpcjinbbgnmchaaGreatSl
namespace Go.Proofs.YtpcjinbbgnmchaaGreat
open Go.ChangeShapes Go.WideShapes Go.RowKit
set_option linter.unusedVariables false
set_option linter.unusedSimpArgs false
attribute [local irreducible] Calls
/-- The least free flags of a type and a size. -/
def flagsF (tn : Nat) (te : Int) (n : Nat) (gs : List (Int × Int)) : List (Int × (Int × Int)) := (flagsL tn te n gs).map fun e => ((tn : Int), ((n : Int), e))
theorem lsTo_flags (tn : Nat) (te : Int) (n : Nat) (gs : List (Int × Int)) : lsTo n tn (fun e => (lowE tn e == te) && freeB n e gs) (2 ^ tri n) = (flagsL tn te n gs).map fun e => ((n : Int), e) := rfl
theorem flagsL_mem {tn : Nat} {te : Int} {n : Nat} (hn : n ≤ 5) {gs : List (Int × Int)} {e : Int} (h : e ∈ flagsL tn te n gs) : 0 ≤ e ∧ e < limN n ∧ lowE tn e = te ∧ freeB n e gs = true ∧ leastI n tn e = e := by
  simp only [flagsL, leastsL, List.mem_filter, List.mem_map, List.mem_range, Bool.and_eq_true, beq_iff_eq] at h
  obtain ⟨⟨k, hk, rfl⟩, ⟨h1, h2⟩, h3⟩ := h
  rw [limN_nat hn]
  exact ⟨by omega, by omega, h1, h2, h3⟩
theorem flagsL_len (tn : Nat) (te : Int) (n : Nat) (hn : n ≤ 5) (gs : List (Int × Int)) : (flagsL tn te n gs).length ≤ 1024 := by
  have h := lsTo_len n tn (fun e => (lowE tn e == te) && freeB n e gs) (2 ^ tri n)
  rw [lsTo_flags, List.length_map] at h
  have : n = 0 ∨ n = 1 ∨ n = 2 ∨ n = 3 ∨ n = 4 ∨ n = 5 := by omega
  rcases this with rfl | rfl | rfl | rfl | rfl | rfl <;> exact Nat.le_trans h (by decide)
theorem allFlags1 (W : World) (bm bt bf : Nat) (tn n : Nat) (te e mk : Int) (gs : List (Int × Int)) (v : Value) (hm : W.heap[bm]? = some (.cells #[.int .u32 mk] 22 (0, 0))) (hmk : lowE tn e = bits .and .u32 e mk) (ht : W.heap[bt]? = some (.cells #[.int .i64 tn, .int .u32 te] 31 (0, 0))) (hf : W.heap[bf]? = some (.cells #[v] 52 (0, 0)))
    (h : Lst shGr W gs v) (hn : n ≤ 5) (hl : gs.length ≤ 1048576) (hg : ∀ d ∈ gs, 0 ≤ d.1 ∧ d.1 ≤ 5) :
    Calls Tryz.prog 163 #[.agg #[.int .i64 n, .int .u32 e], .pointer (some ⟨bm, 0, none⟩), .pointer (some ⟨bt, 0, none⟩), .pointer (some ⟨bf, 0, none⟩)] W fun e0 W' => e0 = .returned (.bool ((lowE tn e == te) && freeB n e gs)) ∧ Below W.heap.size W W' := by
  obtain ⟨A, cap, rfl, _, _⟩ := formGraph h
  have s0 : W.cell? ⟨bm, 0, none⟩ = some (.int .u32 mk) := by simp [World.cell?, hm]
  obtain ⟨s1, s2, _, _⟩ := blk2 ht
  have s3 : W.cell? ⟨bf, 0, none⟩ = some (.slice A gs.length cap) := by simp [World.cell?, hf]
  have z0 := blklt hm
  have z1 := blklt ht
  have z2 := blklt hf
  have H := Lib.hid h
  have HG := Lib.hid hg
  have HK := Lib.hid hmk
  clear hmk hm ht hf h hg
  cases hlo : (bits .and .u32 e mk == te)
  · have hr : Hid (((lowE tn e == te) && freeB n e gs) = false) := Lib.hid (by rw [HK.out, hlo]; rfl)
    go_enter Tryz.func163, Tryz.ntmps163
    go_wp2_with fail
    exact bodyPost_ret (v := .bool false) (by simp [results, Tryz.results163, go_sem]) rfl ⟨by rw [hr.out], belA⟩
  · have hr : Hid (((lowE tn e == te) && freeB n e gs) = freeB n e gs) := Lib.hid (by rw [HK.out, hlo]; rfl)
    go_enter Tryz.func163, Tryz.ntmps163
    go_wp2_with (first | (go_at_call 164; refine Calls.mono (free_any _ n e gs _ (H.out.below belA) hn hl HG.out) ?_; rintro e w1 ⟨rfl, hb⟩; obtain ⟨X, m, rfl⟩ := plsOf hb; clear hb))
    exact bodyPost_ret (v := .bool (freeB n e gs)) (by simp [results, Tryz.results163, go_sem]) rfl ⟨by rw [hr.out], belA⟩
/-- Flags are handed out, and whether there are not too many. -/
def FlsRetB (B : Nat) (w : World) (L : List shFlag.T) (b : Bool) (e : Ending) (w' : World) : Prop := ∃ A cap F, e = .returned (.tuple #[.slice A L.length cap, .bool b]) ∧ Own shFlag B w' L (.slice A L.length cap) F ∧ Below w.heap.size w w'
theorem Own.grown {s : Sh} {B : Nat} {w w1 : World} {xs : List s.T} {v u : Value} {F : List Nat} (h : Own s B w xs v F) (hg : w.grownBy w1 u.ownBlock) (hq : ∀ q, u.ownBlock = some q → q ∉ F) : Own s B w1 xs v F :=
  ⟨(shL s).ownKeep _ _ _ _ _ (fun b hb => hg.block b ((shL s).ownLt _ _ _ _ h.1 b hb) (fun e => hq b e.symm hb)) h.1, h.2⟩
def fOf (tn : Nat) (d : Int × Int) : shFlag.T := ((tn : Int), d)
set_option maxHeartbeats 2000000 in
theorem allFlags_any (w : World) (tn n : Nat) (te : Int) (gs : List (Int × Int)) (v : Value) (h : Lst shGr w gs v) (htn : tn ≤ n) (hn : n ≤ 5) (hl : gs.length ≤ 1048576) (hg : ∀ d ∈ gs, 0 ≤ d.1 ∧ d.1 ≤ 5) :
    Calls Tryz.prog 98 #[.agg #[.int .i64 tn, .int .u32 te], .int .i64 n, v] w (FlsRetB w.heap.size w (flagsF tn te n gs) (decide ((flagsL tn te n gs).length ≤ 64))) := by
  obtain ⟨i1, z1, hi1, hz1, hs1, hb1, hl1⟩ := infoB_spec (P := Tryz.prog) (e := 81) (sz := 3) (bytes := 24) (by kernel_rfl)
  have I1 := Lib.hid hi1
  have Z1 := Lib.hid hz1
  have eg : ∀ args w, (callFunc 163 args).run Tryz.prog w = .ok (.enter 163 args) w := enters_of Tryz.func163 (by kernel_rfl) rfl
  obtain ⟨A, cap, rfl, hcp, hmx⟩ := formGraph h
  have H := Lib.hid h
  have HG := Lib.hid hg
  clear hi1 hz1 h hg
  have hp : 0 ≤ prN tn ∧ prN tn ≤ 10 := by
    have : tn = 0 ∨ tn = 1 ∨ tn = 2 ∨ tn = 3 ∨ tn = 4 ∨ tn = 5 := by omega
    rcases this with rfl | rfl | rfl | rfl | rfl | rfl <;> decide
  obtain ⟨mk, hmk, hsh⟩ : ∃ mk : Int, Hid (∀ e, lowE tn e = bits .and .u32 e mk) ∧ ((2 : Int) ^ (prN tn).toNat - 1) % 4294967296 = mk := by
    refine ⟨((2 ^ tri tn : Nat) : Int) - 1, Lib.hid fun e => rfl, ?_⟩
    have : tn = 0 ∨ tn = 1 ∨ tn = 2 ∨ tn = 3 ∨ tn = 4 ∨ tn = 5 := by omega
    rcases this with rfl | rfl | rfl | rfl | rfl | rfl <;> decide
  obtain ⟨GL, hGL, hF, hLn, hlen⟩ : ∃ GL : List (Int × Int), Hid (lsTo n tn (fun e => (lowE tn e == te) && freeB n e gs) (2 ^ tri n) = GL) ∧ Hid ((show List shFlag.T from flagsF tn te n gs) = GL.map (fOf tn)) ∧ Hid ((flagsL tn te n gs).length = GL.length) ∧ GL.length ≤ 1024 :=
    ⟨(flagsL tn te n gs).map fun e => ((n : Int), e), Lib.hid (lsTo_flags tn te n gs), Lib.hid (by show List.map _ _ = _; rw [List.map_map]; rfl), Lib.hid (List.length_map _).symm, by rw [List.length_map]; exact flagsL_len tn te n hn gs⟩
  have hgoal : FlsRetB w.heap.size w (flagsF tn te n gs) (decide ((flagsL tn te n gs).length ≤ 64)) = FlsRetB w.heap.size w (GL.map (fOf tn)) (decide (GL.length ≤ 64)) := by rw [hLn.out]; exact congrArg (fun l => FlsRetB w.heap.size w l _) hF.out
  rw [hgoal]
  clear hgoal
  go_enter Tryz.func98, Tryz.ntmps98
  go_wp2_with (first | (go_at_call 149; refine Calls.mono (pairs_any tn _ (by omega)) ?_; rintro e w1 ⟨rfl, rfl⟩))
  clear hsh
  have HP : Hid (∀ (W : World) (e : Nat), Below (w.heap.size + 1 + 1 + 1 + 1) ((((w.alloc (.cells #[.int .i64 tn, .int .u32 te] 31)).alloc (.cells #[.slice A gs.length cap] 52)).alloc (.cells #[] 81)).alloc (.cells #[.int .u32 mk] 22)) W → Calls Tryz.prog 163 (#[.agg #[.int .i64 n, .int .u32 e]] ++ #[.pointer (some ⟨w.heap.size + 1 + 1 + 1, 0, none⟩), .pointer (some ⟨w.heap.size, 0, none⟩), .pointer (some ⟨w.heap.size + 1, 0, none⟩)]) W fun e0 W' => e0 = .returned (.bool ((lowE tn e == te) && freeB n e gs)) ∧ Below W.heap.size W W') := Lib.hid fun W e hW =>
    allFlags1 W _ _ _ tn n te e mk gs (.slice A gs.length cap) (bblk hW (by omega) blkA) (hmk.out e) (bblk hW (by omega) blkA) (bblk hW (by omega) blkA) (H.out.below (Below.trans belA (hW.mono (by omega)))) hn hl HG.out
  refine Calls.mono (leasts_any _ n tn _ _ (fun e => (lowE tn e == te) && freeB n e gs) hn htn eg (fun W e hW _ => HP.out W e (by simpa using hW))) ?_
  rintro e0 w1 ⟨A1, cap1, F1, rfl, hO1, hb⟩
  rw [hGL.out] at hO1 ⊢
  have hF1 : Hid (∀ b ∈ F1, w.heap.size + 1 + 1 + 1 + 1 ≤ b ∧ b < w1.heap.size) := Lib.hid fun b hb => ⟨by have := hO1.ge b hb; simpa using this, hO1.lt b hb⟩
  have hz1 : w.heap.size + 1 + 1 + 1 + 1 ≤ w1.heap.size := by have := hb.size; simp at this; exact this
  have hb1 : Below w.heap.size w w1 := Below.trans belA (hb.mono (by first | (simp; done) | (simp; omega)))
  have k0 : w1.heap[w.heap.size]? = some (.cells #[.int .i64 tn, .int .u32 te] 31 (0, 0)) := bblk hb (by simp; omega) blkA
  have k1 : w1.heap[w.heap.size + 1 + 1]? = some (.cells #[] 81 (0, 0)) := bblk hb (by simp) blkA
  have hO1 := Lib.hid hO1
  have K0 := Lib.hid k0
  have K1 := Lib.hid k1
  have HB1 := Lib.hid hb1
  clear hb hb1 k0 k1
  go_wp2_with fail
  go_loopw [8, 24] (fun o i wr => ∃ (k : Nat), k ≤ GL.length ∧ i = .int .i64 k ∧ wr.heap[w.heap.size]? = some (.cells #[.int .i64 tn, .int .u32 te] 31 (0, 0)) ∧ Hid (AppS shFlag (w.heap.size + 1) 81 wr o ((GL.take k).map (fOf tn))) ∧ Hid (Own shGr 0 wr GL (.slice A1 GL.length cap1) F1) ∧ Hid (∀ q, o.ownBlock = some q → q ∉ F1) ∧ Below w.heap.size w wr ∧ w1.heap.size ≤ wr.heap.size) (fun _ i _ => GL.length - (intOf i).toNat)
  case atStart =>
    refine ⟨0, Nat.zero_le _, rfl, K0.out, Lib.hid (AppS.new shFlag K1.out (by omega)), Lib.hid (hO1.out.below (Nat.zero_le _) (Below.refl _ _)), Lib.hid fun q hq hm => ?_, HB1.out, Nat.le_refl _⟩
    have : q = w.heap.size + 1 + 1 := by simpa [Value.ownBlock] using hq.symm
    have := (hF1.out q hm).1
    omega
  case round =>
    obtain ⟨k, hk, rfl, b0, hA, hG, hQ, hB, hzz⟩ := hrel
    obtain ⟨s0, s1, _, _⟩ := blk2 b0
    have z0 := blklt b0
    have B0 := Lib.hid b0
    clear b0
    by_cases hlt : k < GL.length
    · have hk8 : (k : Int) < (GL.length : Int) := by omega
      obtain ⟨_, _, hv, _, _, hoks, hel⟩ := lstGraph hG.out.lst
      injection hv with e1 _ e3
      obtain ⟨bl, off, e4, hel⟩ := hel (by omega)
      rw [← e1] at e4
      subst e4
      obtain ⟨d, hd, hok, c0, c1⟩ := hel k hlt
      have zb := World.block_lt_of_cell? _ _ c0
      simp only at zb
      have HD := Lib.hid hd
      have HOK := Lib.hid hok
      have hnx : Hid ((GL.take (k + 1)).map (fOf tn) = (GL.take k).map (fOf tn) ++ [fOf tn d]) := Lib.hid (by rw [List.take_add_one, hd, List.map_append]; rfl)
      have hml : List.length (α := shFlag.T) ((GL.take k).map (fOf tn)) = k := (List.length_map _).trans (take_len hk)
      have HML := Lib.hid hml
      clear hel hoks hd hok e1 e3
      obtain ⟨W0, rfl⟩ : ∃ x, x = wr := ⟨_, rfl⟩
      have hW : Below W0.heap.size W0 ((W0.alloc (.cells #[.int .i64 d.1, .int .u32 d.2] 31)).alloc (.cells #[.int .i64 tn, .int .i64 d.1, .int .u32 d.2] 81)) := belA
      obtain ⟨L, hown0, hnext⟩ := AppS.flat flatFlag (hA.out.below hW)
      rw [hml] at hown0 hnext
      have HGE := Lib.hid hA.out.ge
      have HW := Lib.hid hW
      have HO := Lib.hid hown0
      have HX := Lib.hid hnext
      clear hW hown0 hnext hml
      go_wp2_with (at_builtin; refine wpList_append_lies _ rfl (.tmp 28) (.tmp 33) 102 rfl (w.heap.size + 1) 81 i1 z1 3 24 Tryz.underlying102 I1.out Z1.out hs1 hb1 hl1 (by decide) u8 k L rfl HO.out ⟨_, 0, none⟩ 1 1 [.int .i64 tn, .int .i64 d.1, .int .u32 d.2] rfl rfl (World.news_of_block (blknew' _ _ _ (by simp <;> omega))) (by simp [Value.oneCell']) (by decide) (by unfold maxLen; omega) (by omega) (by simp; omega) _ rfl ?_; intro g1 cap2 w2 hown hgrow hat hlt3)
      go_roundw
      case rel =>
        have hN := HX.out (fOf tn d) ⟨okN (by omega), HOK.out⟩ g1 cap2 w2 hown hgrow hat
        have hb2 := grown_below (B := w.heap.size + 1) hgrow (fun q hq => (HGE.out q hq).1) (by simp; omega)
        have hW2 := HW.out
        refine ⟨k + 1, by omega, by go_num, bblk hb2 (by omega) (by have b0 := B0.out; exact blkA), Lib.hid (by rw [hnx.out]; exact hN), Lib.hid ((hG.out.below (Nat.le_refl _) hW2).grown hgrow hQ.out), Lib.hid fun q hq hm => ?_, (bthen hB hW2).trans (hb2.mono (by omega)), by have := hb2.size; simp at this; omega⟩
        have hqg : q = g1 := by simpa [Value.ownBlock] using hq.symm
        subst hqg
        rcases hat with hat | hat
        · exact hQ.out q hat hm
        · have := (hF1.out q hm).2
          simp at hat
          omega
      case measure => simp [intOf]; omega
    · have e : k = GL.length := by omega
      subst e
      obtain ⟨A2, cap2, F2, rfl, hO2⟩ := hA.out.own
      rw [List.take_length] at hO2
      have hO2 := Lib.hid (hO2.below (B' := w.heap.size) (by omega) (Below.refl _ _))
      have hdec : Hid (decide ((GL.length : Int) ≤ 64) = decide (GL.length ≤ 64)) := Lib.hid (by rw [decide_eq_decide]; omega)
      have hml : Hid (List.length (α := shFlag.T) (GL.map (fOf tn)) = GL.length) := Lib.hid (List.length_map _)
      clear hA
      go_wp2_with fail
      refine bodyPost_ret (v := .tuple #[.slice A2 GL.length cap2, .bool (decide ((GL.length : Int) ≤ 64))]) (by simp [results, Tryz.results98, go_sem]) rfl ⟨A2, cap2, F2, ?_, hO2.out, hB⟩
      rw [hdec.out]
      exact congrArg (fun l => Ending.returned (.tuple #[.slice A2 l cap2, .bool (decide (GL.length ≤ 64))])) hml.out.symm
end Go.Proofs.YtpcjinbbgnmchaaGreat
