/- impl.leasts. -/
import Derived.Test.YtpcjinbbgnmchaaGreatFp
import Derived.Test.YtpcjinbbgnmchaaGreatSl
namespace Go.Proofs.YtpcjinbbgnmchaaGreat
open Go.ChangeShapes Go.WideShapes Go.RowKit
set_option linter.unusedVariables false
set_option linter.unusedSimpArgs false
attribute [local irreducible] Calls
def lsTo (n q : Nat) (P : Int → Bool) (k : Nat) : List (Int × Int) := ((((List.range k).map fun (e : Nat) => (e : Int)).filter fun e => P e && (leastI n q e == e)).map fun e => ((n : Int), e))
theorem lsTo_t {n q : Nat} {P : Int → Bool} {k : Nat} (h1 : P k = true) (h2 : (leastI n q k == (k : Int)) = true) : lsTo n q P (k + 1) = lsTo n q P k ++ [((n : Int), (k : Int))] := by
  simp [lsTo, List.range_succ, h1, h2, List.filter_cons]
theorem lsTo_f1 {n q : Nat} {P : Int → Bool} {k : Nat} (h1 : P k = false) : lsTo n q P (k + 1) = lsTo n q P k := by
  simp [lsTo, List.range_succ, h1, List.filter_cons]
theorem lsTo_f2 {n q : Nat} {P : Int → Bool} {k : Nat} (h2 : (leastI n q k == (k : Int)) = false) : lsTo n q P (k + 1) = lsTo n q P k := by
  simp [lsTo, List.range_succ, h2, List.filter_cons]
theorem lsTo_len (n q : Nat) (P : Int → Bool) (k : Nat) : (lsTo n q P k).length ≤ k := by
  have := List.length_filter_le (fun e => P e && (leastI n q e == e)) ((List.range k).map fun (e : Nat) => (e : Int))
  simpa [lsTo] using this
/-- A list of graphs is handed out. -/
def GrsRet (B : Nat) (w : World) (L : List (Int × Int)) (e : Ending) (w' : World) : Prop := ∃ A cap F, e = .returned (.slice A L.length cap) ∧ Own shGr B w' L (.slice A L.length cap) F ∧ Below w.heap.size w w'
set_option maxHeartbeats 2000000 in
theorem leasts_any (w : World) (n q : Nat) (f : FuncId) (caps : Array Value) (P : Int → Bool) (hn : n ≤ 5) (hq : q ≤ n)
    (eg : ∀ args w, (callFunc f args).run Tryz.prog w = .ok (.enter f args) w)
    (hP : ∀ (W : World) (e : Nat), Below w.heap.size w W → e < 2 ^ tri n → Calls Tryz.prog f (#[.agg #[.int .i64 n, .int .u32 e]] ++ caps) W fun e0 W' => e0 = .returned (.bool (P e)) ∧ Below W.heap.size W W') :
    Calls Tryz.prog 162 #[.int .i64 n, .int .i64 q, .func (.func f) #[] caps] w (GrsRet w.heap.size w (lsTo n q P (2 ^ tri n))) := by
  obtain ⟨i1, z1, hi1, hz1, hs1, hb1, hl1⟩ := infoB_spec (P := Tryz.prog) (e := 31) (sz := 2) (bytes := 16) (by kernel_rfl)
  have I1 := Lib.hid hi1
  have Z1 := Lib.hid hz1
  have HP := Lib.hid hP
  clear hi1 hz1 hP
  have hp : 0 ≤ prN n ∧ prN n ≤ 10 := by
    have : n = 0 ∨ n = 1 ∨ n = 2 ∨ n = 3 ∨ n = 4 ∨ n = 5 := by omega
    rcases this with rfl | rfl | rfl | rfl | rfl | rfl <;> decide
  obtain ⟨N, hN, hsh, hN2⟩ : ∃ N : Nat, N = 2 ^ tri n ∧ (2 : Int) ^ (prN n).toNat % 4294967296 = (N : Int) ∧ N ≤ 1024 := by
    refine ⟨2 ^ tri n, rfl, ?_, ?_⟩
    · have : n = 0 ∨ n = 1 ∨ n = 2 ∨ n = 3 ∨ n = 4 ∨ n = 5 := by omega
      rcases this with rfl | rfl | rfl | rfl | rfl | rfl <;> decide
    · have : n = 0 ∨ n = 1 ∨ n = 2 ∨ n = 3 ∨ n = 4 ∨ n = 5 := by omega
      rcases this with rfl | rfl | rfl | rfl | rfl | rfl <;> decide
  rw [← hN]
  rw [← hN] at HP
  have HN := Lib.hid hN
  clear hN
  go_enter Tryz.func162, Tryz.ntmps162
  go_wp2_with (first | (go_at_call 149; refine Calls.mono (pairs_any n _ (by omega)) ?_; rintro e w1 ⟨rfl, rfl⟩))
  rw [hsh]
  clear hsh
  go_loopw [7, 14] (fun o i wr => ∃ (k : Nat), k ≤ N ∧ i = .int .u32 k ∧ Hid (AppS shGr w.heap.size 31 wr o (lsTo n q P k)) ∧ Below w.heap.size w wr) (fun _ i _ => N - (intOf i).toNat)
  case atStart => exact ⟨0, Nat.zero_le _, rfl, Lib.hid (AppS.new shGr blkA (Nat.le_refl _)), belA⟩
  case round =>
    obtain ⟨k, hk, rfl, hA, hB⟩ := hrel
    have hz := hB.size
    by_cases hlt : k < N
    · have hk8 : (k : Int) < (N : Int) := by omega
      have hk9 : (k : Int) < 4294967295 := by omega
      have hw : ((k : Int) + 1) % 4294967296 = (k : Int) + 1 := by omega
      have hw2 : IntKind.u32.wrap ((k : Int) + 1) = (k : Int) + 1 := by rw [IntKind.wrap_u32]; omega
      cases hp1 : P (k : Int)
      · have hnx : Hid (lsTo n q P (k + 1) = lsTo n q P k) := Lib.hid (lsTo_f1 hp1)
        have HP1 := Lib.hid hp1
        clear hp1
        go_wp2_with fail
        refine Calls.mono (HP.out _ k (bthen hB belA) hlt) ?_
        rw [HP1.out]
        rintro e0 w1 ⟨rfl, hb⟩; obtain ⟨X0, m0, rfl⟩ := plsOf hb; clear hb
        go_wp2_with fail
        go_roundw
        case rel => exact ⟨k + 1, by omega, by go_num, Lib.hid (by rw [hnx.out]; exact hA.out.below belA), bthen hB belA⟩
        case measure => simp [intOf]; omega
      · have HP1 := Lib.hid hp1
        have hlim : Hid (0 ≤ (k : Int) ∧ (k : Int) < limN n) := Lib.hid (by rw [limN_nat hn, ← HN.out]; omega)
        cases hp2 : (leastI n q k == (k : Int))
        · have hnx : Hid (lsTo n q P (k + 1) = lsTo n q P k) := Lib.hid (lsTo_f2 hp2)
          have HP2 := Lib.hid hp2
          clear hp1 hp2
          go_wp2_with fail
          refine Calls.mono (HP.out _ k (bthen hB belA) hlt) ?_
          rw [HP1.out]
          rintro e0 w1 ⟨rfl, hb⟩; obtain ⟨X0, m0, rfl⟩ := plsOf hb; clear hb
          go_wp2_with (first | (go_at_call 206; refine Calls.mono (isLeast_any _ n q k hn hq hlim.out.1 hlim.out.2) ?_; rw [HP2.out]; rintro e w1 ⟨rfl, hb⟩; obtain ⟨X, m, rfl⟩ := plsOf hb; clear hb))
          go_roundw
          case rel => exact ⟨k + 1, by omega, by go_num, Lib.hid (by rw [hnx.out]; exact hA.out.below belA), bthen hB belA⟩
          case measure => simp [intOf]; omega
        · have hnx : Hid (lsTo n q P (k + 1) = lsTo n q P k ++ [((n : Int), (k : Int))]) := Lib.hid (lsTo_t hp1 hp2)
          have HP2 := Lib.hid hp2
          have hlen := lsTo_len n q P k
          clear hp1 hp2
          go_wp2_with fail
          refine Calls.mono (HP.out _ k (bthen hB belA) hlt) ?_
          rw [HP1.out]
          rintro e0 w1 ⟨rfl, hb⟩; obtain ⟨X0, m0, rfl⟩ := plsOf hb; clear hb
          go_wp2_with fail
          refine Calls.mono (isLeast_any _ n q k hn hq hlim.out.1 hlim.out.2) ?_
          rw [HP2.out]
          rintro e0 w1 ⟨rfl, hb⟩; obtain ⟨X1, m1, rfl⟩ := plsOf hb; clear hb
          obtain ⟨W0, rfl⟩ : ∃ x, x = wr := ⟨_, rfl⟩
          have hW : Below W0.heap.size W0 ((pls (W0.alloc (.cells #[.int .i64 n, .int .u32 k] 31)) (X0 ++ X1) m1).alloc (.cells #[.int .i64 n, .int .u32 k] 31)) := belA
          obtain ⟨L, hown0, hnext⟩ := AppS.flat flatGr (hA.out.below hW)
          have hge := hA.out.ge
          have HGE := Lib.hid hge
          have HW := Lib.hid hW
          have HO := Lib.hid hown0
          have HX := Lib.hid hnext
          clear hW hown0 hnext hge
          go_wp2_with (at_builtin; refine wpList_append_lies _ rfl (.tmp 28) (.tmp 30) 52 rfl w.heap.size 31 i1 z1 2 16 Tryz.underlying52 I1.out Z1.out hs1 hb1 hl1 (by decide) u7 (lsTo n q P k).length L rfl HO.out ⟨_, 0, none⟩ 1 1 [.int .i64 n, .int .u32 k] rfl rfl (World.news_of_block (blknew' _ _ _ (by simp <;> omega))) (by simp [Value.oneCell']) (by decide) (by unfold maxLen; omega) (by omega) (by simp; omega) _ rfl ?_; intro g1 cap1 w2 hown hgrow hat hlt3)
          go_roundw
          case rel =>
            have hN := HX.out ((n : Int), (k : Int)) ⟨okN (by omega), by simp [okI, Lit.wf, IntKind.min, IntKind.max, IntKind.signed, IntKind.bits]; omega⟩ g1 cap1 w2 hown hgrow hat
            have hb2 := grown_below (B := w.heap.size) hgrow (fun q hq => (HGE.out q hq).1) (by simp; omega)
            exact ⟨k + 1, by omega, by go_num, Lib.hid (by rw [hnx.out]; exact hN), (bthen hB HW.out).trans hb2⟩
          case measure => simp [intOf]; omega
    · have e : k = N := by omega
      subst e
      obtain ⟨A, cap, F, rfl, hO⟩ := hA.out.own
      have hO := Lib.hid hO
      clear hA
      go_wp2_with fail
      exact bodyPost_ret (v := .slice A (lsTo n q P k).length cap) (by simp [results, Tryz.results162, go_sem]; rfl) rfl ⟨A, cap, F, rfl, hO.out, hB⟩
end Go.Proofs.YtpcjinbbgnmchaaGreat
