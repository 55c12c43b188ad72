/- impl.ThroughSize. -/
import Derived.Test.YtpcjinbbgnmchaaGreatTp
import Derived.Test.YtpcjinbbgnmchaaGreatVl
import Derived.Test.YtpcjinbbgnmchaaGreatFk
import Derived.Test.YtpcjinbbgnmchaaGreatRk
import Derived.Test.YtpcjinbbgnmchaaGreatFd
namespace Go.Proofs.YtpcjinbbgnmchaaGreat
open Go.ChangeShapes Go.WideShapes Go.RowKit
set_option linter.unusedVariables false
set_option linter.unusedSimpArgs false
attribute [local irreducible] Calls
theorem kmul_ok (b o : Nat) (x y p : Int × Int) (w : World) (hc : w.cell? ⟨b, o, none⟩ = some (.bool false)) (hf : w.frozen? ⟨b, o, none⟩ = false) (hx : inF x) (hy : inF y) (h : mulO x y = some p) :
    Calls Tryz.prog 45 #[.pointer (some ⟨b, o, none⟩), .agg #[.int .i64 x.1, .int .i64 x.2], .agg #[.int .i64 y.1, .int .i64 y.2]] w fun e w' => e = .returned (.agg #[.int .i64 p.1, .int .i64 p.2]) ∧ Below w.heap.size w w' := by
  have := kmul_any b o false x y w (World.block_lt_of_cell? _ _ hc) hc hf hx hy
  rw [h] at this
  simpa [kD, noB, setCell_same _ _ _ hc] using this
theorem kadd_ok (b o : Nat) (x y p : Int × Int) (w : World) (hc : w.cell? ⟨b, o, none⟩ = some (.bool false)) (hf : w.frozen? ⟨b, o, none⟩ = false) (hx : inF x) (hy : inF y) (h : addO x y = some p) :
    Calls Tryz.prog 44 #[.pointer (some ⟨b, o, none⟩), .agg #[.int .i64 x.1, .int .i64 x.2], .agg #[.int .i64 y.1, .int .i64 y.2]] w fun e w' => e = .returned (.agg #[.int .i64 p.1, .int .i64 p.2]) ∧ Below w.heap.size w w' := by
  have := kadd_any b o false x y w (World.block_lt_of_cell? _ _ hc) hc hf hx hy
  rw [h] at this
  simpa [kD, noB, setCell_same _ _ _ hc] using this
def fl2C (a b : Flg) : Int := if flV a && flV b then 0 else 1
/-- The code and the parts of what goes through all flags of a size. -/
def thC (f g : Flg) (s : Int) : Int := if flV f && flV g then (if tyNe f g then 4 else (if inB s f.2.1 g.2.1 then (if (flagsL g.1.toNat (tyE g) s.toNat []).length ≤ 64 then 0 else 3) else 2)) else 1
def thL1 (k s : Nat) (f : Flg) (L : List Flg) : List (Int × Int) := L.map fun x => dns k s x.2.2 f
def thD (f g : Flg) (s : Int) : Int × Int := (dotO (thL1 g.1.toNat s.toNat f (flagsF g.1.toNat (tyE g) s.toNat [])) (dnsL g.1.toNat g.2.1.toNat g.2.2 (flagsF g.1.toNat (tyE g) s.toNat []))).getD (0, 0)
def thR (f g : Flg) (s : Int) : Int × Int := if thC f g s = 0 then thD f g s else (0, 0)
theorem dns_vl {k n : Nat} {e : Int} {f : Flg} (hk : k ≤ 3) (hn : n ≤ 5) (hkm : k ≤ f.2.1.toNat) (hmn : f.2.1.toNat ≤ n) : Vl (dns k n e f) (ctF k n e f) (dnC k n f.2.1.toNat) ∧ (0 ≤ ctF k n e f ∧ ctF k n e f ≤ 100) ∧ 1 ≤ dnC k n f.2.1.toNat ∧ dnC k n f.2.1.toNat ≤ 10 :=
  ⟨low_vl (dnC_bd hkm hmn hn).1, ctF_bd hk hn (by omega), dnC_bd hkm hmn hn⟩
/-- So far. -/
def ThI (X Y : List (Int × Int)) (D : Int) (a : Nat) (d : Int × Int) : Prop := inF d ∧ dotO (X.take a) (Y.take a) = some d ∧ ∃ M, Vl d M D ∧ 0 ≤ M ∧ M ≤ a * 10000
theorem ThI.start (X Y : List (Int × Int)) (D : Int) : ThI X Y D 0 (0, 1) := ⟨zero_in, rfl, 0, Vl.zero D, Int.le_refl 0, by simp⟩
theorem ThI.step {X Y : List (Int × Int)} {C1 C2 : Int} {a : Nat} {d x y : Int × Int} {N1 N2 : Int} (h : ThI X Y (C1 * C2) a d) (ha : a ≤ 1000) (hX : X[a]? = some x) (hY : Y[a]? = some y) (hx : Vl x N1 C1) (hy : Vl y N2 C2) (h1 : 0 ≤ N1 ∧ N1 ≤ 100) (h2 : 0 ≤ N2 ∧ N2 ≤ 100) (h3 : 1 ≤ C1 ∧ C1 ≤ 10) (h4 : 1 ≤ C2 ∧ C2 ≤ 10) :
    inF x ∧ inF y ∧ ∃ p d', mulO x y = some p ∧ inF p ∧ addO d p = some d' ∧ ThI X Y (C1 * C2) (a + 1) d' := by
  obtain ⟨hd, hdo, M, hM, m1, m2⟩ := h
  obtain ⟨p, d', e1, e2, e3, e4, e5, e6, e7⟩ := sd_step hM hx hy h1 h2 h3 h4 ⟨m1, by omega⟩
  refine ⟨(hx.small h3.1 (by omega) (by omega)).2, (hy.small h4.1 (by omega) (by omega)).2, p, d', e1, e2, e3, e4, ?_, _, e5, e6, by push_cast; omega⟩
  rw [dotO_take hX hY, hdo]
  unfold dotS
  simp [e1, e3]
end Go.Proofs.YtpcjinbbgnmchaaGreat
