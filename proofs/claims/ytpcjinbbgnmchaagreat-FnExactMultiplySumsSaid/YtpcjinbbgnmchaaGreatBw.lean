/- Several texts in one (Bu Bw By Bx). -/
import Derived.Test.YtpcjinbbgnmchaaGreatTd
import Derived.Test.YtpcjinbbgnmchaaGreatVq
import Derived.Test.YtpcjinbbgnmchaaGreatRk
import Derived.Test.YtpcjinbbgnmchaaGreatFk
import Derived.OwnWalk
import Derived.Deep.AppendLies
import Derived.Deep.Upon
/- Lists of terms to which lists are appended; what spec.l05Build holds, in plain words. -/
namespace Go.Proofs.YtpcjinbbgnmchaaGreat
open Go.ChangeShapes Go.WideShapes Go.RowKit
set_option linter.unusedVariables false
set_option linter.unusedSimpArgs false
attribute [local irreducible] Calls
/-- A list of terms of one's own, to be appended to. -/
def TmA (B : Nat) (w : World) (v : Value) (xs : List Trm) : Prop := w.ownsRow B 84 5 v xs.length (xs.flatMap encTerm) ∧ ∀ d ∈ xs, okTerm d
theorem TmA.nil {B : Nat} {w : World} : TmA B w (.slice none 0 0) [] := ⟨⟨rfl, .inl ⟨rfl, rfl⟩⟩, fun d hd => by cases hd⟩
theorem TmA.new {B : Nat} {w : World} {g : Nat} (hg : w.heap[g]? = some (.cells #[] 84 (0, 0))) (hB : B ≤ g) : TmA B w (.slice (some ⟨g, 0, none⟩) 0 0) [] :=
  ⟨⟨rfl, .inr ⟨g, 0, #[], rfl, hB, hg, Nat.le_refl _, Nat.zero_le _, rfl, rfl⟩⟩, fun d hd => by cases hd⟩
theorem TmA.one {B : Nat} {w : World} {g : Nat} {d : Trm} (hg : w.heap[g]? = some (.cells (encTerm d).toArray 84 (0, 0))) (hB : B ≤ g) (hd : okTerm d) : TmA B w (.slice (some ⟨g, 0, none⟩) 1 1) [d] :=
  ⟨⟨rfl, .inr ⟨g, 1, (encTerm d).toArray, rfl, hB, hg, Nat.le_refl _, by unfold maxLen; omega, rfl, rfl⟩⟩, fun x hx => by simp at hx; exact hx ▸ hd⟩
theorem TmA.move {B : Nat} {w w' : World} {v : Value} {L : List Trm} (h : TmA B w v L) (hk : ∀ b, B ≤ b → b < w.heap.size → w'.heap[b]? = w.heap[b]?) : TmA B w' v L := ⟨ownsRow_move h.1 hk, h.2⟩
theorem TmA.below {B : Nat} {w w' : World} {v : Value} {L : List Trm} (h : TmA B w v L) (hb : Below w.heap.size w w') : TmA B w' v L := h.move fun b _ hl => hb.block b hl
theorem TmA.mono {B B' : Nat} {w : World} {v : Value} {L : List Trm} (h : TmA B w v L) (hB : B' ≤ B) : TmA B' w v L := by
  obtain ⟨⟨h1, h2⟩, h3⟩ := h
  refine ⟨⟨h1, ?_⟩, h3⟩
  rcases h2 with h2 | ⟨g, cap, cur, rfl, hg, r⟩
  · exact .inl h2
  · exact .inr ⟨g, cap, cur, rfl, by omega, r⟩
theorem TmA.ge {B : Nat} {w : World} {v : Value} {L : List Trm} (h : TmA B w v L) : ∀ k, v.ownBlock = some k → B ≤ k ∧ k < w.heap.size := fun k hk => h.1.lt k hk
theorem TmA.form {B : Nat} {w : World} {v : Value} {L : List Trm} (h : TmA B w v L) : (v = .slice none 0 0 ∧ L = []) ∨ ∃ g cap, v = .slice (some ⟨g, 0, none⟩) L.length cap ∧ B ≤ g ∧ g < w.heap.size ∧ L.length ≤ cap ∧ cap ≤ maxLen ∧ ∀ i, w.frozen? ⟨g, i, none⟩ = false := by
  obtain ⟨⟨h1, h2⟩, h3⟩ := h
  rcases h2 with ⟨rfl, h0⟩ | ⟨g, cap, cur, rfl, hg, hh, hc, hm, _⟩
  · exact .inl ⟨rfl, List.length_eq_zero_iff.1 h0⟩
  · exact .inr ⟨g, cap, rfl, hg, blklt hh, hc, hm, fun i => by simp [World.frozen?, hh]⟩
theorem TmA.own {B : Nat} {w : World} {v : Value} {L : List Trm} (h : TmA B w v L) : ∃ A cap F, v = .slice A L.length cap ∧ Own shTerm B w L v F := by
  rcases h.form with ⟨rfl, rfl⟩ | ⟨g, cap, rfl, hg, hlt, hc, hm, _⟩
  · exact ⟨none, 0, [], rfl, Own.nil shTerm B w 0 (Nat.zero_le _) none⟩
  · rcases Nat.eq_zero_or_pos L.length with h0 | hp
    · have : L = [] := List.length_eq_zero_iff.1 h0
      subst this
      exact ⟨_, cap, [], rfl, Own.nil shTerm B w cap hm _⟩
    · exact ⟨_, cap, _, rfl, own_new (s := shTerm) flatTerm (fun d => rfl) (xs := L) h.1 h.2 hp⟩
theorem TmA.lst {B : Nat} {w : World} {v : Value} {L : List Trm} (h : TmA B w v L) : Lst shTerm w L v := by
  obtain ⟨A, cap, F, rfl, hO⟩ := h.own
  exact hO.lst
theorem setRun_by {cur : Array Value} {p : Nat} {d : Trm} {a b : Int} (hs : p + 5 ≤ cur.size) (h : (cur.toList.drop p).take 5 = encTerm d) : setRun cur p (encTerm (d.1, (a, b))) = (cur.setIfInBounds (p + 3) (.int .i64 a)).setIfInBounds (p + 4) (.int .i64 b) := by
  have hc : ∀ j, j < 5 → cur[p + j]? = (encTerm d)[j]? := fun j hj => by
    rw [← h, List.getElem?_take, if_pos hj, List.getElem?_drop, Array.getElem?_toList]
  apply Array.ext_getElem?
  intro q
  rw [setRun_at _ _ _ _ (by simpa using hs)]
  simp only [Array.getElem?_setIfInBounds, Array.size_setIfInBounds]
  have hlen : (encTerm (d.1, (a, b))).length = 5 := rfl
  rw [hlen]
  by_cases h4 : p + 4 = q
  · subst h4
    rw [if_pos (by omega), if_pos rfl, if_pos (by omega), show p + 4 - p = 4 by omega]
    rfl
  by_cases h3 : p + 3 = q
  · subst h3
    rw [if_pos (by omega), if_neg h4, if_pos rfl, if_pos (by omega), show p + 3 - p = 3 by omega]
    rfl
  rw [if_neg h4, if_neg h3]
  split
  · rename_i hq
    obtain ⟨j, rfl⟩ : ∃ j, q = p + j := ⟨q - p, by omega⟩
    have hj : j < 3 := by omega
    rw [hc j (by omega), show p + j - p = j by omega]
    match j, hj with
    | 0, _ => rfl
    | 1, _ => rfl
    | 2, _ => rfl
  · rfl
/-- A term's fraction is set. -/
theorem TmA.put {B : Nat} {w : World} {g n cap : Nat} {L : List Trm} (h : TmA B w (.slice (some ⟨g, 0, none⟩) n cap) L) {i : Nat} {d : Trm} (hd : L[i]? = some d) {a b : Int} (hok : okFr (a, b)) :
    TmA B ((w.setCell ⟨g, i * 5 + 3, none⟩ (.int .i64 a)).setCell ⟨g, i * 5 + 4, none⟩ (.int .i64 b)) (.slice (some ⟨g, 0, none⟩) n cap) (L.set i (d.1, (a, b))) := by
  obtain ⟨⟨h1, h2⟩, h3⟩ := h
  rcases h2 with ⟨h2, _⟩ | ⟨g', cap', cur, hv, hg, hh, hc, hm, hs, ht⟩
  · injection h2 with h2; cases h2
  · injection hv with e1 e2 e3
    injection e1 with e1
    injection e1 with e1
    subst e1; subst e2; subst e3
    have hi : i < L.length := (List.getElem?_eq_some_iff.1 hd).1
    have hi5 : (i + 1) * 5 ≤ L.length * 5 := Nat.mul_le_mul_right _ hi
    have hc5 : L.length * 5 ≤ cap * 5 := Nat.mul_le_mul_right _ hc
    have hr := setRun_take (enc := encTerm) (n := 5) (fun d => rfl) L hi (d.1, (a, b)) cur (by omega) ht
    rw [setRun_by (d := d) (by omega) (flat_at (enc := encTerm) (n := 5) (fun d => rfl) L hd cur.toList ht)] at hr
    have hl : (L.set i (d.1, (a, b))).length = L.length := List.length_set
    refine ⟨⟨flatMap_len (n := 5) (fun d => rfl) _, .inr ⟨g, cap, _, by rw [hl], hg, blkset0 (blkset0 hh _ _) _ _, by rw [hl]; exact hc, hm, by simp [hs], hr⟩⟩, fun x hx => ?_⟩
    rcases List.mem_or_eq_of_mem_set hx with hx | rfl
    · exact h3 x hx
    · exact ⟨(h3 d (List.mem_of_getElem? hd)).1, hok⟩
theorem append_terms (w : World) {B : Nat} {v u : Value} {L M : List Trm} (hA : TmA B w v L) (hM : Lst shTerm w M u) (hl : L.length + M.length ≤ 2097200) (hB : B ≤ w.heap.size) (ty : TypeId) :
    ∃ v' w', (Builtin.append_ #[32, 32] ty #[v, u]).run Tryz.prog w = .ok v' w' ∧ TmA B w' v' (L ++ M) ∧ Below B w w' ∧ w.grownBy w' v.ownBlock ∧ (∀ q, v'.ownBlock = some q → v.ownBlock = some q ∨ q = w.heap.size) := by
  obtain ⟨i1, zv1, hi1, hz1, hs1, hb1, hl1⟩ := infoB_spec (P := Tryz.prog) (e := 84) (sz := 5) (bytes := 40) (by kernel_rfl)
  obtain ⟨Am, cm, rfl, hcm, hmm⟩ := formTerm hM
  obtain ⟨Al, cl, hv, hcl, hml⟩ := formTerm hA.lst
  subst hv
  rcases Nat.eq_zero_or_pos M.length with h0 | hp
  · have hM0 : M = [] := List.length_eq_zero_iff.1 h0
    subst hM0
    refine ⟨_, w, run_append_nothing (P := Tryz.prog) w _ _ ty 84 i1 Tryz.underlying32 hi1 Al L.length cl hcl _ ?_, by rw [List.append_nil]; exact hA, Below.refl _ _, World.grownBy.refl _ _, fun q hq => .inl hq⟩
    cases Am
    · exact Src.ofNil _ Tryz.underlying32 _
    · exact Src.ofSlice _ Tryz.underlying32 _ 0 cm [] (by simp) (by simp) (by simp)
  · obtain ⟨b, o, cap, he, hb, hn⟩ := lst_news flatTerm (fun d => rfl) hM hp
    injection he with e1 e2 e3
    subst e1
    obtain ⟨g, cap, w', hr, h2, h3, h4, h5⟩ := run_append_lies (P := Tryz.prog) w 32 ty B 84 i1 zv1 5 40 Tryz.underlying32 hi1 hz1 hs1 hb1 hl1 (by decide) (.slice Al L.length cl) L.length (L.flatMap encTerm) hA.1 ⟨b, o, none⟩ M.length cm (M.flatMap encTerm) (flatMap_len (n := 5) (fun d => rfl) M) hn (by simp [Value.oneCell']; grind) hp (by unfold maxLen; omega) (by omega) hB _ rfl
    refine ⟨_, w', hr, ⟨by rw [List.flatMap_append, List.length_append]; exact h2, fun d hd => ?_⟩, grown_below (B := B) h3 (fun q hq => (hA.ge q hq).1) hB, h3, fun q hq => ?_⟩
    · rcases List.mem_append.1 hd with hd | hd
      · exact hA.2 d hd
      · exact oks_of flatTerm hM d hd
    · have : g = q := by simpa [Value.ownBlock] using hq
      exact this ▸ h4
theorem wp_append_terms (w : World) {B : Nat} {v u : Value} {L M : List Trm} (hA : TmA B w v L) (hM : Lst shTerm w M u) (hl : L.length + M.length ≤ 2097200) (hB : B ≤ w.heap.size) {o : Oper} {a : Act} {K : Act → World → Prop} {Q : Exit → Act → World → Prop} (s x : Operand)
    (ho : o.op = .call { callee := .builtin .append, args := #[s, x], argTypes := #[32, 32] }) (hs : a.eval s = v) (hx : a.eval x = u)
    (h : ∀ v' w', TmA B w' v' (L ++ M) → Below B w w' → w.grownBy w' v.ownBlock → (∀ q, v'.ownBlock = some q → v.ownBlock = some q ∨ q = w.heap.size) → K (a.put o.dst v') w') : o.wp Tryz.prog a w K Q := by
  obtain ⟨v', w', hr, h2, h3, h4, h5⟩ := append_terms w hA hM hl hB o.type
  unfold Oper.wp execOp
  simp only [ho, resolve, invoke, builtin, Sem.run_bind, Sem.run_pure, Result.andThen_ok, List.map_toArray, List.map_cons, List.map_nil, hs, hx, hr]
  exact h v' w' h2 h3 h4 h5
theorem wpList_append_terms (w : World) {B : Nat} {v u : Value} {L M : List Trm} (hA : TmA B w v L) (hM : Lst shTerm w M u) (hl : L.length + M.length ≤ 2097200) (hB : B ≤ w.heap.size) {ops : Array Oper} {rest : List Oper} {o : Oper} {a : Act} {Q : Exit → Act → World → Prop} (hgd : o.guard = none) (s x : Operand)
    (ho : o.op = .call { callee := .builtin .append, args := #[s, x], argTypes := #[32, 32] }) (hs : a.eval s = v) (hx : a.eval x = u)
    (h : ∀ v' w', TmA B w' v' (L ++ M) → Below B w w' → w.grownBy w' v.ownBlock → (∀ q, v'.ownBlock = some q → v.ownBlock = some q ∨ q = w.heap.size) → wpList Tryz.prog ops Q rest (a.put o.dst v') w') : wpList Tryz.prog ops Q (o :: rest) a w :=
  wpList_plain hgd fun _ hK => wp_append_terms w hA hM hl hB s x ho hs hx fun v' w' h1 h2 h3 h4 => hK _ _ (h v' w' h1 h2 h3 h4)
theorem lst_dropS {s : Sh} {w : World} {L : List s.T} {g o n c k : Nat} (h : Lst s w L (.slice (some ⟨g, o, none⟩) n c)) (hn : n = L.length) (hk : k ≤ n) : Lst s w (L.drop k) (.slice (some ⟨g, o + k * s.sz, none⟩) (n - k) (c - k)) := by
  subst hn
  obtain ⟨A, c', e, hc, hm, hel⟩ := rep_slice h
  injection e with e1 e2 e3
  subst e3
  refine ⟨_, _, by rw [List.length_drop], by rw [List.length_drop]; omega, by omega, fun hp => ⟨g, o + k * s.sz, rfl, fun i d hi => ?_⟩⟩
  rw [List.getElem?_drop] at hi
  have hlt : k + i < L.length := (List.getElem?_eq_some_iff.1 hi).1
  obtain ⟨bl, off, e4, hel⟩ := hel (by omega)
  rw [← e1] at e4
  injection e4 with e4
  injection e4 with e4 e5
  subst e4; subst e5
  obtain ⟨ec, h1, h2⟩ := hel (k + i) d hi
  refine ⟨ec, h1, fun j hj => ?_⟩
  have := h2 j hj
  rw [← this]
  congr 2
  show o + k * s.sz + (i * s.sz + j) = o + ((k + i) * s.sz + j)
  rw [Nat.add_mul]
  omega
theorem lst_takeS {s : Sh} {w : World} {L : List s.T} {A : Option Addr} {n c k : Nat} (h : Lst s w L (.slice A n c)) (hn : n = L.length) (hk : k ≤ n) : Lst s w (L.take k) (.slice A k c) := by
  subst hn
  obtain ⟨A', c', e, hc, hm, hel⟩ := rep_slice h
  injection e with e1 e2 e3
  subst e3
  subst e1
  have hlen : (L.take k).length = k := by rw [List.length_take]; omega
  refine ⟨A, c, by rw [hlen], by rw [hlen]; omega, hm, fun hp => ?_⟩
  obtain ⟨bl, off, e4, hel⟩ := hel (by omega)
  refine ⟨bl, off, e4, fun i d hi => ?_⟩
  have hik : i < k := by
    have := (List.getElem?_eq_some_iff.1 hi).1
    omega
  rw [List.getElem?_take_of_lt hik] at hi
  exact hel i d hi
/-- Where a flag's term stands or would stand. -/
def posT (e : Int) (xs : List Trm) : Nat := (xs.takeWhile fun d => decide (d.1.2.2 < e)).length
def insT (k : Nat) (xs : List Trm) (d : Trm) : List Trm := xs.take k ++ d :: xs.drop k
/-- A flag times a fraction is added to what was built. -/
def adB (s : Int × List Trm) (f : Flg) (q : Int × Int) : Int × List Trm :=
  if s.1 = 0 then
    match s.2[posT f.2.2 s.2]? with
    | some d => if d.1 = f then (rC (addO d.2 q), s.2.set (posT f.2.2 s.2) (f, rD (addO d.2 q))) else (0, insT (posT f.2.2 s.2) s.2 (f, q))
    | none => (0, insT (posT f.2.2 s.2) s.2 (f, q))
  else s
theorem posT_le (e : Int) (xs : List Trm) : posT e xs ≤ xs.length := (List.takeWhile_prefix _).sublist.length_le
theorem posT_lt {e : Int} {xs : List Trm} {k : Nat} {d : Trm} (hk : k < posT e xs) (hd : xs[k]? = some d) : d.1.2.2 < e := by
  have hm : d ∈ xs.takeWhile fun d => decide (d.1.2.2 < e) := by
    have hp : (xs.takeWhile fun d => decide (d.1.2.2 < e)) <+: xs := List.takeWhile_prefix _
    obtain ⟨t, ht⟩ := hp
    have : (xs.takeWhile fun d => decide (d.1.2.2 < e))[k]? = some d := by
      rw [← List.getElem?_append_left (l₂ := t) hk, ht, hd]
    exact List.mem_of_getElem? this
  have := List.all_eq_true.1 (List.all_takeWhile (p := fun d : Trm => decide (d.1.2.2 < e)) (l := xs)) d hm
  simpa using this
theorem posT_at {e : Int} {xs : List Trm} {d : Trm} (hd : xs[posT e xs]? = some d) : ¬ d.1.2.2 < e := by
  induction xs with
  | nil => simp at hd
  | cons x xs ih =>
    unfold posT at hd ih
    rw [List.takeWhile_cons] at hd
    split at hd
    · rw [List.length_cons, List.getElem?_cons_succ] at hd
      exact ih hd
    · rename_i h
      simp at hd h
      subst hd
      omega
end Go.Proofs.YtpcjinbbgnmchaaGreat

/- spec.l05Build: begin, add, end. -/
namespace Go.Proofs.YtpcjinbbgnmchaaGreat
open Go.ChangeShapes Go.WideShapes Go.RowKit
set_option linter.unusedVariables false
set_option linter.unusedSimpArgs false
attribute [local irreducible] Calls
/-- What was built lies in memory. -/
def Bld (B : Nat) (w : World) (bb : Nat) (tn te s c : Int) (xs : List Trm) : Prop := B ≤ bb ∧ ∃ o, w.heap[bb]? = some (.cells #[.int .i64 tn, .int .u32 te, .int .i64 s, o, .int .i64 c] 188 (0, 0)) ∧ TmA (bb + 1) w o xs
theorem Bld.below {B : Nat} {w w' : World} {bb : Nat} {tn te s c : Int} {xs : List Trm} (h : Bld B w bb tn te s c xs) (hb : Below w.heap.size w w') : Bld B w' bb tn te s c xs := by
  obtain ⟨h1, o, h2, h3⟩ := h
  exact ⟨h1, o, bblk hb (blklt h2) h2, h3.below hb⟩
theorem Bld.lt {B : Nat} {w : World} {bb : Nat} {tn te s c : Int} {xs : List Trm} (h : Bld B w bb tn te s c xs) : bb < w.heap.size := by
  obtain ⟨h1, o, h2, h3⟩ := h
  exact blklt h2
theorem inF_okB {d : Int × Int} (h : inF d) : okFr d := by
  obtain ⟨h1, h2, h3, h4⟩ := h
  simp [okFr, okI, Lit.wf, IntKind.min, IntKind.max, IntKind.signed, IntKind.bits]
  omega
theorem lst_nil0 {s : Sh} {w : World} {A : Option Addr} {n c : Nat} (hn : n = 0) (hc : c ≤ maxLen) : Lst s w [] (.slice A n c) := by
  subst hn
  exact (Own.nil s 0 w c hc A).lst
theorem rD_okB {x y : Int × Int} (hx : inF x) (hy : inF y) : okFr (rD (addO x y)) := by
  cases h : addO x y with
  | none => exact ⟨by decide, by decide⟩
  | some z => exact inF_okB (addO_in hx.2.2.1 hy.2.2.1 h)
theorem bBegin_any (w : World) (tn te s : Int) : Calls Tryz.prog 78 #[.agg #[.int .i64 tn, .int .u32 te], .int .i64 s] w fun e w' => ∃ bb, e = .returned (.pointer (some ⟨bb, 0, none⟩)) ∧ Bld w.heap.size w' bb tn te s 0 [] ∧ Below w.heap.size w w' := by
  go_enter Tryz.func78, Tryz.ntmps78
  go_wp2_with fail
  refine bodyPost_ret (v := .pointer (some ⟨_, 0, none⟩)) (by simp [results, Tryz.results78, go_sem] <;> rfl) rfl ⟨_, rfl, ⟨?_, _, blkA, TmA.nil⟩, belA⟩
  simp
set_option maxHeartbeats 4000000 in
theorem bAdd_any (w : World) (B bb : Nat) (tn te s c : Int) (xs : List Trm) (f : Flg) (q : Int × Int) (hb : Bld B w bb tn te s c xs) (hf : okFlag f) (hq : inF q) (hin : c = 0 → ∀ d ∈ xs, inF d.2) (hl : xs.length ≤ 1048576) :
    Calls Tryz.prog 80 #[.pointer (some ⟨bb, 0, none⟩), .agg #[.int .i64 f.1, .int .i64 f.2.1, .int .u32 f.2.2], .agg #[.int .i64 q.1, .int .i64 q.2]] w fun e w' => e = .returned (.tuple #[]) ∧ Bld B w' bb tn te s (adB (c, xs) f q).1 (adB (c, xs) f q).2 ∧ Below B w w' := by
  have HBL := Lib.hid hb
  obtain ⟨hBb, o, hbb, hA⟩ := hb
  obtain ⟨⟨a0, a1, a2, a3, a4⟩, fz⟩ := blk5 hbb
  have ybb := blklt hbb
  have KB := Lib.hid hbb
  by_cases hc : c = 0
  rotate_left
  · have hr : Hid (adB (c, xs) f q = (c, xs)) := Lib.hid (by unfold adB; rw [if_neg hc])
    clear hbb hA
    go_enter Tryz.func80, Tryz.ntmps80
    go_wp2_with fail
    refine bodyPost_ret (v := .tuple #[]) (by simp [results, Tryz.results80, go_sem]) rfl ⟨rfl, ?_, Below.mono (B := w.heap.size) belA (by omega)⟩
    rw [hr.out]
    exact HBL.out.below belA
  subst hc
  obtain ⟨N, hN⟩ : ∃ N : Nat, Hid (xs.length = N) := ⟨_, Lib.hid rfl⟩
  obtain ⟨K, hK⟩ : ∃ K : Nat, Hid (posT f.2.2 xs = K) := ⟨_, Lib.hid rfl⟩
  have hKN : K ≤ N := by rw [← hK.out, ← hN.out]; exact posT_le _ _
  have hlN : N ≤ 1048576 := by rw [← hN.out]; exact hl
  have HA := Lib.hid hA
  have HIN := Lib.hid (hin rfl)
  have HQ := Lib.hid hq
  have HF := Lib.hid hf
  have HQO : Hid (okFr q) := Lib.hid (inF_okB hq)
  obtain ⟨A, cap, _, ho, _⟩ := hA.own
  subst ho
  rw [hN.out] at a3 KB HA
  have hcap : Hid (N ≤ cap ∧ cap ≤ maxLen) := Lib.hid (by
    obtain ⟨A', cap', he, h1, h2⟩ := formTerm HA.out.lst
    injection he with _ e2 e3
    subst e3
    exact ⟨by omega, h2⟩)
  clear hbb hA hin hl hq hf
  go_enter Tryz.func80, Tryz.ntmps80
  go_wp2_with fail
  go_loopw [6] (fun i wr => ∃ (k : Nat), k ≤ K ∧ i = .int .i64 k ∧ wr.heap[bb]? = some (.cells #[.int .i64 tn, .int .u32 te, .int .i64 s, .slice A N cap, .int .i64 0] 188 (0, 0)) ∧ wr.heap[w.heap.size]? = some (.cells #[.int .i64 f.1, .int .i64 f.2.1, .int .u32 f.2.2] 81 (0, 0)) ∧ wr.heap[w.heap.size + 1]? = some (.cells #[.int .i64 q.1, .int .i64 q.2] 53 (0, 0)) ∧ Below w.heap.size w wr) (fun i _ => K - (intOf i).toNat)
  case atStart =>
    have kb := KB.out
    exact ⟨0, Nat.zero_le _, rfl, blkA, blkA, blkA, belA⟩
  case round =>
    obtain ⟨k, hk, rfl, b0, b1, b2, hB⟩ := hrel
    obtain ⟨W0, rfl⟩ : ∃ x, x = wr := ⟨_, rfl⟩
    clear a0 a1 a2 a3 a4 fz
    obtain ⟨⟨a0, a1, a2, a3, a4⟩, fz⟩ := blk5 b0
    obtain ⟨c0, c1, c2⟩ := blkc3 b1
    obtain ⟨q0, q1⟩ := blkc2 b2
    have y0 := blklt b0
    have y1 := blklt b1
    have y2 := blklt b2
    have B0 := Lib.hid b0
    have B1 := Lib.hid b1
    have B2 := Lib.hid b2
    have hzB := hB.size
    have HA0 := Lib.hid (HA.out.below hB)
    by_cases hlt : k < K
    · have hk8 : (k : Int) < (N : Int) := by omega
      obtain ⟨A', cap', he, _, _, hoks, hel⟩ := lstTerm HA0.out.lst
      injection he with e1 e2 e3
      subst e1
      obtain ⟨bl, off, hA', hel'⟩ := hel (by rw [hN.out]; omega)
      subst hA'
      obtain ⟨d, hd, hok, d0, d1, d2, d3, d4⟩ := hel' k (by rw [hN.out]; omega)
      have hdl : d.1.2.2 < f.2.2 := posT_lt (by rw [hK.out]; exact hlt) hd
      have zb := World.block_lt_of_cell? _ _ d0
      simp only at zb
      clear hel hel' hoks hd e2 e3 b0 b1 b2
      go_wp2_with fail
      (refine wp_region_held_drew (S := (fun w' => w'.cell? ⟨bb, 3, none⟩ = some (.slice (some ⟨bl, off, none⟩) N cap) ∧ w'.cell? ⟨bl, off + k * 5 + 2, none⟩ = some (.int .u32 d.1.2.2) ∧ w'.cell? ⟨w.heap.size, 2, none⟩ = some (.int .u32 f.2.2))) (by kernel_rfl) ?_ (fun hHeld => ?_); (focus (first | (simp [*, go_sem]; done) | fail)); refine rt 0 (some 13) (v := ?_) rfl rfl ?_ ?_; rotate_left; (focus (intro w' hSw; (try dsimp only at hSw); go_simp; (try with_reducible rfl))); (try simp only [Act.put, nA, nB, nC]); refine rt 1 (some 14) (v := ?_) rfl rfl ?_ ?_; rotate_left; (focus (intro w' hSw; (try dsimp only at hSw); go_simp; (try with_reducible rfl))); (try simp only [Act.put, nA, nB, nC]); refine rt 2 (some 15) (v := ?_) rfl rfl ?_ ?_; rotate_left; (focus (intro w' hSw; (try dsimp only at hSw); go_simp; (try with_reducible rfl))); (try simp only [Act.put, nA, nB, nC]); refine rt 3 (some 16) (v := ?_) rfl rfl ?_ ?_; rotate_left; (focus (intro w' hSw; (try dsimp only at hSw); go_simp; (try with_reducible rfl))); (try simp only [Act.put, nA, nB, nC]); refine rt 4 (some 17) (v := ?_) rfl rfl ?_ ?_; rotate_left; (focus (intro w' hSw; (try dsimp only at hSw); go_simp; (try with_reducible rfl))); (try simp only [Act.put, nA, nB, nC]); refine rt 5 (some 18) (v := ?_) rfl rfl ?_ ?_; rotate_left; (focus (intro w' hSw; (try dsimp only at hSw); go_simp; (try with_reducible rfl))); (try simp only [Act.put, nA, nB, nC]); refine rt 6 (some 19) (v := ?_) rfl rfl ?_ ?_; rotate_left; (focus (intro w' hSw; (try dsimp only at hSw); go_simp; (try with_reducible rfl))); (try simp only [Act.put, nA, nB, nC]); refine rt 7 (some 20) (v := ?_) rfl rfl ?_ ?_; rotate_left; (focus (intro w' hSw; (try dsimp only at hSw); go_simp; (try with_reducible rfl))); (try simp only [Act.put, nA, nB, nC]); refine rt 8 (some 21) (v := ?_) rfl rfl ?_ ?_; rotate_left; (focus (intro w' hSw; (try dsimp only at hSw); go_simp; (try with_reducible rfl))); (try simp only [Act.put, nA, nB, nC]); refine rt 9 (some 22) (v := ?_) rfl rfl ?_ ?_; rotate_left; (focus (intro w' hSw; (try dsimp only at hSw); go_simp; (try with_reducible rfl))); (try simp only [Act.put, nA, nB, nC]); refine rt 10 (some 23) (v := ?_) rfl rfl ?_ ?_; rotate_left; (focus (intro w' hSw; (try dsimp only at hSw); go_simp; (try with_reducible rfl))); (try simp only [Act.put, nA, nB, nC]); refine rt 11 (some 24) (v := ?_) rfl rfl ?_ ?_; rotate_left; (focus (intro w' hSw; (try dsimp only at hSw); go_simp; (try with_reducible rfl))); (try simp only [Act.put, nA, nB, nC]); refine rt 12 (some 25) (v := ?_) rfl rfl ?_ ?_; rotate_left; (focus (intro w' hSw; (try dsimp only at hSw); go_simp; (try with_reducible rfl))); (try simp only [Act.put, nA, nB, nC]); refine rt 13 (some 26) (v := ?_) rfl rfl ?_ ?_; rotate_left; (focus (intro w' hSw; (try dsimp only at hSw); go_simp; (try with_reducible rfl))); (try simp only [Act.put, nA, nB, nC]); refine rt 14 (some 27) (v := ?_) rfl rfl ?_ ?_; rotate_left; (focus (intro w' hSw; (try dsimp only at hSw); go_simp; (try with_reducible rfl))); (try simp only [Act.put, nA, nB, nC]); refine rt 15 (some 28) (v := ?_) rfl rfl ?_ ?_; rotate_left; (focus (intro w' hSw; (try dsimp only at hSw); go_simp; (try with_reducible rfl))); (try simp only [Act.put, nA, nB, nC]); refine rt 16 (some 29) (v := ?_) rfl rfl ?_ ?_; rotate_left; (focus (intro w' hSw; (try dsimp only at hSw); go_simp; (try with_reducible rfl))); (try simp only [Act.put, nA, nB, nC]); refine rt 17 (some 30) (v := ?_) rfl rfl ?_ ?_; rotate_left; (focus (intro w' hSw; (try dsimp only at hSw); go_simp; (try with_reducible rfl))); (try simp only [Act.put, nA, nB, nC]); refine rt 18 (some 31) (v := ?_) rfl rfl ?_ ?_; rotate_left; (focus (intro w' hSw; (try dsimp only at hSw); go_simp; (try with_reducible rfl))); (try simp only [Act.put, nA, nB, nC]); refine rt 19 (some 32) (v := ?_) rfl rfl ?_ ?_; rotate_left; (focus (intro w' hSw; (try dsimp only at hSw); go_simp; (try with_reducible rfl))); (try simp only [Act.put, nA, nB, nC]); refine rt 20 (some 33) (v := ?_) rfl rfl ?_ ?_; rotate_left; (focus (intro w' hSw; (try dsimp only at hSw); go_simp; (try with_reducible rfl))); (try simp only [Act.put, nA, nB, nC]); refine rt 21 (some 34) (v := ?_) rfl rfl ?_ ?_; rotate_left; (focus (intro w' hSw; (try dsimp only at hSw); go_simp; (try with_reducible rfl))); (try simp only [Act.put, nA, nB, nC]); refine rt 22 (some 35) (v := ?_) rfl rfl ?_ ?_; rotate_left; (focus (intro w' hSw; (try dsimp only at hSw); go_simp; (try with_reducible rfl))); (try simp only [Act.put, nA, nB, nC]); refine rt 23 (some 36) (v := ?_) rfl rfl ?_ ?_; rotate_left; (focus (intro w' hSw; (try dsimp only at hSw); go_simp; (try with_reducible rfl))); (try simp only [Act.put, nA, nB, nC]); refine rt 24 (some 37) (v := ?_) rfl rfl ?_ ?_; rotate_left; (focus (intro w' hSw; (try dsimp only at hSw); go_simp; (try with_reducible rfl))); (try simp only [Act.put, nA, nB, nC]); refine wpAnyH_done (by kernel_rfl) ?_ _)
      clear hHeld
      go_wp2_with fail
      go_roundw
      case rel =>
        exact ⟨k + 1, by omega, by go_num, blkdrew B0.out, blkdrew B1.out, blkdrew B2.out, bdrew1 hB⟩
      case measure => simp [intOf]; omega
    · have e : k = K := by omega
      subst e
      rcases Nat.lt_or_ge k N with hkN | hkN
      · have hk8 : (k : Int) < (N : Int) := by omega
        obtain ⟨A', cap', he, _, _, hoks, hel⟩ := lstTerm HA0.out.lst
        injection he with e1 e2 e3
        subst e1
        obtain ⟨bl, off, hA', hel'⟩ := hel (by rw [hN.out]; omega)
        subst hA'
        obtain ⟨d, hd, hok, d0, d1, d2, d3, d4⟩ := hel' k (by rw [hN.out]; omega)
        have hdl : ¬ d.1.2.2 < f.2.2 := posT_at (by rw [hK.out]; exact hd)
        have hdl' : f.2.2 ≤ d.1.2.2 := by omega
        have HD := Lib.hid hd
        have HOK := Lib.hid hok
        obtain ⟨ho0, hgB, hgl, hgf⟩ : off = 0 ∧ bb + 1 ≤ bl ∧ bl < W0.heap.size ∧ ∀ i, W0.frozen? ⟨bl, i, none⟩ = false := by
          rcases HA0.out.form with ⟨h, _⟩ | ⟨g', cap', h, h1, h2, _, _, h3⟩
          · injection h with h; cases h
          · injection h with h
            injection h with h
            injection h with h h'
            subst h
            exact ⟨h', h1, h2, h3⟩
        subst ho0
        simp only [Nat.zero_add] at d0 d1 d2 d3 d4
        have HDR : Hid (Lst shTerm W0 (xs.drop k) (.slice (some ⟨bl, k * 5, none⟩) (N - k : Nat) (cap - k))) := Lib.hid (by
          have h := lst_dropS HA0.out.lst hN.out.symm (Nat.le_of_lt hkN)
          rw [Nat.zero_add] at h
          exact h)
        have hdl9 : Hid ((xs.drop k).length = N - k) := Lib.hid (by rw [List.length_drop, hN.out])
        have HTK : Hid (Lst shTerm W0 (xs.take k) (.slice (some ⟨bl, 0, none⟩) k cap)) := Lib.hid (lst_takeS HA0.out.lst hN.out.symm (Nat.le_of_lt hkN))
        have htl : Hid ((xs.take k).length = k) := Lib.hid (by rw [List.length_take, hN.out]; omega)
        have hkc : k ≤ cap := by have := hcap.out.1; omega
        have hck : ¬ cap = k := by have := hcap.out.1; omega
        clear hel hel' hoks hd hok e2 e3 b0 b1 b2
        go_wp2_with fail
        (refine wp_region_held_drew (S := (fun w' => w'.cell? ⟨bb, 3, none⟩ = some (.slice (some ⟨bl, 0, none⟩) N cap) ∧ w'.cell? ⟨bl, k * 5 + 2, none⟩ = some (.int .u32 d.1.2.2) ∧ w'.cell? ⟨w.heap.size, 2, none⟩ = some (.int .u32 f.2.2))) (by kernel_rfl) ?_ (fun hHeld => ?_); (focus (first | (simp [*, go_sem]; done) | fail)); refine rt 0 (some 13) (v := ?_) rfl rfl ?_ ?_; rotate_left; (focus (intro w' hSw; (try dsimp only at hSw); go_simp; (try with_reducible rfl))); (try simp only [Act.put, nA, nB, nC]); refine rt 1 (some 14) (v := ?_) rfl rfl ?_ ?_; rotate_left; (focus (intro w' hSw; (try dsimp only at hSw); go_simp; (try with_reducible rfl))); (try simp only [Act.put, nA, nB, nC]); refine rt 2 (some 15) (v := ?_) rfl rfl ?_ ?_; rotate_left; (focus (intro w' hSw; (try dsimp only at hSw); go_simp; (try with_reducible rfl))); (try simp only [Act.put, nA, nB, nC]); refine rt 3 (some 16) (v := ?_) rfl rfl ?_ ?_; rotate_left; (focus (intro w' hSw; (try dsimp only at hSw); go_simp; (try with_reducible rfl))); (try simp only [Act.put, nA, nB, nC]); refine rt 4 (some 17) (v := ?_) rfl rfl ?_ ?_; rotate_left; (focus (intro w' hSw; (try dsimp only at hSw); go_simp; (try with_reducible rfl))); (try simp only [Act.put, nA, nB, nC]); refine rt 5 (some 18) (v := ?_) rfl rfl ?_ ?_; rotate_left; (focus (intro w' hSw; (try dsimp only at hSw); go_simp; (try with_reducible rfl))); (try simp only [Act.put, nA, nB, nC]); refine rt 6 (some 19) (v := ?_) rfl rfl ?_ ?_; rotate_left; (focus (intro w' hSw; (try dsimp only at hSw); go_simp; (try with_reducible rfl))); (try simp only [Act.put, nA, nB, nC]); refine rt 7 (some 20) (v := ?_) rfl rfl ?_ ?_; rotate_left; (focus (intro w' hSw; (try dsimp only at hSw); go_simp; (try with_reducible rfl))); (try simp only [Act.put, nA, nB, nC]); refine rt 8 (some 21) (v := ?_) rfl rfl ?_ ?_; rotate_left; (focus (intro w' hSw; (try dsimp only at hSw); go_simp; (try with_reducible rfl))); (try simp only [Act.put, nA, nB, nC]); refine rt 9 (some 22) (v := ?_) rfl rfl ?_ ?_; rotate_left; (focus (intro w' hSw; (try dsimp only at hSw); go_simp; (try with_reducible rfl))); (try simp only [Act.put, nA, nB, nC]); refine rt 10 (some 23) (v := ?_) rfl rfl ?_ ?_; rotate_left; (focus (intro w' hSw; (try dsimp only at hSw); go_simp; (try with_reducible rfl))); (try simp only [Act.put, nA, nB, nC]); refine rt 11 (some 24) (v := ?_) rfl rfl ?_ ?_; rotate_left; (focus (intro w' hSw; (try dsimp only at hSw); go_simp; (try with_reducible rfl))); (try simp only [Act.put, nA, nB, nC]); refine rt 12 (some 25) (v := ?_) rfl rfl ?_ ?_; rotate_left; (focus (intro w' hSw; (try dsimp only at hSw); go_simp; (try with_reducible rfl))); (try simp only [Act.put, nA, nB, nC]); refine rt 13 (some 26) (v := ?_) rfl rfl ?_ ?_; rotate_left; (focus (intro w' hSw; (try dsimp only at hSw); go_simp; (try with_reducible rfl))); (try simp only [Act.put, nA, nB, nC]); refine rt 14 (some 27) (v := ?_) rfl rfl ?_ ?_; rotate_left; (focus (intro w' hSw; (try dsimp only at hSw); go_simp; (try with_reducible rfl))); (try simp only [Act.put, nA, nB, nC]); refine rt 15 (some 28) (v := ?_) rfl rfl ?_ ?_; rotate_left; (focus (intro w' hSw; (try dsimp only at hSw); go_simp; (try with_reducible rfl))); (try simp only [Act.put, nA, nB, nC]); refine rt 16 (some 29) (v := ?_) rfl rfl ?_ ?_; rotate_left; (focus (intro w' hSw; (try dsimp only at hSw); go_simp; (try with_reducible rfl))); (try simp only [Act.put, nA, nB, nC]); refine rt 17 (some 30) (v := ?_) rfl rfl ?_ ?_; rotate_left; (focus (intro w' hSw; (try dsimp only at hSw); go_simp; (try with_reducible rfl))); (try simp only [Act.put, nA, nB, nC]); refine rt 18 (some 31) (v := ?_) rfl rfl ?_ ?_; rotate_left; (focus (intro w' hSw; (try dsimp only at hSw); go_simp; (try with_reducible rfl))); (try simp only [Act.put, nA, nB, nC]); refine rt 19 (some 32) (v := ?_) rfl rfl ?_ ?_; rotate_left; (focus (intro w' hSw; (try dsimp only at hSw); go_simp; (try with_reducible rfl))); (try simp only [Act.put, nA, nB, nC]); refine rt 20 (some 33) (v := ?_) rfl rfl ?_ ?_; rotate_left; (focus (intro w' hSw; (try dsimp only at hSw); go_simp; (try with_reducible rfl))); (try simp only [Act.put, nA, nB, nC]); refine rt 21 (some 34) (v := ?_) rfl rfl ?_ ?_; rotate_left; (focus (intro w' hSw; (try dsimp only at hSw); go_simp; (try with_reducible rfl))); (try simp only [Act.put, nA, nB, nC]); refine rt 22 (some 35) (v := ?_) rfl rfl ?_ ?_; rotate_left; (focus (intro w' hSw; (try dsimp only at hSw); go_simp; (try with_reducible rfl))); (try simp only [Act.put, nA, nB, nC]); refine rt 23 (some 36) (v := ?_) rfl rfl ?_ ?_; rotate_left; (focus (intro w' hSw; (try dsimp only at hSw); go_simp; (try with_reducible rfl))); (try simp only [Act.put, nA, nB, nC]); refine rt 24 (some 37) (v := ?_) rfl rfl ?_ ?_; rotate_left; (focus (intro w' hSw; (try dsimp only at hSw); go_simp; (try with_reducible rfl))); (try simp only [Act.put, nA, nB, nC]); refine wpAnyH_done (by kernel_rfl) ?_ _)
        clear hHeld
        go_wp2_with fail
        (refine wp_region_held_drew (S := (fun w' => w'.cell? ⟨bb, 3, none⟩ = some (.slice (some ⟨bl, 0, none⟩) N cap) ∧ w'.cell? ⟨bl, k * 5, none⟩ = some (.int .i64 d.1.1) ∧ w'.cell? ⟨bl, k * 5 + 1, none⟩ = some (.int .i64 d.1.2.1) ∧ w'.cell? ⟨bl, k * 5 + 2, none⟩ = some (.int .u32 d.1.2.2) ∧ w'.cell? ⟨w.heap.size, 0, none⟩ = some (.int .i64 f.1) ∧ w'.cell? ⟨w.heap.size, 1, none⟩ = some (.int .i64 f.2.1) ∧ w'.cell? ⟨w.heap.size, 2, none⟩ = some (.int .u32 f.2.2))) (by kernel_rfl) ?_ (fun hHeld => ?_); (focus (first | (simp [*, go_sem]; done) | fail)); refine rt 0 (some 40) (v := ?_) rfl rfl ?_ ?_; rotate_left; (focus (intro w' hSw; (try dsimp only at hSw); go_simp; (try with_reducible rfl))); (try simp only [Act.put, nA, nB, nC]); refine rt 1 (some 41) (v := ?_) rfl rfl ?_ ?_; rotate_left; (focus (intro w' hSw; (try dsimp only at hSw); go_simp; (try with_reducible rfl))); (try simp only [Act.put, nA, nB, nC]); refine rt 2 (some 42) (v := ?_) rfl rfl ?_ ?_; rotate_left; (focus (intro w' hSw; (try dsimp only at hSw); go_simp; (try with_reducible rfl))); (try simp only [Act.put, nA, nB, nC]); refine rt 3 (some 43) (v := ?_) rfl rfl ?_ ?_; rotate_left; (focus (intro w' hSw; (try dsimp only at hSw); go_simp; (try with_reducible rfl))); (try simp only [Act.put, nA, nB, nC]); refine rt 4 (some 44) (v := ?_) rfl rfl ?_ ?_; rotate_left; (focus (intro w' hSw; (try dsimp only at hSw); go_simp; (try with_reducible rfl))); (try simp only [Act.put, nA, nB, nC]); refine rt 5 (some 45) (v := ?_) rfl rfl ?_ ?_; rotate_left; (focus (intro w' hSw; (try dsimp only at hSw); go_simp; (try with_reducible rfl))); (try simp only [Act.put, nA, nB, nC]); refine rt 6 (some 46) (v := ?_) rfl rfl ?_ ?_; rotate_left; (focus (intro w' hSw; (try dsimp only at hSw); go_simp; (try with_reducible rfl))); (try simp only [Act.put, nA, nB, nC]); refine rt 7 (some 47) (v := ?_) rfl rfl ?_ ?_; rotate_left; (focus (intro w' hSw; (try dsimp only at hSw); go_simp; (try with_reducible rfl))); (try simp only [Act.put, nA, nB, nC]); refine rt 8 (some 48) (v := ?_) rfl rfl ?_ ?_; rotate_left; (focus (intro w' hSw; (try dsimp only at hSw); go_simp; (try with_reducible rfl))); (try simp only [Act.put, nA, nB, nC]); refine rt 9 (some 49) (v := ?_) rfl rfl ?_ ?_; rotate_left; (focus (intro w' hSw; (try dsimp only at hSw); go_simp; (try with_reducible rfl))); (try simp only [Act.put, nA, nB, nC]); refine rt 10 (some 50) (v := ?_) rfl rfl ?_ ?_; rotate_left; (focus (intro w' hSw; (try dsimp only at hSw); go_simp; (try with_reducible rfl))); (try simp only [Act.put, nA, nB, nC]); refine rt 11 (some 51) (v := ?_) rfl rfl ?_ ?_; rotate_left; (focus (intro w' hSw; (try dsimp only at hSw); go_simp; (try with_reducible rfl))); (try simp only [Act.put, nA, nB, nC]); refine rt 12 (some 52) (v := ?_) rfl rfl ?_ ?_; rotate_left; (focus (intro w' hSw; (try dsimp only at hSw); go_simp; (try with_reducible rfl))); (try simp only [Act.put, nA, nB, nC]); refine rt 13 (some 53) (v := ?_) rfl rfl ?_ ?_; rotate_left; (focus (intro w' hSw; (try dsimp only at hSw); go_simp; (try with_reducible rfl))); (try simp only [Act.put, nA, nB, nC]); refine rt 14 (some 54) (v := ?_) rfl rfl ?_ ?_; rotate_left; (focus (intro w' hSw; (try dsimp only at hSw); go_simp; (try with_reducible rfl))); (try simp only [Act.put, nA, nB, nC]); refine rt 15 (some 55) (v := ?_) rfl rfl ?_ ?_; rotate_left; (focus (intro w' hSw; (try dsimp only at hSw); go_simp; (try with_reducible rfl))); (try simp only [Act.put, nA, nB, nC]); refine rt 16 (some 56) (v := ?_) rfl rfl ?_ ?_; rotate_left; (focus (intro w' hSw; (try dsimp only at hSw); go_simp; (try with_reducible rfl))); (try simp only [Act.put, nA, nB, nC]); refine rt 17 (some 57) (v := ?_) rfl rfl ?_ ?_; rotate_left; (focus (intro w' hSw; (try dsimp only at hSw); go_simp; (try with_reducible rfl))); (try simp only [Act.put, nA, nB, nC]); refine rt 18 (some 58) (v := ?_) rfl rfl ?_ ?_; rotate_left; (focus (intro w' hSw; (try dsimp only at hSw); go_simp; (try with_reducible rfl))); (try simp only [Act.put, nA, nB, nC]); refine rt 19 (some 59) (v := ?_) rfl rfl ?_ ?_; rotate_left; (focus (intro w' hSw; (try dsimp only at hSw); go_simp; (try with_reducible rfl))); (try simp only [Act.put, nA, nB, nC]); refine rt 20 (some 60) (v := ?_) rfl rfl ?_ ?_; rotate_left; (focus (intro w' hSw; (try dsimp only at hSw); go_simp; (try with_reducible rfl))); (try simp only [Act.put, nA, nB, nC]); refine wpAnyH_done (by kernel_rfl) ?_ _)
        clear hHeld
        cases hp : eq3 d.1.1 d.1.2.1 d.1.2.2 f.1 f.2.1 f.2.2
        · have HR : Hid (adB (0, xs) f q = (0, insT k xs (f, q))) := Lib.hid (by
            have hne : d.1 ≠ f := fun e => by
              rw [e] at hp
              simp [eq3] at hp
            unfold adB
            simp only [if_true, hK.out, HD.out, if_neg hne])
          go_wp2_with fail
          (refine wp_region_held_drew (S := (fun w' => w'.cell? ⟨bb, 3, none⟩ = some (.slice (some ⟨bl, 0, none⟩) N cap) ∧ w'.cell? ⟨w.heap.size, 0, none⟩ = some (.int .i64 f.1) ∧ w'.cell? ⟨w.heap.size, 1, none⟩ = some (.int .i64 f.2.1) ∧ w'.cell? ⟨w.heap.size, 2, none⟩ = some (.int .u32 f.2.2) ∧ w'.cell? ⟨w.heap.size + 1, 0, none⟩ = some (.int .i64 q.1) ∧ w'.cell? ⟨w.heap.size + 1, 1, none⟩ = some (.int .i64 q.2))) (by kernel_rfl) ?_ (fun hHeld => ?_); (focus (first | (simp [*, go_sem]; done) | fail)); refine rt 0 (some 86) (v := ?_) rfl rfl ?_ ?_; rotate_left; (focus (intro w' hSw; (try dsimp only at hSw); go_simp; (try with_reducible rfl))); (try simp only [Act.put, nA, nB, nC]); refine rt 1 (some 87) (v := ?_) rfl rfl ?_ ?_; rotate_left; (focus (intro w' hSw; (try dsimp only at hSw); go_simp; (try with_reducible rfl))); (try simp only [Act.put, nA, nB, nC]); refine rt 2 (some 88) (v := ?_) rfl rfl ?_ ?_; rotate_left; (focus (intro w' hSw; (try dsimp only at hSw); go_simp; (try with_reducible rfl))); (try simp only [Act.put, nA, nB, nC]); refine rt 4 (some 90) (v := ?_) rfl rfl ?_ ?_; rotate_left; (focus (intro w' hSw; (try dsimp only at hSw); go_simp; (try with_reducible rfl))); (try simp only [Act.put, nA, nB, nC]); refine rt 5 (some 91) (v := ?_) rfl rfl ?_ ?_; rotate_left; (focus (intro w' hSw; (try dsimp only at hSw); go_simp; (try with_reducible rfl))); (try simp only [Act.put, nA, nB, nC]); refine rt 6 (some 92) (v := ?_) rfl rfl ?_ ?_; rotate_left; (focus (intro w' hSw; (try dsimp only at hSw); go_simp; (try with_reducible rfl))); (try simp only [Act.put, nA, nB, nC]); refine rt 7 (some 93) (v := ?_) rfl rfl ?_ ?_; rotate_left; (focus (intro w' hSw; (try dsimp only at hSw); go_simp; (try with_reducible rfl))); (try simp only [Act.put, nA, nB, nC]); refine rt 8 (some 94) (v := ?_) rfl rfl ?_ ?_; rotate_left; (focus (intro w' hSw; (try dsimp only at hSw); go_simp; (try with_reducible rfl))); (try simp only [Act.put, nA, nB, nC]); refine rt 9 (some 95) (v := ?_) rfl rfl ?_ ?_; rotate_left; (focus (intro w' hSw; (try dsimp only at hSw); go_simp; (try with_reducible rfl))); (try simp only [Act.put, nA, nB, nC]); refine rt 10 (some 96) (v := ?_) rfl rfl ?_ ?_; rotate_left; (focus (intro w' hSw; (try dsimp only at hSw); go_simp; (try with_reducible rfl))); (try simp only [Act.put, nA, nB, nC]); refine wpAnyH_ready (rs := [3]) (by kernel_rfl) (by simp) ?_; refine AllReadyH.cons rfl (fun K hK => ?_) AllReadyH.nil; (try go_simp); refine hK.out _ _ ?_ (fun hHeld => ?_); (focus (first | (simp [*, go_sem]; done) | fail)); clear hK K; (try simp only [Act.put, nA, nB, nC]); refine wpAnyH_ready (rs := [11]) (by kernel_rfl) (by simp) ?_; refine AllReadyH.cons rfl (fun K hK => ?_) AllReadyH.nil; (rw [if_pos (by simp [Region.wanted])]; refine wp_append_terms _ (B := W0.heap.size) (L := [((f, q) : Trm)]) (M := xs.drop k) (TmA.one (B := W0.heap.size) (g := W0.heap.size) (d := (f, q)) (blkdrew (blkdrew (blkdrew (blknew W0 _)))) (Nat.le_refl _) ⟨HF.out, HQO.out⟩) (HDR.out.below (bdrew1 (bdrew1 (bdrew1 (bal (Below.refl _ _) _))))) (by rw [hdl9.out]; simp; omega) (by simp) (.tmp 89) (.tmp 96) rfl rfl rfl ?_; intro v2 w2 hA2 hb2 hg2 hq2; have HA2 := Lib.hid hA2; have HB2 := Lib.hid (show Below W0.heap.size W0 w2 from Below.trans (bdrew1 (bdrew1 (bdrew1 (bal (Below.refl _ _) _)))) hb2); have m3 := bkeep HB2.out a3; have m0 := bkeep HB2.out c0; have m1 := bkeep HB2.out c1; have m2 := bkeep HB2.out c2; have l0 := bkeep HB2.out q0; have l1 := bkeep HB2.out q1; clear hA2 hb2 hg2 hq2); refine hK.out _ _ ?_ (fun hHeld => ?_); (focus (first | (simp [*, go_sem]; done) | fail)); clear hK K; (try simp only [Act.put, nA, nB, nC]); refine rt 12 (some 7) (v := ?_) rfl rfl ?_ ?_; rotate_left; (focus (intro w' hSw; (try dsimp only at hSw); go_simp; (try with_reducible rfl))); (try simp only [Act.put, nA, nB, nC]); refine wpAnyH_done (by kernel_rfl) ?_ _)
          clear hHeld
          have KB2 := Lib.hid (bblk HB2.out y0 B0.out)
          have fz2 := (blk5 KB2.out).2
          have y02 := blklt KB2.out
          have hz2 := HB2.out.size
          clear c0 c1 c2 q0 q1 a0 a1 a2 a3 a4 d0 d1 d2 d3 d4 fz hgf m0 m1 m2 l0 l1
          go_wp2_with (first | (at_builtin; refine wpList_append_terms _ (B := w2.heap.size) (L := []) (M := xs.take k) (TmA.new (g := w2.heap.size) (blknew _ _) (Nat.le_refl _)) (HTK.out.below (bal HB2.out _)) (by rw [htl.out]; simp; omega) (by simp) rfl (.tmp 99) (.tmp 106) rfl rfl rfl ?_; intro v3 w3 hA3 hb3 hg3 hq3; have HA3 := Lib.hid hA3; have HB3 := Lib.hid (show Below w2.heap.size w2 w3 from Below.trans (bal (Below.refl _ _) _) hb3); have m3 := bkeep HB3.out m3; clear hA3 hb3 hg3 hq3) | (at_builtin; refine wpList_append_terms _ (B := w2.heap.size) (L := [] ++ xs.take k) (M := [((f, q) : Trm)] ++ xs.drop k) HA3.out (HA2.out.lst.below HB3.out) (by simp [htl.out, hdl9.out]; omega) HB3.out.size rfl (.tmp 107) (.tmp 108) rfl rfl rfl ?_; intro v4 w4 hA4 hb4 hg4 hq4; obtain ⟨A4, cap4, F4, hv4, _⟩ := hA4.own; obtain ⟨n4, hn4⟩ : ∃ n, (([] ++ xs.take k) ++ ([((f, q) : Trm)] ++ xs.drop k)).length = n := ⟨_, rfl⟩; rw [hn4] at hv4; subst hv4; clear hn4; have HA4 := Lib.hid hA4; have HB4 := Lib.hid (show Below w2.heap.size w2 w4 from HB3.out.trans hb4); have KB4 := Lib.hid (bblk HB4.out y02 KB2.out); have fz4 := (blk5 KB4.out).2; have m34 := (blk5 KB4.out).1.2.2.2.1; have y04 := blklt KB4.out; clear hA4 hb4 hg4 hq4))
          refine bodyPost_end (v := .tuple #[]) (by simp [results, Tryz.results80, go_sem]) rfl ⟨rfl, ?_, ?_⟩
          · rw [HR.out]
            refine ⟨hBb, .slice A4 n4 cap4, blkset0 KB4.out 3 _, ?_⟩
            have := (HA4.out.mono (B' := bb + 1) (by omega)).move (w' := w4.setCell ⟨bb, 3, none⟩ (.slice A4 n4 cap4)) fun b h1 _ => Below.heap_setCell _ ⟨bb, 3, none⟩ _ b (by show b ≠ bb; omega)
            exact this
          · have hw4 : Below w.heap.size w w4 := (hB.trans (HB2.out.mono hzB)).trans (HB4.out.mono (by omega))
            exact Below.setCell (hw4.mono (by omega)) (by show B ≤ bb; omega) _
        · have hdf : d.1 = f := by
            obtain ⟨⟨x0, x1, x2⟩, x3⟩ := d
            obtain ⟨f0, f1, f2⟩ := f
            simp [eq3] at hp
            simp [hp]
          have HDI := Lib.hid (HIN.out d (List.mem_of_getElem? HD.out))
          obtain ⟨R, hR⟩ : ∃ R, Hid (rD (addO d.2 q) = R) := ⟨_, Lib.hid rfl⟩
          obtain ⟨RC, hRC⟩ : ∃ RC, Hid (rC (addO d.2 q) = RC) := ⟨_, Lib.hid rfl⟩
          have hRO : Hid (okFr R) := Lib.hid (by rw [← hR.out]; exact rD_okB HDI.out HQ.out)
          have HR : Hid (adB (0, xs) f q = (RC, xs.set k (d.1, (R.1, R.2)))) := Lib.hid (by
            unfold adB
            simp only [if_true, hK.out, HD.out, if_pos hdf]
            rw [hR.out, hRC.out, hdf])
          have hbn : bb ≠ bl := by omega
          have hbn2 : bl ≠ bb := by omega
          have HDF := Lib.hid hdf
          clear hdf
          go_wp2_with fail
          (refine wp_region_held_drew (S := (fun w' => w'.cell? ⟨bb, 3, none⟩ = some (.slice (some ⟨bl, 0, none⟩) N cap) ∧ w'.cell? ⟨w.heap.size + 1, 0, none⟩ = some (.int .i64 q.1) ∧ w'.cell? ⟨w.heap.size + 1, 1, none⟩ = some (.int .i64 q.2))) (by kernel_rfl) ?_ (fun hHeld => ?_); (focus (first | (simp [*, go_sem]; done) | fail)); refine rt 0 (some 62) (v := ?_) rfl rfl ?_ ?_; rotate_left; (focus (intro w' hSw; (try dsimp only at hSw); go_simp; (try with_reducible rfl))); (try simp only [Act.put, nA, nB, nC]); refine rt 1 (some 63) (v := ?_) rfl rfl ?_ ?_; rotate_left; (focus (intro w' hSw; (try dsimp only at hSw); go_simp; (try with_reducible rfl))); (try simp only [Act.put, nA, nB, nC]); refine rt 2 (some 64) (v := ?_) rfl rfl ?_ ?_; rotate_left; (focus (intro w' hSw; (try dsimp only at hSw); go_simp; (try with_reducible rfl))); (try simp only [Act.put, nA, nB, nC]); refine rt 3 (some 65) (v := ?_) rfl rfl ?_ ?_; rotate_left; (focus (intro w' hSw; (try dsimp only at hSw); go_simp; (try with_reducible rfl))); (try simp only [Act.put, nA, nB, nC]); refine rt 4 (some 66) (v := ?_) rfl rfl ?_ ?_; rotate_left; (focus (intro w' hSw; (try dsimp only at hSw); go_simp; (try with_reducible rfl))); (try simp only [Act.put, nA, nB, nC]); refine rt 5 (some 67) (v := ?_) rfl rfl ?_ ?_; rotate_left; (focus (intro w' hSw; (try dsimp only at hSw); go_simp; (try with_reducible rfl))); (try simp only [Act.put, nA, nB, nC]); refine rt 6 (some 68) (v := ?_) rfl rfl ?_ ?_; rotate_left; (focus (intro w' hSw; (try dsimp only at hSw); go_simp; (try with_reducible rfl))); (try simp only [Act.put, nA, nB, nC]); refine rt 7 (some 69) (v := ?_) rfl rfl ?_ ?_; rotate_left; (focus (intro w' hSw; (try dsimp only at hSw); go_simp; (try with_reducible rfl))); (try simp only [Act.put, nA, nB, nC]); refine rt 8 (some 70) (v := ?_) rfl rfl ?_ ?_; rotate_left; (focus (intro w' hSw; (try dsimp only at hSw); go_simp; (try with_reducible rfl))); (try simp only [Act.put, nA, nB, nC]); refine rt 9 (some 71) (v := ?_) rfl rfl ?_ ?_; rotate_left; (focus (intro w' hSw; (try dsimp only at hSw); go_simp; (try with_reducible rfl))); (try simp only [Act.put, nA, nB, nC]); refine rt 10 (some 72) (v := ?_) rfl rfl ?_ ?_; rotate_left; (focus (intro w' hSw; (try dsimp only at hSw); go_simp; (try with_reducible rfl))); (try simp only [Act.put, nA, nB, nC]); refine rt 11 (some 73) (v := ?_) rfl rfl ?_ ?_; rotate_left; (focus (intro w' hSw; (try dsimp only at hSw); go_simp; (try with_reducible rfl))); (try simp only [Act.put, nA, nB, nC]); refine rt 12 (some 74) (v := ?_) rfl rfl ?_ ?_; rotate_left; (focus (intro w' hSw; (try dsimp only at hSw); go_simp; (try with_reducible rfl))); (try simp only [Act.put, nA, nB, nC]); refine rt 13 (some 75) (v := ?_) rfl rfl ?_ ?_; rotate_left; (focus (intro w' hSw; (try dsimp only at hSw); go_simp; (try with_reducible rfl))); (try simp only [Act.put, nA, nB, nC]); refine rt 14 (some 76) (v := ?_) rfl rfl ?_ ?_; rotate_left; (focus (intro w' hSw; (try dsimp only at hSw); go_simp; (try with_reducible rfl))); (try simp only [Act.put, nA, nB, nC]); refine rt 16 (some 78) (v := ?_) rfl rfl ?_ ?_; rotate_left; (focus (intro w' hSw; (try dsimp only at hSw); go_simp; (try with_reducible rfl))); (try simp only [Act.put, nA, nB, nC]); refine wpAnyH_ready (rs := [15]) (by kernel_rfl) (by simp) ?_; refine AllReadyH.cons rfl (fun K hK => ?_) AllReadyH.nil; (try go_simp); refine hK.out _ _ ?_ (fun hHeld => ?_); (focus (first | (simp [*, go_sem]; done) | fail)); clear hK K; (try simp only [Act.put, nA, nB, nC]); refine wpAnyH_ready (rs := [17]) (by kernel_rfl) (by simp) ?_; refine AllReadyH.cons rfl (fun K hK => ?_) AllReadyH.nil; go_simp; (go_at_call 97; refine Calls.mono (radd_any d.2 q _ HDI.out HQ.out) ?_; rw [hR.out, hRC.out]; rintro e1 w3 ⟨rfl, hb⟩; have HB3 : Hid (Below W0.heap.size W0 w3) := Lib.hid (Below.trans belA (hb.mono (by simp))); have m3 := bkeep HB3.out a3; have l0 := bkeep HB3.out q0; have l1 := bkeep HB3.out q1; have x3 := bkeep HB3.out d3; have x4 := bkeep HB3.out d4; have KB3 := Lib.hid (bblk HB3.out y0 B0.out); have fz3 := (blk5 KB3.out).2; have x5 := (blk5 KB3.out).1.2.2.2.2; have hgf3 : ∀ i, w3.frozen? ⟨bl, i, none⟩ = false := (fun i => (HB3.out.frozen (p := ⟨bl, i, none⟩) hgl).trans (hgf i)); have y03 := blklt KB3.out; have y13 : bl < w3.heap.size := (by have := HB3.out.size; omega); clear hb); go_wp2_with fail; refine hK.out _ _ ?_ (fun hHeld => ?_); (focus (first | (simp [*, go_sem]; done) | fail)); clear hK K; (try simp only [Act.put, nA, nB, nC]); refine rt 18 (some 61) (v := ?_) rfl rfl ?_ ?_; rotate_left; (focus (intro w' hSw; (try dsimp only at hSw); go_simp; (try with_reducible rfl))); (try simp only [Act.put, nA, nB, nC]); refine rt 19 (some 80) (v := ?_) rfl rfl ?_ ?_; rotate_left; (focus (intro w' hSw; (try dsimp only at hSw); go_simp; (try with_reducible rfl))); (try simp only [Act.put, nA, nB, nC]); refine rt 20 (some 81) (v := ?_) rfl rfl ?_ ?_; rotate_left; (focus (intro w' hSw; (try dsimp only at hSw); go_simp; (try with_reducible rfl))); (try simp only [Act.put, nA, nB, nC]); refine rt 21 (some 82) (v := ?_) rfl rfl ?_ ?_; rotate_left; (focus (intro w' hSw; (try dsimp only at hSw); go_simp; (try with_reducible rfl))); (try simp only [Act.put, nA, nB, nC]); refine rt 22 (some 83) (v := ?_) rfl rfl ?_ ?_; rotate_left; (focus (intro w' hSw; (try dsimp only at hSw); go_simp; (try with_reducible rfl))); (try simp only [Act.put, nA, nB, nC]); refine wpAnyH_ready (rs := [23]) (by kernel_rfl) (by simp) ?_; refine AllReadyH.cons rfl (fun K hK => ?_) AllReadyH.nil; (try go_simp); refine hK.out _ _ ?_ (fun hHeld => ?_); (focus (first | (simp [*, go_sem]; done) | fail)); clear hK K; (try simp only [Act.put, nA, nB, nC]); refine rt 24 (some 84) (v := ?_) rfl rfl ?_ ?_; rotate_left; (focus (intro w' hSw; (try dsimp only at hSw); go_simp; (try with_reducible rfl))); (try simp only [Act.put, nA, nB, nC]); refine rt 25 (some 85) (v := ?_) rfl rfl ?_ ?_; rotate_left; (focus (intro w' hSw; (try dsimp only at hSw); go_simp; (try with_reducible rfl))); (try simp only [Act.put, nA, nB, nC]); refine wpAnyH_ready (rs := [26]) (by kernel_rfl) (by simp) ?_; refine AllReadyH.cons rfl (fun K hK => ?_) AllReadyH.nil; (try go_simp); refine hK.out _ _ ?_ (fun hHeld => ?_); (focus (first | (simp [*, go_sem]; done) | fail)); clear hK K; (try simp only [Act.put, nA, nB, nC]); refine wpAnyH_done (by kernel_rfl) ?_ _)
          clear hHeld
          go_wp2_with fail
          refine bodyPost_ret (v := .tuple #[]) (by simp [results, Tryz.results80, go_sem]) rfl ⟨rfl, ?_, ?_⟩
          · rw [HR.out]
            have hT := ((HA0.out.below HB3.out).put HD.out (a := R.1) (b := R.2) hRO.out).move (w' := ((w3.setCell ⟨bl, k * 5 + 3, none⟩ (.int .i64 R.1)).setCell ⟨bl, k * 5 + 4, none⟩ (.int .i64 R.2)).setCell ⟨bb, 4, none⟩ (.int .i64 RC)) fun b h1 _ => Below.heap_setCell _ ⟨bb, 4, none⟩ _ b (by show b ≠ bb; omega)
            exact ⟨hBb, .slice (some ⟨bl, 0, none⟩) N cap, blkset0 (blkset (blkset KB3.out (by show bb ≠ bl; omega) _) (by show bb ≠ bl; omega) _) 4 _, hT⟩
          · have hw3 : Below w.heap.size w w3 := hB.trans (HB3.out.mono hzB)
            exact Below.setCell (Below.setCell (Below.setCell (hw3.mono (by omega)) (by show B ≤ bl; omega) _) (by show B ≤ bl; omega) _) (by show B ≤ bb; omega) _
      · have e : k = N := by omega
        have HR : Hid (adB (0, xs) f q = (0, insT k xs (f, q))) := Lib.hid (by
          have hn : xs[k]? = none := List.getElem?_eq_none (by rw [hN.out]; omega)
          unfold adB
          simp only [if_true, hK.out, hn])
        have htk : Hid (xs.take k = xs) := Lib.hid (List.take_of_length_le (by rw [hN.out]; omega))
        have hdl9 : Hid (xs.drop k = []) := Lib.hid (List.drop_eq_nil_of_le (by rw [hN.out]; omega))
        have hcap1 := hcap.out.1
        have hcap2 := hcap.out.2
        have HTK : Hid (Lst shTerm W0 xs (.slice A N cap)) := Lib.hid HA0.out.lst
        clear b0 b1 b2
        subst e
        go_wp2_with fail
        (refine wp_region_held_drew (S := (fun w' => w'.cell? ⟨bb, 3, none⟩ = some (.slice A k cap))) (by kernel_rfl) ?_ (fun hHeld => ?_); (focus (first | (simp [*, go_sem]; done) | fail)); refine rt 0 (some 13) (v := ?_) rfl rfl ?_ ?_; rotate_left; (focus (intro w' hSw; (try dsimp only at hSw); go_simp; (try with_reducible rfl))); (try simp only [Act.put, nA, nB, nC]); refine rt 1 (some 14) (v := ?_) rfl rfl ?_ ?_; rotate_left; (focus (intro w' hSw; (try dsimp only at hSw); go_simp; (try with_reducible rfl))); (try simp only [Act.put, nA, nB, nC]); refine rt 2 (some 15) (v := ?_) rfl rfl ?_ ?_; rotate_left; (focus (intro w' hSw; (try dsimp only at hSw); go_simp; (try with_reducible rfl))); (try simp only [Act.put, nA, nB, nC]); refine rt 3 (some 16) (v := ?_) rfl rfl ?_ ?_; rotate_left; (focus (intro w' hSw; (try dsimp only at hSw); go_simp; (try with_reducible rfl))); (try simp only [Act.put, nA, nB, nC]); refine rt 4 (some 17) (v := ?_) rfl rfl ?_ ?_; rotate_left; (focus (intro w' hSw; (try dsimp only at hSw); go_simp; (try with_reducible rfl))); (try simp only [Act.put, nA, nB, nC]); refine rt 5 (some 18) (v := ?_) rfl rfl ?_ ?_; rotate_left; (focus (intro w' hSw; (try dsimp only at hSw); go_simp; (try with_reducible rfl))); (try simp only [Act.put, nA, nB, nC]); refine rt 6 (some 19) (v := ?_) rfl rfl ?_ ?_; rotate_left; (focus (intro w' hSw; (try dsimp only at hSw); go_simp; (try with_reducible rfl))); (try simp only [Act.put, nA, nB, nC]); refine rt 7 (some 20) (v := ?_) rfl rfl ?_ ?_; rotate_left; (focus (intro w' hSw; (try dsimp only at hSw); go_simp; (try with_reducible rfl))); (try simp only [Act.put, nA, nB, nC]); refine rt 8 (some 21) (v := ?_) rfl rfl ?_ ?_; rotate_left; (focus (intro w' hSw; (try dsimp only at hSw); go_simp; (try with_reducible rfl))); (try simp only [Act.put, nA, nB, nC]); refine rg_take 9 (some 22) (v := undef) rfl (by kernel_rfl) (by kernel_rfl) (by kernel_rfl) (by kernel_rfl) (fun _ _ _ h => h) (Or.inr ⟨by kernel_rfl, rfl⟩) (by assumption) ?_; (try simp only [Act.put, nA, nB, nC]); refine rg_take 10 (some 23) (v := undef) rfl (by kernel_rfl) (by kernel_rfl) (by kernel_rfl) (by kernel_rfl) (fun _ _ _ h => h) (Or.inr ⟨by kernel_rfl, rfl⟩) (by assumption) ?_; (try simp only [Act.put, nA, nB, nC]); refine rg_take 11 (some 24) (v := undef) rfl (by kernel_rfl) (by kernel_rfl) (by kernel_rfl) (by kernel_rfl) (fun _ _ _ h => h) (Or.inr ⟨by kernel_rfl, rfl⟩) (by assumption) ?_; (try simp only [Act.put, nA, nB, nC]); refine rg_take 12 (some 25) (v := undef) rfl (by kernel_rfl) (by kernel_rfl) (by kernel_rfl) (by kernel_rfl) (fun _ _ _ h => h) (Or.inr ⟨by kernel_rfl, rfl⟩) (by assumption) ?_; (try simp only [Act.put, nA, nB, nC]); refine rg_take 13 (some 26) (v := undef) rfl (by kernel_rfl) (by kernel_rfl) (by kernel_rfl) (by kernel_rfl) (fun _ _ _ h => h) (Or.inr ⟨by kernel_rfl, rfl⟩) (by assumption) ?_; (try simp only [Act.put, nA, nB, nC]); refine rg_take 14 (some 27) (v := undef) rfl (by kernel_rfl) (by kernel_rfl) (by kernel_rfl) (by kernel_rfl) (fun _ _ _ h => h) (Or.inr ⟨by kernel_rfl, rfl⟩) (by assumption) ?_; (try simp only [Act.put, nA, nB, nC]); refine rg_take 15 (some 28) (v := undef) rfl (by kernel_rfl) (by kernel_rfl) (by kernel_rfl) (by kernel_rfl) (fun _ _ _ h => h) (Or.inr ⟨by kernel_rfl, rfl⟩) (by assumption) ?_; (try simp only [Act.put, nA, nB, nC]); refine rg_take 16 (some 29) (v := undef) rfl (by kernel_rfl) (by kernel_rfl) (by kernel_rfl) (by kernel_rfl) (fun _ _ _ h => h) (Or.inr ⟨by kernel_rfl, rfl⟩) (by assumption) ?_; (try simp only [Act.put, nA, nB, nC]); refine rg_take 17 (some 30) (v := undef) rfl (by kernel_rfl) (by kernel_rfl) (by kernel_rfl) (by kernel_rfl) (fun _ _ _ h => h) (Or.inr ⟨by kernel_rfl, rfl⟩) (by assumption) ?_; (try simp only [Act.put, nA, nB, nC]); refine rg_take 18 (some 31) (v := undef) rfl (by kernel_rfl) (by kernel_rfl) (by kernel_rfl) (by kernel_rfl) (fun _ _ _ h => h) (Or.inr ⟨by kernel_rfl, rfl⟩) (by assumption) ?_; (try simp only [Act.put, nA, nB, nC]); refine rg_take 19 (some 32) (v := undef) rfl (by kernel_rfl) (by kernel_rfl) (by kernel_rfl) (by kernel_rfl) (fun _ _ _ h => h) (Or.inr ⟨by kernel_rfl, rfl⟩) (by assumption) ?_; (try simp only [Act.put, nA, nB, nC]); refine rg_take 20 (some 33) (v := undef) rfl (by kernel_rfl) (by kernel_rfl) (by kernel_rfl) (by kernel_rfl) (fun _ _ _ h => h) (Or.inr ⟨by kernel_rfl, rfl⟩) (by assumption) ?_; (try simp only [Act.put, nA, nB, nC]); refine rg_take 21 (some 34) (v := undef) rfl (by kernel_rfl) (by kernel_rfl) (by kernel_rfl) (by kernel_rfl) (fun _ _ _ h => h) (Or.inr ⟨by kernel_rfl, rfl⟩) (by assumption) ?_; (try simp only [Act.put, nA, nB, nC]); refine rg_take 22 (some 35) (v := undef) rfl (by kernel_rfl) (by kernel_rfl) (by kernel_rfl) (by kernel_rfl) (fun _ _ _ h => h) (Or.inr ⟨by kernel_rfl, rfl⟩) (by assumption) ?_; (try simp only [Act.put, nA, nB, nC]); refine rg_take 23 (some 36) (v := undef) rfl (by kernel_rfl) (by kernel_rfl) (by kernel_rfl) (by kernel_rfl) (fun _ _ _ h => h) (Or.inr ⟨by kernel_rfl, rfl⟩) (by assumption) ?_; (try simp only [Act.put, nA, nB, nC]); refine rt 24 (some 37) (v := ?_) rfl rfl ?_ ?_; rotate_left; (focus (intro w' hSw; (try dsimp only at hSw); go_simp; (try with_reducible rfl))); (try simp only [Act.put, nA, nB, nC]); refine wpAnyH_done (by kernel_rfl) ?_ _)
        clear hHeld
        go_wp2_with fail
        (refine wp_region_held_drew (S := (fun w' => w'.cell? ⟨bb, 3, none⟩ = some (.slice A k cap))) (by kernel_rfl) ?_ (fun hHeld => ?_); (focus (first | (simp [*, go_sem]; done) | fail)); refine rt 0 (some 40) (v := ?_) rfl rfl ?_ ?_; rotate_left; (focus (intro w' hSw; (try dsimp only at hSw); go_simp; (try with_reducible rfl))); (try simp only [Act.put, nA, nB, nC]); refine rt 1 (some 41) (v := ?_) rfl rfl ?_ ?_; rotate_left; (focus (intro w' hSw; (try dsimp only at hSw); go_simp; (try with_reducible rfl))); (try simp only [Act.put, nA, nB, nC]); refine rt 2 (some 42) (v := ?_) rfl rfl ?_ ?_; rotate_left; (focus (intro w' hSw; (try dsimp only at hSw); go_simp; (try with_reducible rfl))); (try simp only [Act.put, nA, nB, nC]); refine rt 3 (some 43) (v := ?_) rfl rfl ?_ ?_; rotate_left; (focus (intro w' hSw; (try dsimp only at hSw); go_simp; (try with_reducible rfl))); (try simp only [Act.put, nA, nB, nC]); refine rt 4 (some 44) (v := ?_) rfl rfl ?_ ?_; rotate_left; (focus (intro w' hSw; (try dsimp only at hSw); go_simp; (try with_reducible rfl))); (try simp only [Act.put, nA, nB, nC]); refine rt 5 (some 45) (v := ?_) rfl rfl ?_ ?_; rotate_left; (focus (intro w' hSw; (try dsimp only at hSw); go_simp; (try with_reducible rfl))); (try simp only [Act.put, nA, nB, nC]); refine rt 6 (some 46) (v := ?_) rfl rfl ?_ ?_; rotate_left; (focus (intro w' hSw; (try dsimp only at hSw); go_simp; (try with_reducible rfl))); (try simp only [Act.put, nA, nB, nC]); refine rt 7 (some 47) (v := ?_) rfl rfl ?_ ?_; rotate_left; (focus (intro w' hSw; (try dsimp only at hSw); go_simp; (try with_reducible rfl))); (try simp only [Act.put, nA, nB, nC]); refine rt 8 (some 48) (v := ?_) rfl rfl ?_ ?_; rotate_left; (focus (intro w' hSw; (try dsimp only at hSw); go_simp; (try with_reducible rfl))); (try simp only [Act.put, nA, nB, nC]); refine rg_take 9 (some 49) (v := undef) rfl (by kernel_rfl) (by kernel_rfl) (by kernel_rfl) (by kernel_rfl) (fun _ _ _ h => h) (Or.inr ⟨by kernel_rfl, rfl⟩) (by assumption) ?_; (try simp only [Act.put, nA, nB, nC]); refine rg_take 10 (some 50) (v := undef) rfl (by kernel_rfl) (by kernel_rfl) (by kernel_rfl) (by kernel_rfl) (fun _ _ _ h => h) (Or.inr ⟨by kernel_rfl, rfl⟩) (by assumption) ?_; (try simp only [Act.put, nA, nB, nC]); refine rg_take 11 (some 51) (v := undef) rfl (by kernel_rfl) (by kernel_rfl) (by kernel_rfl) (by kernel_rfl) (fun _ _ _ h => h) (Or.inr ⟨by kernel_rfl, rfl⟩) (by assumption) ?_; (try simp only [Act.put, nA, nB, nC]); refine rg_take 12 (some 52) (v := undef) rfl (by kernel_rfl) (by kernel_rfl) (by kernel_rfl) (by kernel_rfl) (fun _ _ _ h => h) (Or.inr ⟨by kernel_rfl, rfl⟩) (by assumption) ?_; (try simp only [Act.put, nA, nB, nC]); refine rg_take 13 (some 53) (v := undef) rfl (by kernel_rfl) (by kernel_rfl) (by kernel_rfl) (by kernel_rfl) (fun _ _ _ h => h) (Or.inr ⟨by kernel_rfl, rfl⟩) (by assumption) ?_; (try simp only [Act.put, nA, nB, nC]); refine rg_take 14 (some 54) (v := undef) rfl (by kernel_rfl) (by kernel_rfl) (by kernel_rfl) (by kernel_rfl) (fun _ _ _ h => h) (Or.inr ⟨by kernel_rfl, rfl⟩) (by assumption) ?_; (try simp only [Act.put, nA, nB, nC]); refine rg_take 15 (some 55) (v := undef) rfl (by kernel_rfl) (by kernel_rfl) (by kernel_rfl) (by kernel_rfl) (fun _ _ _ h => h) (Or.inr ⟨by kernel_rfl, rfl⟩) (by assumption) ?_; (try simp only [Act.put, nA, nB, nC]); refine rg_take 16 (some 56) (v := undef) rfl (by kernel_rfl) (by kernel_rfl) (by kernel_rfl) (by kernel_rfl) (fun _ _ _ h => h) (Or.inr ⟨by kernel_rfl, rfl⟩) (by assumption) ?_; (try simp only [Act.put, nA, nB, nC]); refine rg_take 17 (some 57) (v := undef) rfl (by kernel_rfl) (by kernel_rfl) (by kernel_rfl) (by kernel_rfl) (fun _ _ _ h => h) (Or.inr ⟨by kernel_rfl, rfl⟩) (by assumption) ?_; (try simp only [Act.put, nA, nB, nC]); refine rg_take 18 (some 58) (v := undef) rfl (by kernel_rfl) (by kernel_rfl) (by kernel_rfl) (by kernel_rfl) (fun _ _ _ h => h) (Or.inr ⟨by kernel_rfl, rfl⟩) (by assumption) ?_; (try simp only [Act.put, nA, nB, nC]); refine rg_take 19 (some 59) (v := undef) rfl (by kernel_rfl) (by kernel_rfl) (by kernel_rfl) (by kernel_rfl) (fun _ _ _ h => h) (Or.inr ⟨by kernel_rfl, rfl⟩) (by assumption) ?_; (try simp only [Act.put, nA, nB, nC]); refine rt 20 (some 60) (v := ?_) rfl rfl ?_ ?_; rotate_left; (focus (intro w' hSw; (try dsimp only at hSw); go_simp; (try with_reducible rfl))); (try simp only [Act.put, nA, nB, nC]); refine wpAnyH_done (by kernel_rfl) ?_ _)
        clear hHeld
        go_wp2_with fail
        (refine wp_region_held_drew (S := (fun w' => w'.cell? ⟨bb, 3, none⟩ = some (.slice A k cap) ∧ w'.cell? ⟨w.heap.size, 0, none⟩ = some (.int .i64 f.1) ∧ w'.cell? ⟨w.heap.size, 1, none⟩ = some (.int .i64 f.2.1) ∧ w'.cell? ⟨w.heap.size, 2, none⟩ = some (.int .u32 f.2.2) ∧ w'.cell? ⟨w.heap.size + 1, 0, none⟩ = some (.int .i64 q.1) ∧ w'.cell? ⟨w.heap.size + 1, 1, none⟩ = some (.int .i64 q.2))) (by kernel_rfl) ?_ (fun hHeld => ?_); (focus (first | (simp [*, go_sem]; done) | fail)); refine rt 0 (some 86) (v := ?_) rfl rfl ?_ ?_; rotate_left; (focus (intro w' hSw; (try dsimp only at hSw); go_simp; (try with_reducible rfl))); (try simp only [Act.put, nA, nB, nC]); refine rt 1 (some 87) (v := ?_) rfl rfl ?_ ?_; rotate_left; (focus (intro w' hSw; (try dsimp only at hSw); go_simp; (try with_reducible rfl))); (try simp only [Act.put, nA, nB, nC]); refine rt 2 (some 88) (v := ?_) rfl rfl ?_ ?_; rotate_left; (focus (intro w' hSw; (try dsimp only at hSw); go_simp; (try with_reducible rfl))); (try simp only [Act.put, nA, nB, nC]); refine rt 4 (some 90) (v := ?_) rfl rfl ?_ ?_; rotate_left; (focus (intro w' hSw; (try dsimp only at hSw); go_simp; (try with_reducible rfl))); (try simp only [Act.put, nA, nB, nC]); refine rt 5 (some 91) (v := ?_) rfl rfl ?_ ?_; rotate_left; (focus (intro w' hSw; (try dsimp only at hSw); go_simp; (try with_reducible rfl))); (try simp only [Act.put, nA, nB, nC]); refine rt 6 (some 92) (v := ?_) rfl rfl ?_ ?_; rotate_left; (focus (intro w' hSw; (try dsimp only at hSw); go_simp; (try with_reducible rfl))); (try simp only [Act.put, nA, nB, nC]); refine rt 7 (some 93) (v := ?_) rfl rfl ?_ ?_; rotate_left; (focus (intro w' hSw; (try dsimp only at hSw); go_simp; (try with_reducible rfl))); (try simp only [Act.put, nA, nB, nC]); refine rt 8 (some 94) (v := ?_) rfl rfl ?_ ?_; rotate_left; (focus (intro w' hSw; (try dsimp only at hSw); go_simp; (try with_reducible rfl))); (try simp only [Act.put, nA, nB, nC]); refine rt 9 (some 95) (v := ?_) rfl rfl ?_ ?_; rotate_left; (focus (intro w' hSw; (try dsimp only at hSw); go_simp; (try with_reducible rfl))); (try simp only [Act.put, nA, nB, nC]); refine rt 10 (some 96) (v := ?_) rfl rfl ?_ ?_; rotate_left; (focus (intro w' hSw; (try dsimp only at hSw); go_simp; (try with_reducible rfl))); (try simp only [Act.put, nA, nB, nC]); refine wpAnyH_ready (rs := [3]) (by kernel_rfl) (by simp) ?_; refine AllReadyH.cons rfl (fun K hK => ?_) AllReadyH.nil; (try go_simp); refine hK.out _ _ ?_ (fun hHeld => ?_); (focus (first | (simp [*, go_sem]; done) | fail)); clear hK K; (try simp only [Act.put, nA, nB, nC]); refine wpAnyH_ready (rs := [11]) (by kernel_rfl) (by simp) ?_; refine AllReadyH.cons rfl (fun K hK => ?_) AllReadyH.nil; (rw [if_pos (by simp [Region.wanted])]; refine wp_append_terms _ (B := W0.heap.size) (L := [((f, q) : Trm)]) (M := []) (u := ?u7) (TmA.one (B := W0.heap.size) (g := W0.heap.size) (d := (f, q)) (blkdrew (blkdrew (blkdrew (blknew W0 _)))) (Nat.le_refl _) ⟨HF.out, HQO.out⟩) ?hm7 (by simp) (by simp) (.tmp 89) (.tmp 96) rfl rfl ?hu7 ?_; (case hu7 => exact rfl); (case hm7 => exact lst_nil0 (by omega) (by omega)); intro v2 w2 hA2 hb2 hg2 hq2; have HA2 := Lib.hid hA2; have HB2 := Lib.hid (show Below W0.heap.size W0 w2 from Below.trans (bdrew1 (bdrew1 (bdrew1 (bal (Below.refl _ _) _)))) hb2); have m3 := bkeep HB2.out a3; have m0 := bkeep HB2.out c0; have m1 := bkeep HB2.out c1; have m2 := bkeep HB2.out c2; have l0 := bkeep HB2.out q0; have l1 := bkeep HB2.out q1; clear hA2 hb2 hg2 hq2); refine hK.out _ _ ?_ (fun hHeld => ?_); (focus (first | (simp [*, go_sem]; done) | fail)); clear hK K; (try simp only [Act.put, nA, nB, nC]); refine rt 12 (some 7) (v := ?_) rfl rfl ?_ ?_; rotate_left; (focus (intro w' hSw; (try dsimp only at hSw); go_simp; (try with_reducible rfl))); (try simp only [Act.put, nA, nB, nC]); refine wpAnyH_done (by kernel_rfl) ?_ _)
        clear hHeld
        have KB2 := Lib.hid (bblk HB2.out y0 B0.out)
        have fz2 := (blk5 KB2.out).2
        have y02 := blklt KB2.out
        have hz2 := HB2.out.size
        clear c0 c1 c2 q0 q1 a0 a1 a2 a3 a4 fz m0 m1 m2 l0 l1
        go_wp2_with (first | (at_builtin; refine wpList_append_terms _ (B := w2.heap.size) (L := []) (M := xs) (TmA.new (g := w2.heap.size) (blknew _ _) (Nat.le_refl _)) (HTK.out.below (bal HB2.out _)) (by rw [hN.out]; simp; omega) (by simp) rfl (.tmp 99) (.tmp 106) rfl rfl rfl ?_; intro v3 w3 hA3 hb3 hg3 hq3; have HA3 := Lib.hid hA3; have HB3 := Lib.hid (show Below w2.heap.size w2 w3 from Below.trans (bal (Below.refl _ _) _) hb3); have m3 := bkeep HB3.out m3; clear hA3 hb3 hg3 hq3) | (at_builtin; refine wpList_append_terms _ (B := w2.heap.size) (L := [] ++ xs) (M := [((f, q) : Trm)] ++ []) HA3.out (HA2.out.lst.below HB3.out) (by simp [hN.out]; omega) HB3.out.size rfl (.tmp 107) (.tmp 108) rfl rfl rfl ?_; intro v4 w4 hA4 hb4 hg4 hq4; obtain ⟨A4, cap4, F4, hv4, _⟩ := hA4.own; obtain ⟨n4, hn4⟩ : ∃ n, (([] ++ xs) ++ ([((f, q) : Trm)] ++ [])).length = n := ⟨_, rfl⟩; rw [hn4] at hv4; subst hv4; clear hn4; have HA4 := Lib.hid hA4; have HB4 := Lib.hid (show Below w2.heap.size w2 w4 from HB3.out.trans hb4); have KB4 := Lib.hid (bblk HB4.out y02 KB2.out); have fz4 := (blk5 KB4.out).2; have m34 := (blk5 KB4.out).1.2.2.2.1; have y04 := blklt KB4.out; clear hA4 hb4 hg4 hq4))
        all_goals
          refine bodyPost_end (v := .tuple #[]) (by simp [results, Tryz.results80, go_sem]) rfl ⟨rfl, ?_, ?_⟩
          · rw [HR.out, show insT k xs (f, q) = ([] ++ xs) ++ ([((f, q) : Trm)] ++ []) from by unfold insT; rw [htk.out, hdl9.out]; rfl]
            refine ⟨hBb, .slice A4 n4 cap4, blkset0 KB4.out 3 _, ?_⟩
            have := (HA4.out.mono (B' := bb + 1) (by omega)).move (w' := w4.setCell ⟨bb, 3, none⟩ (.slice A4 n4 cap4)) fun b h1 _ => Below.heap_setCell _ ⟨bb, 3, none⟩ _ b (by show b ≠ bb; omega)
            exact this
          · have hw4 : Below w.heap.size w w4 := (hB.trans (HB2.out.mono hzB)).trans (HB4.out.mono (by omega))
            exact Below.setCell (hw4.mono (by omega)) (by show B ≤ bb; omega) _
end Go.Proofs.YtpcjinbbgnmchaaGreat

/- Sums whose terms are added in order, in plain words. -/
namespace Go.Proofs.YtpcjinbbgnmchaaGreat
open Go.ChangeShapes Go.WideShapes Go.RowKit
set_option linter.unusedVariables false
set_option linter.unusedSimpArgs false
attribute [local irreducible] Calls
theorem bkeepB {B : Nat} {w w' : World} {a : Addr} {v : Value} (hb : Below B w w') (h : a.block < B) (hc : w.cell? a = some v) : w'.cell? a = some v := (World.cell?_of_block (hb.block _ h)).trans hc
theorem fl_blk {b k : Nat} {v w : World} {g : Bool} {cs : Array Value} {t : TypeId} (hf : Fl b 0 w g v) (hk : w.heap[k]? = some (.cells cs t (0, 0))) (hkb : k ≠ b) : v.heap[k]? = some (.cells cs t (0, 0)) := (hf.block k (blklt hk)).trans (blkset hk (by show k ≠ b; exact hkb) _)
theorem grow_keep {w w' : World} {ob : Option Nat} {a : Addr} {v : Value} (hg : w.grownBy w' ob) (hne : ob ≠ some a.block) (hc : w.cell? a = some v) : w'.cell? a = some v := (World.cell?_of_block (hg.block _ (World.block_lt_of_cell? _ _ hc) hne.symm)).trans hc
def ltE (a b : Trm) : Prop := a.1.2.2 < b.1.2.2
theorem posT_end {e : Int} {xs : List Trm} (h : ∀ d ∈ xs, d.1.2.2 < e) : posT e xs = xs.length := by
  induction xs with
  | nil => rfl
  | cons x xs ih =>
    have h1 := ih fun d hd => h d (List.mem_cons_of_mem _ hd)
    have h2 : decide (x.1.2.2 < e) = true := by simpa using h x (List.mem_cons_self ..)
    unfold posT at h1 ⊢
    rw [List.takeWhile_cons, if_pos h2, List.length_cons, List.length_cons, h1]
theorem adB_end {xs : List Trm} {f : Flg} {q : Int × Int} (h : ∀ d ∈ xs, d.1.2.2 < f.2.2) : adB (0, xs) f q = (0, xs ++ [(f, q)]) := by
  have hn : xs[posT f.2.2 xs]? = none := by rw [posT_end h]; exact List.getElem?_eq_none (Nat.le_refl _)
  unfold adB
  simp only [if_true, hn]
  unfold insT
  rw [posT_end h, List.take_of_length_le (Nat.le_refl _), List.drop_eq_nil_of_le (Nat.le_refl _)]
theorem adB_take {M : List Trm} (h : M.Pairwise ltE) {k : Nat} {d : Trm} (hd : M[k]? = some d) : adB (0, M.take k) d.1 d.2 = (0, M.take (k + 1)) := by
  have hk : k < M.length := (List.getElem?_eq_some_iff.1 hd).1
  have hk2 : M[k] = d := (List.getElem?_eq_some_iff.1 hd).2
  rw [adB_end (f := d.1) (q := d.2), List.take_add_one, hd]
  · rfl
  · intro x hx
    obtain ⟨i, hi, rfl⟩ := List.mem_iff_getElem.1 hx
    have hi2 : i < k := by rw [List.length_take] at hi; omega
    rw [List.getElem_take]
    have := List.pairwise_iff_getElem.1 h i k (by omega) hk hi2
    rw [hk2] at this
    exact this
theorem sum_pw {tn te s : Int} {xs : List Trm} (h : sumOk tn te s xs = true) : xs.Pairwise ltE := by
  have h1 := (sumOk_iff.1 h).2.2.2
  have step : ∀ i (hi : i + 1 < xs.length), (xs[i]'(by omega)).1.2.2 < xs[i + 1].1.2.2 := fun i hi => by
    have h2 := h1 (i + 1) hi
    unfold goodAt at h2
    rw [Bool.and_eq_true] at h2
    have h3 := h2.2
    simp only [Bool.or_eq_true, beq_iff_eq, decide_eq_true_eq] at h3
    have h4 : edT xs i < edT xs (i + 1) := by
      rcases h3 with h3 | h3
      · omega
      · simpa using h3
    unfold edT at h4
    rw [gT_at (List.getElem?_eq_getElem (by omega : i < xs.length)), gT_at (List.getElem?_eq_getElem hi)] at h4
    exact h4
  rw [List.pairwise_iff_getElem]
  intro i j hi hj hij
  obtain ⟨m, rfl⟩ : ∃ m, j = i + 1 + m := ⟨j - i - 1, by omega⟩
  clear hij
  induction m with
  | zero => exact step i hj
  | succ m ih =>
    have h2 := ih (by omega)
    have h3 := step (i + 1 + m) (by omega)
    unfold ltE at h2 ⊢
    exact Int.lt_trans h2 h3
/-- The code of what was built. -/
def enC (c : Int) (xs : List Trm) : Int := if c = 0 then tdC false xs else c
theorem enC_0 (xs : List Trm) : enC 0 xs = tdC false xs := rfl
/-- The terms that are not 0. -/
def nzB (xs : List Trm) : List Trm := xs.filter fun d => !(d.2.1 == 0)
theorem nzB_eq (xs : List Trm) : nzT xs = nzB xs := rfl
theorem tdC_nz (xs : List Trm) : tdC false xs = if (nzB xs).length ≤ 64 then 0 else 3 := rfl
theorem nzB_take {xs : List Trm} {k : Nat} {d : Trm} (h : xs[k]? = some d) : nzB (xs.take (k + 1)) = if d.2.1 = 0 then nzB (xs.take k) else nzB (xs.take k) ++ [d] := by
  unfold nzB
  rw [List.take_add_one, h, List.filter_append]
  by_cases hp : d.2.1 = 0 <;> simp [hp]
theorem nzB_lenk (xs : List Trm) (k : Nat) : (nzB (xs.take k)).length ≤ xs.length := Nat.le_trans (List.length_filter_le _ _) (by rw [List.length_take]; omega)
/-- A sum times a fraction. -/
def scX (xs : List Trm) (q : Int × Int) : List Trm := xs.map fun t => (t.1, kD (mulO t.2 q))
def scZ (xs : List Trm) (q : Int × Int) : Bool := xs.any fun t => noB (mulO t.2 q)
theorem scX_at {xs : List Trm} {q : Int × Int} {k : Nat} {d : Trm} (h : xs[k]? = some d) : (scX xs q)[k]? = some (d.1, kD (mulO d.2 q)) := by
  unfold scX
  rw [List.getElem?_map, h]
  rfl
theorem scX_pw {xs : List Trm} (q : Int × Int) (h : xs.Pairwise ltE) : (scX xs q).Pairwise ltE := List.pairwise_map.2 (h.imp fun h => h)
theorem scZ_none {xs : List Trm} {q : Int × Int} {k : Nat} {d : Trm} (h : xs[k]? = some d) (hn : mulO d.2 q = none) : scZ xs q = true := by
  unfold scZ
  rw [List.any_eq_true]
  exact ⟨d, List.mem_of_getElem? h, by rw [hn]; rfl⟩
theorem scZ_take {xs : List Trm} {q : Int × Int} {k : Nat} {d : Trm} (h : xs[k]? = some d) : scZ (xs.take (k + 1)) q = (scZ (xs.take k) q || noB (mulO d.2 q)) := by
  unfold scZ
  rw [List.take_add_one, h, List.any_append]
  simp
end Go.Proofs.YtpcjinbbgnmchaaGreat

/- spec.l05Build: end. -/
namespace Go.Proofs.YtpcjinbbgnmchaaGreat
open Go.ChangeShapes Go.WideShapes Go.RowKit
set_option linter.unusedVariables false
set_option linter.unusedSimpArgs false
attribute [local irreducible] Calls
set_option maxHeartbeats 4000000 in
theorem bEnd_any (w : World) (B bb : Nat) (tn te s c : Int) (xs : List Trm) (hb : Bld B w bb tn te s c xs) (hl : xs.length ≤ 1048576) :
    Calls Tryz.prog 81 #[.pointer (some ⟨bb, 0, none⟩)] w (SumRet w.heap.size w (enC c xs) (tdT (enC c xs) (tn, te)) (tdS (enC c xs) s) (tdL (enC c xs) (nzT xs))) := by
  obtain ⟨hBb, o, hbb, hA⟩ := hb
  obtain ⟨⟨a0, a1, a2, a3, a4⟩, fz⟩ := blk5 hbb
  have ybb := blklt hbb
  have KB := Lib.hid hbb
  by_cases hc : c = 0
  rotate_left
  · have hr : Hid (enC c xs = c) := Lib.hid (if_neg hc)
    have HT : Hid (tdT c (tn, te) = (0, 0) ∧ tdS c s = 0 ∧ tdL c (nzT xs) = []) := Lib.hid ⟨if_neg hc, if_neg hc, if_neg hc⟩
    rw [hr.out]
    clear hbb hA
    go_enter Tryz.func81, Tryz.ntmps81
    go_wp2_with fail
    (refine wp_region_held_drew (S := (fun w' => w'.cell? ⟨bb, 4, none⟩ = some (.int .i64 c))) (by kernel_rfl) ?_ (fun hHeld => ?_); (focus (first | (simp [*, go_sem]; done) | fail)); refine rt 0 (some 11) (v := ?_) rfl rfl ?_ ?_; rotate_left; (focus (intro w' hSw; (try dsimp only at hSw); go_simp; (try with_reducible rfl))); (try simp only [Act.put, nA, nB, nC]); refine rt 1 (some 12) (v := ?_) rfl rfl ?_ ?_; rotate_left; (focus (intro w' hSw; (try dsimp only at hSw); go_simp; (try with_reducible rfl))); (try simp only [Act.put, nA, nB, nC]); refine rt 2 (some 13) (v := ?_) rfl rfl ?_ ?_; rotate_left; (focus (intro w' hSw; (try dsimp only at hSw); go_simp; (try with_reducible rfl))); (try simp only [Act.put, nA, nB, nC]); refine rt 3 (some 14) (v := ?_) rfl rfl ?_ ?_; rotate_left; (focus (intro w' hSw; (try dsimp only at hSw); go_simp; (try with_reducible rfl))); (try simp only [Act.put, nA, nB, nC]); refine rt 4 (some 15) (v := ?_) rfl rfl ?_ ?_; rotate_left; (focus (intro w' hSw; (try dsimp only at hSw); go_simp; (try with_reducible rfl))); (try simp only [Act.put, nA, nB, nC]); refine wpAnyH_ready (rs := [5]) (by kernel_rfl) (by simp) ?_; refine AllReadyH.cons rfl (fun K hK => ?_) AllReadyH.nil; (try go_simp); refine hK.out _ _ ?_ (fun hHeld => ?_); (focus (first | (simp [*, go_sem]; done) | fail)); clear hK K; (try simp only [Act.put, nA, nB, nC]); refine wpAnyH_ready (rs := [6]) (by kernel_rfl) (by simp) ?_; refine AllReadyH.cons rfl (fun K hK => ?_) AllReadyH.nil; (try go_simp); refine hK.out _ _ ?_ (fun hHeld => ?_); (focus (first | (simp [*, go_sem]; done) | fail)); clear hK K; (try simp only [Act.put, nA, nB, nC]); refine wpAnyH_done (by kernel_rfl) ?_ _)
    all_goals
      clear hHeld
      go_wp2_with fail
      refine bodyPost_ret (v := .tuple #[.agg #[.int .i64 0, .int .u32 0, .int .i64 0, .slice none 0 0], .int .i64 c]) (by simp [results, Tryz.results81, go_sem, *]) rfl ?_
      exact sumRet_no HT.out.1 HT.out.2.1 HT.out.2.2 belA rfl
  subst hc
  obtain ⟨N, hN⟩ : ∃ N : Nat, Hid (xs.length = N) := ⟨_, Lib.hid rfl⟩
  have hlN : N ≤ 1048576 := by rw [← hN.out]; exact hl
  have HA := Lib.hid hA
  obtain ⟨A, cap, _, ho, _⟩ := hA.own
  subst ho
  rw [hN.out] at a3 KB HA
  rw [enC_0]
  clear hbb hA hl
  go_enter Tryz.func81, Tryz.ntmps81
  go_wp2_with fail
  (refine wp_region_held_drew (S := (fun w' => w'.cell? ⟨bb, 0, none⟩ = some (.int .i64 tn) ∧ w'.cell? ⟨bb, 1, none⟩ = some (.int .u32 te) ∧ w'.cell? ⟨bb, 2, none⟩ = some (.int .i64 s))) (by kernel_rfl) ?_ (fun hHeld => ?_); (focus (first | (simp [*, go_sem]; done) | fail)); refine rt 0 (some 16) (v := ?_) rfl rfl ?_ ?_; rotate_left; (focus (intro w' hSw; (try dsimp only at hSw); go_simp; (try with_reducible rfl))); (try simp only [Act.put, nA, nB, nC]); refine rt 1 (some 17) (v := ?_) rfl rfl ?_ ?_; rotate_left; (focus (intro w' hSw; (try dsimp only at hSw); go_simp; (try with_reducible rfl))); (try simp only [Act.put, nA, nB, nC]); refine rt 2 (some 18) (v := ?_) rfl rfl ?_ ?_; rotate_left; (focus (intro w' hSw; (try dsimp only at hSw); go_simp; (try with_reducible rfl))); (try simp only [Act.put, nA, nB, nC]); refine rt 3 (some 19) (v := ?_) rfl rfl ?_ ?_; rotate_left; (focus (intro w' hSw; (try dsimp only at hSw); go_simp; (try with_reducible rfl))); (try simp only [Act.put, nA, nB, nC]); refine rt 4 (some 20) (v := ?_) rfl rfl ?_ ?_; rotate_left; (focus (intro w' hSw; (try dsimp only at hSw); go_simp; (try with_reducible rfl))); (try simp only [Act.put, nA, nB, nC]); refine rt 5 (some 21) (v := ?_) rfl rfl ?_ ?_; rotate_left; (focus (intro w' hSw; (try dsimp only at hSw); go_simp; (try with_reducible rfl))); (try simp only [Act.put, nA, nB, nC]); refine rt 6 (some 22) (v := ?_) rfl rfl ?_ ?_; rotate_left; (focus (intro w' hSw; (try dsimp only at hSw); go_simp; (try with_reducible rfl))); (try simp only [Act.put, nA, nB, nC]); refine rt 7 (some 23) (v := ?_) rfl rfl ?_ ?_; rotate_left; (focus (intro w' hSw; (try dsimp only at hSw); go_simp; (try with_reducible rfl))); (try simp only [Act.put, nA, nB, nC]); refine rt 8 (some 24) (v := ?_) rfl rfl ?_ ?_; rotate_left; (focus (intro w' hSw; (try dsimp only at hSw); go_simp; (try with_reducible rfl))); (try simp only [Act.put, nA, nB, nC]); refine rt 9 (some 25) (v := ?_) rfl rfl ?_ ?_; rotate_left; (focus (intro w' hSw; (try dsimp only at hSw); go_simp; (try with_reducible rfl))); (try simp only [Act.put, nA, nB, nC]); refine rt 10 (some 26) (v := ?_) rfl rfl ?_ ?_; rotate_left; (focus (intro w' hSw; (try dsimp only at hSw); go_simp; (try with_reducible rfl))); (try simp only [Act.put, nA, nB, nC]); refine wpAnyH_ready (rs := [11]) (by kernel_rfl) (by simp) ?_; refine AllReadyH.cons rfl (fun K hK => ?_) AllReadyH.nil; (try go_simp); refine hK.out _ _ ?_ (fun hHeld => ?_); (focus (first | (simp [*, go_sem]; done) | fail)); clear hK K; (try simp only [Act.put, nA, nB, nC]); refine wpAnyH_ready (rs := [12]) (by kernel_rfl) (by simp) ?_; refine AllReadyH.cons rfl (fun K hK => ?_) AllReadyH.nil; (try go_simp); refine hK.out _ _ ?_ (fun hHeld => ?_); (focus (first | (simp [*, go_sem]; done) | fail)); clear hK K; (try simp only [Act.put, nA, nB, nC]); refine wpAnyH_done (by kernel_rfl) ?_ _)
  clear hHeld
  go_wp2_with fail
  go_loopw [5] (fun i wr => ∃ (k : Nat) (o : Value), k ≤ N ∧ i = .int .i64 k ∧ wr.heap[w.heap.size + 1]? = some (.cells #[.int .i64 tn, .int .u32 te, .int .i64 s, o] 34 (0, 0)) ∧ wr.heap[w.heap.size]? = some (.cells #[.int .i64 0, .int .u32 0, .int .i64 0, .slice none 0 0] 34 (0, 0)) ∧ wr.heap[bb]? = some (.cells #[.int .i64 tn, .int .u32 te, .int .i64 s, .slice A N cap, .int .i64 0] 188 (0, 0)) ∧ Hid (TmA (w.heap.size + 2) wr o (nzB (xs.take k))) ∧ Below w.heap.size w wr) (fun i _ => N - (intOf i).toNat)
  case atStart =>
    have kb := KB.out
    refine ⟨0, .slice none 0 0, Nat.zero_le _, rfl, blkdrew (blknew' _ _ _ (by simp)), blkdrew (blkal (blknew w _) _), blkdrew (blkal (blkal kb _) _), Lib.hid TmA.nil, belA⟩
  case round =>
    obtain ⟨k, o, hk, rfl, b0, b1, b2, hT, hB⟩ := hrel
    obtain ⟨W0, rfl⟩ : ∃ x, x = wr := ⟨_, rfl⟩
    clear a0 a1 a2 a3 a4 fz
    obtain ⟨⟨p0, p1, p2, p3⟩, f0, f1, f2, f3⟩ := blk4 b0
    obtain ⟨⟨a0, a1, a2, a3, a4⟩, fz⟩ := blk5 b2
    have y0 := blklt b0
    have y1 := blklt b1
    have y2 := blklt b2
    have B0 := Lib.hid b0
    have B1 := Lib.hid b1
    have B2 := Lib.hid b2
    have HA0 := Lib.hid (HA.out.below hB)
    have hzB := hB.size
    by_cases hlt : k < N
    · have hk8 : (k : Int) < (N : Int) := by omega
      obtain ⟨A', cap', he, _, _, hoks, hel⟩ := lstTerm HA0.out.lst
      injection he with e1 e2 e3
      subst e1
      obtain ⟨bl, off, hA', hel'⟩ := hel (by rw [hN.out]; omega)
      subst hA'
      obtain ⟨d, hd, hok, d0, d1, d2, d3, d4⟩ := hel' k (by rw [hN.out]; omega)
      have zb := World.block_lt_of_cell? _ _ d0
      simp only at zb
      have HD := Lib.hid hd
      have HOK := Lib.hid hok
      have hbl : Hid (bl < w.heap.size) := Lib.hid (by
        rcases HA.out.form with ⟨h, _⟩ | ⟨g', cap', h, h1, h2, _⟩
        · injection h with h; cases h
        · injection h with h
          injection h with h
          injection h with h h'
          subst h
          exact h2)
      have hbl' := hbl.out
      clear hel hel' hoks hd hok e2 e3 b0 b1 b2
      by_cases hz : d.2.1 = 0
      · have hnx : Hid (nzB (xs.take (k + 1)) = nzB (xs.take k)) := Lib.hid (by rw [nzB_take HD.out, if_pos hz])
        have hzb : (d.2.1 != 0) = false := by simp [hz]
        clear hz
        go_wp2_with fail
        go_roundw
        case rel =>
          exact ⟨k + 1, o, by omega, by go_num, B0.out, B1.out, B2.out, Lib.hid (by rw [hnx.out]; exact hT.out), hB⟩
        case measure => simp [intOf]; omega
      · have hnx : Hid (nzB (xs.take (k + 1)) = nzB (xs.take k) ++ [d]) := Lib.hid (by rw [nzB_take HD.out, if_neg hz])
        have hzb : (d.2.1 != 0) = true := by simp [hz]
        have hlk : Hid ((nzB (xs.take k)).length ≤ N) := Lib.hid (by rw [← hN.out]; exact nzB_lenk xs k)
        have hTge : Hid (∀ q, o.ownBlock = some q → w.heap.size + 2 ≤ q ∧ q < W0.heap.size) := Lib.hid hT.out.ge
        clear hz
        go_wp2_with fail
        (refine last_region (S := (fun w' => w'.cell? ⟨w.heap.size + 1, 3, none⟩ = some o ∧ w'.cell? ⟨bb, 3, none⟩ = some (.slice (some ⟨bl, off, none⟩) N cap) ∧ w'.cell? ⟨bl, off + k * 5, none⟩ = some (.int .i64 d.1.1) ∧ w'.cell? ⟨bl, off + k * 5 + 1, none⟩ = some (.int .i64 d.1.2.1) ∧ w'.cell? ⟨bl, off + k * 5 + 2, none⟩ = some (.int .u32 d.1.2.2) ∧ w'.cell? ⟨bl, off + k * 5 + 3, none⟩ = some (.int .i64 d.2.1) ∧ w'.cell? ⟨bl, off + k * 5 + 4, none⟩ = some (.int .i64 d.2.2))) 13 (by kernel_rfl) ?_ (fun hHeld => ?_); (focus (first | exact hS | (simp [*, go_sem]; done) | fail)); refine last_take 0 (some 48) (v := ?_) rfl (by kernel_rfl) (by kernel_rfl) (by kernel_rfl) (by kernel_rfl) (by decide) (by kernel_rfl) (fun _ _ _ h => h) (Or.inl ⟨by kernel_rfl, ?_⟩) (by assumption) ?_; rotate_left; (focus (intro w' hSw; (try dsimp only at hSw); go_simp; (try with_reducible rfl))); (try simp only [Act.put, nA, nB, nC]); refine last_take 1 (some 49) (v := ?_) rfl (by kernel_rfl) (by kernel_rfl) (by kernel_rfl) (by kernel_rfl) (by decide) (by kernel_rfl) (fun _ _ _ h => h) (Or.inl ⟨by kernel_rfl, ?_⟩) (by assumption) ?_; rotate_left; (focus (intro w' hSw; (try dsimp only at hSw); go_simp; (try with_reducible rfl))); (try simp only [Act.put, nA, nB, nC]); refine last_take 2 (some 50) (v := ?_) rfl (by kernel_rfl) (by kernel_rfl) (by kernel_rfl) (by kernel_rfl) (by decide) (by kernel_rfl) (fun _ _ _ h => h) (Or.inl ⟨by kernel_rfl, ?_⟩) (by assumption) ?_; rotate_left; (focus (intro w' hSw; (try dsimp only at hSw); go_simp; (try with_reducible rfl))); (try simp only [Act.put, nA, nB, nC]); refine last_take 3 (some 51) (v := ?_) rfl (by kernel_rfl) (by kernel_rfl) (by kernel_rfl) (by kernel_rfl) (by decide) (by kernel_rfl) (fun _ _ _ h => h) (Or.inl ⟨by kernel_rfl, ?_⟩) (by assumption) ?_; rotate_left; (focus (intro w' hSw; (try dsimp only at hSw); go_simp; (try with_reducible rfl))); (try simp only [Act.put, nA, nB, nC]); refine last_take 4 (some 52) (v := ?_) rfl (by kernel_rfl) (by kernel_rfl) (by kernel_rfl) (by kernel_rfl) (by decide) (by kernel_rfl) (fun _ _ _ h => h) (Or.inl ⟨by kernel_rfl, ?_⟩) (by assumption) ?_; rotate_left; (focus (intro w' hSw; (try dsimp only at hSw); go_simp; (try with_reducible rfl))); (try simp only [Act.put, nA, nB, nC]); refine last_take 5 (some 53) (v := ?_) rfl (by kernel_rfl) (by kernel_rfl) (by kernel_rfl) (by kernel_rfl) (by decide) (by kernel_rfl) (fun _ _ _ h => h) (Or.inl ⟨by kernel_rfl, ?_⟩) (by assumption) ?_; rotate_left; (focus (intro w' hSw; (try dsimp only at hSw); go_simp; (try with_reducible rfl))); (try simp only [Act.put, nA, nB, nC]); refine last_take 6 (some 54) (v := ?_) rfl (by kernel_rfl) (by kernel_rfl) (by kernel_rfl) (by kernel_rfl) (by decide) (by kernel_rfl) (fun _ _ _ h => h) (Or.inl ⟨by kernel_rfl, ?_⟩) (by assumption) ?_; rotate_left; (focus (intro w' hSw; (try dsimp only at hSw); go_simp; (try with_reducible rfl))); (try simp only [Act.put, nA, nB, nC]); refine last_take 7 (some 55) (v := ?_) rfl (by kernel_rfl) (by kernel_rfl) (by kernel_rfl) (by kernel_rfl) (by decide) (by kernel_rfl) (fun _ _ _ h => h) (Or.inl ⟨by kernel_rfl, ?_⟩) (by assumption) ?_; rotate_left; (focus (intro w' hSw; (try dsimp only at hSw); go_simp; (try with_reducible rfl))); (try simp only [Act.put, nA, nB, nC]); refine last_take 8 (some 56) (v := ?_) rfl (by kernel_rfl) (by kernel_rfl) (by kernel_rfl) (by kernel_rfl) (by decide) (by kernel_rfl) (fun _ _ _ h => h) (Or.inl ⟨by kernel_rfl, ?_⟩) (by assumption) ?_; rotate_left; (focus (intro w' hSw; (try dsimp only at hSw); go_simp; (try with_reducible rfl))); (try simp only [Act.put, nA, nB, nC]); refine last_take 9 (some 57) (v := ?_) rfl (by kernel_rfl) (by kernel_rfl) (by kernel_rfl) (by kernel_rfl) (by decide) (by kernel_rfl) (fun _ _ _ h => h) (Or.inl ⟨by kernel_rfl, ?_⟩) (by assumption) ?_; rotate_left; (focus (intro w' hSw; (try dsimp only at hSw); go_simp; (try with_reducible rfl))); (try simp only [Act.put, nA, nB, nC]); refine last_ready (i := 10) (by kernel_rfl) rfl (fun K hK => ?_); (try go_simp); refine hK.out _ _ ?_ (fun hHeld => ?_); (focus (first | exact hS | (simp [*, go_sem]; done) | fail)); clear hK K; (try simp only [Act.put, nA, nB, nC]); refine last_ready (i := 11) (by kernel_rfl) rfl (fun K hK => ?_); (rw [if_pos (by simp [Region.wanted])]; refine wp_append_terms _ (B := w.heap.size + 2) (L := nzB (xs.take k)) (M := [d]) (hT.out.below (by repeat (first | with_reducible exact Below.refl _ _ | with_reducible refine bal ?_ _ | with_reducible refine bdrew1 ?_))) (TmA.one (B := W0.heap.size) (g := W0.heap.size) (d := d) (by repeat (first | exact blknew _ _ | with_reducible refine blkdrew ?_)) (Nat.le_refl _) HOK.out).lst (by have := hlk.out; simp; omega) (by simp; omega) (.tmp 49) (.tmp 58) rfl rfl rfl ?_; intro v2 w2 hA2 hb2 hg2 hq2; obtain ⟨A4, cap4, F4, hv4, _⟩ := hA2.own; obtain ⟨n4, hn4⟩ : ∃ n, (nzB (xs.take k) ++ [d]).length = n := ⟨_, rfl⟩; rw [hn4] at hv4; subst hv4; clear hn4; have HA2 := Lib.hid hA2; have k2 : w2.heap[w.heap.size + 1]? = some (.cells #[.int .i64 tn, .int .u32 te, .int .i64 s, o] 34 (0, 0)) := (hb2.block _ (by omega)).trans (by repeat (first | exact B0.out | with_reducible refine blkal ?_ _ | with_reducible refine blkdrew ?_)); have K2 := Lib.hid k2; have fz3 := (blk4 k2).2.2.2.2; have yk2 := blklt k2; clear k2; have HB2 := Lib.hid (show Below (w.heap.size + 2) W0 w2 from Below.trans (bdrew1 (bal (Below.refl _ _) _) |>.mono (by omega)) hb2); have hS := And.intro (bkeepB hb2 (by show w.heap.size + 1 < w.heap.size + 2; omega) hHeld.1) (And.intro (bkeepB hb2 (by show bb < w.heap.size + 2; omega) hHeld.2.1) (And.intro (bkeepB hb2 (by show bl < w.heap.size + 2; omega) hHeld.2.2.1) (And.intro (bkeepB hb2 (by show bl < w.heap.size + 2; omega) hHeld.2.2.2.1) (And.intro (bkeepB hb2 (by show bl < w.heap.size + 2; omega) hHeld.2.2.2.2.1) (And.intro (bkeepB hb2 (by show bl < w.heap.size + 2; omega) hHeld.2.2.2.2.2.1) (bkeepB hb2 (by show bl < w.heap.size + 2; omega) hHeld.2.2.2.2.2.2)))))); clear hA2 hb2 hg2 hq2); refine hK.out _ _ ?_ (fun hHeld => ?_); (focus (first | exact hS | (simp [*, go_sem]; done) | fail)); clear hK K; (try simp only [Act.put, nA, nB, nC]); refine last_take 12 (some 60) (v := ?_) rfl (by kernel_rfl) (by kernel_rfl) (by kernel_rfl) (by kernel_rfl) (by decide) (by kernel_rfl) (fun _ _ _ h => h) (Or.inl ⟨by kernel_rfl, ?_⟩) (by assumption) ?_; rotate_left; (focus (intro w' hSw; (try dsimp only at hSw); go_simp; (try with_reducible rfl))); (try simp only [Act.put, nA, nB, nC]); refine last_end (by kernel_rfl) rfl (fun K hK => ?_); (try go_simp); refine hK.out _ _ ?_; clear hK K hHeld; (try simp only [Act.put, nA, nB, nC]); refine last_done (by kernel_rfl) ?_ _)
        go_wp2_with fail
        go_roundw
        case rel =>
          refine ⟨k + 1, _, by omega, by go_num, blkset0 K2.out 3 _, blkset ((HB2.out.block _ (by omega)).trans B1.out) (by show w.heap.size ≠ w.heap.size + 1; omega) _, blkset ((HB2.out.block _ (by omega)).trans B2.out) (by show bb ≠ w.heap.size + 1; omega) _, Lib.hid ?_, Below.setCell (hB.trans (HB2.out.mono (by omega))) (by show w.heap.size ≤ w.heap.size + 1; omega) _⟩
          rw [hnx.out]
          exact HA2.out.move fun q h1 _ => Below.heap_setCell _ ⟨w.heap.size + 1, 3, none⟩ _ q (by show q ≠ w.heap.size + 1; omega)
        case measure => simp [intOf]; omega
    · have e : k = N := by omega
      subst e
      have hx : Hid (nzB (xs.take k) = nzB xs) := Lib.hid (by rw [show xs.take k = xs from by rw [← hN.out]; exact List.take_length])
      have hT2 := hT.out
      rw [hx.out] at hT2
      obtain ⟨L, hL⟩ : ∃ L : List Trm, Hid (nzB xs = L) := ⟨_, Lib.hid rfl⟩
      rw [hL.out] at hT2
      obtain ⟨A2, cap2, F2, rfl, hO2⟩ := hT2.own
      obtain ⟨q, hq⟩ : ∃ q : Nat, Hid (L.length = q) := ⟨_, Lib.hid rfl⟩
      rw [hq.out] at hO2 p3
      obtain ⟨⟨r0, r1, r2, r3⟩, e0, e1, e2, e3⟩ := blk4 b1
      have HO2 := Lib.hid hO2
      clear hT2 hO2 b0 b1 b2
      by_cases h64 : q ≤ 64
      · have h64' : ((q : Int) > 64) = False := by simp; omega
        have hc : Hid (tdC false xs = 0) := Lib.hid (by rw [tdC_nz, hL.out, hq.out]; simp [h64])
        go_wp2_with fail
        refine bodyPost_ret (v := .tuple #[.agg #[.int .i64 tn, .int .u32 te, .int .i64 s, .slice A2 q cap2], .int .i64 0]) (by simp [results, Tryz.results81, go_sem, *]) rfl ?_
        rw [hc.out, show tdT 0 (tn, te) = (tn, te) from rfl, show tdS 0 s = s from rfl, show tdL 0 (nzT xs) = nzT xs from rfl, nzB_eq, hL.out]
        refine ⟨A2, cap2, F2, ?_, ?_, belA⟩
        · show _ = Ending.returned (.tuple #[.agg #[.int .i64 tn, .int .u32 te, .int .i64 s, .slice A2 L.length cap2], .int .i64 0])
          rw [hq.out]
        · show Own shTerm w.heap.size _ L (.slice A2 L.length cap2) F2
          rw [hq.out]
          refine HO2.out.move (by omega) fun q h1 _ => ?_
          have hne : q ≠ w.heap.size := by omega
          exact (Below.heap_setCell _ ⟨w.heap.size, 3, none⟩ _ q hne).trans ((Below.heap_setCell _ ⟨w.heap.size, 2, none⟩ _ q hne).trans ((Below.heap_setCell _ ⟨w.heap.size, 1, none⟩ _ q hne).trans (Below.heap_setCell _ ⟨w.heap.size, 0, none⟩ _ q hne)))
      · have h64' : (64 : Int) < q := by omega
        have hc : Hid (tdC false xs = 3) := Lib.hid (by rw [tdC_nz, hL.out, hq.out]; simp [h64])
        go_wp2_with fail
        refine bodyPost_ret (v := .tuple #[.agg #[.int .i64 0, .int .u32 0, .int .i64 0, .slice none 0 0], .int .i64 3]) (by simp [results, Tryz.results81, go_sem, *]) rfl ?_
        rw [hc.out]
        exact sumRet_no rfl rfl rfl belA rfl
end Go.Proofs.YtpcjinbbgnmchaaGreat
