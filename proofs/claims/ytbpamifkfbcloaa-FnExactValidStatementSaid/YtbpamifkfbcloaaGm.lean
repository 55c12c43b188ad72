/- impl.listed: all lists of different numbers behind a list, handed on until one is enough. -/
import Derived.Test.YtbpamifkfbcloaaGn
import Derived.ArgAppend
import Derived.Laws.AppendOwn
namespace Go.Proofs.Ytbpamifkfbcloaa
open Go.ChangeShapes Go.WideShapes Go.RowKit
set_option linter.unusedVariables false
set_option linter.unusedSimpArgs false
attribute [local irreducible] Calls
/-- An append onto a full slice: a new row. -/
theorem wp_append_full {P : Program} (w : World) {o : Oper} {a : Act} {K : Act → World → Prop} {Q : Exit → Act → World → Prop} (s x : Operand) (t : TypeId) (hop : o.op = Op.call { callee := Callee.builtin Builtin.append, args := #[s, x], argTypes := #[t, t] })
    (e : TypeId) (i : TypeInfo) (z : Value) (size bytes : Nat) (h1 : P.underlying t = some (.slice e)) (h2 : P.info? e = some i) (h3 : i.zero = some z) (h4 : i.size = size) (h5 : i.bytes = bytes) (h6 : z.cells.size = size) (h7 : 0 < size)
    (ao : Option Addr) (n cap : Nat) (olds : List Value) (hs : a.eval s = .slice ao n cap) (hnone : ao = none → n = 0 ∧ cap = 0) (hlo : olds.length = n * size) (holds : ∀ b, ao = some b → ∀ j u, olds[j]? = some u → w.cell? (b.add j) = some u)
    (ad : Addr) (m c : Nat) (news : List Value) (hx : a.eval x = .slice (some ad) m c) (hn : news.length = m * size) (hc : ∀ j u, news[j]? = some u → w.cell? (ad.add j) = some u) (h1c : ∀ u ∈ news, u.oneCell' = true)
    (hm : 0 < m) (hfull : cap < n + m) (b1 : n + m ≤ maxLen) (b2 : (n + m) * bytes ≤ 140737488355328)
    (hK : ∀ g cap' w', w'.ownsRow w.heap.size e size (.slice (some ⟨g, 0, none⟩) (n + m) cap') (n + m) (olds ++ news) → w.grownBy w' none → K (a.put o.dst (.slice (some ⟨g, 0, none⟩) (n + m) cap')) w') : o.wp P a w K Q := by
  have key : ∃ v' w', (Builtin.append_ #[t, t] o.type #[.slice ao n cap, .slice (some ad) m c]).run P w = .ok v' w' ∧ w'.ownsRow w.heap.size e size v' (n + m) (olds ++ news) ∧ w.grownBy w' none := by
    cases ao with
    | some b => exact run_append_arg_grows (P := P) w t o.type e i z size bytes h1 h2 h3 h4 h5 h6 h7 b n cap olds hlo (holds b rfl) ad m c news hn hc hfull b1 b2
    | none =>
      obtain ⟨rfl, rfl⟩ := hnone rfl
      obtain rfl : olds = [] := List.eq_nil_of_length_eq_zero (by simpa using hlo)
      obtain ⟨v', w', hr, r1, r2, _⟩ := run_append_own (P := P) w w.heap.size t o.type e i z size bytes h1 h2 h3 h4 h5 h6 h7 (.slice none 0 0) 0 [] (World.ownsRow_nil w _ e size) ad m c news hn hc h1c b1 b2 (Nat.le_refl _)
      exact ⟨v', w', hr, r1, r2⟩
  obtain ⟨v', w', hr, r1, r2⟩ := key
  obtain ⟨g, cap', rfl, _, _⟩ := r1.form (by omega)
  unfold Oper.wp execOp
  simp only [hop, resolve, invoke, builtin, Sem.run_bind, Sem.run_pure, Result.andThen_ok, List.map_toArray, List.map_cons, List.map_nil, hs, hx, hr]
  exact hK g cap' w' r1 r2
theorem wpList_append_full {P : Program} (w : World) {ops : Array Oper} {rest : List Oper} {o : Oper} {a : Act} {Q : Exit → Act → World → Prop} (hgd : Region.wanted o (yielded ops a.tmps) = true) (s x : Operand) (t : TypeId) (hop : o.op = Op.call { callee := Callee.builtin Builtin.append, args := #[s, x], argTypes := #[t, t] })
    (e : TypeId) (i : TypeInfo) (z : Value) (size bytes : Nat) (h1 : P.underlying t = some (.slice e)) (h2 : P.info? e = some i) (h3 : i.zero = some z) (h4 : i.size = size) (h5 : i.bytes = bytes) (h6 : z.cells.size = size) (h7 : 0 < size)
    (ao : Option Addr) (n cap : Nat) (olds : List Value) (hs : a.eval s = .slice ao n cap) (hnone : ao = none → n = 0 ∧ cap = 0) (hlo : olds.length = n * size) (holds : ∀ b, ao = some b → ∀ j u, olds[j]? = some u → w.cell? (b.add j) = some u)
    (ad : Addr) (m c : Nat) (news : List Value) (hx : a.eval x = .slice (some ad) m c) (hn : news.length = m * size) (hc : ∀ j u, news[j]? = some u → w.cell? (ad.add j) = some u) (h1c : ∀ u ∈ news, u.oneCell' = true)
    (hm : 0 < m) (hfull : cap < n + m) (b1 : n + m ≤ maxLen) (b2 : (n + m) * bytes ≤ 140737488355328)
    (hK : ∀ g cap' w', w'.ownsRow w.heap.size e size (.slice (some ⟨g, 0, none⟩) (n + m) cap') (n + m) (olds ++ news) → w.grownBy w' none → wpList P ops Q rest (a.put o.dst (.slice (some ⟨g, 0, none⟩) (n + m) cap')) w') : wpList P ops Q (o :: rest) a w :=
  wpList_step fun K hK' => by rw [if_pos hgd]; exact wp_append_full w s x t hop e i z size bytes h1 h2 h3 h4 h5 h6 h7 ao n cap olds hs hnone hlo holds ad m c news hx hn hc h1c hm hfull b1 b2 fun g c' w' p q => hK' _ _ (hK g c' w' p q)
theorem idxI64_any (w : World) (L : List Int) (v : Value) (x : Int) (h : Lst (shI .i64) w L v) (hl : L.length ≤ 100) : Calls Try.prog 132 #[v, .int .i64 x] w fun e w' => e = .returned (.int .i64 (idxI (fun d => d == x) L)) ∧ Below w.heap.size w w' := by
  obtain ⟨A, cap, rfl, hc, hm, hel⟩ := lstI h
  have H1 := Lib.hid hel
  clear hel h
  unfold maxLen at hm
  go_enter Try.func132, Try.ntmps132
  go_wp2_with fail
  go_loopw [8] (fun i wr => ∃ (k : Nat), k ≤ L.length ∧ i = .int .i64 k ∧ Hid (∀ a ∈ L.take k, (a == x) = false) ∧ Below w.heap.size w wr) (fun i _ => L.length - (intOf i).toNat)
  case atStart => exact ⟨0, Nat.zero_le _, rfl, Lib.hid (by simp), (by (try with_reducible refine bsz ?_); repeat (first | with_reducible exact Below.refl _ _ | ((with_reducible refine bpre ?_); (try simp only [Array.append_assoc]); repeat (first | with_reducible exact Pre.refl _ | with_reducible exact Pre.base _ _ | with_reducible refine Pre.cons _ ?_)) | with_reducible assumption | ((with_reducible refine bsetr ?_); rfl) | with_reducible refine Below.setCell ?_ (by simp <;> omega) _ | with_reducible refine bpl ?_ _ _ | with_reducible refine bal ?_ _ | with_reducible refine bdrew1 ?_ | with_reducible refine bdrew ?_ _))⟩
  case round =>
    obtain ⟨k, hk, rfl, hS, hB⟩ := hrel
    by_cases hlt : k < L.length
    · have hk8 : (k : Int) < 9223372036854775807 := by omega
      obtain ⟨bl, off, rfl, hel⟩ := H1.out (by omega)
      have c0 := bkeep hB (hel k hlt)
      have hd : Hid (L[k]? = some (gi L k)) := Lib.hid (by simp [gi, List.getElem?_eq_getElem hlt])
      clear hel
      by_cases hx : gi L k = x
      · have hr : idxI (fun d => d == x) L = k := idxI_at hS.out hd.out (by simp [hx])
        have hx1 : (x == gi L k) = true := by simp [hx]
        have HR := Lib.hid hr
        clear hr hx
        go_wp2_with fail
        exact bodyPost_ret (v := .int .i64 k) (by simp [results, Try.results132, go_sem]) rfl ⟨by rw [HR.out], (by (try with_reducible refine bsz ?_); repeat (first | with_reducible exact Below.refl _ _ | ((with_reducible refine bpre ?_); (try simp only [Array.append_assoc]); repeat (first | with_reducible exact Pre.refl _ | with_reducible exact Pre.base _ _ | with_reducible refine Pre.cons _ ?_)) | with_reducible assumption | ((with_reducible refine bsetr ?_); rfl) | with_reducible refine Below.setCell ?_ (by simp <;> omega) _ | with_reducible refine bpl ?_ _ _ | with_reducible refine bal ?_ _ | with_reducible refine bdrew1 ?_ | with_reducible refine bdrew ?_ _))⟩
      · have hx1 : (x == gi L k) = false := by simp; exact fun h => hx h.symm
        have HX : Hid ((gi L k == x) = false) := Lib.hid (by simpa using hx)
        clear hx
        go_wp2_with fail
        go_roundw
        case rel => exact ⟨k + 1, by omega, by go_num, Lib.hid (mem_take_succ hS.out hd.out HX.out), (by (try with_reducible refine bsz ?_); repeat (first | with_reducible exact Below.refl _ _ | ((with_reducible refine bpre ?_); (try simp only [Array.append_assoc]); repeat (first | with_reducible exact Pre.refl _ | with_reducible exact Pre.base _ _ | with_reducible refine Pre.cons _ ?_)) | with_reducible assumption | ((with_reducible refine bsetr ?_); rfl) | with_reducible refine Below.setCell ?_ (by simp <;> omega) _ | with_reducible refine bpl ?_ _ _ | with_reducible refine bal ?_ _ | with_reducible refine bdrew1 ?_ | with_reducible refine bdrew ?_ _))⟩
        case measure => simp [intOf]; omega
    · have e : k = L.length := by omega
      have hr : idxI (fun d => d == x) L = -1 := idxI_none (by have := hS.out; rw [e, List.take_length] at this; exact this)
      have HR := Lib.hid hr
      clear hr
      go_wp2_with fail
      exact bodyPost_ret (v := .int .i64 (-1)) (by simp [results, Try.results132, go_sem]) rfl ⟨by rw [HR.out], (by (try with_reducible refine bsz ?_); repeat (first | with_reducible exact Below.refl _ _ | ((with_reducible refine bpre ?_); (try simp only [Array.append_assoc]); repeat (first | with_reducible exact Pre.refl _ | with_reducible exact Pre.base _ _ | with_reducible refine Pre.cons _ ?_)) | with_reducible assumption | ((with_reducible refine bsetr ?_); rfl) | with_reducible refine Below.setCell ?_ (by simp <;> omega) _ | with_reducible refine bpl ?_ _ _ | with_reducible refine bal ?_ _ | with_reducible refine bdrew1 ?_ | with_reducible refine bdrew ?_ _))⟩
theorem hasI_any (w : World) (L : List Int) (v : Value) (x : Int) (h : Lst (shI .i64) w L v) (hl : L.length ≤ 100) : Calls Try.prog 130 #[v, .int .i64 x] w fun e w' => e = .returned (.bool (memB L x)) ∧ Below w.heap.size w w' := by
  obtain ⟨h1, h2, h3⟩ := idxI_any (fun d => d == x) L
  have H1 := Lib.hid h1
  clear h1
  go_enter Try.func130, Try.ntmps130
  go_wp2_with (first | (go_at_call 132; refine Calls.mono (idxI64_any _ L v x (h.below (by (try with_reducible refine bsz ?_); repeat (first | with_reducible exact Below.refl _ _ | ((with_reducible refine bpre ?_); (try simp only [Array.append_assoc]); repeat (first | with_reducible exact Pre.refl _ | with_reducible exact Pre.base _ _ | with_reducible refine Pre.cons _ ?_)) | with_reducible assumption | ((with_reducible refine bsetr ?_); rfl) | with_reducible refine Below.setCell ?_ (by simp <;> omega) _ | with_reducible refine bpl ?_ _ _ | with_reducible refine bal ?_ _ | with_reducible refine bdrew1 ?_ | with_reducible refine bdrew ?_ _))) hl) ?_; rintro e w1 ⟨rfl, hb⟩; obtain ⟨X, m, rfl⟩ := plsOf hb; clear hb))
  exact bodyPost_ret (v := .bool (decide (0 ≤ idxI (fun d => d == x) L))) (by simp [results, Try.results130, go_sem]) rfl ⟨by rw [H1.out]; rfl, (by (try with_reducible refine bsz ?_); repeat (first | with_reducible exact Below.refl _ _ | ((with_reducible refine bpre ?_); (try simp only [Array.append_assoc]); repeat (first | with_reducible exact Pre.refl _ | with_reducible exact Pre.base _ _ | with_reducible refine Pre.cons _ ?_)) | with_reducible assumption | ((with_reducible refine bsetr ?_); rfl) | with_reducible refine Below.setCell ?_ (by simp <;> omega) _ | with_reducible refine bpl ?_ _ _ | with_reducible refine bal ?_ _ | with_reducible refine bdrew1 ?_ | with_reducible refine bdrew ?_ _))⟩
theorem clip_any (w : World) (A : Option Addr) (n cap : Nat) (hc : n ≤ cap) (hm : cap ≤ maxLen) (h0 : A = none → cap = 0) : Calls Try.prog 131 #[.slice A n cap] w fun e w' => e = .returned (.slice A n n) ∧ w = w' := by
  unfold maxLen at hm
  go_enter Try.func131, Try.ntmps131
  go_wp2_with fail
  go_ret
  exact ⟨rfl, rfl⟩
/-- The lists behind a list. -/
def lsts (n : Nat) : Nat → List Int → List (List Int)
  | 0, L => [L]
  | d + 1, L => (List.range n).flatMap fun (i : Nat) => if memB L i then [] else lsts n d (L ++ [(i : Int)])
/-- Handing on, until one is enough. -/
def handed {σ : Type} (stop : List Int → Bool) (step : σ → List Int → σ) : List (List Int) → σ → Bool × σ
  | [], s => (false, s)
  | L :: r, s => if stop L then (true, step s L) else handed stop step r (step s L)
theorem handed_append {σ : Type} (stop : List Int → Bool) (step : σ → List Int → σ) (xs ys : List (List Int)) (s : σ) : handed stop step (xs ++ ys) s = if (handed stop step xs s).1 then handed stop step xs s else handed stop step ys (handed stop step xs s).2 := by
  induction xs generalizing s with
  | nil => rfl
  | cons x xs ih =>
    simp only [List.cons_append, handed]
    split
    · rfl
    · exact ih _
/-- What a function value that is handed lists does. -/
structure Hands (f : FuncId) (caps : Array Value) (B : Nat) (F : List Nat) {σ : Type} (I : σ → World → Prop) (stop : List Int → Bool) (step : σ → List Int → σ) (ok : List Int → Prop) : Prop where
  enters : ∀ args w, (callFunc f args).run Try.prog w = .ok (.enter f args) w
  keep : ∀ s W W', I s W → Below W.heap.size W W' → I s W'
  call : ∀ s W L v, ok L → I s W → B ≤ W.heap.size → Lst (shI .i64) W L v → Calls Try.prog f (#[v] ++ caps) W fun e W' => e = .returned (.bool (stop L)) ∧ I (step s L) W' ∧ Chg F W W'
  lt : ∀ b ∈ F, b < B
theorem AppI.chg {B : Nat} {F : List Nat} {w w' : World} {v : Value} {L : List Int} (h : AppI B w v L) (hF : ∀ b ∈ F, b < B) (hc : Chg F w w') : AppI B w' v L :=
  h.move fun b hb hl => hc.2.2.2.2 b hl fun hm => by have := hF b hm; omega
theorem AppI.isNone {B : Nat} {w : World} {n cap : Nat} {L : List Int} (h : AppI B w (.slice none n cap) L) : n = 0 ∧ cap = 0 := by
  rcases h.1.2 with ⟨h2, h1⟩ | ⟨g, c, cur, hv, _⟩
  · injection h2 with _ e2 e3; exact ⟨e2, e3⟩
  · injection hv with e1; cases e1
theorem AppI.olds {B : Nat} {w : World} {A : Option Addr} {n cap : Nat} {L : List Int} (h : AppI B w (.slice A n cap) L) : ∀ b, A = some b → ∀ j u, (L.map fun d => Value.int .i64 d)[j]? = some u → w.cell? (b.add j) = some u := by
  rintro b rfl
  rcases h.1.2 with ⟨h2, h1⟩ | ⟨g, c, cur, hv, _⟩
  · injection h2 with e1; cases e1
  · injection hv with e1 e2 e3
    injection e1 with e1
    subst e1
    exact h.1.cells (g := g) rfl
theorem lsts_succ (n d : Nat) (L : List Int) : lsts n (d + 1) L = (List.range n).flatMap fun (i : Nat) => if memB L i then [] else lsts n d (L ++ [(i : Int)]) := rfl
def lstsTo (n d : Nat) (L : List Int) (k : Nat) : List (List Int) := (List.range k).flatMap fun (i : Nat) => if memB L i then [] else lsts n d (L ++ [(i : Int)])
theorem lstsTo_succ (n d : Nat) (L : List Int) (k : Nat) : lstsTo n d L (k + 1) = lstsTo n d L k ++ (if memB L k then [] else lsts n d (L ++ [(k : Int)])) := by
  unfold lstsTo
  rw [List.range_succ, List.flatMap_append]
  simp
theorem lsts_to (n d : Nat) (L : List Int) : lsts n (d + 1) L = lstsTo n d L n := rfl
theorem lstsTo_pre (n d : Nat) (L : List Int) {k : Nat} (h : k ≤ n) : ∃ R, lstsTo n d L n = lstsTo n d L k ++ R := by
  obtain ⟨r, rfl⟩ : ∃ r, n = k + r := ⟨n - k, by omega⟩
  unfold lstsTo
  rw [List.range_add, List.flatMap_append]
  exact ⟨_, rfl⟩
theorem handed_true {σ : Type} (stop : List Int → Bool) (step : σ → List Int → σ) {n d : Nat} {L : List Int} {s : σ} {k : Nat} (hk : k < n) (hf : (handed stop step (lstsTo n d L k) s).1 = false) (hm : memB L k = false)
    (ht : (handed stop step (lsts n d (L ++ [(k : Int)])) (handed stop step (lstsTo n d L k) s).2).1 = true) :
    handed stop step (lsts n (d + 1) L) s = (true, (handed stop step (lsts n d (L ++ [(k : Int)])) (handed stop step (lstsTo n d L k) s).2).2) := by
  obtain ⟨R, hR⟩ := lstsTo_pre n d L (k := k + 1) hk
  rw [lsts_to, hR, lstsTo_succ, hm, handed_append, handed_append, hf]
  simp only [Bool.false_eq_true, if_false]
  rw [ht, if_pos rfl]
  exact Prod.ext ht rfl
theorem handed_false {σ : Type} (stop : List Int → Bool) (step : σ → List Int → σ) {n d : Nat} {L : List Int} {s : σ} {k : Nat} (hf : (handed stop step (lstsTo n d L k) s).1 = false) (hm : memB L k = false) :
    handed stop step (lstsTo n d L (k + 1)) s = handed stop step (lsts n d (L ++ [(k : Int)])) (handed stop step (lstsTo n d L k) s).2 := by
  rw [lstsTo_succ, hm, handed_append, hf]
  simp
theorem handed_skip {σ : Type} (stop : List Int → Bool) (step : σ → List Int → σ) {n d : Nat} {L : List Int} {s : σ} {k : Nat} (hm : memB L k = true) : handed stop step (lstsTo n d L (k + 1)) s = handed stop step (lstsTo n d L k) s := by
  rw [lstsTo_succ, hm]
  simp
theorem AppI.grow {B B' : Nat} {w w1 : World} {v : Value} {L : List Int} {d : Int} (h : AppI B w v L) (hd : okI .i64 d) {g cap : Nat} (ho : w1.ownsRow B' 2 1 (.slice (some ⟨g, 0, none⟩) (L.length + 1) cap) (L.length + 1) (L.map (fun d => .int .i64 d) ++ [.int .i64 d])) (hB : B ≤ B') :
    AppI B w1 (.slice (some ⟨g, 0, none⟩) (L.length + 1) cap) (L ++ [d]) := by
  refine AppI.mono (B := B') ⟨by rw [List.length_append, List.map_append]; exact ho, fun a ha => ?_⟩ hB
  rcases List.mem_append.1 ha with ha | ha
  · exact h.2 a ha
  · simp at ha; subst ha; exact hd
/-- The outcome of handing. -/
def HRet {σ : Type} (F : List Nat) (I : σ → World → Prop) (w : World) (r : Bool × σ) (e : Ending) (w' : World) : Prop := e = .returned (.bool r.1) ∧ I r.2 w' ∧ Chg F w w'
set_option maxHeartbeats 1000000 in
set_option maxRecDepth 100000 in
theorem listed_any {σ : Type} {f : FuncId} {caps : Array Value} {B : Nat} {F : List Nat} {I : σ → World → Prop} {stop : List Int → Bool} {step : σ → List Int → σ} {ok : List Int → Prop} (H : Hands f caps B F I stop step ok) (n many : Nat) (hn : n ≤ 100) (hm : many ≤ 100) :
    ∀ (d : Nat) (L : List Int) (w : World) (v : Value) (s : σ), L.length + d = many → AppI B w v L → B ≤ w.heap.size → I s w → (∀ L' ∈ lsts n d L, ok L') →
      Calls Try.prog 128 #[.int .i64 n, .int .i64 many, v, .func (.func f) #[] caps] w (HRet F I w (handed stop step (lsts n d L) s)) := by
  obtain ⟨i1, z1, hi1, hz1, hs1, hb1, hl1⟩ := infoB_spec (P := Try.prog) (e := 2) (sz := 1) (bytes := 8) (by kernel_rfl)
  have I1 := Lib.hid hi1
  have Z1 := Lib.hid hz1
  clear hi1 hz1
  have HH := Lib.hid H
  have eg := H.enters
  clear H
  intro d
  induction d with
  | zero =>
    intro L w v s hl hA hB hI hok
    obtain ⟨A, cap, rfl⟩ := hA.form
    have hl' : ((L.length : Int) == (many : Int)) = true := by simp; omega
    have HL := Lib.hid hA.lst
    have HI := Lib.hid hI
    have HO := Lib.hid (hok L (by simp [lsts]))
    clear hA hI hok hl
    have hd : Hid (handed stop step (lsts n 0 L) s = (stop L, step s L)) := Lib.hid (by simp only [lsts, handed]; cases stop L <;> rfl)
    rw [hd.out]
    go_enter Try.func128, Try.ntmps128
    go_wp2_with fail
    refine Calls.mono (HH.out.call s w L _ HO.out HI.out hB HL.out) ?_
    rintro e w1 ⟨rfl, hI1, hC1⟩
    have hI1 := Lib.hid hI1
    have hC1 := Lib.hid hC1
    go_wp2_with fail
    exact bodyPost_ret (v := .bool (stop L)) (by simp [results, Try.results128, go_sem]) rfl ⟨rfl, hI1.out, hC1.out⟩
  | succ d ih =>
    intro L w v s hl hA hB hI hok
    have IH := Lib.hid ih
    clear ih
    obtain ⟨A, cap, rfl⟩ := hA.form
    obtain ⟨A', cap', hv, hcap, hmx⟩ := formI hA.lst
    injection hv with e1 e2 e3
    subst e3
    have hl' : ((L.length : Int) == (many : Int)) = false := by simp; omega
    have HA := Lib.hid hA
    have HI := Lib.hid hI
    have HO := Lib.hid hok
    clear hA hI hok
    have hlen := Lib.hid hl
    have hL100 : L.length ≤ 100 := by omega
    clear hl e1
    go_enter Try.func128, Try.ntmps128
    go_wp2_with fail
    go_loopw [18] (fun i wr => ∃ (k : Nat), k ≤ n ∧ i = .int .i64 k ∧ Hid ((handed stop step (lstsTo n d L k) s).1 = false) ∧ Hid (I (handed stop step (lstsTo n d L k) s).2 wr) ∧ Hid (Chg F w wr)) (fun i _ => n - (intOf i).toNat)
    case atStart => exact ⟨0, Nat.zero_le _, rfl, Lib.hid rfl, HI, Lib.hid (Chg.refl _ _)⟩
    case round =>
      obtain ⟨k, hk, rfl, hf, hI1, hC⟩ := hrel
      have hA1 := Lib.hid (HA.out.chg HH.out.lt hC.out)
      have hB1 : B ≤ wr.heap.size := Nat.le_trans hB hC.out.2.2.2.1
      by_cases hlt : k < n
      · have hk8 : (k : Int) < 9223372036854775807 := by omega
        cases hmb : memB L k
        · have HM := Lib.hid hmb
          clear hmb
          cases hr : (handed stop step (lsts n d (L ++ [(k : Int)])) (handed stop step (lstsTo n d L k) s).2).1
          · have HR := Lib.hid hr
            have HF := Lib.hid (handed_false stop step hf.out HM.out)
            clear hr
            go_wp2_with (first | (go_at_call 130; refine Calls.mono (hasI_any _ L _ k hA1.out.lst hL100) ?_; rw [HM.out]; rintro e w1 ⟨rfl, hb⟩; obtain ⟨X, m, rfl⟩ := plsOf hb; clear hb) | (go_at_call 131; refine Calls.mono (clip_any _ A L.length cap hcap hmx (fun h => by have := hA1.out; rw [h] at this; exact this.isNone.2)) ?_; rintro e w1 ⟨rfl, rfl⟩) | (at_builtin; refine wpList_append_full _ (by simp [Region.wanted, yielded]) (.tmp 29) (.tmp 31) 119 rfl 2 i1 z1 1 8 Try.underlying119 I1.out Z1.out hs1 hb1 hl1 (by decide) A L.length L.length (L.map fun d => .int .i64 d) rfl (fun h => by have := hA1.out; rw [h] at this; have := this.isNone.1; omega) (by simp) (hA1.out.below ((bal (bpl (Below.refl _ _) _ _) _))).olds ⟨wr.heap.size + X.size, 0, none⟩ 1 1 [.int .i64 k] rfl rfl (World.news_of_block (blknew' _ _ _ (by simp))) (by simp [Value.oneCell']) (by decide) (by omega) (by unfold maxLen; omega) (by omega) ?_; intro g1 cap1 w2 hown hgrow; have hb2 : Below wr.heap.size wr w2 := (bal (bpl (Below.refl _ _) X m) _).trans (grown_below (v := .slice none 0 0) hgrow (fun q hq => by cases hq) (by simp; omega)); have hA2 := Lib.hid (hA1.out.grow (okN (n := k) (by omega)) hown (by simp; omega)); have hI2 := Lib.hid (HH.out.keep _ _ _ hI1.out hb2); have hC2 := Lib.hid (hC.out.trans (Chg.of hb2 F)); have hB2 : B ≤ w2.heap.size := Nat.le_trans hB1 hb2.size; clear hown hgrow hb2) | (go_at_call 128; refine Calls.mono (IH.out (L ++ [(k : Int)]) w2 _ _ (by have := hlen.out; simp; omega) hA2.out hB2 hI2.out (fun L' hL' => HO.out L' (by rw [lsts_succ, List.mem_flatMap]; exact ⟨k, by simpa using hlt, by rw [HM.out]; exact hL'⟩))) ?_; rintro e w3 ⟨he, hI3, hC3⟩; rw [HR.out] at he; subst he; have hI3 := Lib.hid hI3; have hC3 := Lib.hid (hC2.out.trans hC3)))
            go_roundw
            case rel => exact ⟨k + 1, by omega, by go_num, Lib.hid (by rw [HF.out]; exact HR.out), Lib.hid (by rw [HF.out]; exact hI3.out), hC3⟩
            case measure => simp [intOf]; omega
          · have HR := Lib.hid hr
            have HT := Lib.hid (handed_true stop step hlt hf.out HM.out hr)
            clear hr
            go_wp2_with (first | (go_at_call 130; refine Calls.mono (hasI_any _ L _ k hA1.out.lst hL100) ?_; rw [HM.out]; rintro e w1 ⟨rfl, hb⟩; obtain ⟨X, m, rfl⟩ := plsOf hb; clear hb) | (go_at_call 131; refine Calls.mono (clip_any _ A L.length cap hcap hmx (fun h => by have := hA1.out; rw [h] at this; exact this.isNone.2)) ?_; rintro e w1 ⟨rfl, rfl⟩) | (at_builtin; refine wpList_append_full _ (by simp [Region.wanted, yielded]) (.tmp 29) (.tmp 31) 119 rfl 2 i1 z1 1 8 Try.underlying119 I1.out Z1.out hs1 hb1 hl1 (by decide) A L.length L.length (L.map fun d => .int .i64 d) rfl (fun h => by have := hA1.out; rw [h] at this; have := this.isNone.1; omega) (by simp) (hA1.out.below ((bal (bpl (Below.refl _ _) _ _) _))).olds ⟨wr.heap.size + X.size, 0, none⟩ 1 1 [.int .i64 k] rfl rfl (World.news_of_block (blknew' _ _ _ (by simp))) (by simp [Value.oneCell']) (by decide) (by omega) (by unfold maxLen; omega) (by omega) ?_; intro g1 cap1 w2 hown hgrow; have hb2 : Below wr.heap.size wr w2 := (bal (bpl (Below.refl _ _) X m) _).trans (grown_below (v := .slice none 0 0) hgrow (fun q hq => by cases hq) (by simp; omega)); have hA2 := Lib.hid (hA1.out.grow (okN (n := k) (by omega)) hown (by simp; omega)); have hI2 := Lib.hid (HH.out.keep _ _ _ hI1.out hb2); have hC2 := Lib.hid (hC.out.trans (Chg.of hb2 F)); have hB2 : B ≤ w2.heap.size := Nat.le_trans hB1 hb2.size; clear hown hgrow hb2) | (go_at_call 128; refine Calls.mono (IH.out (L ++ [(k : Int)]) w2 _ _ (by have := hlen.out; simp; omega) hA2.out hB2 hI2.out (fun L' hL' => HO.out L' (by rw [lsts_succ, List.mem_flatMap]; exact ⟨k, by simpa using hlt, by rw [HM.out]; exact hL'⟩))) ?_; rintro e w3 ⟨he, hI3, hC3⟩; rw [HR.out] at he; subst he; have hI3 := Lib.hid hI3; have hC3 := Lib.hid (hC2.out.trans hC3)))
            refine bodyPost_ret (v := .bool true) (by simp [results, Try.results128, go_sem]) rfl ?_
            rw [HT.out]
            exact ⟨rfl, hI3.out, hC3.out⟩
        · have HM := Lib.hid hmb
          have HF := Lib.hid (handed_skip stop step (n := n) (d := d) (s := s) hmb)
          clear hmb
          go_wp2_with (first | (go_at_call 130; refine Calls.mono (hasI_any _ L _ k hA1.out.lst hL100) ?_; rw [HM.out]; rintro e w1 ⟨rfl, hb⟩; obtain ⟨X, m, rfl⟩ := plsOf hb; clear hb))
          go_roundw
          case rel => exact ⟨k + 1, by omega, by go_num, Lib.hid (by rw [HF.out]; exact hf.out), Lib.hid (by rw [HF.out]; exact HH.out.keep _ _ _ hI1.out (bpl (Below.refl _ _) _ _)), Lib.hid (hC.out.trans (Chg.of (bpl (Below.refl _ _) _ _) F))⟩
          case measure => simp [intOf]; omega
      · have e : k = n := by omega
        subst e
        have hd : Hid (handed stop step (lsts k (d + 1) L) s = (false, (handed stop step (lstsTo k d L k) s).2)) := Lib.hid (Prod.ext hf.out rfl)
        go_wp2_with fail
        refine bodyPost_ret (v := .bool false) (by simp [results, Try.results128, go_sem]) rfl ?_
        rw [hd.out]
        exact ⟨rfl, hI1.out, hC.out⟩
end Go.Proofs.Ytbpamifkfbcloaa
