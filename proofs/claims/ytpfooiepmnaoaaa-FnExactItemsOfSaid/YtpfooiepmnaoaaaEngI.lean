/- Rows of whole numbers; the reference's lists of variables in their order. -/
import Derived.Test.YtpfooiepmnaoaaaEngV
import Derived.Test.YtpfooiepmnaoaaaEngX
namespace Go.Proofs.Ytpfooiepmnaoaaa.E
open Go Go.RowKit Go.Proofs.Ytpfooiepmnaoaaa.X
set_option linter.unusedVariables false
set_option linter.unusedSimpArgs false
abbrev ic (l : List Int) : List Value := l.map (Value.int .i64)
/-- A row of whole numbers, as a reading. -/
def iA (a : Option Addr) (l : List Int) : Asn where
  ft b := l ≠ [] ∧ b = (a.getD ⟨0, 0, none⟩).block
  hold w := l ≠ [] → ∃ b o cs T fz, a = some ⟨b, o, none⟩ ∧ w.heap[b]? = some (.cells cs T fz) ∧ ∀ j v, (ic l)[j]? = some v → cs[o + j]? = some v
  fr w w' h hh hne := by
    obtain ⟨b, o, cs, T, fz, rfl, h1, h2⟩ := hh hne
    exact ⟨b, o, cs, T, fz, rfl, by rw [h b ⟨hne, rfl⟩]; exact h1, h2⟩
  lt w h b hb := by
    obtain ⟨b', o, cs, T, fz, rfl, h1, h2⟩ := h hb.1
    obtain rfl := hb.2
    exact (Array.getElem?_eq_some_iff.1 h1).1
theorem iA_reads {b o i : Nat} {l : List Int} (v : Int) (hi : l[i]? = some v) : (iA (some ⟨b, o, none⟩) l).reads b (o + i * 1) (.int .i64 v) := by
  intro w h
  have hne : l ≠ [] := by intro e; rw [e] at hi; simp at hi
  obtain ⟨b', o', cs, T, fz, e, h1, h2⟩ := h hne
  obtain ⟨rfl, rfl, _⟩ := Addr.mk.inj (Option.some.inj e)
  have := h2 i (.int .i64 v) (by simp [hi])
  simp [World.cell?, h1, this]
/-- A row of the caller's own, that may grow. -/
def IOwn (w : World) (b c : Nat) (l : List Int) (pad : List Value) : Prop := w.heap[b]? = some (.cells (ic l ++ pad).toArray 3 (0, 0)) ∧ (ic l ++ pad).length = c * 1
theorem IOwn.iA {w : World} {b c : Nat} {l : List Int} {pad : List Value} (h : IOwn w b c l pad) : (iA (some ⟨b, 0, none⟩) l).hold w := fun _ => ⟨b, 0, _, _, _, rfl, h.1, fun j v hj => by
  rw [Nat.zero_add, List.getElem?_toArray, List.getElem?_append_left (List.getElem?_eq_some_iff.1 hj).1]; exact hj⟩
theorem IOwn.cap {w : World} {b c : Nat} {l : List Int} {pad : List Value} (h : IOwn w b c l pad) : l.length ≤ c := by have := h.2; simp at this; omega
set_option maxRecDepth 100000 in
set_option maxHeartbeats 4000000 in
theorem spec_l02Has_ok (a : Option Addr) (c : Nat) (l : List Int) (n : Int) (w : World) (hi : (iA a l).hold w) (hlen : l.length ≤ 1000000000000) : Fn Try.prog 111 [.slice a l.length c, .int .i64 n] w fun u w' => u = .bool (decide (n ∈ l)) ∧ Chg noF w w' := by
  refine Fn.body (N := 17) Try.func111 rfl rfl rfl rfl rfl ?_
  have H : SH w noF w [] [iA a l] := SH.start _ _ _ (by simpa using hi)
  repeat' (first
    | (with_reducible refine WC.seq ?_)
    | (with_reducible refine WC.reg ?_)
    | (with_reducible refine WC.block ?_)
    | (with_reducible refine WC.skip ?_)
    | (with_reducible refine WC.ret ?_)
    | (with_reducible refine WC.exit ?_)
    | ((with_reducible refine is_cond ?_); first | refine WC.ctrue rfl ?_ | refine WC.cfalse rfl ?_ | (refine WC.cbool rfl ?_ ?_ <;> intro hcnd))
    | (with_reducible refine WL.nilK ?_)
    | (with_reducible refine WL.nil ?_)
    | (with_reducible refine AtQ.then_norm ?_)
    | (with_reducible refine AtQ.then_ret ?_)
    | (with_reducible refine AtQ.then_exit ?_)
    | (with_reducible refine AtQ.block_ret ?_)
    | (with_reducible refine AtQ.block_norm ?_)
    | (with_reducible refine AtQ.block_here ?_)
    | (with_reducible refine AtQ.loop_ret ?_)
    | (with_reducible refine AtQ.loop_exit ?_)
    | (with_reducible refine AtQ.out_ret ?_)
    | (with_reducible refine AtQ.out_exit ?_)
    | ((with_reducible refine AtQ.block_other ?_ ?_); · exact rfl)
    | ((with_reducible refine is_move ?_); first | refine WL.y H (Y.move rfl) (by decide) ?_)
    | ((with_reducible refine is_assign ?_); first | refine WL.y H (Y.assign rfl) (by decide) ?_)
    | ((with_reducible refine is_load ?_); first | refine WL.y H (Y.loadX rfl (by repeat' (first | exact List.mem_cons_self .. | apply List.mem_cons_of_mem)) rfl) (by decide) ?_ | refine WL.y H (Y.loadXN rfl (by repeat' (first | exact List.mem_cons_self .. | apply List.mem_cons_of_mem)) rfl rfl) (by decide) ?_)
    | ((with_reducible refine is_idx ?_); first | refine WL.y H (Y.idx rfl rfl (by first | omega | (simp only [List.length_cons, List.length_nil]; done) | (simp only [List.length_cons, List.length_nil]; omega)) (by first | omega | (simp only [List.length_cons, List.length_nil]; done) | (simp only [List.length_cons, List.length_nil]; omega))) (by decide) ?_)
    | ((with_reducible refine is_len ?_); first | refine WL.y H (Y.lenS rfl) (by decide) ?_)
    | ((with_reducible refine is_add ?_); first | refine WL.y H (Y.add rfl rfl (by first | omega | (simp only [List.length_cons, List.length_nil]; done) | (simp only [List.length_cons, List.length_nil]; omega)) (by first | omega | (simp only [List.length_cons, List.length_nil]; done) | (simp only [List.length_cons, List.length_nil]; omega))) (by decide) ?_)
    | ((with_reducible refine is_eql ?_); first | refine WL.y H ((Y.eql rfl rfl).boolT (by first | omega | (simp only [List.length_cons, List.length_nil]; done) | (simp only [List.length_cons, List.length_nil]; omega))) (by decide) ?_ | refine WL.y H ((Y.eql rfl rfl).boolF (by first | omega | (simp only [List.length_cons, List.length_nil]; done) | (simp only [List.length_cons, List.length_nil]; omega))) (by decide) ?_ | (refine WL.cmp H (Y.eql rfl rfl) (by decide) ?_ ?_ <;> intro hcmp))
    | ((with_reducible refine is_lss ?_); first | refine WL.y H ((Y.lss rfl rfl).boolT (by first | omega | (simp only [List.length_cons, List.length_nil]; done) | (simp only [List.length_cons, List.length_nil]; omega))) (by decide) ?_ | refine WL.y H ((Y.lss rfl rfl).boolF (by first | omega | (simp only [List.length_cons, List.length_nil]; done) | (simp only [List.length_cons, List.length_nil]; omega))) (by decide) ?_ | (refine WL.cmp H (Y.lss rfl rfl) (by decide) ?_ ?_ <;> intro hcmp)))
  refine WC.loop (σ := Nat) (fun k => [(1, .int .i64 n), (7, .slice a l.length c), (8, .int .i64 l.length), (9, .int .i64 (k : Nat))]) (fun k w' => k ≤ l.length ∧ n ∉ l.take k ∧ SH w noF w' [] [iA a l]) (fun k => l.length - k) 0 (by repeat' (first | exact Sub.nil | refine Sub.cons rfl ?_)) ⟨Nat.zero_le _, by simp, H⟩ (fun k w hinv => ?_)
  obtain ⟨hk, hall, H⟩ := hinv
  by_cases hlt : k < l.length
  · obtain ⟨b, o, cs, T, fz, ha, _, _⟩ := (H.of (A := iA a l) (by repeat' (first | exact List.mem_cons_self .. | apply List.mem_cons_of_mem))) (by intro e; rw [e] at hlt; simp at hlt)
    subst ha
    by_cases hv : l[k] = n
    · repeat' (first
        | (with_reducible refine WC.seq ?_)
        | (with_reducible refine WC.reg ?_)
        | (with_reducible refine WC.block ?_)
        | (with_reducible refine WC.skip ?_)
        | (with_reducible refine WC.ret ?_)
        | (with_reducible refine WC.exit ?_)
        | ((with_reducible refine is_cond ?_); first | refine WC.ctrue rfl ?_ | refine WC.cfalse rfl ?_ | (refine WC.cbool rfl ?_ ?_ <;> intro hcnd))
        | (with_reducible refine WL.nilK ?_)
        | (with_reducible refine WL.nil ?_)
        | (with_reducible refine AtQ.then_norm ?_)
        | (with_reducible refine AtQ.then_ret ?_)
        | (with_reducible refine AtQ.then_exit ?_)
        | (with_reducible refine AtQ.block_ret ?_)
        | (with_reducible refine AtQ.block_norm ?_)
        | (with_reducible refine AtQ.block_here ?_)
        | (with_reducible refine AtQ.loop_ret ?_)
        | (with_reducible refine AtQ.loop_exit ?_)
        | (with_reducible refine AtQ.out_ret ?_)
        | (with_reducible refine AtQ.out_exit ?_)
        | ((with_reducible refine AtQ.block_other ?_ ?_); · exact rfl)
        | ((with_reducible refine is_move ?_); first | refine WL.y H (Y.move rfl) (by decide) ?_)
        | ((with_reducible refine is_assign ?_); first | refine WL.y H (Y.assign rfl) (by decide) ?_)
        | ((with_reducible refine is_load ?_); first | refine WL.y H (Y.loadX rfl (by repeat' (first | exact List.mem_cons_self .. | apply List.mem_cons_of_mem)) rfl) (by decide) ?_ | refine WL.y H (Y.loadXN rfl (by repeat' (first | exact List.mem_cons_self .. | apply List.mem_cons_of_mem)) rfl rfl) (by decide) ?_ | refine WL.y H (Y.loadS rfl (by repeat' (first | exact List.mem_cons_self .. | apply List.mem_cons_of_mem)) (iA_reads (i := k) l[k] (List.getElem?_eq_getElem hlt))) (by decide) ?_)
        | ((with_reducible refine is_idx ?_); first | refine WL.y H (Y.idx rfl rfl (by first | omega | (simp only [List.length_cons, List.length_nil]; done) | (simp only [List.length_cons, List.length_nil]; omega)) (by first | omega | (simp only [List.length_cons, List.length_nil]; done) | (simp only [List.length_cons, List.length_nil]; omega))) (by decide) ?_)
        | ((with_reducible refine is_len ?_); first | refine WL.y H (Y.lenS rfl) (by decide) ?_)
        | ((with_reducible refine is_add ?_); first | refine WL.y H (Y.add rfl rfl (by first | omega | (simp only [List.length_cons, List.length_nil]; done) | (simp only [List.length_cons, List.length_nil]; omega)) (by first | omega | (simp only [List.length_cons, List.length_nil]; done) | (simp only [List.length_cons, List.length_nil]; omega))) (by decide) ?_)
        | ((with_reducible refine is_eql ?_); first | refine WL.y H ((Y.eql rfl rfl).boolT (by first | omega | (simp only [List.length_cons, List.length_nil]; done) | (simp only [List.length_cons, List.length_nil]; omega))) (by decide) ?_ | refine WL.y H ((Y.eql rfl rfl).boolF (by first | omega | (simp only [List.length_cons, List.length_nil]; done) | (simp only [List.length_cons, List.length_nil]; omega))) (by decide) ?_ | (refine WL.cmp H (Y.eql rfl rfl) (by decide) ?_ ?_ <;> intro hcmp))
        | ((with_reducible refine is_lss ?_); first | refine WL.y H ((Y.lss rfl rfl).boolT (by first | omega | (simp only [List.length_cons, List.length_nil]; done) | (simp only [List.length_cons, List.length_nil]; omega))) (by decide) ?_ | refine WL.y H ((Y.lss rfl rfl).boolF (by first | omega | (simp only [List.length_cons, List.length_nil]; done) | (simp only [List.length_cons, List.length_nil]; omega))) (by decide) ?_ | (refine WL.cmp H (Y.lss rfl rfl) (by decide) ?_ ?_ <;> intro hcmp)))
      refine AtQ.r1 (resVal.t rfl) ⟨?_, H.chg⟩
      rw [decide_eq_true (by rw [← hv]; exact List.getElem_mem hlt)]
    · repeat' (first
        | (with_reducible refine WC.seq ?_)
        | (with_reducible refine WC.reg ?_)
        | (with_reducible refine WC.block ?_)
        | (with_reducible refine WC.skip ?_)
        | (with_reducible refine WC.ret ?_)
        | (with_reducible refine WC.exit ?_)
        | ((with_reducible refine is_cond ?_); first | refine WC.ctrue rfl ?_ | refine WC.cfalse rfl ?_ | (refine WC.cbool rfl ?_ ?_ <;> intro hcnd))
        | (with_reducible refine WL.nilK ?_)
        | (with_reducible refine WL.nil ?_)
        | (with_reducible refine AtQ.then_norm ?_)
        | (with_reducible refine AtQ.then_ret ?_)
        | (with_reducible refine AtQ.then_exit ?_)
        | (with_reducible refine AtQ.block_ret ?_)
        | (with_reducible refine AtQ.block_norm ?_)
        | (with_reducible refine AtQ.block_here ?_)
        | (with_reducible refine AtQ.loop_ret ?_)
        | (with_reducible refine AtQ.loop_exit ?_)
        | (with_reducible refine AtQ.out_ret ?_)
        | (with_reducible refine AtQ.out_exit ?_)
        | ((with_reducible refine AtQ.block_other ?_ ?_); · exact rfl)
        | ((with_reducible refine is_move ?_); first | refine WL.y H (Y.move rfl) (by decide) ?_)
        | ((with_reducible refine is_assign ?_); first | refine WL.y H (Y.assign rfl) (by decide) ?_)
        | ((with_reducible refine is_load ?_); first | refine WL.y H (Y.loadX rfl (by repeat' (first | exact List.mem_cons_self .. | apply List.mem_cons_of_mem)) rfl) (by decide) ?_ | refine WL.y H (Y.loadXN rfl (by repeat' (first | exact List.mem_cons_self .. | apply List.mem_cons_of_mem)) rfl rfl) (by decide) ?_ | refine WL.y H (Y.loadS rfl (by repeat' (first | exact List.mem_cons_self .. | apply List.mem_cons_of_mem)) (iA_reads (i := k) l[k] (List.getElem?_eq_getElem hlt))) (by decide) ?_)
        | ((with_reducible refine is_idx ?_); first | refine WL.y H (Y.idx rfl rfl (by first | omega | (simp only [List.length_cons, List.length_nil]; done) | (simp only [List.length_cons, List.length_nil]; omega)) (by first | omega | (simp only [List.length_cons, List.length_nil]; done) | (simp only [List.length_cons, List.length_nil]; omega))) (by decide) ?_)
        | ((with_reducible refine is_len ?_); first | refine WL.y H (Y.lenS rfl) (by decide) ?_)
        | ((with_reducible refine is_add ?_); first | refine WL.y H (Y.add rfl rfl (by first | omega | (simp only [List.length_cons, List.length_nil]; done) | (simp only [List.length_cons, List.length_nil]; omega)) (by first | omega | (simp only [List.length_cons, List.length_nil]; done) | (simp only [List.length_cons, List.length_nil]; omega))) (by decide) ?_)
        | ((with_reducible refine is_eql ?_); first | refine WL.y H ((Y.eql rfl rfl).boolT (by first | omega | (simp only [List.length_cons, List.length_nil]; done) | (simp only [List.length_cons, List.length_nil]; omega))) (by decide) ?_ | refine WL.y H ((Y.eql rfl rfl).boolF (by first | omega | (simp only [List.length_cons, List.length_nil]; done) | (simp only [List.length_cons, List.length_nil]; omega))) (by decide) ?_ | (refine WL.cmp H (Y.eql rfl rfl) (by decide) ?_ ?_ <;> intro hcmp))
        | ((with_reducible refine is_lss ?_); first | refine WL.y H ((Y.lss rfl rfl).boolT (by first | omega | (simp only [List.length_cons, List.length_nil]; done) | (simp only [List.length_cons, List.length_nil]; omega))) (by decide) ?_ | refine WL.y H ((Y.lss rfl rfl).boolF (by first | omega | (simp only [List.length_cons, List.length_nil]; done) | (simp only [List.length_cons, List.length_nil]; omega))) (by decide) ?_ | (refine WL.cmp H (Y.lss rfl rfl) (by decide) ?_ ?_ <;> intro hcmp)))
      refine AtQ.loop_norm (k + 1) (by repeat' (first | exact Sub.nil | refine Sub.cons rfl ?_)) ⟨hlt, ?_, H⟩ (by omega)
      rw [List.take_succ_eq_append_getElem hlt]
      intro hm
      rcases List.mem_append.1 hm with h | h
      · exact hall h
      · exact hv (List.mem_singleton.1 h).symm
  · repeat' (first
      | (with_reducible refine WC.seq ?_)
      | (with_reducible refine WC.reg ?_)
      | (with_reducible refine WC.block ?_)
      | (with_reducible refine WC.skip ?_)
      | (with_reducible refine WC.ret ?_)
      | (with_reducible refine WC.exit ?_)
      | ((with_reducible refine is_cond ?_); first | refine WC.ctrue rfl ?_ | refine WC.cfalse rfl ?_ | (refine WC.cbool rfl ?_ ?_ <;> intro hcnd))
      | (with_reducible refine WL.nilK ?_)
      | (with_reducible refine WL.nil ?_)
      | (with_reducible refine AtQ.then_norm ?_)
      | (with_reducible refine AtQ.then_ret ?_)
      | (with_reducible refine AtQ.then_exit ?_)
      | (with_reducible refine AtQ.block_ret ?_)
      | (with_reducible refine AtQ.block_norm ?_)
      | (with_reducible refine AtQ.block_here ?_)
      | (with_reducible refine AtQ.loop_ret ?_)
      | (with_reducible refine AtQ.loop_exit ?_)
      | (with_reducible refine AtQ.out_ret ?_)
      | (with_reducible refine AtQ.out_exit ?_)
      | ((with_reducible refine AtQ.block_other ?_ ?_); · exact rfl)
      | ((with_reducible refine is_move ?_); first | refine WL.y H (Y.move rfl) (by decide) ?_)
      | ((with_reducible refine is_assign ?_); first | refine WL.y H (Y.assign rfl) (by decide) ?_)
      | ((with_reducible refine is_load ?_); first | refine WL.y H (Y.loadX rfl (by repeat' (first | exact List.mem_cons_self .. | apply List.mem_cons_of_mem)) rfl) (by decide) ?_ | refine WL.y H (Y.loadXN rfl (by repeat' (first | exact List.mem_cons_self .. | apply List.mem_cons_of_mem)) rfl rfl) (by decide) ?_)
      | ((with_reducible refine is_idx ?_); first | refine WL.y H (Y.idx rfl rfl (by first | omega | (simp only [List.length_cons, List.length_nil]; done) | (simp only [List.length_cons, List.length_nil]; omega)) (by first | omega | (simp only [List.length_cons, List.length_nil]; done) | (simp only [List.length_cons, List.length_nil]; omega))) (by decide) ?_)
      | ((with_reducible refine is_len ?_); first | refine WL.y H (Y.lenS rfl) (by decide) ?_)
      | ((with_reducible refine is_add ?_); first | refine WL.y H (Y.add rfl rfl (by first | omega | (simp only [List.length_cons, List.length_nil]; done) | (simp only [List.length_cons, List.length_nil]; omega)) (by first | omega | (simp only [List.length_cons, List.length_nil]; done) | (simp only [List.length_cons, List.length_nil]; omega))) (by decide) ?_)
      | ((with_reducible refine is_eql ?_); first | refine WL.y H ((Y.eql rfl rfl).boolT (by first | omega | (simp only [List.length_cons, List.length_nil]; done) | (simp only [List.length_cons, List.length_nil]; omega))) (by decide) ?_ | refine WL.y H ((Y.eql rfl rfl).boolF (by first | omega | (simp only [List.length_cons, List.length_nil]; done) | (simp only [List.length_cons, List.length_nil]; omega))) (by decide) ?_ | (refine WL.cmp H (Y.eql rfl rfl) (by decide) ?_ ?_ <;> intro hcmp))
      | ((with_reducible refine is_lss ?_); first | refine WL.y H ((Y.lss rfl rfl).boolT (by first | omega | (simp only [List.length_cons, List.length_nil]; done) | (simp only [List.length_cons, List.length_nil]; omega))) (by decide) ?_ | refine WL.y H ((Y.lss rfl rfl).boolF (by first | omega | (simp only [List.length_cons, List.length_nil]; done) | (simp only [List.length_cons, List.length_nil]; omega))) (by decide) ?_ | (refine WL.cmp H (Y.lss rfl rfl) (by decide) ?_ ?_ <;> intro hcmp)))
    refine AtQ.r1 (resVal.t rfl) ⟨?_, H.chg⟩
    rw [decide_eq_false (by rw [List.take_of_length_le (by omega)] at hall; exact hall)]
/-- Variables that are not there yet are put at the end. -/
def addVar (l : List Int) (v : Int) : List Int := if v ∈ l then l else l ++ [v]
def addVars (l : List Int) (vs : List Int) : List Int := vs.foldl addVar l
theorem addVar_len (l : List Int) (v : Int) : l.length ≤ (addVar l v).length ∧ (addVar l v).length ≤ l.length + 1 := by unfold addVar; split <;> simp
theorem addVars_len : ∀ (vs l : List Int), l.length ≤ (addVars l vs).length ∧ (addVars l vs).length ≤ l.length + vs.length
  | [], l => by simp [addVars]
  | v :: r, l => by
    have h1 := addVar_len l v
    have h2 := addVars_len r (addVar l v)
    simp only [addVars, List.foldl_cons, List.length_cons] at h2 ⊢
    omega
theorem vars_len : ∀ m : Tm, (vars m).length ≤ m.size
  | .var _ => by simp [vars, Tm.size]
  | .pair a b => by have := vars_len a; have := vars_len b; simp [vars, Tm.size]; omega
  | .nil | .sym _ | .int _ => by simp [vars]
/-- What a walk that lengthens a row hands back. -/
def RowR (l : List Int) (b : Nat) (w : World) (u : Value) (w' : World) : Prop :=
  ∃ b' c' pad', u = .slice (some ⟨b', 0, none⟩) l.length c' ∧ IOwn w' b' c' l pad' ∧ Chg (fun k => k = b) w w' ∧ (b' = b ∨ w.heap.size ≤ b')
theorem IOwn.of_append {w : World} {b c : Nat} {l vs : List Int} {pad : List Value} (h : w.heap[b]? = some (.cells (ic l ++ ic vs ++ pad).toArray 3 (0, 0))) (h2 : (ic l ++ ic vs ++ pad).length = c * 1) : IOwn w b c (l ++ vs) pad := by
  have e : ic (l ++ vs) = ic l ++ ic vs := List.map_append
  exact ⟨by rw [e]; exact h, by rw [e]; exact h2⟩
set_option maxRecDepth 100000 in
set_option maxHeartbeats 8000000 in
theorem spec_l07Order_ok : ∀ (m : Tm) (t : LT) (l : List Int) (b c : Nat) (pad : List Value) (w0 : World), er t = m.enc → HT w0 t → IOwn w0 b c l pad → b ∉ ft t → l.length + m.size ≤ 1000000000000 → Fn Try.prog 68 [tv t, .slice (some ⟨b, 0, none⟩) l.length c] w0 (RowR (addVars l (vars m)) b w0) := by
  intro m
  induction m with
  | var n =>
    intro t l b c pad w0 he ht ho hb hsz
    have hk : t.k = 1 ∧ t.i = n ∧ t.l = [] := by rw [er_eq] at he; simp only [Tm.enc, S47.mk.injEq, List.map_eq_nil_iff] at he; exact ⟨he.1, he.2.1, he.2.2.2⟩
    obtain ⟨hk, rfl, hl⟩ := hk
    refine Fn.body (N := 34) Try.func68 rfl rfl rfl rfl rfl ?_
    have H : SH w0 (fun k => k = b) w0 [(b, .cells (ic l ++ pad).toArray 3 (0, 0))] [tA t] := SH.start1 _ _ _ ho.1 rfl (by simpa [tA] using ht) (by simpa [tA] using hb)
    by_cases hv : t.i ∈ l
    · have e : addVars l (vars (.var t.i)) = l := by simp [vars, addVars, addVar, hv]
      rw [e]
      repeat' (first
        | (with_reducible refine WC.seq ?_)
        | (with_reducible refine WC.reg ?_)
        | (with_reducible refine WC.block ?_)
        | (with_reducible refine WC.skip ?_)
        | (with_reducible refine WC.ret ?_)
        | (with_reducible refine WC.exit ?_)
        | ((with_reducible refine is_cond ?_); first | refine WC.ctrue rfl ?_ | refine WC.cfalse rfl ?_ | (refine WC.cbool rfl ?_ ?_ <;> intro hcnd))
        | (with_reducible refine WL.nilK ?_)
        | (with_reducible refine WL.nil ?_)
        | (with_reducible refine AtQ.then_norm ?_)
        | (with_reducible refine AtQ.then_ret ?_)
        | (with_reducible refine AtQ.then_exit ?_)
        | (with_reducible refine AtQ.block_ret ?_)
        | (with_reducible refine AtQ.block_norm ?_)
        | (with_reducible refine AtQ.block_here ?_)
        | (with_reducible refine AtQ.loop_ret ?_)
        | (with_reducible refine AtQ.loop_exit ?_)
        | (with_reducible refine AtQ.out_ret ?_)
        | (with_reducible refine AtQ.out_exit ?_)
        | ((with_reducible refine AtQ.block_other ?_ ?_); · exact rfl)
        | ((with_reducible refine is_call ?_); refine WL.call (vs := [.slice (some ⟨b, 0, none⟩) l.length c, .int .i64 t.i]) rfl (spec_l02Has_ok _ _ l _ _ (IOwn.iA ⟨H.blk (by repeat' (first | exact List.mem_cons_self .. | apply List.mem_cons_of_mem)), ho.2⟩) (by omega)) (by decide) ?_; intro v w hv2; obtain ⟨e1, hc1⟩ := hv2; rw [decide_eq_true hv] at e1; subst e1; have H := H.call hc1)
        | ((with_reducible refine is_move ?_); first | refine WL.y H (Y.move rfl) (by decide) ?_)
        | ((with_reducible refine is_assign ?_); first | refine WL.y H (Y.assign rfl) (by decide) ?_)
        | ((with_reducible refine is_fld ?_); first | refine WL.y H (Y.fld rfl) (by decide) ?_)
        | ((with_reducible refine is_load ?_); first | refine WL.y H (Y.loadX rfl (by repeat' (first | exact List.mem_cons_self .. | apply List.mem_cons_of_mem)) rfl) (by decide) ?_ | refine WL.y H (Y.loadXN rfl (by repeat' (first | exact List.mem_cons_self .. | apply List.mem_cons_of_mem)) rfl rfl) (by decide) ?_)
        | ((with_reducible refine is_idx ?_); first | refine WL.y H (Y.idx rfl rfl (by first | omega | (simp only [List.length_cons, List.length_nil]; done) | (simp only [List.length_cons, List.length_nil]; omega)) (by first | omega | (simp only [List.length_cons, List.length_nil]; done) | (simp only [List.length_cons, List.length_nil]; omega))) (by decide) ?_)
        | ((with_reducible refine is_len ?_); first | refine WL.y H (Y.lenS rfl) (by decide) ?_)
        | ((with_reducible refine is_add ?_); first | refine WL.y H (Y.add rfl rfl (by first | omega | (simp only [List.length_cons, List.length_nil]; done) | (simp only [List.length_cons, List.length_nil]; omega)) (by first | omega | (simp only [List.length_cons, List.length_nil]; done) | (simp only [List.length_cons, List.length_nil]; omega))) (by decide) ?_)
        | ((with_reducible refine is_not ?_); first | refine WL.y H (Y.not rfl) (by decide) ?_)
        | ((with_reducible refine is_pick ?_); first | refine WL.y H (Y.pickT rfl rfl) (by decide) ?_ | refine WL.y H (Y.pickF rfl rfl) (by decide) ?_)
        | ((with_reducible refine is_eql ?_); first | refine WL.y H ((Y.eql rfl rfl).boolT (by first | omega | (simp only [List.length_cons, List.length_nil]; done) | (simp only [List.length_cons, List.length_nil]; omega))) (by decide) ?_ | refine WL.y H ((Y.eql rfl rfl).boolF (by first | omega | (simp only [List.length_cons, List.length_nil]; done) | (simp only [List.length_cons, List.length_nil]; omega))) (by decide) ?_ | (refine WL.cmp H (Y.eql rfl rfl) (by decide) ?_ ?_ <;> intro hcmp))
        | ((with_reducible refine is_lss ?_); first | refine WL.y H ((Y.lss rfl rfl).boolT (by first | omega | (simp only [List.length_cons, List.length_nil]; done) | (simp only [List.length_cons, List.length_nil]; omega))) (by decide) ?_ | refine WL.y H ((Y.lss rfl rfl).boolF (by first | omega | (simp only [List.length_cons, List.length_nil]; done) | (simp only [List.length_cons, List.length_nil]; omega))) (by decide) ?_ | (refine WL.cmp H (Y.lss rfl rfl) (by decide) ?_ ?_ <;> intro hcmp))
        | ((with_reducible refine is_box ?_); first | (refine WL.boxN H rfl (by decide) ?_; intro _ w H _ _ _) | (refine WL.box1 H rfl rfl (by decide) ?_; intro _ w H _ _ _))
        | ((with_reducible refine is_alloc ?_); refine WL.alloc H (by decide) ?_; intro _ w H _ _ _)
        | ((with_reducible refine is_store ?_); first | (refine WL.store1 H rfl rfl rfl (by repeat' (first | exact Upd.here .. | apply Upd.there)) rfl ?_; intro w H _) | (refine WL.storeN H rfl rfl rfl rfl (by repeat' (first | exact Upd.here .. | apply Upd.there)) rfl ?_; intro w H _))
        | ((with_reducible refine is_bslice ?_); refine WL.bslice H rfl rfl rfl (by decide) ?_; intro _ w H _ _ _)
        | ((with_reducible refine is_grd ?_); first | refine WL.grd (Wd.some rfl rfl rfl) rfl ?_ | refine WL.pass (Wd.some rfl rfl rfl) rfl rfl (by decide) ?_ | refine WL.pass0 (Wd.some rfl rfl rfl) rfl rfl ?_))
      refine WC.loop_out ?_
      have hz : ((t.l.length : Nat) : Int) = 0 := by rw [hl]; rfl
      repeat' (first
        | (with_reducible refine WC.seq ?_)
        | (with_reducible refine WC.reg ?_)
        | (with_reducible refine WC.block ?_)
        | (with_reducible refine WC.skip ?_)
        | (with_reducible refine WC.ret ?_)
        | (with_reducible refine WC.exit ?_)
        | ((with_reducible refine is_cond ?_); first | refine WC.ctrue rfl ?_ | refine WC.cfalse rfl ?_ | (refine WC.cbool rfl ?_ ?_ <;> intro hcnd))
        | (with_reducible refine WL.nilK ?_)
        | (with_reducible refine WL.nil ?_)
        | (with_reducible refine AtQ.then_norm ?_)
        | (with_reducible refine AtQ.then_ret ?_)
        | (with_reducible refine AtQ.then_exit ?_)
        | (with_reducible refine AtQ.block_ret ?_)
        | (with_reducible refine AtQ.block_norm ?_)
        | (with_reducible refine AtQ.block_here ?_)
        | (with_reducible refine AtQ.loop_ret ?_)
        | (with_reducible refine AtQ.loop_exit ?_)
        | (with_reducible refine AtQ.out_ret ?_)
        | (with_reducible refine AtQ.out_exit ?_)
        | ((with_reducible refine AtQ.block_other ?_ ?_); · exact rfl)
        | ((with_reducible refine is_move ?_); first | refine WL.y H (Y.move rfl) (by decide) ?_)
        | ((with_reducible refine is_assign ?_); first | refine WL.y H (Y.assign rfl) (by decide) ?_)
        | ((with_reducible refine is_fld ?_); first | refine WL.y H (Y.fld rfl) (by decide) ?_)
        | ((with_reducible refine is_load ?_); first | refine WL.y H (Y.loadX rfl (by repeat' (first | exact List.mem_cons_self .. | apply List.mem_cons_of_mem)) rfl) (by decide) ?_ | refine WL.y H (Y.loadXN rfl (by repeat' (first | exact List.mem_cons_self .. | apply List.mem_cons_of_mem)) rfl rfl) (by decide) ?_)
        | ((with_reducible refine is_idx ?_); first | refine WL.y H (Y.idx rfl rfl (by first | omega | (simp only [List.length_cons, List.length_nil]; done) | (simp only [List.length_cons, List.length_nil]; omega)) (by first | omega | (simp only [List.length_cons, List.length_nil]; done) | (simp only [List.length_cons, List.length_nil]; omega))) (by decide) ?_)
        | ((with_reducible refine is_len ?_); first | refine WL.y H (Y.lenS rfl) (by decide) ?_)
        | ((with_reducible refine is_add ?_); first | refine WL.y H (Y.add rfl rfl (by first | omega | (simp only [List.length_cons, List.length_nil]; done) | (simp only [List.length_cons, List.length_nil]; omega)) (by first | omega | (simp only [List.length_cons, List.length_nil]; done) | (simp only [List.length_cons, List.length_nil]; omega))) (by decide) ?_)
        | ((with_reducible refine is_not ?_); first | refine WL.y H (Y.not rfl) (by decide) ?_)
        | ((with_reducible refine is_pick ?_); first | refine WL.y H (Y.pickT rfl rfl) (by decide) ?_ | refine WL.y H (Y.pickF rfl rfl) (by decide) ?_)
        | ((with_reducible refine is_eql ?_); first | refine WL.y H ((Y.eql rfl rfl).boolT (by first | omega | (simp only [List.length_cons, List.length_nil]; done) | (simp only [List.length_cons, List.length_nil]; omega))) (by decide) ?_ | refine WL.y H ((Y.eql rfl rfl).boolF (by first | omega | (simp only [List.length_cons, List.length_nil]; done) | (simp only [List.length_cons, List.length_nil]; omega))) (by decide) ?_ | (refine WL.cmp H (Y.eql rfl rfl) (by decide) ?_ ?_ <;> intro hcmp))
        | ((with_reducible refine is_lss ?_); first | refine WL.y H ((Y.lss rfl rfl).boolT (by first | omega | (simp only [List.length_cons, List.length_nil]; done) | (simp only [List.length_cons, List.length_nil]; omega))) (by decide) ?_ | refine WL.y H ((Y.lss rfl rfl).boolF (by first | omega | (simp only [List.length_cons, List.length_nil]; done) | (simp only [List.length_cons, List.length_nil]; omega))) (by decide) ?_ | (refine WL.cmp H (Y.lss rfl rfl) (by decide) ?_ ?_ <;> intro hcmp))
        | ((with_reducible refine is_box ?_); first | (refine WL.boxN H rfl (by decide) ?_; intro _ w H _ _ _) | (refine WL.box1 H rfl rfl (by decide) ?_; intro _ w H _ _ _))
        | ((with_reducible refine is_alloc ?_); refine WL.alloc H (by decide) ?_; intro _ w H _ _ _)
        | ((with_reducible refine is_store ?_); first | (refine WL.store1 H rfl rfl rfl (by repeat' (first | exact Upd.here .. | apply Upd.there)) rfl ?_; intro w H _) | (refine WL.storeN H rfl rfl rfl rfl (by repeat' (first | exact Upd.here .. | apply Upd.there)) rfl ?_; intro w H _))
        | ((with_reducible refine is_bslice ?_); refine WL.bslice H rfl rfl rfl (by decide) ?_; intro _ w H _ _ _)
        | ((with_reducible refine is_grd ?_); first | refine WL.grd (Wd.some rfl rfl rfl) rfl ?_ | refine WL.pass (Wd.some rfl rfl rfl) rfl rfl (by decide) ?_ | refine WL.pass0 (Wd.some rfl rfl rfl) rfl rfl ?_))
      exact AtQ.r1 (resVal.t rfl) ⟨b, c, pad, rfl, ⟨H.blk (by repeat' (first | exact List.mem_cons_self .. | apply List.mem_cons_of_mem)), ho.2⟩, H.chg, .inl rfl⟩
    · have e : addVars l (vars (.var t.i)) = l ++ [t.i] := by simp [vars, addVars, addVar, hv]
      rw [e]
      repeat' (first
        | (with_reducible refine WC.seq ?_)
        | (with_reducible refine WC.reg ?_)
        | (with_reducible refine WC.block ?_)
        | (with_reducible refine WC.skip ?_)
        | (with_reducible refine WC.ret ?_)
        | (with_reducible refine WC.exit ?_)
        | ((with_reducible refine is_cond ?_); first | refine WC.ctrue rfl ?_ | refine WC.cfalse rfl ?_ | (refine WC.cbool rfl ?_ ?_ <;> intro hcnd))
        | (with_reducible refine WL.nilK ?_)
        | (with_reducible refine WL.nil ?_)
        | (with_reducible refine AtQ.then_norm ?_)
        | (with_reducible refine AtQ.then_ret ?_)
        | (with_reducible refine AtQ.then_exit ?_)
        | (with_reducible refine AtQ.block_ret ?_)
        | (with_reducible refine AtQ.block_norm ?_)
        | (with_reducible refine AtQ.block_here ?_)
        | (with_reducible refine AtQ.loop_ret ?_)
        | (with_reducible refine AtQ.loop_exit ?_)
        | (with_reducible refine AtQ.out_ret ?_)
        | (with_reducible refine AtQ.out_exit ?_)
        | ((with_reducible refine AtQ.block_other ?_ ?_); · exact rfl)
        | ((with_reducible refine is_call ?_); refine WL.call (vs := [.slice (some ⟨b, 0, none⟩) l.length c, .int .i64 t.i]) rfl (spec_l02Has_ok _ _ l _ _ (IOwn.iA ⟨H.blk (by repeat' (first | exact List.mem_cons_self .. | apply List.mem_cons_of_mem)), ho.2⟩) (by omega)) (by decide) ?_; intro v w hv2; obtain ⟨e1, hc1⟩ := hv2; rw [decide_eq_false hv] at e1; subst e1; have hs1 := hc1.size; have H := H.call hc1)
        | ((with_reducible refine is_append ?_); refine WL.append (xs := ic l) (news := ic [t.i]) H rfl rfl (by repeat' (first | exact Rem.here .. | apply Rem.there)) (by simp) ho.2 (newsX (by repeat' (first | exact List.mem_cons_self .. | apply List.mem_cons_of_mem))) rfl rfl (by omega) (by omega) rfl (by decide) ?_; intro b' c' pad' w H hlen _ _ hbn _)
        | ((with_reducible refine is_move ?_); first | refine WL.y H (Y.move rfl) (by decide) ?_)
        | ((with_reducible refine is_assign ?_); first | refine WL.y H (Y.assign rfl) (by decide) ?_)
        | ((with_reducible refine is_fld ?_); first | refine WL.y H (Y.fld rfl) (by decide) ?_)
        | ((with_reducible refine is_load ?_); first | refine WL.y H (Y.loadX rfl (by repeat' (first | exact List.mem_cons_self .. | apply List.mem_cons_of_mem)) rfl) (by decide) ?_ | refine WL.y H (Y.loadXN rfl (by repeat' (first | exact List.mem_cons_self .. | apply List.mem_cons_of_mem)) rfl rfl) (by decide) ?_)
        | ((with_reducible refine is_idx ?_); first | refine WL.y H (Y.idx rfl rfl (by first | omega | (simp only [List.length_cons, List.length_nil]; done) | (simp only [List.length_cons, List.length_nil]; omega)) (by first | omega | (simp only [List.length_cons, List.length_nil]; done) | (simp only [List.length_cons, List.length_nil]; omega))) (by decide) ?_)
        | ((with_reducible refine is_len ?_); first | refine WL.y H (Y.lenS rfl) (by decide) ?_)
        | ((with_reducible refine is_add ?_); first | refine WL.y H (Y.add rfl rfl (by first | omega | (simp only [List.length_cons, List.length_nil]; done) | (simp only [List.length_cons, List.length_nil]; omega)) (by first | omega | (simp only [List.length_cons, List.length_nil]; done) | (simp only [List.length_cons, List.length_nil]; omega))) (by decide) ?_)
        | ((with_reducible refine is_not ?_); first | refine WL.y H (Y.not rfl) (by decide) ?_)
        | ((with_reducible refine is_pick ?_); first | refine WL.y H (Y.pickT rfl rfl) (by decide) ?_ | refine WL.y H (Y.pickF rfl rfl) (by decide) ?_)
        | ((with_reducible refine is_eql ?_); first | refine WL.y H ((Y.eql rfl rfl).boolT (by first | omega | (simp only [List.length_cons, List.length_nil]; done) | (simp only [List.length_cons, List.length_nil]; omega))) (by decide) ?_ | refine WL.y H ((Y.eql rfl rfl).boolF (by first | omega | (simp only [List.length_cons, List.length_nil]; done) | (simp only [List.length_cons, List.length_nil]; omega))) (by decide) ?_ | (refine WL.cmp H (Y.eql rfl rfl) (by decide) ?_ ?_ <;> intro hcmp))
        | ((with_reducible refine is_lss ?_); first | refine WL.y H ((Y.lss rfl rfl).boolT (by first | omega | (simp only [List.length_cons, List.length_nil]; done) | (simp only [List.length_cons, List.length_nil]; omega))) (by decide) ?_ | refine WL.y H ((Y.lss rfl rfl).boolF (by first | omega | (simp only [List.length_cons, List.length_nil]; done) | (simp only [List.length_cons, List.length_nil]; omega))) (by decide) ?_ | (refine WL.cmp H (Y.lss rfl rfl) (by decide) ?_ ?_ <;> intro hcmp))
        | ((with_reducible refine is_box ?_); first | (refine WL.boxN H rfl (by decide) ?_; intro _ w H _ _ _) | (refine WL.box1 H rfl rfl (by decide) ?_; intro _ w H _ _ _))
        | ((with_reducible refine is_alloc ?_); refine WL.alloc H (by decide) ?_; intro _ w H _ _ _)
        | ((with_reducible refine is_store ?_); first | (refine WL.store1 H rfl rfl rfl (by repeat' (first | exact Upd.here .. | apply Upd.there)) rfl ?_; intro w H _) | (refine WL.storeN H rfl rfl rfl rfl (by repeat' (first | exact Upd.here .. | apply Upd.there)) rfl ?_; intro w H _))
        | ((with_reducible refine is_bslice ?_); refine WL.bslice H rfl rfl rfl (by decide) ?_; intro _ w H _ _ _)
        | ((with_reducible refine is_grd ?_); first | refine WL.grd (Wd.some rfl rfl rfl) rfl ?_ | refine WL.pass (Wd.some rfl rfl rfl) rfl rfl (by decide) ?_ | refine WL.pass0 (Wd.some rfl rfl rfl) rfl rfl ?_))
      refine AtQ.r1 (resVal.t rfl) ⟨b', c', pad', ?_, .of_append (H.blk (by repeat' (first | exact List.mem_cons_self .. | apply List.mem_cons_of_mem))) hlen, H.chg, ?_⟩
      · simp
      · rcases hbn with h | h
        · exact .inl h
        · exact .inr (by omega)
  | pair x y ihx ihy =>
    intro t l b c pad w0 he ht ho hb hsz
    obtain ⟨tb, tto, tc, p, q, rfl, hp, hq, _, _⟩ := enc_pair he ht
    have hlt := ht.lt
    have hkp : ∀ z ∈ ft p, z ∈ ft (⟨4, 0, ⟨#[]⟩, some ⟨tb, tto, none⟩, tc, [p, q]⟩ : LT) := tA_kid (t := ⟨4, 0, ⟨#[]⟩, some ⟨tb, tto, none⟩, tc, [p, q]⟩) (by simp)
    have hkq : ∀ z ∈ ft q, z ∈ ft (⟨4, 0, ⟨#[]⟩, some ⟨tb, tto, none⟩, tc, [p, q]⟩ : LT) := tA_kid (t := ⟨4, 0, ⟨#[]⟩, some ⟨tb, tto, none⟩, tc, [p, q]⟩) (by simp)
    have hs1 : (Tm.pair x y).size = 1 + x.size + y.size := rfl
    have hvx := vars_len x
    have hax := addVars_len (vars x) l
    refine Fn.body (N := 34) Try.func68 rfl rfl rfl rfl rfl ?_
    have H : SH w0 (fun k => k = b) w0 [(b, .cells (ic l ++ pad).toArray 3 (0, 0))] [tA ⟨4, 0, ⟨#[]⟩, some ⟨tb, tto, none⟩, tc, [p, q]⟩] := SH.start1 _ _ _ ho.1 rfl (by simpa [tA] using ht) (by simpa [tA] using hb)
    repeat' (first
      | (with_reducible refine WC.seq ?_)
      | (with_reducible refine WC.reg ?_)
      | (with_reducible refine WC.block ?_)
      | (with_reducible refine WC.skip ?_)
      | (with_reducible refine WC.ret ?_)
      | (with_reducible refine WC.exit ?_)
      | ((with_reducible refine is_cond ?_); first | refine WC.ctrue rfl ?_ | refine WC.cfalse rfl ?_ | (refine WC.cbool rfl ?_ ?_ <;> intro hcnd))
      | (with_reducible refine WL.nilK ?_)
      | (with_reducible refine WL.nil ?_)
      | (with_reducible refine AtQ.then_norm ?_)
      | (with_reducible refine AtQ.then_ret ?_)
      | (with_reducible refine AtQ.then_exit ?_)
      | (with_reducible refine AtQ.block_ret ?_)
      | (with_reducible refine AtQ.block_norm ?_)
      | (with_reducible refine AtQ.block_here ?_)
      | (with_reducible refine AtQ.loop_ret ?_)
      | (with_reducible refine AtQ.loop_exit ?_)
      | (with_reducible refine AtQ.out_ret ?_)
      | (with_reducible refine AtQ.out_exit ?_)
      | ((with_reducible refine AtQ.block_other ?_ ?_); · exact rfl)
      | ((with_reducible refine is_move ?_); first | refine WL.y H (Y.move rfl) (by decide) ?_)
      | ((with_reducible refine is_assign ?_); first | refine WL.y H (Y.assign rfl) (by decide) ?_)
      | ((with_reducible refine is_fld ?_); first | refine WL.y H (Y.fld rfl) (by decide) ?_)
      | ((with_reducible refine is_load ?_); first | refine WL.y H (Y.loadX rfl (by repeat' (first | exact List.mem_cons_self .. | apply List.mem_cons_of_mem)) rfl) (by decide) ?_ | refine WL.y H (Y.loadXN rfl (by repeat' (first | exact List.mem_cons_self .. | apply List.mem_cons_of_mem)) rfl rfl) (by decide) ?_)
      | ((with_reducible refine is_idx ?_); first | refine WL.y H (Y.idx rfl rfl (by first | omega | (simp only [List.length_cons, List.length_nil]; done) | (simp only [List.length_cons, List.length_nil]; omega)) (by first | omega | (simp only [List.length_cons, List.length_nil]; done) | (simp only [List.length_cons, List.length_nil]; omega))) (by decide) ?_)
      | ((with_reducible refine is_len ?_); first | refine WL.y H (Y.lenS rfl) (by decide) ?_)
      | ((with_reducible refine is_add ?_); first | refine WL.y H (Y.add rfl rfl (by first | omega | (simp only [List.length_cons, List.length_nil]; done) | (simp only [List.length_cons, List.length_nil]; omega)) (by first | omega | (simp only [List.length_cons, List.length_nil]; done) | (simp only [List.length_cons, List.length_nil]; omega))) (by decide) ?_)
      | ((with_reducible refine is_not ?_); first | refine WL.y H (Y.not rfl) (by decide) ?_)
      | ((with_reducible refine is_pick ?_); first | refine WL.y H (Y.pickT rfl rfl) (by decide) ?_ | refine WL.y H (Y.pickF rfl rfl) (by decide) ?_)
      | ((with_reducible refine is_eql ?_); first | refine WL.y H ((Y.eql rfl rfl).boolT (by first | omega | (simp only [List.length_cons, List.length_nil]; done) | (simp only [List.length_cons, List.length_nil]; omega))) (by decide) ?_ | refine WL.y H ((Y.eql rfl rfl).boolF (by first | omega | (simp only [List.length_cons, List.length_nil]; done) | (simp only [List.length_cons, List.length_nil]; omega))) (by decide) ?_ | (refine WL.cmp H (Y.eql rfl rfl) (by decide) ?_ ?_ <;> intro hcmp))
      | ((with_reducible refine is_lss ?_); first | refine WL.y H ((Y.lss rfl rfl).boolT (by first | omega | (simp only [List.length_cons, List.length_nil]; done) | (simp only [List.length_cons, List.length_nil]; omega))) (by decide) ?_ | refine WL.y H ((Y.lss rfl rfl).boolF (by first | omega | (simp only [List.length_cons, List.length_nil]; done) | (simp only [List.length_cons, List.length_nil]; omega))) (by decide) ?_ | (refine WL.cmp H (Y.lss rfl rfl) (by decide) ?_ ?_ <;> intro hcmp))
      | ((with_reducible refine is_box ?_); first | (refine WL.boxN H rfl (by decide) ?_; intro _ w H _ _ _) | (refine WL.box1 H rfl rfl (by decide) ?_; intro _ w H _ _ _))
      | ((with_reducible refine is_alloc ?_); refine WL.alloc H (by decide) ?_; intro _ w H _ _ _)
      | ((with_reducible refine is_store ?_); first | (refine WL.store1 H rfl rfl rfl (by repeat' (first | exact Upd.here .. | apply Upd.there)) rfl ?_; intro w H _) | (refine WL.storeN H rfl rfl rfl rfl (by repeat' (first | exact Upd.here .. | apply Upd.there)) rfl ?_; intro w H _))
      | ((with_reducible refine is_bslice ?_); refine WL.bslice H rfl rfl rfl (by decide) ?_; intro _ w H _ _ _)
      | ((with_reducible refine is_grd ?_); first | refine WL.grd (Wd.some rfl rfl rfl) rfl ?_ | refine WL.pass (Wd.some rfl rfl rfl) rfl rfl (by decide) ?_ | refine WL.pass0 (Wd.some rfl rfl rfl) rfl rfl ?_))
    have e2 : addVars (addVars l (vars x)) (vars y) = addVars l (vars (.pair x y)) := by simp [addVars, vars, List.foldl_append]
    rw [← e2]
    refine WC.loop (σ := Nat × Nat × Nat × List Value) (fun s => [(1, .slice (some ⟨s.2.1, 0, none⟩) (match s.1 with | 0 => l | 1 => addVars l (vars x) | _ => addVars (addVars l (vars x)) (vars y)).length s.2.2.1), (23, .slice (some ⟨tb, tto, none⟩) 2 tc), (24, .int .i64 2), (25, .int .i64 (s.1 : Nat))])
      (fun s w' => s.1 ≤ 2 ∧ IOwn w' s.2.1 s.2.2.1 (match s.1 with | 0 => l | 1 => addVars l (vars x) | _ => addVars (addVars l (vars x)) (vars y)) s.2.2.2 ∧ (s.2.1 = b ∨ w0.heap.size ≤ s.2.1) ∧ SH w0 (fun k => k = b) w' [(s.2.1, .cells (ic (match s.1 with | 0 => l | 1 => addVars l (vars x) | _ => addVars (addVars l (vars x)) (vars y)) ++ s.2.2.2).toArray 3 (0, 0))] [tA ⟨4, 0, ⟨#[]⟩, some ⟨tb, tto, none⟩, tc, [p, q]⟩])
      (fun s => 2 - s.1) (0, b, c, pad) (by repeat' (first | exact Sub.nil | refine Sub.cons rfl ?_)) ⟨Nat.zero_le _, ⟨H.blk (by repeat' (first | exact List.mem_cons_self .. | apply List.mem_cons_of_mem)), ho.2⟩, .inl rfl, H.dropX (.cons _ (.refl _))⟩ (fun s w hinv => ?_)
    obtain ⟨k, b1, c1, pad1⟩ := s
    obtain ⟨hk, ho1, hb1, H⟩ := hinv
    simp only at hk ho1 hb1 H
    match k, hk with
    | 0, _ =>
      repeat' (first
        | (with_reducible refine WC.seq ?_)
        | (with_reducible refine WC.reg ?_)
        | (with_reducible refine WC.block ?_)
        | (with_reducible refine WC.skip ?_)
        | (with_reducible refine WC.ret ?_)
        | (with_reducible refine WC.exit ?_)
        | ((with_reducible refine is_cond ?_); first | refine WC.ctrue rfl ?_ | refine WC.cfalse rfl ?_ | (refine WC.cbool rfl ?_ ?_ <;> intro hcnd))
        | (with_reducible refine WL.nilK ?_)
        | (with_reducible refine WL.nil ?_)
        | (with_reducible refine AtQ.then_norm ?_)
        | (with_reducible refine AtQ.then_ret ?_)
        | (with_reducible refine AtQ.then_exit ?_)
        | (with_reducible refine AtQ.block_ret ?_)
        | (with_reducible refine AtQ.block_norm ?_)
        | (with_reducible refine AtQ.block_here ?_)
        | (with_reducible refine AtQ.loop_ret ?_)
        | (with_reducible refine AtQ.loop_exit ?_)
        | (with_reducible refine AtQ.out_ret ?_)
        | (with_reducible refine AtQ.out_exit ?_)
        | ((with_reducible refine AtQ.block_other ?_ ?_); · exact rfl)
        | ((with_reducible refine is_call ?_); have hs0 := H.chg.size; refine WL.call (vs := [tv p, .slice (some ⟨b1, 0, none⟩) l.length c1]) rfl (ihx p l b1 c1 pad1 _ hp ((H.ht ⟨4, 0, ⟨#[]⟩, some ⟨tb, tto, none⟩, tc, [p, q]⟩ (by repeat' (first | exact List.mem_cons_self .. | apply List.mem_cons_of_mem))).kid p (by simp)) ⟨H.blk (by repeat' (first | exact List.mem_cons_self .. | apply List.mem_cons_of_mem)), ho1.2⟩ (fun h => by rcases hb1 with e | e; exact hb (e ▸ hkp _ h); have := hlt _ (hkp _ h); omega) (by omega)) (by decide) ?_; intro v w2 hv2; obtain ⟨b2, c2, pad2, e1, ho2, hc1, hb2⟩ := hv2; subst e1; have hs1 := hc1.size; have H := H.row (by repeat' (first | exact Rem.here .. | apply Rem.there)) hc1 ho2.1 hb2)
        | ((with_reducible refine is_move ?_); first | refine WL.y H (Y.move rfl) (by decide) ?_)
        | ((with_reducible refine is_assign ?_); first | refine WL.y H (Y.assign rfl) (by decide) ?_)
        | ((with_reducible refine is_fld ?_); first | refine WL.y H (Y.fld rfl) (by decide) ?_)
        | ((with_reducible refine is_load ?_); first | refine WL.y H (Y.loadX rfl (by repeat' (first | exact List.mem_cons_self .. | apply List.mem_cons_of_mem)) rfl) (by decide) ?_ | refine WL.y H (Y.loadXN rfl (by repeat' (first | exact List.mem_cons_self .. | apply List.mem_cons_of_mem)) rfl rfl) (by decide) ?_ | refine WL.y H (Y.loadSN (vs := tcs p) rfl (by repeat' (first | exact List.mem_cons_self .. | apply List.mem_cons_of_mem)) (tA_readsK (i := 0) p rfl rfl) rfl) (by decide) ?_)
        | ((with_reducible refine is_idx ?_); first | refine WL.y H (Y.idx rfl rfl (by first | omega | (simp only [List.length_cons, List.length_nil]; done) | (simp only [List.length_cons, List.length_nil]; omega)) (by first | omega | (simp only [List.length_cons, List.length_nil]; done) | (simp only [List.length_cons, List.length_nil]; omega))) (by decide) ?_)
        | ((with_reducible refine is_len ?_); first | refine WL.y H (Y.lenS rfl) (by decide) ?_)
        | ((with_reducible refine is_add ?_); first | refine WL.y H (Y.add rfl rfl (by first | omega | (simp only [List.length_cons, List.length_nil]; done) | (simp only [List.length_cons, List.length_nil]; omega)) (by first | omega | (simp only [List.length_cons, List.length_nil]; done) | (simp only [List.length_cons, List.length_nil]; omega))) (by decide) ?_)
        | ((with_reducible refine is_not ?_); first | refine WL.y H (Y.not rfl) (by decide) ?_)
        | ((with_reducible refine is_pick ?_); first | refine WL.y H (Y.pickT rfl rfl) (by decide) ?_ | refine WL.y H (Y.pickF rfl rfl) (by decide) ?_)
        | ((with_reducible refine is_eql ?_); first | refine WL.y H ((Y.eql rfl rfl).boolT (by first | omega | (simp only [List.length_cons, List.length_nil]; done) | (simp only [List.length_cons, List.length_nil]; omega))) (by decide) ?_ | refine WL.y H ((Y.eql rfl rfl).boolF (by first | omega | (simp only [List.length_cons, List.length_nil]; done) | (simp only [List.length_cons, List.length_nil]; omega))) (by decide) ?_ | (refine WL.cmp H (Y.eql rfl rfl) (by decide) ?_ ?_ <;> intro hcmp))
        | ((with_reducible refine is_lss ?_); first | refine WL.y H ((Y.lss rfl rfl).boolT (by first | omega | (simp only [List.length_cons, List.length_nil]; done) | (simp only [List.length_cons, List.length_nil]; omega))) (by decide) ?_ | refine WL.y H ((Y.lss rfl rfl).boolF (by first | omega | (simp only [List.length_cons, List.length_nil]; done) | (simp only [List.length_cons, List.length_nil]; omega))) (by decide) ?_ | (refine WL.cmp H (Y.lss rfl rfl) (by decide) ?_ ?_ <;> intro hcmp))
        | ((with_reducible refine is_box ?_); first | (refine WL.boxN H rfl (by decide) ?_; intro _ w H _ _ _) | (refine WL.box1 H rfl rfl (by decide) ?_; intro _ w H _ _ _))
        | ((with_reducible refine is_alloc ?_); refine WL.alloc H (by decide) ?_; intro _ w H _ _ _)
        | ((with_reducible refine is_store ?_); first | (refine WL.store1 H rfl rfl rfl (by repeat' (first | exact Upd.here .. | apply Upd.there)) rfl ?_; intro w H _) | (refine WL.storeN H rfl rfl rfl rfl (by repeat' (first | exact Upd.here .. | apply Upd.there)) rfl ?_; intro w H _))
        | ((with_reducible refine is_bslice ?_); refine WL.bslice H rfl rfl rfl (by decide) ?_; intro _ w H _ _ _)
        | ((with_reducible refine is_grd ?_); first | refine WL.grd (Wd.some rfl rfl rfl) rfl ?_ | refine WL.pass (Wd.some rfl rfl rfl) rfl rfl (by decide) ?_ | refine WL.pass0 (Wd.some rfl rfl rfl) rfl rfl ?_))
      exact AtQ.loop_norm (1, b2, c2, pad2) (by repeat' (first | exact Sub.nil | refine Sub.cons rfl ?_)) ⟨(by simp), ho2, (by rcases hb2 with e | e; exact e ▸ hb1; exact .inr (by simp only; omega)), H.dropX (.cons_cons _ (List.nil_sublist _))⟩ (by simp)
    | 1, _ =>
      repeat' (first
        | (with_reducible refine WC.seq ?_)
        | (with_reducible refine WC.reg ?_)
        | (with_reducible refine WC.block ?_)
        | (with_reducible refine WC.skip ?_)
        | (with_reducible refine WC.ret ?_)
        | (with_reducible refine WC.exit ?_)
        | ((with_reducible refine is_cond ?_); first | refine WC.ctrue rfl ?_ | refine WC.cfalse rfl ?_ | (refine WC.cbool rfl ?_ ?_ <;> intro hcnd))
        | (with_reducible refine WL.nilK ?_)
        | (with_reducible refine WL.nil ?_)
        | (with_reducible refine AtQ.then_norm ?_)
        | (with_reducible refine AtQ.then_ret ?_)
        | (with_reducible refine AtQ.then_exit ?_)
        | (with_reducible refine AtQ.block_ret ?_)
        | (with_reducible refine AtQ.block_norm ?_)
        | (with_reducible refine AtQ.block_here ?_)
        | (with_reducible refine AtQ.loop_ret ?_)
        | (with_reducible refine AtQ.loop_exit ?_)
        | (with_reducible refine AtQ.out_ret ?_)
        | (with_reducible refine AtQ.out_exit ?_)
        | ((with_reducible refine AtQ.block_other ?_ ?_); · exact rfl)
        | ((with_reducible refine is_call ?_); have hs0 := H.chg.size; refine WL.call (vs := [tv q, .slice (some ⟨b1, 0, none⟩) (addVars l (vars x)).length c1]) rfl (ihy q (addVars l (vars x)) b1 c1 pad1 _ hq ((H.ht ⟨4, 0, ⟨#[]⟩, some ⟨tb, tto, none⟩, tc, [p, q]⟩ (by repeat' (first | exact List.mem_cons_self .. | apply List.mem_cons_of_mem))).kid q (by simp)) ⟨H.blk (by repeat' (first | exact List.mem_cons_self .. | apply List.mem_cons_of_mem)), ho1.2⟩ (fun h => by rcases hb1 with e | e; exact hb (e ▸ hkq _ h); have := hlt _ (hkq _ h); omega) (by omega)) (by decide) ?_; intro v w2 hv2; obtain ⟨b2, c2, pad2, e1, ho2, hc1, hb2⟩ := hv2; subst e1; have hs1 := hc1.size; have H := H.row (by repeat' (first | exact Rem.here .. | apply Rem.there)) hc1 ho2.1 hb2)
        | ((with_reducible refine is_move ?_); first | refine WL.y H (Y.move rfl) (by decide) ?_)
        | ((with_reducible refine is_assign ?_); first | refine WL.y H (Y.assign rfl) (by decide) ?_)
        | ((with_reducible refine is_fld ?_); first | refine WL.y H (Y.fld rfl) (by decide) ?_)
        | ((with_reducible refine is_load ?_); first | refine WL.y H (Y.loadX rfl (by repeat' (first | exact List.mem_cons_self .. | apply List.mem_cons_of_mem)) rfl) (by decide) ?_ | refine WL.y H (Y.loadXN rfl (by repeat' (first | exact List.mem_cons_self .. | apply List.mem_cons_of_mem)) rfl rfl) (by decide) ?_ | refine WL.y H (Y.loadSN (vs := tcs q) rfl (by repeat' (first | exact List.mem_cons_self .. | apply List.mem_cons_of_mem)) (tA_readsK (i := 1) q rfl rfl) rfl) (by decide) ?_)
        | ((with_reducible refine is_idx ?_); first | refine WL.y H (Y.idx rfl rfl (by first | omega | (simp only [List.length_cons, List.length_nil]; done) | (simp only [List.length_cons, List.length_nil]; omega)) (by first | omega | (simp only [List.length_cons, List.length_nil]; done) | (simp only [List.length_cons, List.length_nil]; omega))) (by decide) ?_)
        | ((with_reducible refine is_len ?_); first | refine WL.y H (Y.lenS rfl) (by decide) ?_)
        | ((with_reducible refine is_add ?_); first | refine WL.y H (Y.add rfl rfl (by first | omega | (simp only [List.length_cons, List.length_nil]; done) | (simp only [List.length_cons, List.length_nil]; omega)) (by first | omega | (simp only [List.length_cons, List.length_nil]; done) | (simp only [List.length_cons, List.length_nil]; omega))) (by decide) ?_)
        | ((with_reducible refine is_not ?_); first | refine WL.y H (Y.not rfl) (by decide) ?_)
        | ((with_reducible refine is_pick ?_); first | refine WL.y H (Y.pickT rfl rfl) (by decide) ?_ | refine WL.y H (Y.pickF rfl rfl) (by decide) ?_)
        | ((with_reducible refine is_eql ?_); first | refine WL.y H ((Y.eql rfl rfl).boolT (by first | omega | (simp only [List.length_cons, List.length_nil]; done) | (simp only [List.length_cons, List.length_nil]; omega))) (by decide) ?_ | refine WL.y H ((Y.eql rfl rfl).boolF (by first | omega | (simp only [List.length_cons, List.length_nil]; done) | (simp only [List.length_cons, List.length_nil]; omega))) (by decide) ?_ | (refine WL.cmp H (Y.eql rfl rfl) (by decide) ?_ ?_ <;> intro hcmp))
        | ((with_reducible refine is_lss ?_); first | refine WL.y H ((Y.lss rfl rfl).boolT (by first | omega | (simp only [List.length_cons, List.length_nil]; done) | (simp only [List.length_cons, List.length_nil]; omega))) (by decide) ?_ | refine WL.y H ((Y.lss rfl rfl).boolF (by first | omega | (simp only [List.length_cons, List.length_nil]; done) | (simp only [List.length_cons, List.length_nil]; omega))) (by decide) ?_ | (refine WL.cmp H (Y.lss rfl rfl) (by decide) ?_ ?_ <;> intro hcmp))
        | ((with_reducible refine is_box ?_); first | (refine WL.boxN H rfl (by decide) ?_; intro _ w H _ _ _) | (refine WL.box1 H rfl rfl (by decide) ?_; intro _ w H _ _ _))
        | ((with_reducible refine is_alloc ?_); refine WL.alloc H (by decide) ?_; intro _ w H _ _ _)
        | ((with_reducible refine is_store ?_); first | (refine WL.store1 H rfl rfl rfl (by repeat' (first | exact Upd.here .. | apply Upd.there)) rfl ?_; intro w H _) | (refine WL.storeN H rfl rfl rfl rfl (by repeat' (first | exact Upd.here .. | apply Upd.there)) rfl ?_; intro w H _))
        | ((with_reducible refine is_bslice ?_); refine WL.bslice H rfl rfl rfl (by decide) ?_; intro _ w H _ _ _)
        | ((with_reducible refine is_grd ?_); first | refine WL.grd (Wd.some rfl rfl rfl) rfl ?_ | refine WL.pass (Wd.some rfl rfl rfl) rfl rfl (by decide) ?_ | refine WL.pass0 (Wd.some rfl rfl rfl) rfl rfl ?_))
      exact AtQ.loop_norm (2, b2, c2, pad2) (by repeat' (first | exact Sub.nil | refine Sub.cons rfl ?_)) ⟨(by simp), ho2, (by rcases hb2 with e | e; exact e ▸ hb1; exact .inr (by simp only; omega)), H.dropX (.cons_cons _ (List.nil_sublist _))⟩ (by simp)
    | 2, _ =>
      repeat' (first
        | (with_reducible refine WC.seq ?_)
        | (with_reducible refine WC.reg ?_)
        | (with_reducible refine WC.block ?_)
        | (with_reducible refine WC.skip ?_)
        | (with_reducible refine WC.ret ?_)
        | (with_reducible refine WC.exit ?_)
        | ((with_reducible refine is_cond ?_); first | refine WC.ctrue rfl ?_ | refine WC.cfalse rfl ?_ | (refine WC.cbool rfl ?_ ?_ <;> intro hcnd))
        | (with_reducible refine WL.nilK ?_)
        | (with_reducible refine WL.nil ?_)
        | (with_reducible refine AtQ.then_norm ?_)
        | (with_reducible refine AtQ.then_ret ?_)
        | (with_reducible refine AtQ.then_exit ?_)
        | (with_reducible refine AtQ.block_ret ?_)
        | (with_reducible refine AtQ.block_norm ?_)
        | (with_reducible refine AtQ.block_here ?_)
        | (with_reducible refine AtQ.loop_ret ?_)
        | (with_reducible refine AtQ.loop_exit ?_)
        | (with_reducible refine AtQ.out_ret ?_)
        | (with_reducible refine AtQ.out_exit ?_)
        | ((with_reducible refine AtQ.block_other ?_ ?_); · exact rfl)
        | ((with_reducible refine is_move ?_); first | refine WL.y H (Y.move rfl) (by decide) ?_)
        | ((with_reducible refine is_assign ?_); first | refine WL.y H (Y.assign rfl) (by decide) ?_)
        | ((with_reducible refine is_fld ?_); first | refine WL.y H (Y.fld rfl) (by decide) ?_)
        | ((with_reducible refine is_load ?_); first | refine WL.y H (Y.loadX rfl (by repeat' (first | exact List.mem_cons_self .. | apply List.mem_cons_of_mem)) rfl) (by decide) ?_ | refine WL.y H (Y.loadXN rfl (by repeat' (first | exact List.mem_cons_self .. | apply List.mem_cons_of_mem)) rfl rfl) (by decide) ?_)
        | ((with_reducible refine is_idx ?_); first | refine WL.y H (Y.idx rfl rfl (by first | omega | (simp only [List.length_cons, List.length_nil]; done) | (simp only [List.length_cons, List.length_nil]; omega)) (by first | omega | (simp only [List.length_cons, List.length_nil]; done) | (simp only [List.length_cons, List.length_nil]; omega))) (by decide) ?_)
        | ((with_reducible refine is_len ?_); first | refine WL.y H (Y.lenS rfl) (by decide) ?_)
        | ((with_reducible refine is_add ?_); first | refine WL.y H (Y.add rfl rfl (by first | omega | (simp only [List.length_cons, List.length_nil]; done) | (simp only [List.length_cons, List.length_nil]; omega)) (by first | omega | (simp only [List.length_cons, List.length_nil]; done) | (simp only [List.length_cons, List.length_nil]; omega))) (by decide) ?_)
        | ((with_reducible refine is_not ?_); first | refine WL.y H (Y.not rfl) (by decide) ?_)
        | ((with_reducible refine is_pick ?_); first | refine WL.y H (Y.pickT rfl rfl) (by decide) ?_ | refine WL.y H (Y.pickF rfl rfl) (by decide) ?_)
        | ((with_reducible refine is_eql ?_); first | refine WL.y H ((Y.eql rfl rfl).boolT (by first | omega | (simp only [List.length_cons, List.length_nil]; done) | (simp only [List.length_cons, List.length_nil]; omega))) (by decide) ?_ | refine WL.y H ((Y.eql rfl rfl).boolF (by first | omega | (simp only [List.length_cons, List.length_nil]; done) | (simp only [List.length_cons, List.length_nil]; omega))) (by decide) ?_ | (refine WL.cmp H (Y.eql rfl rfl) (by decide) ?_ ?_ <;> intro hcmp))
        | ((with_reducible refine is_lss ?_); first | refine WL.y H ((Y.lss rfl rfl).boolT (by first | omega | (simp only [List.length_cons, List.length_nil]; done) | (simp only [List.length_cons, List.length_nil]; omega))) (by decide) ?_ | refine WL.y H ((Y.lss rfl rfl).boolF (by first | omega | (simp only [List.length_cons, List.length_nil]; done) | (simp only [List.length_cons, List.length_nil]; omega))) (by decide) ?_ | (refine WL.cmp H (Y.lss rfl rfl) (by decide) ?_ ?_ <;> intro hcmp))
        | ((with_reducible refine is_box ?_); first | (refine WL.boxN H rfl (by decide) ?_; intro _ w H _ _ _) | (refine WL.box1 H rfl rfl (by decide) ?_; intro _ w H _ _ _))
        | ((with_reducible refine is_alloc ?_); refine WL.alloc H (by decide) ?_; intro _ w H _ _ _)
        | ((with_reducible refine is_store ?_); first | (refine WL.store1 H rfl rfl rfl (by repeat' (first | exact Upd.here .. | apply Upd.there)) rfl ?_; intro w H _) | (refine WL.storeN H rfl rfl rfl rfl (by repeat' (first | exact Upd.here .. | apply Upd.there)) rfl ?_; intro w H _))
        | ((with_reducible refine is_bslice ?_); refine WL.bslice H rfl rfl rfl (by decide) ?_; intro _ w H _ _ _)
        | ((with_reducible refine is_grd ?_); first | refine WL.grd (Wd.some rfl rfl rfl) rfl ?_ | refine WL.pass (Wd.some rfl rfl rfl) rfl rfl (by decide) ?_ | refine WL.pass0 (Wd.some rfl rfl rfl) rfl rfl ?_))
      exact AtQ.r1 (resVal.t rfl) ⟨b1, c1, pad1, rfl, ⟨H.blk (by repeat' (first | exact List.mem_cons_self .. | apply List.mem_cons_of_mem)), ho1.2⟩, H.chg, hb1⟩
  | _ =>
    intro t l b c pad w0 he ht ho hb hsz
    obtain ⟨hl, hk, _, _⟩ := enc_leaf he (fun _ _ h => by cases h)
    have hk1 : t.k ≠ 1 := by rw [er_eq] at he; simp only [Tm.enc, S47.mk.injEq] at he; omega
    refine Fn.body (N := 34) Try.func68 rfl rfl rfl rfl rfl ?_
    have H : SH w0 (fun k => k = b) w0 [(b, .cells (ic l ++ pad).toArray 3 (0, 0))] [tA t] := SH.start1 _ _ _ ho.1 rfl (by simpa [tA] using ht) (by simpa [tA] using hb)
    repeat' (first
      | (with_reducible refine WC.seq ?_)
      | (with_reducible refine WC.reg ?_)
      | (with_reducible refine WC.block ?_)
      | (with_reducible refine WC.skip ?_)
      | (with_reducible refine WC.ret ?_)
      | (with_reducible refine WC.exit ?_)
      | ((with_reducible refine is_cond ?_); first | refine WC.ctrue rfl ?_ | refine WC.cfalse rfl ?_ | (refine WC.cbool rfl ?_ ?_ <;> intro hcnd))
      | (with_reducible refine WL.nilK ?_)
      | (with_reducible refine WL.nil ?_)
      | (with_reducible refine AtQ.then_norm ?_)
      | (with_reducible refine AtQ.then_ret ?_)
      | (with_reducible refine AtQ.then_exit ?_)
      | (with_reducible refine AtQ.block_ret ?_)
      | (with_reducible refine AtQ.block_norm ?_)
      | (with_reducible refine AtQ.block_here ?_)
      | (with_reducible refine AtQ.loop_ret ?_)
      | (with_reducible refine AtQ.loop_exit ?_)
      | (with_reducible refine AtQ.out_ret ?_)
      | (with_reducible refine AtQ.out_exit ?_)
      | ((with_reducible refine AtQ.block_other ?_ ?_); · exact rfl)
      | ((with_reducible refine is_move ?_); first | refine WL.y H (Y.move rfl) (by decide) ?_)
      | ((with_reducible refine is_assign ?_); first | refine WL.y H (Y.assign rfl) (by decide) ?_)
      | ((with_reducible refine is_fld ?_); first | refine WL.y H (Y.fld rfl) (by decide) ?_)
      | ((with_reducible refine is_load ?_); first | refine WL.y H (Y.loadX rfl (by repeat' (first | exact List.mem_cons_self .. | apply List.mem_cons_of_mem)) rfl) (by decide) ?_ | refine WL.y H (Y.loadXN rfl (by repeat' (first | exact List.mem_cons_self .. | apply List.mem_cons_of_mem)) rfl rfl) (by decide) ?_)
      | ((with_reducible refine is_idx ?_); first | refine WL.y H (Y.idx rfl rfl (by first | omega | (simp only [List.length_cons, List.length_nil]; done) | (simp only [List.length_cons, List.length_nil]; omega)) (by first | omega | (simp only [List.length_cons, List.length_nil]; done) | (simp only [List.length_cons, List.length_nil]; omega))) (by decide) ?_)
      | ((with_reducible refine is_len ?_); first | refine WL.y H (Y.lenS rfl) (by decide) ?_)
      | ((with_reducible refine is_add ?_); first | refine WL.y H (Y.add rfl rfl (by first | omega | (simp only [List.length_cons, List.length_nil]; done) | (simp only [List.length_cons, List.length_nil]; omega)) (by first | omega | (simp only [List.length_cons, List.length_nil]; done) | (simp only [List.length_cons, List.length_nil]; omega))) (by decide) ?_)
      | ((with_reducible refine is_not ?_); first | refine WL.y H (Y.not rfl) (by decide) ?_)
      | ((with_reducible refine is_pick ?_); first | refine WL.y H (Y.pickT rfl rfl) (by decide) ?_ | refine WL.y H (Y.pickF rfl rfl) (by decide) ?_)
      | ((with_reducible refine is_eql ?_); first | refine WL.y H ((Y.eql rfl rfl).boolT (by first | omega | (simp only [List.length_cons, List.length_nil]; done) | (simp only [List.length_cons, List.length_nil]; omega))) (by decide) ?_ | refine WL.y H ((Y.eql rfl rfl).boolF (by first | omega | (simp only [List.length_cons, List.length_nil]; done) | (simp only [List.length_cons, List.length_nil]; omega))) (by decide) ?_ | (refine WL.cmp H (Y.eql rfl rfl) (by decide) ?_ ?_ <;> intro hcmp))
      | ((with_reducible refine is_lss ?_); first | refine WL.y H ((Y.lss rfl rfl).boolT (by first | omega | (simp only [List.length_cons, List.length_nil]; done) | (simp only [List.length_cons, List.length_nil]; omega))) (by decide) ?_ | refine WL.y H ((Y.lss rfl rfl).boolF (by first | omega | (simp only [List.length_cons, List.length_nil]; done) | (simp only [List.length_cons, List.length_nil]; omega))) (by decide) ?_ | (refine WL.cmp H (Y.lss rfl rfl) (by decide) ?_ ?_ <;> intro hcmp))
      | ((with_reducible refine is_box ?_); first | (refine WL.boxN H rfl (by decide) ?_; intro _ w H _ _ _) | (refine WL.box1 H rfl rfl (by decide) ?_; intro _ w H _ _ _))
      | ((with_reducible refine is_alloc ?_); refine WL.alloc H (by decide) ?_; intro _ w H _ _ _)
      | ((with_reducible refine is_store ?_); first | (refine WL.store1 H rfl rfl rfl (by repeat' (first | exact Upd.here .. | apply Upd.there)) rfl ?_; intro w H _) | (refine WL.storeN H rfl rfl rfl rfl (by repeat' (first | exact Upd.here .. | apply Upd.there)) rfl ?_; intro w H _))
      | ((with_reducible refine is_bslice ?_); refine WL.bslice H rfl rfl rfl (by decide) ?_; intro _ w H _ _ _)
      | ((with_reducible refine is_grd ?_); first | refine WL.grd (Wd.some rfl rfl rfl) rfl ?_ | refine WL.pass (Wd.some rfl rfl rfl) rfl rfl (by decide) ?_ | refine WL.pass0 (Wd.some rfl rfl rfl) rfl rfl ?_))
    refine WC.loop_out ?_
    have hz : ((t.l.length : Nat) : Int) = 0 := by rw [hl]; rfl
    repeat' (first
      | (with_reducible refine WC.seq ?_)
      | (with_reducible refine WC.reg ?_)
      | (with_reducible refine WC.block ?_)
      | (with_reducible refine WC.skip ?_)
      | (with_reducible refine WC.ret ?_)
      | (with_reducible refine WC.exit ?_)
      | ((with_reducible refine is_cond ?_); first | refine WC.ctrue rfl ?_ | refine WC.cfalse rfl ?_ | (refine WC.cbool rfl ?_ ?_ <;> intro hcnd))
      | (with_reducible refine WL.nilK ?_)
      | (with_reducible refine WL.nil ?_)
      | (with_reducible refine AtQ.then_norm ?_)
      | (with_reducible refine AtQ.then_ret ?_)
      | (with_reducible refine AtQ.then_exit ?_)
      | (with_reducible refine AtQ.block_ret ?_)
      | (with_reducible refine AtQ.block_norm ?_)
      | (with_reducible refine AtQ.block_here ?_)
      | (with_reducible refine AtQ.loop_ret ?_)
      | (with_reducible refine AtQ.loop_exit ?_)
      | (with_reducible refine AtQ.out_ret ?_)
      | (with_reducible refine AtQ.out_exit ?_)
      | ((with_reducible refine AtQ.block_other ?_ ?_); · exact rfl)
      | ((with_reducible refine is_move ?_); first | refine WL.y H (Y.move rfl) (by decide) ?_)
      | ((with_reducible refine is_assign ?_); first | refine WL.y H (Y.assign rfl) (by decide) ?_)
      | ((with_reducible refine is_fld ?_); first | refine WL.y H (Y.fld rfl) (by decide) ?_)
      | ((with_reducible refine is_load ?_); first | refine WL.y H (Y.loadX rfl (by repeat' (first | exact List.mem_cons_self .. | apply List.mem_cons_of_mem)) rfl) (by decide) ?_ | refine WL.y H (Y.loadXN rfl (by repeat' (first | exact List.mem_cons_self .. | apply List.mem_cons_of_mem)) rfl rfl) (by decide) ?_)
      | ((with_reducible refine is_idx ?_); first | refine WL.y H (Y.idx rfl rfl (by first | omega | (simp only [List.length_cons, List.length_nil]; done) | (simp only [List.length_cons, List.length_nil]; omega)) (by first | omega | (simp only [List.length_cons, List.length_nil]; done) | (simp only [List.length_cons, List.length_nil]; omega))) (by decide) ?_)
      | ((with_reducible refine is_len ?_); first | refine WL.y H (Y.lenS rfl) (by decide) ?_)
      | ((with_reducible refine is_add ?_); first | refine WL.y H (Y.add rfl rfl (by first | omega | (simp only [List.length_cons, List.length_nil]; done) | (simp only [List.length_cons, List.length_nil]; omega)) (by first | omega | (simp only [List.length_cons, List.length_nil]; done) | (simp only [List.length_cons, List.length_nil]; omega))) (by decide) ?_)
      | ((with_reducible refine is_not ?_); first | refine WL.y H (Y.not rfl) (by decide) ?_)
      | ((with_reducible refine is_pick ?_); first | refine WL.y H (Y.pickT rfl rfl) (by decide) ?_ | refine WL.y H (Y.pickF rfl rfl) (by decide) ?_)
      | ((with_reducible refine is_eql ?_); first | refine WL.y H ((Y.eql rfl rfl).boolT (by first | omega | (simp only [List.length_cons, List.length_nil]; done) | (simp only [List.length_cons, List.length_nil]; omega))) (by decide) ?_ | refine WL.y H ((Y.eql rfl rfl).boolF (by first | omega | (simp only [List.length_cons, List.length_nil]; done) | (simp only [List.length_cons, List.length_nil]; omega))) (by decide) ?_ | (refine WL.cmp H (Y.eql rfl rfl) (by decide) ?_ ?_ <;> intro hcmp))
      | ((with_reducible refine is_lss ?_); first | refine WL.y H ((Y.lss rfl rfl).boolT (by first | omega | (simp only [List.length_cons, List.length_nil]; done) | (simp only [List.length_cons, List.length_nil]; omega))) (by decide) ?_ | refine WL.y H ((Y.lss rfl rfl).boolF (by first | omega | (simp only [List.length_cons, List.length_nil]; done) | (simp only [List.length_cons, List.length_nil]; omega))) (by decide) ?_ | (refine WL.cmp H (Y.lss rfl rfl) (by decide) ?_ ?_ <;> intro hcmp))
      | ((with_reducible refine is_box ?_); first | (refine WL.boxN H rfl (by decide) ?_; intro _ w H _ _ _) | (refine WL.box1 H rfl rfl (by decide) ?_; intro _ w H _ _ _))
      | ((with_reducible refine is_alloc ?_); refine WL.alloc H (by decide) ?_; intro _ w H _ _ _)
      | ((with_reducible refine is_store ?_); first | (refine WL.store1 H rfl rfl rfl (by repeat' (first | exact Upd.here .. | apply Upd.there)) rfl ?_; intro w H _) | (refine WL.storeN H rfl rfl rfl rfl (by repeat' (first | exact Upd.here .. | apply Upd.there)) rfl ?_; intro w H _))
      | ((with_reducible refine is_bslice ?_); refine WL.bslice H rfl rfl rfl (by decide) ?_; intro _ w H _ _ _)
      | ((with_reducible refine is_grd ?_); first | refine WL.grd (Wd.some rfl rfl rfl) rfl ?_ | refine WL.pass (Wd.some rfl rfl rfl) rfl rfl (by decide) ?_ | refine WL.pass0 (Wd.some rfl rfl rfl) rfl rfl ?_))
    exact AtQ.r1 (resVal.t rfl) ⟨b, c, pad, rfl, ⟨H.blk (by repeat' (first | exact List.mem_cons_self .. | apply List.mem_cons_of_mem)), ho.2⟩, H.chg, .inl rfl⟩
end Go.Proofs.Ytpfooiepmnaoaaa.E
