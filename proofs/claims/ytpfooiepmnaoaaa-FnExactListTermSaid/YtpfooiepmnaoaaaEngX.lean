/- The engine and the printed contracts: what is told of trees here is what they ask. -/
import Derived.Test.YtpfooiepmnaoaaaEngT
import Derived.Test.YtpfooiepmnaoaaaEngTy
import Derived.Test.YtpfooiepmnaoaaaTermOk
import Derived.Test.YtpfooiepmnaoaaaConv
import Derived.Test.YtpfooiepmnaoaaaX63
import Derived.Test.YtpfooiepmnaoaaaX82
namespace Go.Proofs.Ytpfooiepmnaoaaa.E
open Go Go.RowKit Go.Proofs.Ytpfooiepmnaoaaa.X Go.Proofs.YtpfooiepmnaoaaaW.PrintWords Go.Proofs.Ytpfooiepmnaoaaa.Base
set_option linter.unusedVariables false
set_option linter.unusedSimpArgs false
/-- A list of terms, as a node that is looked at for its parts alone. -/
abbrev nod (a : Option Addr) (c : Nat) (l : List LT) : LT := ⟨0, 0, ⟨#[]⟩, a, c, l⟩
theorem tv_er (t : LT) : tv t = .agg #[.int .i64 (er t).f0, .int .i64 (er t).f1, .string (er t).f2, .slice t.a (er t).f3.length t.c] := by
  rw [er_eq]; simp
theorem HT.C {w : World} {t : LT} (h : HT w t) : Sm (er t) → Kd.C k47 w t.a (er t).f3.length (er t).f3 := by
  induction h with
  | mk t hc hr hk ih =>
    intro hs
    have hl := hs.len
    rw [er_eq] at hl ⊢
    simp only [List.length_map] at hl
    refine ⟨rfl, by simp only [List.length_map]; omega, fun h0 => ?_⟩
    have hne : t.l ≠ [] := by intro e; simp [e] at h0
    obtain ⟨b, o, cs, T, fz, ha, hh, hv⟩ := hr hne
    refine ⟨⟨b, o, none⟩, ha, fun j p hj => ?_⟩
    obtain ⟨hj1, hj2⟩ := List.getElem?_eq_some_iff.1 hj
    simp only [List.getElem_map] at hj2
    have hjl : j < t.l.length := by simpa using hj1
    subst hj2
    have hx := List.getElem_mem hjl
    have hsx : Sm (er t.l[j]) := hs.sub _ (by rw [er_eq]; exact List.mem_map_of_mem hx)
    refine ⟨tcs t.l[j], rfl, ?_, fun i u hu => ?_⟩
    · have hg := ih _ hx hsx
      have hm := k47_mk w (er t.l[j]) (A3 := t.l[j].a) (c3 := t.l[j].c) (by have := (hk _ hx).cap; rw [er_eq]; simpa using this) hg
      have e : tcs t.l[j] = [.int .i64 (er t.l[j]).f0, .int .i64 (er t.l[j]).f1, .string (er t.l[j]).f2, .slice t.l[j].a (er t.l[j]).f3.length t.l[j].c] := by rw [er_eq]; simp
      rw [e]
      exact hm
    · rw [adr_add]
      have hi : i < 4 := by have := (List.getElem?_eq_some_iff.1 hu).1; simpa using this
      have h2 := hv (j * 4 + i) u (by rw [tcells_get t.l j i hjl hi]; exact hu)
      show w.cell? ⟨b, o + (j * 4 + i), none⟩ = some u
      simp [World.cell?, hh, h2]
theorem HT.capE {w : World} {t : LT} (h : HT w t) : (er t).f3.length ≤ t.c := by have := h.cap; rw [er_eq]; simpa using this
theorem Chg.ofB {w w' : World} (h : Below w.heap.size w w') : Chg noF w w' := Chg.of_below _ h
theorem impl_TermOk_fn (t : LT) (w : World) (ht : HT w t) (hs : Sm (er t)) : Fn Try.prog 63 [tv t] w fun u w' => u = .bool (decide (TOk (er t))) ∧ Chg noF w w' := by
  obtain ⟨k, hk⟩ := (impl_TermOk_ev hs).rounds
  rw [tv_er]
  exact (Fn.of ⟨_, Try.func63, rfl, rfl⟩ (impl_TermOk.calls k _ _ _ _ _ _ _ w (ht.C hs) ht.capE hk)).mono fun u w' ⟨h1, h2⟩ => ⟨h1, .ofB h2⟩
theorem spec_TermOk_fn (t : LT) (w : World) (ht : HT w t) (hs : Sm (er t)) : Fn Try.prog 82 [tv t] w fun u w' => u = .bool (decide (TOk (er t))) ∧ Chg noF w w' := by
  obtain ⟨k, hk⟩ := (spec_TermOk_ev hs).rounds
  rw [tv_er]
  exact (Fn.of ⟨_, Try.func82, rfl, rfl⟩ (spec_TermOk.calls k _ _ _ _ _ _ _ w (ht.C hs) ht.capE hk)).mono fun u w' ⟨h1, h2⟩ => ⟨h1, .ofB h2⟩
/-- All of a list are valid. -/
def AllTOk (l : List ITm) : Prop := ∀ x ∈ l, TOk x
noncomputable instance (l : List ITm) : Decidable (AllTOk l) := Classical.propDecidable _
/-- Small lists of terms. -/
def SmL (l : List LT) : Prop := l.length ≤ 1048576 ∧ ∀ t ∈ l, Sm (er t)
theorem SmL.node {a : Option Addr} {c : Nat} {l : List LT} (h : SmL l) : Sm (er (nod a c l)) := by
  rw [er_eq]
  exact .mk _ (by show (⟨#[]⟩ : ByteArray).size ≤ _; decide) (by simpa using h.1) (by intro y hy; simp only [List.mem_map] at hy; obtain ⟨t, ht, rfl⟩ := hy; exact h.2 t ht)
set_option maxRecDepth 100000 in
set_option maxHeartbeats 4000000 in
theorem impl_termsOk_fn (a : Option Addr) (c : Nat) (l : List LT) (w : World) (ht : HT w (nod a c l)) (hs : SmL l) : Fn Try.prog 65 [sl a l.length c] w fun u w' => u = .bool (decide (AllTOk (l.map er))) ∧ Chg noF w w' := by
  refine Fn.body (N := 15) Try.func65 rfl rfl rfl rfl rfl ?_
  have hlen := hs.1
  have H : SH w noF w [] [tA (nod a c l)] := SH.start _ _ _ (by simpa [tA] using ht)
  repeat' (first
    | (with_reducible refine WC.seq ?_)
    | (with_reducible refine WC.reg ?_)
    | (with_reducible refine WC.block ?_)
    | (with_reducible refine WC.skip ?_)
    | (with_reducible refine WC.ret ?_)
    | (with_reducible refine WC.exit ?_)
    | ((with_reducible refine is_cond ?_); first | refine WC.ctrue rfl ?_ | refine WC.cfalse rfl ?_ | (refine WC.cbool rfl ?_ ?_ <;> intro hcnd))
    | (with_reducible refine WL.nilK ?_)
    | (with_reducible refine WL.nil ?_)
    | (with_reducible refine AtQ.then_norm ?_)
    | (with_reducible refine AtQ.then_ret ?_)
    | (with_reducible refine AtQ.then_exit ?_)
    | (with_reducible refine AtQ.block_ret ?_)
    | (with_reducible refine AtQ.block_norm ?_)
    | (with_reducible refine AtQ.block_here ?_)
    | (with_reducible refine AtQ.loop_ret ?_)
    | (with_reducible refine AtQ.loop_exit ?_)
    | (with_reducible refine AtQ.out_ret ?_)
    | (with_reducible refine AtQ.out_exit ?_)
    | ((with_reducible refine AtQ.block_other ?_ ?_); · exact rfl)
    | ((with_reducible refine is_move ?_); first | refine WL.y H (Y.move rfl) (by decide) ?_)
    | ((with_reducible refine is_assign ?_); first | refine WL.y H (Y.assign rfl) (by decide) ?_)
    | ((with_reducible refine is_load ?_); first | refine WL.y H (Y.loadX rfl (by repeat' (first | exact List.mem_cons_self .. | apply List.mem_cons_of_mem)) rfl) (by decide) ?_ | refine WL.y H (Y.loadXN rfl (by repeat' (first | exact List.mem_cons_self .. | apply List.mem_cons_of_mem)) rfl rfl) (by decide) ?_)
    | ((with_reducible refine is_idx ?_); first | refine WL.y H (Y.idx rfl rfl (by first | omega | (simp only [List.length_cons, List.length_nil]; done) | (simp only [List.length_cons, List.length_nil]; omega)) (by first | omega | (simp only [List.length_cons, List.length_nil]; done) | (simp only [List.length_cons, List.length_nil]; omega))) (by decide) ?_)
    | ((with_reducible refine is_len ?_); first | refine WL.y H (Y.lenS rfl) (by decide) ?_)
    | ((with_reducible refine is_add ?_); first | refine WL.y H (Y.add rfl rfl (by first | omega | (simp only [List.length_cons, List.length_nil]; done) | (simp only [List.length_cons, List.length_nil]; omega)) (by first | omega | (simp only [List.length_cons, List.length_nil]; done) | (simp only [List.length_cons, List.length_nil]; omega))) (by decide) ?_)
    | ((with_reducible refine is_not ?_); first | refine WL.y H (Y.not rfl) (by decide) ?_)
    | ((with_reducible refine is_lss ?_); first | refine WL.y H ((Y.lss rfl rfl).boolT (by first | omega | (simp only [List.length_cons, List.length_nil]; done) | (simp only [List.length_cons, List.length_nil]; omega))) (by decide) ?_ | refine WL.y H ((Y.lss rfl rfl).boolF (by first | omega | (simp only [List.length_cons, List.length_nil]; done) | (simp only [List.length_cons, List.length_nil]; omega))) (by decide) ?_ | (refine WL.cmp H (Y.lss rfl rfl) (by decide) ?_ ?_ <;> intro hcmp))
    | ((with_reducible refine is_alloc ?_); refine WL.alloc H (by decide) ?_; intro _ w H _ _ _)
    | ((with_reducible refine is_store ?_); first | (refine WL.store1 H rfl rfl rfl (by repeat' (first | exact Upd.here .. | apply Upd.there)) rfl ?_; intro w H _) | (refine WL.storeN H rfl rfl rfl rfl (by repeat' (first | exact Upd.here .. | apply Upd.there)) rfl ?_; intro w H _)))
  refine WC.loop (σ := Nat) (fun k => [(5, sl a l.length c), (6, .int .i64 l.length), (7, .int .i64 (k : Nat))]) (fun k w' => k ≤ l.length ∧ (∀ i (h : i < l.length), i < k → TOk (er l[i])) ∧ SH w noF w' [] [tA (nod a c l)]) (fun k => l.length - k) 0 (by repeat' (first | exact Sub.nil | refine Sub.cons rfl ?_)) ⟨Nat.zero_le _, (fun _ _ h => absurd h (Nat.not_lt_zero _)), H.dropX (List.nil_sublist _)⟩ (fun k w hinv => ?_)
  obtain ⟨hk, hall, H⟩ := hinv
  by_cases hlt : k < l.length
  · obtain ⟨b, o, cs, T, fz, ha, _, _⟩ := (H.ht (nod a c l) (by repeat' (first | exact List.mem_cons_self .. | apply List.mem_cons_of_mem))).row (by intro e; rw [show (nod a c l).l = l from rfl] at e; rw [e] at hlt; simp at hlt)
    simp only at ha
    subst ha
    have hsk : Sm (er l[k]) := hs.2 _ (List.getElem_mem hlt)
    by_cases hv : TOk (er l[k])
    · repeat' (first
        | (with_reducible refine WC.seq ?_)
        | (with_reducible refine WC.reg ?_)
        | (with_reducible refine WC.block ?_)
        | (with_reducible refine WC.skip ?_)
        | (with_reducible refine WC.ret ?_)
        | (with_reducible refine WC.exit ?_)
        | ((with_reducible refine is_cond ?_); first | refine WC.ctrue rfl ?_ | refine WC.cfalse rfl ?_ | (refine WC.cbool rfl ?_ ?_ <;> intro hcnd))
        | (with_reducible refine WL.nilK ?_)
        | (with_reducible refine WL.nil ?_)
        | (with_reducible refine AtQ.then_norm ?_)
        | (with_reducible refine AtQ.then_ret ?_)
        | (with_reducible refine AtQ.then_exit ?_)
        | (with_reducible refine AtQ.block_ret ?_)
        | (with_reducible refine AtQ.block_norm ?_)
        | (with_reducible refine AtQ.block_here ?_)
        | (with_reducible refine AtQ.loop_ret ?_)
        | (with_reducible refine AtQ.loop_exit ?_)
        | (with_reducible refine AtQ.out_ret ?_)
        | (with_reducible refine AtQ.out_exit ?_)
        | ((with_reducible refine AtQ.block_other ?_ ?_); · exact rfl)
        | ((with_reducible refine is_call ?_); refine WL.call (vs := [tv l[k]]) rfl (impl_TermOk_fn l[k] _ ((H.ht (nod _ c l) (by repeat' (first | exact List.mem_cons_self .. | apply List.mem_cons_of_mem))).kid _ (List.getElem_mem hlt)) hsk) (by decide) ?_; intro v w hv2; obtain ⟨e1, hc1⟩ := hv2; rw [decide_eq_true hv] at e1; subst e1; have H := H.call hc1)
        | ((with_reducible refine is_move ?_); first | refine WL.y H (Y.move rfl) (by decide) ?_)
        | ((with_reducible refine is_assign ?_); first | refine WL.y H (Y.assign rfl) (by decide) ?_)
        | ((with_reducible refine is_load ?_); first | refine WL.y H (Y.loadX rfl (by repeat' (first | exact List.mem_cons_self .. | apply List.mem_cons_of_mem)) rfl) (by decide) ?_ | refine WL.y H (Y.loadXN rfl (by repeat' (first | exact List.mem_cons_self .. | apply List.mem_cons_of_mem)) rfl rfl) (by decide) ?_ | refine WL.y H (Y.loadSN (vs := tcs l[k]) rfl (by repeat' (first | exact List.mem_cons_self .. | apply List.mem_cons_of_mem)) (tA_readsK (i := k) l[k] rfl (List.getElem?_eq_getElem hlt)) rfl) (by decide) ?_)
        | ((with_reducible refine is_idx ?_); first | refine WL.y H (Y.idx rfl rfl (by first | omega | (simp only [List.length_cons, List.length_nil]; done) | (simp only [List.length_cons, List.length_nil]; omega)) (by first | omega | (simp only [List.length_cons, List.length_nil]; done) | (simp only [List.length_cons, List.length_nil]; omega))) (by decide) ?_)
        | ((with_reducible refine is_len ?_); first | refine WL.y H (Y.lenS rfl) (by decide) ?_)
        | ((with_reducible refine is_add ?_); first | refine WL.y H (Y.add rfl rfl (by first | omega | (simp only [List.length_cons, List.length_nil]; done) | (simp only [List.length_cons, List.length_nil]; omega)) (by first | omega | (simp only [List.length_cons, List.length_nil]; done) | (simp only [List.length_cons, List.length_nil]; omega))) (by decide) ?_)
        | ((with_reducible refine is_not ?_); first | refine WL.y H (Y.not rfl) (by decide) ?_)
        | ((with_reducible refine is_lss ?_); first | refine WL.y H ((Y.lss rfl rfl).boolT (by first | omega | (simp only [List.length_cons, List.length_nil]; done) | (simp only [List.length_cons, List.length_nil]; omega))) (by decide) ?_ | refine WL.y H ((Y.lss rfl rfl).boolF (by first | omega | (simp only [List.length_cons, List.length_nil]; done) | (simp only [List.length_cons, List.length_nil]; omega))) (by decide) ?_ | (refine WL.cmp H (Y.lss rfl rfl) (by decide) ?_ ?_ <;> intro hcmp))
        | ((with_reducible refine is_alloc ?_); refine WL.alloc H (by decide) ?_; intro _ w H _ _ _)
        | ((with_reducible refine is_store ?_); first | (refine WL.store1 H rfl rfl rfl (by repeat' (first | exact Upd.here .. | apply Upd.there)) rfl ?_; intro w H _) | (refine WL.storeN H rfl rfl rfl rfl (by repeat' (first | exact Upd.here .. | apply Upd.there)) rfl ?_; intro w H _)))
      refine AtQ.loop_norm (k + 1) (by repeat' (first | exact Sub.nil | refine Sub.cons rfl ?_)) ⟨hlt, fun i h hi => ?_, H.dropX (List.nil_sublist _)⟩ (by omega)
      rcases Nat.lt_succ_iff_lt_or_eq.1 hi with h1 | rfl
      · exact hall i h h1
      · exact hv
    · repeat' (first
        | (with_reducible refine WC.seq ?_)
        | (with_reducible refine WC.reg ?_)
        | (with_reducible refine WC.block ?_)
        | (with_reducible refine WC.skip ?_)
        | (with_reducible refine WC.ret ?_)
        | (with_reducible refine WC.exit ?_)
        | ((with_reducible refine is_cond ?_); first | refine WC.ctrue rfl ?_ | refine WC.cfalse rfl ?_ | (refine WC.cbool rfl ?_ ?_ <;> intro hcnd))
        | (with_reducible refine WL.nilK ?_)
        | (with_reducible refine WL.nil ?_)
        | (with_reducible refine AtQ.then_norm ?_)
        | (with_reducible refine AtQ.then_ret ?_)
        | (with_reducible refine AtQ.then_exit ?_)
        | (with_reducible refine AtQ.block_ret ?_)
        | (with_reducible refine AtQ.block_norm ?_)
        | (with_reducible refine AtQ.block_here ?_)
        | (with_reducible refine AtQ.loop_ret ?_)
        | (with_reducible refine AtQ.loop_exit ?_)
        | (with_reducible refine AtQ.out_ret ?_)
        | (with_reducible refine AtQ.out_exit ?_)
        | ((with_reducible refine AtQ.block_other ?_ ?_); · exact rfl)
        | ((with_reducible refine is_call ?_); refine WL.call (vs := [tv l[k]]) rfl (impl_TermOk_fn l[k] _ ((H.ht (nod _ c l) (by repeat' (first | exact List.mem_cons_self .. | apply List.mem_cons_of_mem))).kid _ (List.getElem_mem hlt)) hsk) (by decide) ?_; intro v w hv2; obtain ⟨e1, hc1⟩ := hv2; rw [decide_eq_false hv] at e1; subst e1; have H := H.call hc1)
        | ((with_reducible refine is_move ?_); first | refine WL.y H (Y.move rfl) (by decide) ?_)
        | ((with_reducible refine is_assign ?_); first | refine WL.y H (Y.assign rfl) (by decide) ?_)
        | ((with_reducible refine is_load ?_); first | refine WL.y H (Y.loadX rfl (by repeat' (first | exact List.mem_cons_self .. | apply List.mem_cons_of_mem)) rfl) (by decide) ?_ | refine WL.y H (Y.loadXN rfl (by repeat' (first | exact List.mem_cons_self .. | apply List.mem_cons_of_mem)) rfl rfl) (by decide) ?_ | refine WL.y H (Y.loadSN (vs := tcs l[k]) rfl (by repeat' (first | exact List.mem_cons_self .. | apply List.mem_cons_of_mem)) (tA_readsK (i := k) l[k] rfl (List.getElem?_eq_getElem hlt)) rfl) (by decide) ?_)
        | ((with_reducible refine is_idx ?_); first | refine WL.y H (Y.idx rfl rfl (by first | omega | (simp only [List.length_cons, List.length_nil]; done) | (simp only [List.length_cons, List.length_nil]; omega)) (by first | omega | (simp only [List.length_cons, List.length_nil]; done) | (simp only [List.length_cons, List.length_nil]; omega))) (by decide) ?_)
        | ((with_reducible refine is_len ?_); first | refine WL.y H (Y.lenS rfl) (by decide) ?_)
        | ((with_reducible refine is_add ?_); first | refine WL.y H (Y.add rfl rfl (by first | omega | (simp only [List.length_cons, List.length_nil]; done) | (simp only [List.length_cons, List.length_nil]; omega)) (by first | omega | (simp only [List.length_cons, List.length_nil]; done) | (simp only [List.length_cons, List.length_nil]; omega))) (by decide) ?_)
        | ((with_reducible refine is_not ?_); first | refine WL.y H (Y.not rfl) (by decide) ?_)
        | ((with_reducible refine is_lss ?_); first | refine WL.y H ((Y.lss rfl rfl).boolT (by first | omega | (simp only [List.length_cons, List.length_nil]; done) | (simp only [List.length_cons, List.length_nil]; omega))) (by decide) ?_ | refine WL.y H ((Y.lss rfl rfl).boolF (by first | omega | (simp only [List.length_cons, List.length_nil]; done) | (simp only [List.length_cons, List.length_nil]; omega))) (by decide) ?_ | (refine WL.cmp H (Y.lss rfl rfl) (by decide) ?_ ?_ <;> intro hcmp))
        | ((with_reducible refine is_alloc ?_); refine WL.alloc H (by decide) ?_; intro _ w H _ _ _)
        | ((with_reducible refine is_store ?_); first | (refine WL.store1 H rfl rfl rfl (by repeat' (first | exact Upd.here .. | apply Upd.there)) rfl ?_; intro w H _) | (refine WL.storeN H rfl rfl rfl rfl (by repeat' (first | exact Upd.here .. | apply Upd.there)) rfl ?_; intro w H _)))
      refine AtQ.r1 (resVal.t rfl) ⟨?_, H.chg⟩
      rw [decide_eq_false (fun h => hv (h _ (List.mem_map_of_mem (List.getElem_mem hlt))))]
  · repeat' (first
      | (with_reducible refine WC.seq ?_)
      | (with_reducible refine WC.reg ?_)
      | (with_reducible refine WC.block ?_)
      | (with_reducible refine WC.skip ?_)
      | (with_reducible refine WC.ret ?_)
      | (with_reducible refine WC.exit ?_)
      | ((with_reducible refine is_cond ?_); first | refine WC.ctrue rfl ?_ | refine WC.cfalse rfl ?_ | (refine WC.cbool rfl ?_ ?_ <;> intro hcnd))
      | (with_reducible refine WL.nilK ?_)
      | (with_reducible refine WL.nil ?_)
      | (with_reducible refine AtQ.then_norm ?_)
      | (with_reducible refine AtQ.then_ret ?_)
      | (with_reducible refine AtQ.then_exit ?_)
      | (with_reducible refine AtQ.block_ret ?_)
      | (with_reducible refine AtQ.block_norm ?_)
      | (with_reducible refine AtQ.block_here ?_)
      | (with_reducible refine AtQ.loop_ret ?_)
      | (with_reducible refine AtQ.loop_exit ?_)
      | (with_reducible refine AtQ.out_ret ?_)
      | (with_reducible refine AtQ.out_exit ?_)
      | ((with_reducible refine AtQ.block_other ?_ ?_); · exact rfl)
      | ((with_reducible refine is_move ?_); first | refine WL.y H (Y.move rfl) (by decide) ?_)
      | ((with_reducible refine is_assign ?_); first | refine WL.y H (Y.assign rfl) (by decide) ?_)
      | ((with_reducible refine is_load ?_); first | refine WL.y H (Y.loadX rfl (by repeat' (first | exact List.mem_cons_self .. | apply List.mem_cons_of_mem)) rfl) (by decide) ?_ | refine WL.y H (Y.loadXN rfl (by repeat' (first | exact List.mem_cons_self .. | apply List.mem_cons_of_mem)) rfl rfl) (by decide) ?_)
      | ((with_reducible refine is_idx ?_); first | refine WL.y H (Y.idx rfl rfl (by first | omega | (simp only [List.length_cons, List.length_nil]; done) | (simp only [List.length_cons, List.length_nil]; omega)) (by first | omega | (simp only [List.length_cons, List.length_nil]; done) | (simp only [List.length_cons, List.length_nil]; omega))) (by decide) ?_)
      | ((with_reducible refine is_len ?_); first | refine WL.y H (Y.lenS rfl) (by decide) ?_)
      | ((with_reducible refine is_add ?_); first | refine WL.y H (Y.add rfl rfl (by first | omega | (simp only [List.length_cons, List.length_nil]; done) | (simp only [List.length_cons, List.length_nil]; omega)) (by first | omega | (simp only [List.length_cons, List.length_nil]; done) | (simp only [List.length_cons, List.length_nil]; omega))) (by decide) ?_)
      | ((with_reducible refine is_not ?_); first | refine WL.y H (Y.not rfl) (by decide) ?_)
      | ((with_reducible refine is_lss ?_); first | refine WL.y H ((Y.lss rfl rfl).boolT (by first | omega | (simp only [List.length_cons, List.length_nil]; done) | (simp only [List.length_cons, List.length_nil]; omega))) (by decide) ?_ | refine WL.y H ((Y.lss rfl rfl).boolF (by first | omega | (simp only [List.length_cons, List.length_nil]; done) | (simp only [List.length_cons, List.length_nil]; omega))) (by decide) ?_ | (refine WL.cmp H (Y.lss rfl rfl) (by decide) ?_ ?_ <;> intro hcmp))
      | ((with_reducible refine is_alloc ?_); refine WL.alloc H (by decide) ?_; intro _ w H _ _ _)
      | ((with_reducible refine is_store ?_); first | (refine WL.store1 H rfl rfl rfl (by repeat' (first | exact Upd.here .. | apply Upd.there)) rfl ?_; intro w H _) | (refine WL.storeN H rfl rfl rfl rfl (by repeat' (first | exact Upd.here .. | apply Upd.there)) rfl ?_; intro w H _)))
    refine AtQ.r1 (resVal.t rfl) ⟨?_, H.chg⟩
    rw [eq_comm]
    congr 1
    refine decide_eq_true (fun x hx => ?_)
    obtain ⟨t, ht, rfl⟩ := List.mem_map.1 hx
    obtain ⟨i, hi, rfl⟩ := List.getElem_of_mem ht
    exact hall i hi (by omega)
set_option maxRecDepth 100000 in
set_option maxHeartbeats 4000000 in
theorem spec_l02AllOk_fn (a : Option Addr) (c : Nat) (l : List LT) (w : World) (ht : HT w (nod a c l)) (hs : SmL l) : Fn Try.prog 64 [sl a l.length c] w fun u w' => u = .bool (decide (AllTOk (l.map er))) ∧ Chg noF w w' := by
  refine Fn.body (N := 15) Try.func64 rfl rfl rfl rfl rfl ?_
  have hlen := hs.1
  have H : SH w noF w [] [tA (nod a c l)] := SH.start _ _ _ (by simpa [tA] using ht)
  repeat' (first
    | (with_reducible refine WC.seq ?_)
    | (with_reducible refine WC.reg ?_)
    | (with_reducible refine WC.block ?_)
    | (with_reducible refine WC.skip ?_)
    | (with_reducible refine WC.ret ?_)
    | (with_reducible refine WC.exit ?_)
    | ((with_reducible refine is_cond ?_); first | refine WC.ctrue rfl ?_ | refine WC.cfalse rfl ?_ | (refine WC.cbool rfl ?_ ?_ <;> intro hcnd))
    | (with_reducible refine WL.nilK ?_)
    | (with_reducible refine WL.nil ?_)
    | (with_reducible refine AtQ.then_norm ?_)
    | (with_reducible refine AtQ.then_ret ?_)
    | (with_reducible refine AtQ.then_exit ?_)
    | (with_reducible refine AtQ.block_ret ?_)
    | (with_reducible refine AtQ.block_norm ?_)
    | (with_reducible refine AtQ.block_here ?_)
    | (with_reducible refine AtQ.loop_ret ?_)
    | (with_reducible refine AtQ.loop_exit ?_)
    | (with_reducible refine AtQ.out_ret ?_)
    | (with_reducible refine AtQ.out_exit ?_)
    | ((with_reducible refine AtQ.block_other ?_ ?_); · exact rfl)
    | ((with_reducible refine is_move ?_); first | refine WL.y H (Y.move rfl) (by decide) ?_)
    | ((with_reducible refine is_assign ?_); first | refine WL.y H (Y.assign rfl) (by decide) ?_)
    | ((with_reducible refine is_load ?_); first | refine WL.y H (Y.loadX rfl (by repeat' (first | exact List.mem_cons_self .. | apply List.mem_cons_of_mem)) rfl) (by decide) ?_ | refine WL.y H (Y.loadXN rfl (by repeat' (first | exact List.mem_cons_self .. | apply List.mem_cons_of_mem)) rfl rfl) (by decide) ?_)
    | ((with_reducible refine is_idx ?_); first | refine WL.y H (Y.idx rfl rfl (by first | omega | (simp only [List.length_cons, List.length_nil]; done) | (simp only [List.length_cons, List.length_nil]; omega)) (by first | omega | (simp only [List.length_cons, List.length_nil]; done) | (simp only [List.length_cons, List.length_nil]; omega))) (by decide) ?_)
    | ((with_reducible refine is_len ?_); first | refine WL.y H (Y.lenS rfl) (by decide) ?_)
    | ((with_reducible refine is_add ?_); first | refine WL.y H (Y.add rfl rfl (by first | omega | (simp only [List.length_cons, List.length_nil]; done) | (simp only [List.length_cons, List.length_nil]; omega)) (by first | omega | (simp only [List.length_cons, List.length_nil]; done) | (simp only [List.length_cons, List.length_nil]; omega))) (by decide) ?_)
    | ((with_reducible refine is_not ?_); first | refine WL.y H (Y.not rfl) (by decide) ?_)
    | ((with_reducible refine is_lss ?_); first | refine WL.y H ((Y.lss rfl rfl).boolT (by first | omega | (simp only [List.length_cons, List.length_nil]; done) | (simp only [List.length_cons, List.length_nil]; omega))) (by decide) ?_ | refine WL.y H ((Y.lss rfl rfl).boolF (by first | omega | (simp only [List.length_cons, List.length_nil]; done) | (simp only [List.length_cons, List.length_nil]; omega))) (by decide) ?_ | (refine WL.cmp H (Y.lss rfl rfl) (by decide) ?_ ?_ <;> intro hcmp))
    | ((with_reducible refine is_alloc ?_); refine WL.alloc H (by decide) ?_; intro _ w H _ _ _)
    | ((with_reducible refine is_store ?_); first | (refine WL.store1 H rfl rfl rfl (by repeat' (first | exact Upd.here .. | apply Upd.there)) rfl ?_; intro w H _) | (refine WL.storeN H rfl rfl rfl rfl (by repeat' (first | exact Upd.here .. | apply Upd.there)) rfl ?_; intro w H _)))
  refine WC.loop (σ := Nat) (fun k => [(5, sl a l.length c), (6, .int .i64 l.length), (7, .int .i64 (k : Nat))]) (fun k w' => k ≤ l.length ∧ (∀ i (h : i < l.length), i < k → TOk (er l[i])) ∧ SH w noF w' [] [tA (nod a c l)]) (fun k => l.length - k) 0 (by repeat' (first | exact Sub.nil | refine Sub.cons rfl ?_)) ⟨Nat.zero_le _, (fun _ _ h => absurd h (Nat.not_lt_zero _)), H.dropX (List.nil_sublist _)⟩ (fun k w hinv => ?_)
  obtain ⟨hk, hall, H⟩ := hinv
  by_cases hlt : k < l.length
  · obtain ⟨b, o, cs, T, fz, ha, _, _⟩ := (H.ht (nod a c l) (by repeat' (first | exact List.mem_cons_self .. | apply List.mem_cons_of_mem))).row (by intro e; rw [show (nod a c l).l = l from rfl] at e; rw [e] at hlt; simp at hlt)
    simp only at ha
    subst ha
    have hsk : Sm (er l[k]) := hs.2 _ (List.getElem_mem hlt)
    by_cases hv : TOk (er l[k])
    · repeat' (first
        | (with_reducible refine WC.seq ?_)
        | (with_reducible refine WC.reg ?_)
        | (with_reducible refine WC.block ?_)
        | (with_reducible refine WC.skip ?_)
        | (with_reducible refine WC.ret ?_)
        | (with_reducible refine WC.exit ?_)
        | ((with_reducible refine is_cond ?_); first | refine WC.ctrue rfl ?_ | refine WC.cfalse rfl ?_ | (refine WC.cbool rfl ?_ ?_ <;> intro hcnd))
        | (with_reducible refine WL.nilK ?_)
        | (with_reducible refine WL.nil ?_)
        | (with_reducible refine AtQ.then_norm ?_)
        | (with_reducible refine AtQ.then_ret ?_)
        | (with_reducible refine AtQ.then_exit ?_)
        | (with_reducible refine AtQ.block_ret ?_)
        | (with_reducible refine AtQ.block_norm ?_)
        | (with_reducible refine AtQ.block_here ?_)
        | (with_reducible refine AtQ.loop_ret ?_)
        | (with_reducible refine AtQ.loop_exit ?_)
        | (with_reducible refine AtQ.out_ret ?_)
        | (with_reducible refine AtQ.out_exit ?_)
        | ((with_reducible refine AtQ.block_other ?_ ?_); · exact rfl)
        | ((with_reducible refine is_call ?_); refine WL.call (vs := [tv l[k]]) rfl (spec_TermOk_fn l[k] _ ((H.ht (nod _ c l) (by repeat' (first | exact List.mem_cons_self .. | apply List.mem_cons_of_mem))).kid _ (List.getElem_mem hlt)) hsk) (by decide) ?_; intro v w hv2; obtain ⟨e1, hc1⟩ := hv2; rw [decide_eq_true hv] at e1; subst e1; have H := H.call hc1)
        | ((with_reducible refine is_move ?_); first | refine WL.y H (Y.move rfl) (by decide) ?_)
        | ((with_reducible refine is_assign ?_); first | refine WL.y H (Y.assign rfl) (by decide) ?_)
        | ((with_reducible refine is_load ?_); first | refine WL.y H (Y.loadX rfl (by repeat' (first | exact List.mem_cons_self .. | apply List.mem_cons_of_mem)) rfl) (by decide) ?_ | refine WL.y H (Y.loadXN rfl (by repeat' (first | exact List.mem_cons_self .. | apply List.mem_cons_of_mem)) rfl rfl) (by decide) ?_ | refine WL.y H (Y.loadSN (vs := tcs l[k]) rfl (by repeat' (first | exact List.mem_cons_self .. | apply List.mem_cons_of_mem)) (tA_readsK (i := k) l[k] rfl (List.getElem?_eq_getElem hlt)) rfl) (by decide) ?_)
        | ((with_reducible refine is_idx ?_); first | refine WL.y H (Y.idx rfl rfl (by first | omega | (simp only [List.length_cons, List.length_nil]; done) | (simp only [List.length_cons, List.length_nil]; omega)) (by first | omega | (simp only [List.length_cons, List.length_nil]; done) | (simp only [List.length_cons, List.length_nil]; omega))) (by decide) ?_)
        | ((with_reducible refine is_len ?_); first | refine WL.y H (Y.lenS rfl) (by decide) ?_)
        | ((with_reducible refine is_add ?_); first | refine WL.y H (Y.add rfl rfl (by first | omega | (simp only [List.length_cons, List.length_nil]; done) | (simp only [List.length_cons, List.length_nil]; omega)) (by first | omega | (simp only [List.length_cons, List.length_nil]; done) | (simp only [List.length_cons, List.length_nil]; omega))) (by decide) ?_)
        | ((with_reducible refine is_not ?_); first | refine WL.y H (Y.not rfl) (by decide) ?_)
        | ((with_reducible refine is_lss ?_); first | refine WL.y H ((Y.lss rfl rfl).boolT (by first | omega | (simp only [List.length_cons, List.length_nil]; done) | (simp only [List.length_cons, List.length_nil]; omega))) (by decide) ?_ | refine WL.y H ((Y.lss rfl rfl).boolF (by first | omega | (simp only [List.length_cons, List.length_nil]; done) | (simp only [List.length_cons, List.length_nil]; omega))) (by decide) ?_ | (refine WL.cmp H (Y.lss rfl rfl) (by decide) ?_ ?_ <;> intro hcmp))
        | ((with_reducible refine is_alloc ?_); refine WL.alloc H (by decide) ?_; intro _ w H _ _ _)
        | ((with_reducible refine is_store ?_); first | (refine WL.store1 H rfl rfl rfl (by repeat' (first | exact Upd.here .. | apply Upd.there)) rfl ?_; intro w H _) | (refine WL.storeN H rfl rfl rfl rfl (by repeat' (first | exact Upd.here .. | apply Upd.there)) rfl ?_; intro w H _)))
      refine AtQ.loop_norm (k + 1) (by repeat' (first | exact Sub.nil | refine Sub.cons rfl ?_)) ⟨hlt, fun i h hi => ?_, H.dropX (List.nil_sublist _)⟩ (by omega)
      rcases Nat.lt_succ_iff_lt_or_eq.1 hi with h1 | rfl
      · exact hall i h h1
      · exact hv
    · repeat' (first
        | (with_reducible refine WC.seq ?_)
        | (with_reducible refine WC.reg ?_)
        | (with_reducible refine WC.block ?_)
        | (with_reducible refine WC.skip ?_)
        | (with_reducible refine WC.ret ?_)
        | (with_reducible refine WC.exit ?_)
        | ((with_reducible refine is_cond ?_); first | refine WC.ctrue rfl ?_ | refine WC.cfalse rfl ?_ | (refine WC.cbool rfl ?_ ?_ <;> intro hcnd))
        | (with_reducible refine WL.nilK ?_)
        | (with_reducible refine WL.nil ?_)
        | (with_reducible refine AtQ.then_norm ?_)
        | (with_reducible refine AtQ.then_ret ?_)
        | (with_reducible refine AtQ.then_exit ?_)
        | (with_reducible refine AtQ.block_ret ?_)
        | (with_reducible refine AtQ.block_norm ?_)
        | (with_reducible refine AtQ.block_here ?_)
        | (with_reducible refine AtQ.loop_ret ?_)
        | (with_reducible refine AtQ.loop_exit ?_)
        | (with_reducible refine AtQ.out_ret ?_)
        | (with_reducible refine AtQ.out_exit ?_)
        | ((with_reducible refine AtQ.block_other ?_ ?_); · exact rfl)
        | ((with_reducible refine is_call ?_); refine WL.call (vs := [tv l[k]]) rfl (spec_TermOk_fn l[k] _ ((H.ht (nod _ c l) (by repeat' (first | exact List.mem_cons_self .. | apply List.mem_cons_of_mem))).kid _ (List.getElem_mem hlt)) hsk) (by decide) ?_; intro v w hv2; obtain ⟨e1, hc1⟩ := hv2; rw [decide_eq_false hv] at e1; subst e1; have H := H.call hc1)
        | ((with_reducible refine is_move ?_); first | refine WL.y H (Y.move rfl) (by decide) ?_)
        | ((with_reducible refine is_assign ?_); first | refine WL.y H (Y.assign rfl) (by decide) ?_)
        | ((with_reducible refine is_load ?_); first | refine WL.y H (Y.loadX rfl (by repeat' (first | exact List.mem_cons_self .. | apply List.mem_cons_of_mem)) rfl) (by decide) ?_ | refine WL.y H (Y.loadXN rfl (by repeat' (first | exact List.mem_cons_self .. | apply List.mem_cons_of_mem)) rfl rfl) (by decide) ?_ | refine WL.y H (Y.loadSN (vs := tcs l[k]) rfl (by repeat' (first | exact List.mem_cons_self .. | apply List.mem_cons_of_mem)) (tA_readsK (i := k) l[k] rfl (List.getElem?_eq_getElem hlt)) rfl) (by decide) ?_)
        | ((with_reducible refine is_idx ?_); first | refine WL.y H (Y.idx rfl rfl (by first | omega | (simp only [List.length_cons, List.length_nil]; done) | (simp only [List.length_cons, List.length_nil]; omega)) (by first | omega | (simp only [List.length_cons, List.length_nil]; done) | (simp only [List.length_cons, List.length_nil]; omega))) (by decide) ?_)
        | ((with_reducible refine is_len ?_); first | refine WL.y H (Y.lenS rfl) (by decide) ?_)
        | ((with_reducible refine is_add ?_); first | refine WL.y H (Y.add rfl rfl (by first | omega | (simp only [List.length_cons, List.length_nil]; done) | (simp only [List.length_cons, List.length_nil]; omega)) (by first | omega | (simp only [List.length_cons, List.length_nil]; done) | (simp only [List.length_cons, List.length_nil]; omega))) (by decide) ?_)
        | ((with_reducible refine is_not ?_); first | refine WL.y H (Y.not rfl) (by decide) ?_)
        | ((with_reducible refine is_lss ?_); first | refine WL.y H ((Y.lss rfl rfl).boolT (by first | omega | (simp only [List.length_cons, List.length_nil]; done) | (simp only [List.length_cons, List.length_nil]; omega))) (by decide) ?_ | refine WL.y H ((Y.lss rfl rfl).boolF (by first | omega | (simp only [List.length_cons, List.length_nil]; done) | (simp only [List.length_cons, List.length_nil]; omega))) (by decide) ?_ | (refine WL.cmp H (Y.lss rfl rfl) (by decide) ?_ ?_ <;> intro hcmp))
        | ((with_reducible refine is_alloc ?_); refine WL.alloc H (by decide) ?_; intro _ w H _ _ _)
        | ((with_reducible refine is_store ?_); first | (refine WL.store1 H rfl rfl rfl (by repeat' (first | exact Upd.here .. | apply Upd.there)) rfl ?_; intro w H _) | (refine WL.storeN H rfl rfl rfl rfl (by repeat' (first | exact Upd.here .. | apply Upd.there)) rfl ?_; intro w H _)))
      refine AtQ.r1 (resVal.t rfl) ⟨?_, H.chg⟩
      rw [decide_eq_false (fun h => hv (h _ (List.mem_map_of_mem (List.getElem_mem hlt))))]
  · repeat' (first
      | (with_reducible refine WC.seq ?_)
      | (with_reducible refine WC.reg ?_)
      | (with_reducible refine WC.block ?_)
      | (with_reducible refine WC.skip ?_)
      | (with_reducible refine WC.ret ?_)
      | (with_reducible refine WC.exit ?_)
      | ((with_reducible refine is_cond ?_); first | refine WC.ctrue rfl ?_ | refine WC.cfalse rfl ?_ | (refine WC.cbool rfl ?_ ?_ <;> intro hcnd))
      | (with_reducible refine WL.nilK ?_)
      | (with_reducible refine WL.nil ?_)
      | (with_reducible refine AtQ.then_norm ?_)
      | (with_reducible refine AtQ.then_ret ?_)
      | (with_reducible refine AtQ.then_exit ?_)
      | (with_reducible refine AtQ.block_ret ?_)
      | (with_reducible refine AtQ.block_norm ?_)
      | (with_reducible refine AtQ.block_here ?_)
      | (with_reducible refine AtQ.loop_ret ?_)
      | (with_reducible refine AtQ.loop_exit ?_)
      | (with_reducible refine AtQ.out_ret ?_)
      | (with_reducible refine AtQ.out_exit ?_)
      | ((with_reducible refine AtQ.block_other ?_ ?_); · exact rfl)
      | ((with_reducible refine is_move ?_); first | refine WL.y H (Y.move rfl) (by decide) ?_)
      | ((with_reducible refine is_assign ?_); first | refine WL.y H (Y.assign rfl) (by decide) ?_)
      | ((with_reducible refine is_load ?_); first | refine WL.y H (Y.loadX rfl (by repeat' (first | exact List.mem_cons_self .. | apply List.mem_cons_of_mem)) rfl) (by decide) ?_ | refine WL.y H (Y.loadXN rfl (by repeat' (first | exact List.mem_cons_self .. | apply List.mem_cons_of_mem)) rfl rfl) (by decide) ?_)
      | ((with_reducible refine is_idx ?_); first | refine WL.y H (Y.idx rfl rfl (by first | omega | (simp only [List.length_cons, List.length_nil]; done) | (simp only [List.length_cons, List.length_nil]; omega)) (by first | omega | (simp only [List.length_cons, List.length_nil]; done) | (simp only [List.length_cons, List.length_nil]; omega))) (by decide) ?_)
      | ((with_reducible refine is_len ?_); first | refine WL.y H (Y.lenS rfl) (by decide) ?_)
      | ((with_reducible refine is_add ?_); first | refine WL.y H (Y.add rfl rfl (by first | omega | (simp only [List.length_cons, List.length_nil]; done) | (simp only [List.length_cons, List.length_nil]; omega)) (by first | omega | (simp only [List.length_cons, List.length_nil]; done) | (simp only [List.length_cons, List.length_nil]; omega))) (by decide) ?_)
      | ((with_reducible refine is_not ?_); first | refine WL.y H (Y.not rfl) (by decide) ?_)
      | ((with_reducible refine is_lss ?_); first | refine WL.y H ((Y.lss rfl rfl).boolT (by first | omega | (simp only [List.length_cons, List.length_nil]; done) | (simp only [List.length_cons, List.length_nil]; omega))) (by decide) ?_ | refine WL.y H ((Y.lss rfl rfl).boolF (by first | omega | (simp only [List.length_cons, List.length_nil]; done) | (simp only [List.length_cons, List.length_nil]; omega))) (by decide) ?_ | (refine WL.cmp H (Y.lss rfl rfl) (by decide) ?_ ?_ <;> intro hcmp))
      | ((with_reducible refine is_alloc ?_); refine WL.alloc H (by decide) ?_; intro _ w H _ _ _)
      | ((with_reducible refine is_store ?_); first | (refine WL.store1 H rfl rfl rfl (by repeat' (first | exact Upd.here .. | apply Upd.there)) rfl ?_; intro w H _) | (refine WL.storeN H rfl rfl rfl rfl (by repeat' (first | exact Upd.here .. | apply Upd.there)) rfl ?_; intro w H _)))
    refine AtQ.r1 (resVal.t rfl) ⟨?_, H.chg⟩
    rw [eq_comm]
    congr 1
    refine decide_eq_true (fun x hx => ?_)
    obtain ⟨t, ht, rfl⟩ := List.mem_map.1 hx
    obtain ⟨i, hi, rfl⟩ := List.getElem_of_mem ht
    exact hall i hi (by omega)
theorem AllTOk.terms : ∀ {l : List LT}, AllTOk (l.map er) → ∃ ms : List Tm, l.map er = ms.map Tm.enc ∧ ∀ m ∈ ms, m.Ok ∧ m.size ≤ 5000
  | [], _ => ⟨[], rfl, fun m h => by cases h⟩
  | t :: r, h => by
    obtain ⟨m, hm, he, hz⟩ := h (er t) (by simp)
    obtain ⟨ms, h1, h2⟩ := AllTOk.terms (l := r) (fun x hx => h x (by simp at hx ⊢; exact .inr hx))
    refine ⟨m :: ms, by simp [h1, he], fun x hx => ?_⟩
    rcases List.mem_cons.1 hx with rfl | hx
    · exact ⟨hm, hz⟩
    · exact h2 x hx
theorem er_at {l : List LT} {ms : List Tm} (h : l.map er = ms.map Tm.enc) (k : Nat) (h1 : k < l.length) (h2 : k < ms.length) : er l[k] = (ms[k]).enc := by
  have h3 : (l.map er)[k]? = (ms.map Tm.enc)[k]? := by rw [h]
  simpa [h1, h2] using h3
theorem terms_len {l : List LT} {ms : List Tm} (h : l.map er = ms.map Tm.enc) : l.length = ms.length := by
  have := congrArg List.length h; simpa using this
/-- What comes in as the laws' own terms, with its places. -/
theorem located {w : World} : ∀ (x : LTm) (A : Option Addr) (c : Nat), x.f3.length ≤ c → Kd.C k44 w A x.f3.length x.f3 → ∃ t : LT, t.k = x.f0 ∧ t.i = x.f1 ∧ t.s = x.f2 ∧ t.a = A ∧ t.c = c ∧ t.l.length = x.f3.length ∧ er t = conv x ∧ HT w t := by
  intro x
  induction x using indL with
  | h x ih =>
  intro A c hc hC
  obtain ⟨_, hmx, hrow⟩ := hC
  have step : ∀ i, i < x.f3.length → ∃ t : LT, x.f3[i]?.map conv = some (er t) ∧ HT w t ∧ ∀ ad, A = some ad → ∀ j u, (tcs t)[j]? = some u → w.cell? (ad.add (i * 4 + j)) = some u := by
    intro i hi
    obtain ⟨ad, hA, hr⟩ := hrow (by omega)
    obtain ⟨cs, hcl, hK, hcell⟩ := hr i x.f3[i] (by rw [List.getElem?_eq_getElem hi])
    obtain ⟨A3, c3, rfl, l3, g3⟩ := k44_open hK
    obtain ⟨t, h1, h2, h3, h4, h5, h6, h7, h8⟩ := ih x.f3[i] (List.getElem_mem hi) A3 c3 l3 g3
    refine ⟨t, by rw [List.getElem?_eq_getElem hi, Option.map_some, h7], h8, fun ad' e => ?_⟩
    rw [hA] at e; obtain rfl := Option.some.inj e
    have e2 : tcs t = [.int .i64 x.f3[i].f0, .int .i64 x.f3[i].f1, .string x.f3[i].f2, .slice A3 x.f3[i].f3.length c3] := by rw [← h1, ← h2, ← h3, ← h4, ← h5, ← h6]
    rw [e2]; exact hcell
  have hlist : ∃ ts : List LT, ts.length = x.f3.length ∧ ∀ i t, ts[i]? = some t → x.f3[i]?.map conv = some (er t) ∧ HT w t ∧ ∀ ad, A = some ad → ∀ j u, (tcs t)[j]? = some u → w.cell? (ad.add (i * 4 + j)) = some u := by
    have key : ∀ n, n ≤ x.f3.length → ∃ ts : List LT, ts.length = n ∧ ∀ i t, ts[i]? = some t → x.f3[i]?.map conv = some (er t) ∧ HT w t ∧ ∀ ad, A = some ad → ∀ j u, (tcs t)[j]? = some u → w.cell? (ad.add (i * 4 + j)) = some u := by
      intro n
      induction n with
      | zero => exact fun _ => ⟨[], rfl, fun i t h => by simp at h⟩
      | succ n ihn =>
        intro hn
        obtain ⟨ts, hl, h⟩ := ihn (by omega)
        obtain ⟨t, h1, h2, h3⟩ := step n (by omega)
        refine ⟨ts ++ [t], by simp [hl], fun i u hu => ?_⟩
        rcases Nat.lt_trichotomy i n with hi | hi | hi
        · rw [List.getElem?_append_left (by omega)] at hu; exact h i u hu
        · subst hi
          rw [← hl, List.getElem?_concat_length] at hu
          obtain rfl := Option.some.inj hu
          exact ⟨h1, h2, h3⟩
        · rw [List.getElem?_eq_none (by simp; omega)] at hu; cases hu
    exact key _ (Nat.le_refl _)
  obtain ⟨ts, htl, hts⟩ := hlist
  have her : ts.map er = x.f3.map conv := by
    apply List.ext_getElem?
    intro i
    by_cases hi : i < ts.length
    · have := (hts i ts[i] (List.getElem?_eq_getElem hi)).1
      rw [List.getElem?_map, List.getElem?_map, List.getElem?_eq_getElem hi, Option.map_some, this]
    · rw [List.getElem?_eq_none (by simp; omega), List.getElem?_eq_none (by simp; omega)]
  refine ⟨⟨x.f0, x.f1, x.f2, A, c, ts⟩, rfl, rfl, rfl, rfl, rfl, htl, by rw [er_eq, conv_eq, her], .mk _ (by simpa [htl] using hc) (fun hne => ?_) (fun t ht => ?_)⟩
  · have hne' : ts ≠ [] := hne
    have hpos : 0 < ts.length := List.length_pos_iff.mpr hne'
    obtain ⟨⟨b, o, sp⟩, hA, _⟩ := hrow (by omega)
    have h0 := (hts 0 ts[0] (List.getElem?_eq_getElem hpos)).2.2 _ hA 0 _ rfl
    have hcell : ∀ j v, (tcells ts)[j]? = some v → w.cell? ((⟨b, o, sp⟩ : Addr).add j) = some v := by
      intro j v hj
      have hjl := (List.getElem?_eq_some_iff.1 hj).1
      rw [tcells_length] at hjl
      have hd : j = (j / 4) * 4 + j % 4 := by omega
      have hi : j / 4 < ts.length := by omega
      rw [hd] at hj ⊢
      rw [tcells_get ts (j / 4) (j % 4) hi (by omega)] at hj
      exact (hts (j / 4) ts[j / 4] (List.getElem?_eq_getElem hi)).2.2 _ hA _ _ hj
    rw [show 0 * 4 + 0 = 0 from rfl, show (⟨b, o, sp⟩ : Addr).add 0 = ⟨b, o, sp⟩ from rfl] at h0
    unfold World.cell? at h0
    simp only at h0
    split at h0
    · rename_i cs T fz hh
      cases sp with
      | some z => simp at h0
      | none =>
        refine ⟨b, o, cs, T, fz, hA, hh, fun j v hj => ?_⟩
        have := hcell j v hj
        rw [adr_add] at this
        simpa [World.cell?, hh] using this
    · cases h0
  · obtain ⟨i, hi⟩ := List.getElem?_of_mem ht
    exact (hts i t hi).2.1
end Go.Proofs.Ytpfooiepmnaoaaa.E
