/- eachVar with a closure that keeps to blocks of its own. -/
import Derived.Test.YtpfooiepmnaoaaaEngT
import Derived.Test.YtpfooiepmnaoaaaEngTy
namespace Go.Proofs.Ytpfooiepmnaoaaa.E
open Go Go.RowKit Go.Proofs.Ytpfooiepmnaoaaa.X
set_option linter.unusedVariables false
set_option linter.unusedSimpArgs false
theorem SH.eff {w0 w w' : World} {F0 : Nat → Prop} {X : List (Nat × Obj)} {S : List Asn} {A A' : Asn} (H : SH w0 F0 w X (A :: S)) (hc : Chg A.ft w w') (hA' : A'.hold w') (hft : ∀ b, A'.ft b → A.ft b ∨ w.heap.size ≤ b) (hF : ∀ b, A.ft b → F0 b ∨ w0.heap.size ≤ b) (hd : ∀ B ∈ S, ∀ b, B.ft b → ¬ A.ft b) : SH w0 F0 w' X (A' :: S) := by
  refine ⟨H.chg.trans hc hF, H.xo, H.nd, ⟨fun p hp => (hc.block p.1 (H.lt hp) (fun h => H.sep A (List.mem_cons_self ..) p hp h)).trans (H.m.1 p hp), fun B hB => ?_⟩, fun B hB => ?_⟩
  · rcases List.mem_cons.1 hB with rfl | hB
    · exact hA'
    · have hb := H.m.2 B (List.mem_cons_of_mem _ hB)
      exact B.fr w _ (fun k hk => hc.block k (B.lt w hb k hk) (hd B hB k hk)) hb
  · rcases List.mem_cons.1 hB with rfl | hB
    · intro p hp hf
      rcases hft _ hf with h | h
      · exact H.sep A (List.mem_cons_self ..) p hp h
      · have := H.lt hp; omega
    · exact H.sep B (List.mem_cons_of_mem _ hB)
theorem SH.dropI {w0 w : World} {F0 : Nat → Prop} {X : List (Nat × Obj)} {S S' : List Asn} (H : SH w0 F0 w X S) (h : Incl S' S) : SH w0 F0 w X S' := H.dropS h.mem
/-- Blocks of which nothing is held are written to. -/
theorem SH.away {w0 w w' : World} {F0 F : Nat → Prop} {X : List (Nat × Obj)} {S : List Asn} (H : SH w0 F0 w X S) (hc : Chg F w w') (hF : ∀ b, F b → F0 b ∨ w0.heap.size ≤ b) (hX : ∀ p ∈ X, ¬ F p.1) (hd : ∀ A ∈ S, ∀ b, A.ft b → ¬ F b) : SH w0 F0 w' X S :=
  ⟨H.chg.trans hc hF, H.xo, H.nd, ⟨fun p hp => (hc.block p.1 (H.lt hp) (hX p hp)).trans (H.m.1 p hp), fun A hA => A.fr w _ (fun k hk => hc.block k (A.lt w (H.m.2 A hA) k hk) (hd A hA k hk)) (H.m.2 A hA)⟩, H.sep⟩
/-- The variables of a term, in their order. -/
def vars : Tm → List Int
  | .var n => [n]
  | .pair a b => vars a ++ vars b
  | _ => []
inductive Steps {σ : Type} (st : σ → Int → σ → Prop) : List Int → σ → σ → Prop
  | nil (s : σ) : Steps st [] s s
  | cons {v : Int} {l : List Int} {s s1 s2 : σ} (h : st s v s1) (t : Steps st l s1 s2) : Steps st (v :: l) s s2
theorem Steps.append {σ : Type} {st : σ → Int → σ → Prop} {l l2 : List Int} {s s1 s2 : σ} (h : Steps st l s s1) (k : Steps st l2 s1 s2) : Steps st (l ++ l2) s s2 := by
  induction h with
  | nil => exact k
  | cons h _ ih => exact .cons h (ih k)
/-- A closure: what it captured stands in the blocks of Ft; each call takes its state a step on. -/
structure Clo {σ : Type} (f : FuncId) (caps : List Value) (I : σ → Asn) (st : σ → Int → σ → Prop) : Prop where
  call : ∀ s w v, (I s).hold w → 0 ≤ v → v ≤ 100000 → Fn Try.prog f (.int .i64 v :: caps) w fun u w' => u = .tuple #[] ∧ ∃ s', st s v s' ∧ (I s').hold w' ∧ Chg (I s).ft w w' ∧ ∀ b, (I s').ft b → (I s).ft b ∨ w.heap.size ≤ b
/-- What eachVar has done. -/
def EvP {σ : Type} (I : σ → Asn) (st : σ → Int → σ → Prop) (l : List Int) (s : σ) (w : World) (u : Value) (w' : World) : Prop :=
  u = .tuple #[] ∧ ∃ s', Steps st l s s' ∧ (I s').hold w' ∧ Chg (I s).ft w w' ∧ ∀ b, (I s').ft b → (I s).ft b ∨ w.heap.size ≤ b
set_option maxRecDepth 100000 in
set_option maxHeartbeats 4000000 in
theorem impl_eachVar_ok {σ : Type} {f : FuncId} {caps : List Value} {I : σ → Asn} {st : σ → Int → σ → Prop} (C : Clo f caps I st) : ∀ (m : Tm) (t : LT) (s : σ) (w : World), m.Ok → er t = m.enc → HT w t → (I s).hold w → (∀ b ∈ ft t, ¬ (I s).ft b) → Fn Try.prog 66 [tv t, .func (.func f) #[] caps.toArray] w (EvP I st (vars m) s w) := by
  intro m
  induction m with
  | pair x y ihx ihy =>
    intro t s w hok he ht hi hd
    obtain ⟨b, o, c, p, q, rfl, hp, hq, _, _⟩ := enc_pair he ht
    obtain ⟨hokx, hoky⟩ := hok
    have hlt := ht.lt
    refine Fn.body (N := 26) Try.func66 rfl rfl rfl rfl rfl ?_
    have H : SH w (I s).ft w [] [I s, tA ⟨4, 0, ⟨#[]⟩, some ⟨b, o, none⟩, c, [p, q]⟩] := SH.start _ _ _ (by intro A hA; simp only [List.mem_cons, List.not_mem_nil, or_false] at hA; rcases hA with rfl | rfl; exact hi; exact ht)
    have hkp : ∀ z ∈ ft p, z ∈ ft (⟨4, 0, ⟨#[]⟩, some ⟨b, o, none⟩, c, [p, q]⟩ : LT) := tA_kid (t := ⟨4, 0, ⟨#[]⟩, some ⟨b, o, none⟩, c, [p, q]⟩) (by simp)
    have hkq : ∀ z ∈ ft q, z ∈ ft (⟨4, 0, ⟨#[]⟩, some ⟨b, o, none⟩, c, [p, q]⟩ : LT) := tA_kid (t := ⟨4, 0, ⟨#[]⟩, some ⟨b, o, none⟩, c, [p, q]⟩) (by simp)
    repeat' (first
      | (with_reducible refine WC.seq ?_)
      | (with_reducible refine WC.reg ?_)
      | (with_reducible refine WC.skip ?_)
      | (with_reducible refine WC.ret ?_)
      | ((with_reducible refine is_cond ?_); first | refine WC.ctrue rfl ?_ | refine WC.cfalse rfl ?_ | (refine WC.cbool rfl ?_ ?_ <;> intro hcnd))
      | (with_reducible refine WL.nilK ?_)
      | (with_reducible refine WL.nil ?_)
      | (with_reducible refine AtQ.then_norm ?_)
      | (with_reducible refine AtQ.then_ret ?_)
      | (with_reducible refine AtQ.out_ret ?_)
      | ((with_reducible refine is_call ?_); refine WL.call (vs := [tv p, .func (.func f) #[] caps.toArray]) rfl (ihx p s _ hokx hp ((H.ht ⟨4, 0, ⟨#[]⟩, some ⟨b, o, none⟩, c, [p, q]⟩ (by repeat' (first | exact List.mem_cons_self .. | apply List.mem_cons_of_mem))).kid p (by simp)) (H.of (A := I s) (by repeat' (first | exact List.mem_cons_self .. | apply List.mem_cons_of_mem))) (fun z hz => hd z (hkp z hz))) (by decide) ?_; intro v w1 hv; obtain ⟨e1, s1, st1, hi1, hc1, hf1⟩ := hv; subst e1; have hs1 := hc1.size; have H := H.eff (A' := I s1) hc1 hi1 hf1 (fun _ h => .inl h) (by intro B hB z hz; simp only [List.mem_cons, List.not_mem_nil, or_false] at hB; subst hB; exact hd z hz))
      | ((with_reducible refine is_call ?_); refine WL.call (vs := [tv q, .func (.func f) #[] caps.toArray]) rfl (ihy q s1 _ hoky hq ((H.ht ⟨4, 0, ⟨#[]⟩, some ⟨b, o, none⟩, c, [p, q]⟩ (by repeat' (first | exact List.mem_cons_self .. | apply List.mem_cons_of_mem))).kid q (by simp)) (H.of (A := I s1) (by repeat' (first | exact List.mem_cons_self .. | apply List.mem_cons_of_mem))) (fun z hz h => by rcases hf1 z h with h | h; exact hd z (hkq z hz) h; have := hlt z (hkq z hz); omega)) (by decide) ?_; intro v w2 hv; obtain ⟨e2, s2, st2, hi2, hc2, hf2⟩ := hv; subst e2; have hs2 := hc2.size; have H := H.eff (A' := I s2) hc2 hi2 hf2 (fun z h => by rcases hf1 z h with h | h; exact .inl h; exact .inr (by omega)) (by intro B hB z hz h; simp only [List.mem_cons, List.not_mem_nil, or_false] at hB; subst hB; rcases hf1 z h with h | h; exact hd z hz h; have := hlt z hz; omega))
      | ((with_reducible refine is_move ?_); first | refine WL.y H (Y.move rfl) (by decide) ?_)
      | ((with_reducible refine is_fld ?_); first | refine WL.y H (Y.fld rfl) (by decide) ?_)
      | ((with_reducible refine is_load ?_); first | refine WL.y H (Y.loadX rfl (by repeat' (first | exact List.mem_cons_self .. | apply List.mem_cons_of_mem)) rfl) (by decide) ?_ | refine WL.y H (Y.loadXN rfl (by repeat' (first | exact List.mem_cons_self .. | apply List.mem_cons_of_mem)) rfl rfl) (by decide) ?_ | refine WL.y H (Y.loadSN (vs := tcs p) rfl (by repeat' (first | exact List.mem_cons_self .. | apply List.mem_cons_of_mem)) (tA_readsK (i := 0) p rfl rfl) rfl) (by decide) ?_ | refine WL.y H (Y.loadSN (vs := tcs q) rfl (by repeat' (first | exact List.mem_cons_self .. | apply List.mem_cons_of_mem)) (tA_readsK (i := 1) q rfl rfl) rfl) (by decide) ?_)
      | ((with_reducible refine is_idx ?_); first | refine WL.y H (Y.idx rfl rfl (by first | omega | (simp only [List.length_cons, List.length_nil]; done) | (simp only [List.length_cons, List.length_nil]; omega)) (by first | omega | (simp only [List.length_cons, List.length_nil]; done) | (simp only [List.length_cons, List.length_nil]; omega))) (by decide) ?_)
      | ((with_reducible refine is_eql ?_); first | refine WL.y H ((Y.eql rfl rfl).boolT (by first | omega | (simp only [List.length_cons, List.length_nil]; done) | (simp only [List.length_cons, List.length_nil]; omega))) (by decide) ?_ | refine WL.y H ((Y.eql rfl rfl).boolF (by first | omega | (simp only [List.length_cons, List.length_nil]; done) | (simp only [List.length_cons, List.length_nil]; omega))) (by decide) ?_ | (refine WL.cmp H (Y.eql rfl rfl) (by decide) ?_ ?_ <;> intro hcmp))
      | ((with_reducible refine is_box ?_); first | (refine WL.boxN H rfl (by decide) ?_; intro _ w H _ _ _) | (refine WL.box1 H rfl rfl (by decide) ?_; intro _ w H _ _ _)))
    refine AtQ.r0' ⟨rfl, s2, st1.append st2, hi2, H.chg, fun z hz => ?_⟩
    rcases hf2 z hz with h | h
    · rcases hf1 z h with h | h
      · exact .inl h
      · exact .inr (by omega)
    · exact .inr (by omega)
  | var n =>
    intro t s w hok he ht hi hd
    have hlt := ht.lt
    have hk : t.k = 1 ∧ t.i = n := by rw [er_eq] at he; simp only [Tm.enc, S47.mk.injEq] at he; exact ⟨he.1, he.2.1⟩
    obtain ⟨hk, rfl⟩ := hk
    refine Fn.body (N := 26) Try.func66 rfl rfl rfl rfl rfl ?_
    have H : SH w (I s).ft w [] [I s, tA t] := SH.start _ _ _ (by intro A hA; simp only [List.mem_cons, List.not_mem_nil, or_false] at hA; rcases hA with rfl | rfl; exact hi; exact ht)
    repeat' (first
      | (with_reducible refine WC.seq ?_)
      | (with_reducible refine WC.reg ?_)
      | (with_reducible refine WC.skip ?_)
      | (with_reducible refine WC.ret ?_)
      | ((with_reducible refine is_cond ?_); first | refine WC.ctrue rfl ?_ | refine WC.cfalse rfl ?_ | (refine WC.cbool rfl ?_ ?_ <;> intro hcnd))
      | (with_reducible refine WL.nilK ?_)
      | (with_reducible refine WL.nil ?_)
      | (with_reducible refine AtQ.then_norm ?_)
      | (with_reducible refine AtQ.then_ret ?_)
      | (with_reducible refine AtQ.out_ret ?_)
      | ((with_reducible refine is_callV ?_); refine WL.callV (vs := [.int .i64 t.i]) rfl rfl (C.call s _ t.i (H.of (A := I s) (by repeat' (first | exact List.mem_cons_self .. | apply List.mem_cons_of_mem))) hok.1 hok.2) (by decide) ?_; intro v w1 hv; obtain ⟨e1, s1, st1, hi1, hc1, hf1⟩ := hv; subst e1; have hs1 := hc1.size; have H := H.eff (A' := I s1) hc1 hi1 hf1 (fun _ h => .inl h) (by intro B hB z hz; simp only [List.mem_cons, List.not_mem_nil, or_false] at hB; subst hB; exact hd z hz))
      | ((with_reducible refine is_move ?_); first | refine WL.y H (Y.move rfl) (by decide) ?_)
      | ((with_reducible refine is_fld ?_); first | refine WL.y H (Y.fld rfl) (by decide) ?_)
      | ((with_reducible refine is_load ?_); first | refine WL.y H (Y.loadX rfl (by repeat' (first | exact List.mem_cons_self .. | apply List.mem_cons_of_mem)) rfl) (by decide) ?_ | refine WL.y H (Y.loadXN rfl (by repeat' (first | exact List.mem_cons_self .. | apply List.mem_cons_of_mem)) rfl rfl) (by decide) ?_)
      | ((with_reducible refine is_idx ?_); first | refine WL.y H (Y.idx rfl rfl (by first | omega | (simp only [List.length_cons, List.length_nil]; done) | (simp only [List.length_cons, List.length_nil]; omega)) (by first | omega | (simp only [List.length_cons, List.length_nil]; done) | (simp only [List.length_cons, List.length_nil]; omega))) (by decide) ?_)
      | ((with_reducible refine is_eql ?_); first | refine WL.y H ((Y.eql rfl rfl).boolT (by first | omega | (simp only [List.length_cons, List.length_nil]; done) | (simp only [List.length_cons, List.length_nil]; omega))) (by decide) ?_ | refine WL.y H ((Y.eql rfl rfl).boolF (by first | omega | (simp only [List.length_cons, List.length_nil]; done) | (simp only [List.length_cons, List.length_nil]; omega))) (by decide) ?_ | (refine WL.cmp H (Y.eql rfl rfl) (by decide) ?_ ?_ <;> intro hcmp))
      | ((with_reducible refine is_box ?_); first | (refine WL.boxN H rfl (by decide) ?_; intro _ w H _ _ _) | (refine WL.box1 H rfl rfl (by decide) ?_; intro _ w H _ _ _)))
    exact AtQ.r0' ⟨rfl, s1, .cons st1 (.nil _), hi1, H.chg, fun z hz => by rcases hf1 z hz with h | h; exact .inl h; exact .inr (by omega)⟩
  | _ =>
    intro t s w hok he ht hi hd
    obtain ⟨hl, hk, _, _⟩ := enc_leaf he (fun _ _ h => by cases h)
    have hk1 : t.k ≠ 1 := by rw [er_eq] at he; simp only [Tm.enc, S47.mk.injEq] at he; omega
    refine Fn.body (N := 26) Try.func66 rfl rfl rfl rfl rfl ?_
    have H : SH w (I s).ft w [] [I s, tA t] := SH.start _ _ _ (by intro A hA; simp only [List.mem_cons, List.not_mem_nil, or_false] at hA; rcases hA with rfl | rfl; exact hi; exact ht)
    repeat' (first
      | (with_reducible refine WC.seq ?_)
      | (with_reducible refine WC.reg ?_)
      | (with_reducible refine WC.skip ?_)
      | (with_reducible refine WC.ret ?_)
      | ((with_reducible refine is_cond ?_); first | refine WC.ctrue rfl ?_ | refine WC.cfalse rfl ?_ | (refine WC.cbool rfl ?_ ?_ <;> intro hcnd))
      | (with_reducible refine WL.nilK ?_)
      | (with_reducible refine WL.nil ?_)
      | (with_reducible refine AtQ.then_norm ?_)
      | (with_reducible refine AtQ.then_ret ?_)
      | (with_reducible refine AtQ.out_ret ?_)
      | ((with_reducible refine is_move ?_); first | refine WL.y H (Y.move rfl) (by decide) ?_)
      | ((with_reducible refine is_fld ?_); first | refine WL.y H (Y.fld rfl) (by decide) ?_)
      | ((with_reducible refine is_load ?_); first | refine WL.y H (Y.loadX rfl (by repeat' (first | exact List.mem_cons_self .. | apply List.mem_cons_of_mem)) rfl) (by decide) ?_ | refine WL.y H (Y.loadXN rfl (by repeat' (first | exact List.mem_cons_self .. | apply List.mem_cons_of_mem)) rfl rfl) (by decide) ?_)
      | ((with_reducible refine is_idx ?_); first | refine WL.y H (Y.idx rfl rfl (by first | omega | (simp only [List.length_cons, List.length_nil]; done) | (simp only [List.length_cons, List.length_nil]; omega)) (by first | omega | (simp only [List.length_cons, List.length_nil]; done) | (simp only [List.length_cons, List.length_nil]; omega))) (by decide) ?_)
      | ((with_reducible refine is_eql ?_); first | refine WL.y H ((Y.eql rfl rfl).boolT (by first | omega | (simp only [List.length_cons, List.length_nil]; done) | (simp only [List.length_cons, List.length_nil]; omega))) (by decide) ?_ | refine WL.y H ((Y.eql rfl rfl).boolF (by first | omega | (simp only [List.length_cons, List.length_nil]; done) | (simp only [List.length_cons, List.length_nil]; omega))) (by decide) ?_ | (refine WL.cmp H (Y.eql rfl rfl) (by decide) ?_ ?_ <;> intro hcmp))
      | ((with_reducible refine is_box ?_); first | (refine WL.boxN H rfl (by decide) ?_; intro _ w H _ _ _) | (refine WL.box1 H rfl rfl (by decide) ?_; intro _ w H _ _ _)))
    exact AtQ.r0' ⟨rfl, s, .nil _, H.of (A := I s) (by repeat' (first | exact List.mem_cons_self .. | apply List.mem_cons_of_mem)), H.chg, fun z hz => .inl hz⟩
end Go.Proofs.Ytpfooiepmnaoaaa.E
