/- The engine: a region that draws its order and whose last stores write what its own loads read. -/
import Derived.Test.YtpfooiepmnaoaaaEngB
import Derived.Test.YtpfooiepmnaoaaaWAll
namespace Go.Proofs.Ytpfooiepmnaoaaa.E
open Go Go.RowKit Go.Proofs.YtpfooiepmnaoaaaW.PrintLast
set_option linter.unusedVariables false
set_option linter.unusedSimpArgs false
structure WT (P : Program) (ops : Array Oper) (N : Nat) (Q : Post) (C : World → Prop) (ds : List Nat) (fuel : Nat) (listed : Array Bool) (E : Env) (w : World) : Prop where
  go : ∀ a, Rp N a E → wpAnyLast P .any ops (lift N Q) C ds fuel listed a w
section
variable {P : Program} {ops : Array Oper} {N : Nat} {Q : Post} {E : Env} {w : World} {oi : Oper} {C : World → Prop} {ds : List Nat} {fuel : Nat} {listed : Array Bool}
theorem WC.draw2 {id : Nat} {w0 : World} {F0 : Nat → Prop} {X X1 : List (Nat × Obj)} {S S1 : List Asn} (ds : List Nat) (hm : P.follows .mixedOrders = true) (H : SH w0 F0 w X S) (hX : Sel X X1) (hS : Sel S S1) (k : ∀ w', SH w0 F0 w' X S → w'.heap.size = w.heap.size → WT P ops N Q (Mm X1 S1) ds ops.size (Array.replicate ops.size false) E w') : WC P N Q (.region id ops true) E w := ⟨fun a ha =>
  wp_region_last hm ((k _ H.drew rfl).go a ha)⟩
theorem WT.take (i : Nat) {d : Nat} {v : Value} (hs : Region.noSelect ops = true) (hQ : ∀ c E w, ¬ Q (.panic c) E w) (hC : C w) (hi : ops[i]? = some oi) (hd : oi.dst = some d) (hN : d < N) {bb : Bool} (hW : Wd ops N E oi bb) (hbb : bb = true) (hy : Yld P N E C oi v)
    (hf : (Region.free .any ops listed i && (Region.ready .any ops listed).contains i && Region.closedB .any ops listed && Region.lastB .any ops listed ds i) = true)
    (h : WT P ops N Q C ds fuel (listed.setIfInBounds i true) ((d, v) :: E) w) : WT P ops N Q C ds (fuel + 1) listed E w := ⟨fun a ha => by
  subst hbb
  simp only [Bool.and_eq_true] at hf
  obtain ⟨⟨⟨h1, h2⟩, h3⟩, h4⟩ := hf
  refine wpAnyLast_take hi hs h1 h2 h3 h4 (fun c a w ⟨E', _, hq⟩ => absurd hq (hQ _ _ _)) (.inl ⟨hW a ha, hy a ha⟩) hC ?_
  rw [hd]
  exact h.go _ (ha.put hN _)⟩
theorem WT.pass (i : Nat) {d : Nat} (hs : Region.noSelect ops = true) (hQ : ∀ c E w, ¬ Q (.panic c) E w) (hC : C w) (hi : ops[i]? = some oi) (hd : oi.dst = some d) (hN : d < N) {bb : Bool} (hW : Wd ops N E oi bb) (hbb : bb = false)
    (hf : (Region.free .any ops listed i && (Region.ready .any ops listed).contains i && Region.closedB .any ops listed && Region.lastB .any ops listed ds i) = true)
    (h : WT P ops N Q C ds fuel (listed.setIfInBounds i true) ((d, undef) :: E) w) : WT P ops N Q C ds (fuel + 1) listed E w := ⟨fun a ha => by
  subst hbb
  simp only [Bool.and_eq_true] at hf
  obtain ⟨⟨⟨h1, h2⟩, h3⟩, h4⟩ := hf
  refine wpAnyLast_take hi hs h1 h2 h3 h4 (fun c a w ⟨E', _, hq⟩ => absurd hq (hQ _ _ _)) (.inr ⟨hW a ha, rfl⟩) hC ?_
  rw [hd]
  exact h.go _ (ha.put hN _)⟩
theorem wpOp_WL (i : Nat) (hi : ops[i]? = some oi) {K : Act → World → Prop} {R : Env → World → Prop} (hK : ∀ a E w, Rp N a E → R E w → K a w) (h : WL P ops N (thenQ R Q) [oi] E w) {a : Act} (ha : Rp N a E) : wpOp P ops (lift N Q) i K a w := by
  have h1 := h.go a ha
  unfold wpList at h1
  unfold wpOp
  rw [hi]
  simp only
  have hend : ∀ a' w', wpList P ops (lift N (thenQ R Q)) [] a' w' → K a' w' := by
    rintro a' w' ⟨E', hr', hq'⟩
    exact hK _ _ _ hr' hq'
  have hq : ∀ e a' w', e ≠ .normal → lift N (thenQ R Q) e a' w' → lift N Q e a' w' := by
    rintro e a' w' hne ⟨E', hr', hq'⟩
    cases e with
    | normal => exact absurd rfl hne
    | _ => exact ⟨E', hr', hq'⟩
  split at h1
  · rename_i hw
    rw [if_pos hw]
    rcases h1 with h1 | ⟨h1, a0, w1, h2⟩
    · refine .inl ?_
      unfold Oper.wp at h1 ⊢
      generalize (execOp a.eval oi).run P w = r at *
      cases r with
      | ok n w' =>
        cases n <;> simp only [Oper.upon] at h1 ⊢ <;>
          first
            | exact hend _ _ h1
            | (refine Calls.mono h1 fun e w'' he => ?_
               cases e with
               | returned v => exact hend _ _ he
               | panicked c => exact hq _ _ _ (by simp) he
               | outgrown => exact he.elim fun a0 ⟨w1, h2⟩ => ⟨a0, w1, hq _ _ _ (by simp) h2⟩)
            | exact Rows.mono h1 (fun _ _ he => hend _ _ he)
            | exact h1
      | halt x w' =>
        cases x <;> simp only [Oper.upon] at h1 ⊢ <;> first | exact hq _ _ _ (by simp) h1 | exact h1
    · exact .inr ⟨h1, a0, w1, hq _ _ _ (by simp) h2⟩
  · rename_i hw
    rw [if_neg hw]
    exact hend _ _ h1
theorem WT.run (i : Nat) (hi : ops[i]? = some oi) (hr : (Region.ready .any ops listed == [i]) = true)
    (h : WL P ops N (thenQ (fun E w => C w ∧ WT P ops N Q C ds fuel (listed.setIfInBounds i true) E w) Q) [oi] E w) : WT P ops N Q C ds (fuel + 1) listed E w := ⟨fun a ha => by
  refine wpAnyLast_all (beq_iff_eq.1 hr) (by simp) fun j hj => ?_
  obtain rfl := List.mem_singleton.1 hj
  exact wpOp_WL j hi (fun a' E' w' hr' hq' => ⟨fun _ _ => hq'.1, hq'.2.go a' hr'⟩) h ha⟩
theorem WT.last (i : Nat) (hi : ops[i]? = some oi) (hr : (Region.ready .any ops listed == [i] && ds.contains i) = true)
    (h : WL P ops N (thenQ (fun E w => WT P ops N Q C ds fuel (listed.setIfInBounds i true) E w) Q) [oi] E w) : WT P ops N Q C ds (fuel + 1) listed E w := ⟨fun a ha => by
  rw [Bool.and_eq_true] at hr
  refine wpAnyLast_all (beq_iff_eq.1 hr.1) (by simp) fun j hj => ?_
  obtain rfl := List.mem_singleton.1 hj
  exact wpOp_WL j hi (fun a' E' w' hr' hq' => ⟨fun hn _ => absurd (by simpa using hr.2) hn, hq'.go a' hr'⟩) h ha⟩
theorem WT.done (hr : (Region.ready .any ops listed).isEmpty = true) (h : AtQ Q .normal E w) : WT P ops N Q C ds fuel listed E w := ⟨fun a ha =>
  wpAnyLast_done (by simpa using hr) ⟨E, ha, h.ok⟩ fuel⟩
/-- Two may come up that are run: both orders. -/
theorem WR.two (i j : Nat) {oj : Oper} (hi : ops[i]? = some oi) (hj : ops[j]? = some oj) (hr : (Region.ready .any ops listed == [i, j]) = true)
    (h1 : WL P ops N (thenQ (fun E w => C w ∧ WR P ops N Q C fuel (listed.setIfInBounds i true) E w) Q) [oi] E w) (h2 : WL P ops N (thenQ (fun E w => C w ∧ WR P ops N Q C fuel (listed.setIfInBounds j true) E w) Q) [oj] E w) : WR P ops N Q C (fuel + 1) listed E w := ⟨fun hC a ha => by
  refine wpAnyH_all (beq_iff_eq.1 hr) (by simp) fun k hk => ?_
  rcases List.mem_cons.1 hk with rfl | hk
  · exact wpOp_WL k hi (fun a' E' w' hr' hq' => ⟨hq'.1, hq'.2.go hq'.1 a' hr'⟩) h1 ha
  · obtain rfl := List.mem_singleton.1 hk
    exact wpOp_WL k hj (fun a' E' w' hr' hq' => ⟨hq'.1, hq'.2.go hq'.1 a' hr'⟩) h2 ha⟩
theorem WC.weak {E' : Env} {Q : Post} {c : Code} (hs : Sub E' E) (h : WC P N Q c E' w) : WC P N Q c E w := ⟨fun a ha => h.go a (ha.sub hs)⟩
/-- A midpoint: what follows is walked once, from what all ways there have in common. -/
theorem WC.mid {σ : Type} (env : σ → Env) (inv : σ → World → Prop) {c c2 : Code} (h1 : WC P N (thenQ (fun E w => ∃ s, Sub (env s) E ∧ inv s w) Q) c E w) (h2 : ∀ s w, inv s w → WC P N Q c2 (env s) w) : WC P N (thenQ (fun E w => WC P N Q c2 E w) Q) c E w := ⟨fun a ha =>
  wp_mono (h1.go a ha) fun e a' w' ⟨E', hr, hq⟩ => by
    cases e with
    | normal =>
      obtain ⟨s, hs, hi⟩ := hq
      exact ⟨E', hr, (h2 s w' hi).weak hs⟩
    | _ => exact ⟨E', hr, hq⟩⟩
end
end Go.Proofs.Ytpfooiepmnaoaaa.E
