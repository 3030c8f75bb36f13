/- orderedVars: the program's row of variables in their order. -/
import Derived.Test.YtpfooiepmnaoaaaEngO
namespace Go.Proofs.Ytpfooiepmnaoaaa.E
open Go Go.RowKit Go.Proofs.Ytpfooiepmnaoaaa.X Go.Proofs.YtpfooiepmnaoaaaW.PrintWords Go.Proofs.Ytpfooiepmnaoaaa.Base
set_option linter.unusedVariables false
set_option linter.unusedSimpArgs false
theorem nodup_len : ∀ (n : Nat) (l : List Int), l.Nodup → (∀ v ∈ l, 0 ≤ v ∧ v < n) → l.length ≤ n
  | 0, l, _, h => by
    cases l with
    | nil => simp
    | cons v r => have := h v (by simp); omega
  | n + 1, l, hn, h => by
    by_cases hm : (n : Int) ∈ l
    · have h1 := nodup_len n (l.erase n) (hn.erase _) (fun v hv => by
        have h2 := (hn.mem_erase_iff).1 hv
        have h3 := h v h2.2
        have := h2.1
        omega)
      rw [List.length_erase_of_mem hm] at h1
      omega
    · have := nodup_len n l hn (fun v hv => by
        have h3 := h v hv
        have : v ≠ n := fun e => hm (e ▸ hv)
        omega)
      omega
theorem addVar_nodup {l : List Int} (h : l.Nodup) (v : Int) : (addVar l v).Nodup := by
  unfold addVar
  split
  · exact h
  · rename_i hv
    rw [List.nodup_append]
    exact ⟨h, by simp, fun a ha b hb e => hv (by rw [List.mem_singleton.1 hb] at e; exact e ▸ ha)⟩
theorem mGet_put (k j : Int) (u : Value) : ∀ es : List (Int × Value), mGet j (mPut k u es) = if j = k then some u else mGet j es
  | [] => by simp only [mPut, mGet]
  | (i, v) :: r => by
    rw [mPut]
    by_cases h : k = i
    · subst h
      rw [if_pos rfl, mGet, mGet]
      split <;> rfl
    · rw [if_neg h, mGet, mGet, mGet_put k j u r]
      by_cases h1 : j = i
      · subst h1; rw [if_pos rfl, if_neg (Ne.symm h), if_pos rfl]
      · rw [if_neg h1, if_neg h1]
structure OVs where
  l : List Int
  es : List (Int × Value)
  b : Nat
  c : Nat
  pad : List Value
structure OVs.Ok (s : OVs) : Prop where
  nd : s.l.Nodup
  rg : ∀ v ∈ s.l, 0 ≤ v ∧ v ≤ 100000
  get : ∀ v, mGet v s.es = if v ∈ s.l then some (.bool true) else none
  len : (ic s.l ++ s.pad).length = s.c * 1
/-- What orderedVars' closure has in hand. -/
def ovA (bm mb bo : Nat) (s : OVs) : Asn where
  ft k := k = bm ∨ k = mb ∨ k = bo ∨ k = s.b
  hold w := [bm, mb, bo, s.b].Nodup ∧ w.heap[bm]? = some (.cells [.map (some mb)].toArray 103 (0, 0)) ∧ w.heap[mb]? = some (mObj s.es) ∧ w.heap[bo]? = some (.cells [.slice (some ⟨s.b, 0, none⟩) s.l.length s.c].toArray 29 (0, 0)) ∧ w.heap[s.b]? = some (.cells (ic s.l ++ s.pad).toArray 3 (0, 0)) ∧ s.Ok
  fr w w' h hh := by rw [h bm (.inl rfl), h mb (.inr (.inl rfl)), h bo (.inr (.inr (.inl rfl))), h s.b (.inr (.inr (.inr rfl)))]; exact hh
  lt w h k hk := by
    obtain ⟨_, h1, h2, h3, h4, _⟩ := h
    rcases hk with rfl | rfl | rfl | rfl
    · exact (Array.getElem?_eq_some_iff.1 h1).1
    · exact (Array.getElem?_eq_some_iff.1 h2).1
    · exact (Array.getElem?_eq_some_iff.1 h3).1
    · exact (Array.getElem?_eq_some_iff.1 h4).1
theorem ovA_reads {bm mb bo : Nat} {s : OVs} : (ovA bm mb bo s).reads bo 0 (.slice (some ⟨s.b, 0, none⟩) s.l.length s.c) := fun w h => by
  obtain ⟨_, _, _, h3, _, _⟩ := h
  simp [World.cell?, h3]
theorem SH.startX {X : List (Nat × Obj)} (w : World) (F0 : Nat → Prop) (h : ∀ p ∈ X, w.heap[p.1]? = some p.2 ∧ F0 p.1) (hn : (X.map (·.1)).Nodup) : SH w F0 w X [] :=
  ⟨Chg.refl _ _, fun p hp => .inr (h p hp).2, hn, ⟨fun p hp => (h p hp).1, fun A hA => by cases hA⟩, fun A hA => by cases hA⟩
set_option maxRecDepth 100000 in
set_option maxHeartbeats 4000000 in
theorem impl_orderedVars_clo (bm mb bo : Nat) : Clo 112 [.pointer (some ⟨bm, 0, none⟩), .pointer (some ⟨bo, 0, none⟩)] (ovA bm mb bo) (fun s v s' => s'.l = addVar s.l v) := by
  refine ⟨fun s w v hi h0 h1 => ?_⟩
  obtain ⟨hnd, e1, e2, e3, e4, hok⟩ := hi
  refine Fn.body (N := 14) Try.func112 rfl rfl rfl rfl rfl ?_
  have H : SH w (ovA bm mb bo s).ft w [(bm, .cells [.map (some mb)].toArray 103 (0, 0)), (mb, mObj s.es), (bo, .cells [.slice (some ⟨s.b, 0, none⟩) s.l.length s.c].toArray 29 (0, 0)), (s.b, .cells (ic s.l ++ s.pad).toArray 3 (0, 0))] [] := SH.startX _ _ (by
    intro p hp
    simp only [List.mem_cons, List.not_mem_nil, or_false] at hp
    rcases hp with rfl | rfl | rfl | rfl
    · exact ⟨e1, .inl rfl⟩
    · exact ⟨e2, .inr (.inl rfl)⟩
    · exact ⟨e3, .inr (.inr (.inl rfl))⟩
    · exact ⟨e4, .inr (.inr (.inr rfl))⟩) hnd
  have hln := nodup_len 100001 s.l hok.nd (fun v hv => by have := hok.rg v hv; omega)
  have hg := hok.get v
  by_cases hv : v ∈ s.l
  · rw [if_pos hv] at hg
    repeat' (first
      | (with_reducible refine WC.seq ?_)
      | (with_reducible refine WC.reg ?_)
      | (with_reducible refine WC.skip ?_)
      | (with_reducible refine WC.ret ?_)
      | ((with_reducible refine is_cond ?_); first | refine WC.ctrue rfl ?_ | refine WC.cfalse rfl ?_ | (refine WC.cbool rfl ?_ ?_ <;> intro hcnd))
      | (with_reducible refine WL.nilK ?_)
      | (with_reducible refine WL.nil ?_)
      | (with_reducible refine AtQ.then_norm ?_)
      | (with_reducible refine AtQ.then_ret ?_)
      | (with_reducible refine AtQ.out_ret ?_)
      | ((with_reducible refine is_lookup ?_); refine WL.lookup H rfl rfl (by repeat' (first | exact List.mem_cons_self .. | apply List.mem_cons_of_mem)) (by decide) ?_; rw [hg]; simp only [Option.getD_some])
      | ((with_reducible refine is_move ?_); first | refine WL.y H (Y.move rfl) (by decide) ?_)
      | ((with_reducible refine is_load ?_); first | refine WL.y H (Y.loadX rfl (by repeat' (first | exact List.mem_cons_self .. | apply List.mem_cons_of_mem)) rfl) (by decide) ?_ | refine WL.y H (Y.loadXN rfl (by repeat' (first | exact List.mem_cons_self .. | apply List.mem_cons_of_mem)) rfl rfl) (by decide) ?_)
      | ((with_reducible refine is_not ?_); first | refine WL.y H (Y.not rfl) (by decide) ?_)
      | ((with_reducible refine is_store ?_); first | (refine WL.store1 H rfl rfl rfl (by repeat' (first | exact Upd.here .. | apply Upd.there)) rfl ?_; intro w H _) | (refine WL.storeN H rfl rfl rfl rfl (by repeat' (first | exact Upd.here .. | apply Upd.there)) rfl ?_; intro w H _))
      | ((with_reducible refine is_bslice ?_); refine WL.bslice H rfl rfl rfl (by decide) ?_; intro _ w H _ _ _))
    exact AtQ.r0' ⟨rfl, s, by unfold addVar; rw [if_pos hv], ⟨hnd, e1, e2, e3, e4, hok⟩, H.chg, fun k hk => .inl hk⟩
  · rw [if_neg hv] at hg
    repeat' (first
      | (with_reducible refine WC.seq ?_)
      | (with_reducible refine WC.reg ?_)
      | (with_reducible refine WC.skip ?_)
      | (with_reducible refine WC.ret ?_)
      | ((with_reducible refine is_cond ?_); first | refine WC.ctrue rfl ?_ | refine WC.cfalse rfl ?_ | (refine WC.cbool rfl ?_ ?_ <;> intro hcnd))
      | (with_reducible refine WL.nilK ?_)
      | (with_reducible refine WL.nil ?_)
      | (with_reducible refine AtQ.then_norm ?_)
      | (with_reducible refine AtQ.then_ret ?_)
      | (with_reducible refine AtQ.out_ret ?_)
      | ((with_reducible refine is_lookup ?_); refine WL.lookup H rfl rfl (by repeat' (first | exact List.mem_cons_self .. | apply List.mem_cons_of_mem)) (by decide) ?_; rw [hg]; simp only [Option.getD_none])
      | ((with_reducible refine is_mapup ?_); refine WL.mapup H rfl rfl rfl (by repeat' (first | exact Upd.here .. | apply Upd.there)) ?_; intro w H hsz)
      | ((with_reducible refine is_append ?_); have hs0 := H.chg.size; refine WL.append (xs := ic s.l) (news := ic [v]) H rfl rfl (by repeat' (first | exact Rem.here .. | apply Rem.there)) (by simp) hok.len (newsX (by repeat' (first | exact List.mem_cons_self .. | apply List.mem_cons_of_mem))) rfl rfl (by omega) (by omega) rfl (by decide) ?_; intro b' c' pad' w H hlen _ _ hbn _)
      | ((with_reducible refine is_move ?_); first | refine WL.y H (Y.move rfl) (by decide) ?_)
      | ((with_reducible refine is_load ?_); first | refine WL.y H (Y.loadX rfl (by repeat' (first | exact List.mem_cons_self .. | apply List.mem_cons_of_mem)) rfl) (by decide) ?_ | refine WL.y H (Y.loadXN rfl (by repeat' (first | exact List.mem_cons_self .. | apply List.mem_cons_of_mem)) rfl rfl) (by decide) ?_)
      | ((with_reducible refine is_not ?_); first | refine WL.y H (Y.not rfl) (by decide) ?_)
      | ((with_reducible refine is_store ?_); first | (refine WL.store1 H rfl rfl rfl (by repeat' (first | exact Upd.here .. | apply Upd.there)) rfl ?_; intro w H _) | (refine WL.storeN H rfl rfl rfl rfl (by repeat' (first | exact Upd.here .. | apply Upd.there)) rfl ?_; intro w H _))
      | ((with_reducible refine is_bslice ?_); refine WL.bslice H rfl rfl rfl (by decide) ?_; intro _ w H _ _ _))
    have hnd' : [bm, mb, bo, b'].Nodup := by
      have h := H.nd
      simp only [List.map_cons, List.map_nil, List.nodup_cons, List.mem_cons, List.not_mem_nil, or_false, not_or, not_false_eq_true, List.nodup_nil, and_true] at h ⊢
      omega
    have ha : addVar s.l v = s.l ++ [v] := by unfold addVar; rw [if_neg hv]
    refine AtQ.r0' ⟨rfl, ⟨s.l ++ [v], mPut v (.bool true) s.es, b', c', pad'⟩, ha.symm, ⟨hnd', H.blk (by repeat' (first | exact List.mem_cons_self .. | apply List.mem_cons_of_mem)), H.blk (by repeat' (first | exact List.mem_cons_self .. | apply List.mem_cons_of_mem)), ?_, ?_, ?_⟩, H.chg, ?_⟩
    · have := H.blk (b := bo) (by repeat' (first | exact List.mem_cons_self .. | apply List.mem_cons_of_mem))
      rw [this]; simp
    · have := H.blk (b := b') (List.mem_cons_self ..)
      rw [this]; simp [ic]
    · refine ⟨by simp only; rw [← ha]; exact addVar_nodup hok.nd v, ?_, ?_, by simp only; rw [show ic (s.l ++ [v]) = ic s.l ++ ic [v] from List.map_append]; exact hlen⟩
      · intro u hu
        rcases List.mem_append.1 hu with hu | hu
        · exact hok.rg u hu
        · rw [List.mem_singleton.1 hu]; exact ⟨h0, h1⟩
      · intro u
        simp only
        rw [mGet_put, hok.get u]
        by_cases e : u = v
        · subst e; simp
        · simp [e]
    · intro k hk
      rcases hk with h | h | h | h
      · exact .inl (.inl h)
      · exact .inl (.inr (.inl h))
      · exact .inl (.inr (.inr (.inl h)))
      · have h' : k = b' := h
        rcases hbn with e | e
        · exact .inl (.inr (.inr (.inr (h'.trans e))))
        · exact .inr (by omega)
theorem steps_ov {vs : List Int} {s s' : OVs} (h : Steps (fun (s : OVs) v s' => s'.l = addVar s.l v) vs s s') : s'.l = addVars s.l vs := by
  induction h with
  | nil => rfl
  | cons h _ ih => rw [ih, h]; rfl
set_option maxRecDepth 100000 in
set_option maxHeartbeats 4000000 in
theorem impl_orderedVars_ok (a : Option Addr) (c : Nat) (l : List LT) (ms : List Tm) (w0 : World) (ht : HT w0 (nod a c l)) (hs : SmL l) (hms : l.map er = ms.map Tm.enc) (hz : ∀ m ∈ ms, m.Ok ∧ m.size ≤ 5000) : Fn Try.prog 69 [sl a l.length c] w0 (RowN (ovars ms) w0) := by
  have hlen := hs.1
  have hml := terms_len hms
  refine Fn.body (N := 20) Try.func69 rfl rfl rfl rfl rfl ?_
  have H : SH w0 noF w0 [] [tA (nod a c l)] := SH.start _ _ _ (by simpa [tA] using ht)
  repeat' (first
    | (with_reducible refine WC.seq ?_)
    | (with_reducible refine WC.reg ?_)
    | (with_reducible refine WC.block ?_)
    | (with_reducible refine WC.skip ?_)
    | (with_reducible refine WC.ret ?_)
    | (with_reducible refine WC.exit ?_)
    | ((with_reducible refine is_cond ?_); first | refine WC.ctrue rfl ?_ | refine WC.cfalse rfl ?_ | (refine WC.cbool rfl ?_ ?_ <;> intro hcnd))
    | (with_reducible refine WL.nilK ?_)
    | (with_reducible refine WL.nil ?_)
    | (with_reducible refine AtQ.then_norm ?_)
    | (with_reducible refine AtQ.then_ret ?_)
    | (with_reducible refine AtQ.then_exit ?_)
    | (with_reducible refine AtQ.block_ret ?_)
    | (with_reducible refine AtQ.block_norm ?_)
    | (with_reducible refine AtQ.block_here ?_)
    | (with_reducible refine AtQ.loop_ret ?_)
    | (with_reducible refine AtQ.loop_exit ?_)
    | (with_reducible refine AtQ.out_ret ?_)
    | (with_reducible refine AtQ.out_exit ?_)
    | ((with_reducible refine AtQ.block_other ?_ ?_); · exact rfl)
    | ((with_reducible refine is_bslice ?_); refine WL.bslice H rfl rfl rfl (by decide) ?_; intro br w H hbr _ _)
    | ((with_reducible refine is_alloc ?_); have hs1 := H.chg.size; refine WL.alloc H (by decide) ?_; intro bo w H hbo _ _)
    | ((with_reducible refine is_mkmap ?_); skip; fail)
    | ((with_reducible refine is_move ?_); first | refine WL.y H (Y.move rfl) (by decide) ?_)
    | ((with_reducible refine is_assign ?_); first | refine WL.y H (Y.assign rfl) (by decide) ?_)
    | ((with_reducible refine is_load ?_); first | refine WL.y H (Y.loadX rfl (by repeat' (first | exact List.mem_cons_self .. | apply List.mem_cons_of_mem)) rfl) (by decide) ?_ | refine WL.y H (Y.loadXN rfl (by repeat' (first | exact List.mem_cons_self .. | apply List.mem_cons_of_mem)) rfl rfl) (by decide) ?_)
    | ((with_reducible refine is_idx ?_); first | refine WL.y H (Y.idx rfl rfl (by first | omega | (simp only [List.length_cons, List.length_nil]; done) | (simp only [List.length_cons, List.length_nil]; omega)) (by first | omega | (simp only [List.length_cons, List.length_nil]; done) | (simp only [List.length_cons, List.length_nil]; omega))) (by decide) ?_)
    | ((with_reducible refine is_len ?_); first | refine WL.y H (Y.lenS rfl) (by decide) ?_)
    | ((with_reducible refine is_add ?_); first | refine WL.y H (Y.add rfl rfl (by first | omega | (simp only [List.length_cons, List.length_nil]; done) | (simp only [List.length_cons, List.length_nil]; omega)) (by first | omega | (simp only [List.length_cons, List.length_nil]; done) | (simp only [List.length_cons, List.length_nil]; omega))) (by decide) ?_)
    | ((with_reducible refine is_func ?_); first | refine WL.y H (Y.func rfl) (by decide) ?_)
    | ((with_reducible refine is_lss ?_); first | refine WL.y H ((Y.lss rfl rfl).boolT (by first | omega | (simp only [List.length_cons, List.length_nil]; done) | (simp only [List.length_cons, List.length_nil]; omega))) (by decide) ?_ | refine WL.y H ((Y.lss rfl rfl).boolF (by first | omega | (simp only [List.length_cons, List.length_nil]; done) | (simp only [List.length_cons, List.length_nil]; omega))) (by decide) ?_ | (refine WL.cmp H (Y.lss rfl rfl) (by decide) ?_ ?_ <;> intro hcmp))
    | ((with_reducible refine is_alloc ?_); refine WL.alloc H (by decide) ?_; intro _ w H _ _ _)
    | ((with_reducible refine is_store ?_); first | (refine WL.store1 H rfl rfl rfl (by repeat' (first | exact Upd.here .. | apply Upd.there)) rfl ?_; intro w H _) | (refine WL.storeN H rfl rfl rfl rfl (by repeat' (first | exact Upd.here .. | apply Upd.there)) rfl ?_; intro w H _))
    | ((with_reducible refine is_bslice ?_); refine WL.bslice H rfl rfl rfl (by decide) ?_; intro _ w H _ _ _))
  have hs2 := H.chg.size
  with_reducible refine is_mkmap ?_
  refine WL.mkmap H (by decide) ?_; intro mb w H hmb _ _
  repeat' (first
    | (with_reducible refine WC.seq ?_)
    | (with_reducible refine WC.reg ?_)
    | (with_reducible refine WC.block ?_)
    | (with_reducible refine WC.skip ?_)
    | (with_reducible refine WC.ret ?_)
    | (with_reducible refine WC.exit ?_)
    | ((with_reducible refine is_cond ?_); first | refine WC.ctrue rfl ?_ | refine WC.cfalse rfl ?_ | (refine WC.cbool rfl ?_ ?_ <;> intro hcnd))
    | (with_reducible refine WL.nilK ?_)
    | (with_reducible refine WL.nil ?_)
    | (with_reducible refine AtQ.then_norm ?_)
    | (with_reducible refine AtQ.then_ret ?_)
    | (with_reducible refine AtQ.then_exit ?_)
    | (with_reducible refine AtQ.block_ret ?_)
    | (with_reducible refine AtQ.block_norm ?_)
    | (with_reducible refine AtQ.block_here ?_)
    | (with_reducible refine AtQ.loop_ret ?_)
    | (with_reducible refine AtQ.loop_exit ?_)
    | (with_reducible refine AtQ.out_ret ?_)
    | (with_reducible refine AtQ.out_exit ?_)
    | ((with_reducible refine AtQ.block_other ?_ ?_); · exact rfl)
    | ((with_reducible refine is_alloc ?_); have hs3 := H.chg.size; refine WL.alloc H (by decide) ?_; intro bm w H hbm hblt _)
    | ((with_reducible refine is_move ?_); first | refine WL.y H (Y.move rfl) (by decide) ?_)
    | ((with_reducible refine is_assign ?_); first | refine WL.y H (Y.assign rfl) (by decide) ?_)
    | ((with_reducible refine is_load ?_); first | refine WL.y H (Y.loadX rfl (by repeat' (first | exact List.mem_cons_self .. | apply List.mem_cons_of_mem)) rfl) (by decide) ?_ | refine WL.y H (Y.loadXN rfl (by repeat' (first | exact List.mem_cons_self .. | apply List.mem_cons_of_mem)) rfl rfl) (by decide) ?_)
    | ((with_reducible refine is_idx ?_); first | refine WL.y H (Y.idx rfl rfl (by first | omega | (simp only [List.length_cons, List.length_nil]; done) | (simp only [List.length_cons, List.length_nil]; omega)) (by first | omega | (simp only [List.length_cons, List.length_nil]; done) | (simp only [List.length_cons, List.length_nil]; omega))) (by decide) ?_)
    | ((with_reducible refine is_len ?_); first | refine WL.y H (Y.lenS rfl) (by decide) ?_)
    | ((with_reducible refine is_add ?_); first | refine WL.y H (Y.add rfl rfl (by first | omega | (simp only [List.length_cons, List.length_nil]; done) | (simp only [List.length_cons, List.length_nil]; omega)) (by first | omega | (simp only [List.length_cons, List.length_nil]; done) | (simp only [List.length_cons, List.length_nil]; omega))) (by decide) ?_)
    | ((with_reducible refine is_func ?_); first | refine WL.y H (Y.func rfl) (by decide) ?_)
    | ((with_reducible refine is_lss ?_); first | refine WL.y H ((Y.lss rfl rfl).boolT (by first | omega | (simp only [List.length_cons, List.length_nil]; done) | (simp only [List.length_cons, List.length_nil]; omega))) (by decide) ?_ | refine WL.y H ((Y.lss rfl rfl).boolF (by first | omega | (simp only [List.length_cons, List.length_nil]; done) | (simp only [List.length_cons, List.length_nil]; omega))) (by decide) ?_ | (refine WL.cmp H (Y.lss rfl rfl) (by decide) ?_ ?_ <;> intro hcmp))
    | ((with_reducible refine is_alloc ?_); refine WL.alloc H (by decide) ?_; intro _ w H _ _ _)
    | ((with_reducible refine is_store ?_); first | (refine WL.store1 H rfl rfl rfl (by repeat' (first | exact Upd.here .. | apply Upd.there)) rfl ?_; intro w H _) | (refine WL.storeN H rfl rfl rfl rfl (by repeat' (first | exact Upd.here .. | apply Upd.there)) rfl ?_; intro w H _))
    | ((with_reducible refine is_bslice ?_); refine WL.bslice H rfl rfl rfl (by decide) ?_; intro _ w H _ _ _))
  have hnd : [bm, mb, bo, br].Nodup := by
    have h := H.nd
    simp only [List.map_cons, List.map_nil, List.nodup_cons, List.mem_cons, List.not_mem_nil, or_false, not_or, not_false_eq_true, List.nodup_nil, and_true] at h ⊢
    omega
  have hnew : ∀ z, (ovA bm mb bo ⟨[], [], br, 0, []⟩).ft z → w0.heap.size ≤ z := by
    rintro z (h | h | h | h)
    · omega
    · omega
    · omega
    · have : z = br := h; omega
  have H := (H.dropX (List.nil_sublist _)).add (ovA bm mb bo ⟨[], [], br, 0, []⟩) ⟨hnd, H.blk (by repeat' (first | exact List.mem_cons_self .. | apply List.mem_cons_of_mem)), H.blk (by repeat' (first | exact List.mem_cons_self .. | apply List.mem_cons_of_mem)), H.blk (by repeat' (first | exact List.mem_cons_self .. | apply List.mem_cons_of_mem)), H.blk (by repeat' (first | exact List.mem_cons_self .. | apply List.mem_cons_of_mem)), ⟨List.nodup_nil, by simp, by simp [mGet], rfl⟩⟩ (by simp)
  refine WC.loop (σ := Nat × OVs) (fun s => [(3, .pointer (some ⟨bo, 0, none⟩)), (4, .pointer (some ⟨bm, 0, none⟩)), (9, sl a l.length c), (10, .int .i64 l.length), (11, .int .i64 (s.1 : Nat))])
    (fun s w' => s.1 ≤ l.length ∧ s.2.l = ovars (ms.take s.1) ∧ (∀ z, (ovA bm mb bo s.2).ft z → w0.heap.size ≤ z) ∧ SH w0 noF w' [] [ovA bm mb bo s.2, tA (nod a c l)])
    (fun s => l.length - s.1) (0, ⟨[], [], br, 0, []⟩) (by repeat' (first | exact Sub.nil | refine Sub.cons rfl ?_)) ⟨Nat.zero_le _, rfl, hnew, H⟩ (fun s w hinv => ?_)
  obtain ⟨k, st⟩ := s
  obtain ⟨hk, hl, hge, H⟩ := hinv
  simp only at hk hl hge H
  by_cases hlt : k < l.length
  · obtain ⟨tb, tto, cs, T, fz, ha, _, _⟩ := (H.ht (nod a c l) (by repeat' (first | exact List.mem_cons_self .. | apply List.mem_cons_of_mem))).row (by intro e; rw [show (nod a c l).l = l from rfl] at e; rw [e] at hlt; simp at hlt)
    simp only at ha
    subst ha
    have hmk : k < ms.length := by omega
    have hzk := hz ms[k] (List.getElem_mem hmk)
    have hdis : ∀ z ∈ ft l[k], ¬ (ovA bm mb bo st).ft z := fun z hz h => kid_new ht (hge z h) (List.getElem_mem hlt) hz
    have hdis2 : ∀ z, (tA (nod (some ⟨tb, tto, none⟩) c l)).ft z → ¬ (ovA bm mb bo st).ft z := fun z hz h => by have := ht.lt z hz; have := hge z h; omega
    repeat' (first
      | (with_reducible refine WC.seq ?_)
      | (with_reducible refine WC.reg ?_)
      | (with_reducible refine WC.block ?_)
      | (with_reducible refine WC.skip ?_)
      | (with_reducible refine WC.ret ?_)
      | (with_reducible refine WC.exit ?_)
      | ((with_reducible refine is_cond ?_); first | refine WC.ctrue rfl ?_ | refine WC.cfalse rfl ?_ | (refine WC.cbool rfl ?_ ?_ <;> intro hcnd))
      | (with_reducible refine WL.nilK ?_)
      | (with_reducible refine WL.nil ?_)
      | (with_reducible refine AtQ.then_norm ?_)
      | (with_reducible refine AtQ.then_ret ?_)
      | (with_reducible refine AtQ.then_exit ?_)
      | (with_reducible refine AtQ.block_ret ?_)
      | (with_reducible refine AtQ.block_norm ?_)
      | (with_reducible refine AtQ.block_here ?_)
      | (with_reducible refine AtQ.loop_ret ?_)
      | (with_reducible refine AtQ.loop_exit ?_)
      | (with_reducible refine AtQ.out_ret ?_)
      | (with_reducible refine AtQ.out_exit ?_)
      | ((with_reducible refine AtQ.block_other ?_ ?_); · exact rfl)
      | ((with_reducible refine is_call ?_); have hs4 := H.chg.size; refine WL.call (vs := [tv l[k], _]) rfl (impl_eachVar_ok (impl_orderedVars_clo bm mb bo) ms[k] l[k] st _ hzk.1 (er_at hms k hlt hmk) ((H.ht (nod _ c l) (by repeat' (first | exact List.mem_cons_self .. | apply List.mem_cons_of_mem))).kid _ (List.getElem_mem hlt)) (H.of (A := ovA bm mb bo st) (by repeat' (first | exact List.mem_cons_self .. | apply List.mem_cons_of_mem))) hdis) (by decide) ?_; intro v w2 hv2; obtain ⟨e1, st2, hst, hi2, hc2, hf2⟩ := hv2; subst e1; have hl2 := steps_ov hst; have H := (H.dropX (List.nil_sublist _)).eff (A' := ovA bm mb bo st2) hc2 hi2 hf2 (fun z hz => .inr (hge z hz)) (by intro B hB z hz; rw [List.mem_singleton.1 hB] at hz; exact hdis2 z hz))
      | ((with_reducible refine is_move ?_); first | refine WL.y H (Y.move rfl) (by decide) ?_)
      | ((with_reducible refine is_assign ?_); first | refine WL.y H (Y.assign rfl) (by decide) ?_)
      | ((with_reducible refine is_load ?_); first | refine WL.y H (Y.loadX rfl (by repeat' (first | exact List.mem_cons_self .. | apply List.mem_cons_of_mem)) rfl) (by decide) ?_ | refine WL.y H (Y.loadXN rfl (by repeat' (first | exact List.mem_cons_self .. | apply List.mem_cons_of_mem)) rfl rfl) (by decide) ?_ | refine WL.y H (Y.loadSN (vs := tcs l[k]) rfl (by repeat' (first | exact List.mem_cons_self .. | apply List.mem_cons_of_mem)) (tA_readsK (i := k) l[k] rfl (List.getElem?_eq_getElem hlt)) rfl) (by decide) ?_)
      | ((with_reducible refine is_idx ?_); first | refine WL.y H (Y.idx rfl rfl (by first | omega | (simp only [List.length_cons, List.length_nil]; done) | (simp only [List.length_cons, List.length_nil]; omega)) (by first | omega | (simp only [List.length_cons, List.length_nil]; done) | (simp only [List.length_cons, List.length_nil]; omega))) (by decide) ?_)
      | ((with_reducible refine is_len ?_); first | refine WL.y H (Y.lenS rfl) (by decide) ?_)
      | ((with_reducible refine is_add ?_); first | refine WL.y H (Y.add rfl rfl (by first | omega | (simp only [List.length_cons, List.length_nil]; done) | (simp only [List.length_cons, List.length_nil]; omega)) (by first | omega | (simp only [List.length_cons, List.length_nil]; done) | (simp only [List.length_cons, List.length_nil]; omega))) (by decide) ?_)
      | ((with_reducible refine is_func ?_); first | refine WL.y H (Y.func rfl) (by decide) ?_)
      | ((with_reducible refine is_lss ?_); first | refine WL.y H ((Y.lss rfl rfl).boolT (by first | omega | (simp only [List.length_cons, List.length_nil]; done) | (simp only [List.length_cons, List.length_nil]; omega))) (by decide) ?_ | refine WL.y H ((Y.lss rfl rfl).boolF (by first | omega | (simp only [List.length_cons, List.length_nil]; done) | (simp only [List.length_cons, List.length_nil]; omega))) (by decide) ?_ | (refine WL.cmp H (Y.lss rfl rfl) (by decide) ?_ ?_ <;> intro hcmp))
      | ((with_reducible refine is_alloc ?_); refine WL.alloc H (by decide) ?_; intro _ w H _ _ _)
      | ((with_reducible refine is_store ?_); first | (refine WL.store1 H rfl rfl rfl (by repeat' (first | exact Upd.here .. | apply Upd.there)) rfl ?_; intro w H _) | (refine WL.storeN H rfl rfl rfl rfl (by repeat' (first | exact Upd.here .. | apply Upd.there)) rfl ?_; intro w H _))
      | ((with_reducible refine is_bslice ?_); refine WL.bslice H rfl rfl rfl (by decide) ?_; intro _ w H _ _ _))
    refine AtQ.loop_norm (k + 1, st2) (by repeat' (first | exact Sub.nil | refine Sub.cons rfl ?_)) ⟨hlt, ?_, ?_, H⟩ (by simp only; omega)
    · rw [hl2, hl, ovars_snoc ms k hmk]
    · intro z hz
      rcases hf2 z hz with h | h
      · exact hge z h
      · omega
  · repeat' (first
      | (with_reducible refine WC.seq ?_)
      | (with_reducible refine WC.reg ?_)
      | (with_reducible refine WC.block ?_)
      | (with_reducible refine WC.skip ?_)
      | (with_reducible refine WC.ret ?_)
      | (with_reducible refine WC.exit ?_)
      | ((with_reducible refine is_cond ?_); first | refine WC.ctrue rfl ?_ | refine WC.cfalse rfl ?_ | (refine WC.cbool rfl ?_ ?_ <;> intro hcnd))
      | (with_reducible refine WL.nilK ?_)
      | (with_reducible refine WL.nil ?_)
      | (with_reducible refine AtQ.then_norm ?_)
      | (with_reducible refine AtQ.then_ret ?_)
      | (with_reducible refine AtQ.then_exit ?_)
      | (with_reducible refine AtQ.block_ret ?_)
      | (with_reducible refine AtQ.block_norm ?_)
      | (with_reducible refine AtQ.block_here ?_)
      | (with_reducible refine AtQ.loop_ret ?_)
      | (with_reducible refine AtQ.loop_exit ?_)
      | (with_reducible refine AtQ.out_ret ?_)
      | (with_reducible refine AtQ.out_exit ?_)
      | ((with_reducible refine AtQ.block_other ?_ ?_); · exact rfl)
      | ((with_reducible refine is_move ?_); first | refine WL.y H (Y.move rfl) (by decide) ?_)
      | ((with_reducible refine is_assign ?_); first | refine WL.y H (Y.assign rfl) (by decide) ?_)
      | ((with_reducible refine is_load ?_); first | refine WL.y H (Y.loadX rfl (by repeat' (first | exact List.mem_cons_self .. | apply List.mem_cons_of_mem)) rfl) (by decide) ?_ | refine WL.y H (Y.loadXN rfl (by repeat' (first | exact List.mem_cons_self .. | apply List.mem_cons_of_mem)) rfl rfl) (by decide) ?_ | refine WL.y H (Y.loadS rfl (by repeat' (first | exact List.mem_cons_self .. | apply List.mem_cons_of_mem)) ovA_reads) (by decide) ?_)
      | ((with_reducible refine is_idx ?_); first | refine WL.y H (Y.idx rfl rfl (by first | omega | (simp only [List.length_cons, List.length_nil]; done) | (simp only [List.length_cons, List.length_nil]; omega)) (by first | omega | (simp only [List.length_cons, List.length_nil]; done) | (simp only [List.length_cons, List.length_nil]; omega))) (by decide) ?_)
      | ((with_reducible refine is_len ?_); first | refine WL.y H (Y.lenS rfl) (by decide) ?_)
      | ((with_reducible refine is_add ?_); first | refine WL.y H (Y.add rfl rfl (by first | omega | (simp only [List.length_cons, List.length_nil]; done) | (simp only [List.length_cons, List.length_nil]; omega)) (by first | omega | (simp only [List.length_cons, List.length_nil]; done) | (simp only [List.length_cons, List.length_nil]; omega))) (by decide) ?_)
      | ((with_reducible refine is_func ?_); first | refine WL.y H (Y.func rfl) (by decide) ?_)
      | ((with_reducible refine is_lss ?_); first | refine WL.y H ((Y.lss rfl rfl).boolT (by first | omega | (simp only [List.length_cons, List.length_nil]; done) | (simp only [List.length_cons, List.length_nil]; omega))) (by decide) ?_ | refine WL.y H ((Y.lss rfl rfl).boolF (by first | omega | (simp only [List.length_cons, List.length_nil]; done) | (simp only [List.length_cons, List.length_nil]; omega))) (by decide) ?_ | (refine WL.cmp H (Y.lss rfl rfl) (by decide) ?_ ?_ <;> intro hcmp))
      | ((with_reducible refine is_alloc ?_); refine WL.alloc H (by decide) ?_; intro _ w H _ _ _)
      | ((with_reducible refine is_store ?_); first | (refine WL.store1 H rfl rfl rfl (by repeat' (first | exact Upd.here .. | apply Upd.there)) rfl ?_; intro w H _) | (refine WL.storeN H rfl rfl rfl rfl (by repeat' (first | exact Upd.here .. | apply Upd.there)) rfl ?_; intro w H _))
      | ((with_reducible refine is_bslice ?_); refine WL.bslice H rfl rfl rfl (by decide) ?_; intro _ w H _ _ _))
    have e : ms.take k = ms := List.take_of_length_le (by omega)
    rw [e] at hl
    obtain ⟨_, _, _, _, hrow, hok⟩ := H.of (A := ovA bm mb bo st) (by repeat' (first | exact List.mem_cons_self .. | apply List.mem_cons_of_mem))
    rw [← hl]
    exact AtQ.r1 (resVal.t rfl) ⟨st.b, st.c, st.pad, rfl, ⟨hrow, hok.len⟩, H.chg, hge _ (.inr (.inr (.inr rfl)))⟩
theorem OrderedVars_impl_ok (a : Option Addr) (c : Nat) (l : List LT) (ms : List Tm) (w0 : World) (ht : HT w0 (nod a c l)) (hs : SmL l) (hms : l.map er = ms.map Tm.enc) (hz : ∀ m ∈ ms, m.Ok ∧ m.size ≤ 5000) : Fn Try.prog 21 [sl a l.length c] w0 (RowN (ovars ms) w0) := by
  have hv : AllTOk (l.map er) := by rw [hms]; intro x hx; obtain ⟨m, hm, rfl⟩ := List.mem_map.1 hx; exact (TOk_enc (hz m hm).1).2 (hz m hm).2
  refine Fn.body (N := 8) Try.func21 rfl rfl rfl rfl rfl ?_
  have H : SH w0 noF w0 [] [tA (nod a c l)] := SH.start _ _ _ (by simpa [tA] using ht)
  repeat' (first
    | (with_reducible refine WC.seq ?_)
    | (with_reducible refine WC.reg ?_)
    | (with_reducible refine WC.skip ?_)
    | (with_reducible refine WC.ret ?_)
    | ((with_reducible refine is_cond ?_); first | refine WC.ctrue rfl ?_ | refine WC.cfalse rfl ?_ | (refine WC.cbool rfl ?_ ?_ <;> intro hcnd))
    | (with_reducible refine WL.nilK ?_)
    | (with_reducible refine WL.nil ?_)
    | (with_reducible refine AtQ.then_norm ?_)
    | (with_reducible refine AtQ.then_ret ?_)
    | (with_reducible refine AtQ.out_ret ?_)
    | ((with_reducible refine is_call (f := 65) ?_); refine WL.call (vs := [sl a l.length c]) rfl (impl_termsOk_fn a c l _ (H.ht _ (by repeat' (first | exact List.mem_cons_self .. | apply List.mem_cons_of_mem))) hs) (by decide) ?_; intro v w hv2; obtain ⟨e1, hc1⟩ := hv2; rw [decide_eq_true hv] at e1; subst e1; have hs1 := hc1.size; have H := H.call hc1)
    | ((with_reducible refine is_call (f := 69) ?_); refine WL.call (vs := [sl a l.length c]) rfl (impl_orderedVars_ok a c l ms _ (H.ht _ (by repeat' (first | exact List.mem_cons_self .. | apply List.mem_cons_of_mem))) hs hms hz) (by decide) ?_; intro v w hv2; obtain ⟨b', c', pad', e1, ho2, hc2, hb2⟩ := hv2; subst e1; have H := H.call hc2)
    | ((with_reducible refine is_move ?_); first | refine WL.y H (Y.move rfl) (by decide) ?_)
    | ((with_reducible refine is_assign ?_); first | refine WL.y H (Y.assign rfl) (by decide) ?_)
    | ((with_reducible refine is_not ?_); first | refine WL.y H (Y.not rfl) (by decide) ?_))
  exact AtQ.r1 (resVal.t rfl) ⟨b', c', pad', rfl, ho2, H.chg, by omega⟩
theorem OrderedVars_impl_no (a : Option Addr) (c : Nat) (l : List LT) (w0 : World) (ht : HT w0 (nod a c l)) (hs : SmL l) (hv : ¬ AllTOk (l.map er)) : Fn Try.prog 21 [sl a l.length c] w0 fun u w' => u = .slice none 0 0 ∧ Chg noF w0 w' := by
  refine Fn.body (N := 8) Try.func21 rfl rfl rfl rfl rfl ?_
  have H : SH w0 noF w0 [] [tA (nod a c l)] := SH.start _ _ _ (by simpa [tA] using ht)
  repeat' (first
    | (with_reducible refine WC.seq ?_)
    | (with_reducible refine WC.reg ?_)
    | (with_reducible refine WC.skip ?_)
    | (with_reducible refine WC.ret ?_)
    | ((with_reducible refine is_cond ?_); first | refine WC.ctrue rfl ?_ | refine WC.cfalse rfl ?_ | (refine WC.cbool rfl ?_ ?_ <;> intro hcnd))
    | (with_reducible refine WL.nilK ?_)
    | (with_reducible refine WL.nil ?_)
    | (with_reducible refine AtQ.then_norm ?_)
    | (with_reducible refine AtQ.then_ret ?_)
    | (with_reducible refine AtQ.out_ret ?_)
    | ((with_reducible refine is_call (f := 65) ?_); refine WL.call (vs := [sl a l.length c]) rfl (impl_termsOk_fn a c l _ (H.ht _ (by repeat' (first | exact List.mem_cons_self .. | apply List.mem_cons_of_mem))) hs) (by decide) ?_; intro v w hv2; obtain ⟨e1, hc1⟩ := hv2; rw [decide_eq_false hv] at e1; subst e1; have hs1 := hc1.size; have H := H.call hc1)
    | ((with_reducible refine is_move ?_); first | refine WL.y H (Y.move rfl) (by decide) ?_)
    | ((with_reducible refine is_assign ?_); first | refine WL.y H (Y.assign rfl) (by decide) ?_)
    | ((with_reducible refine is_not ?_); first | refine WL.y H (Y.not rfl) (by decide) ?_))
  exact AtQ.r1 (resVal.t rfl) ⟨rfl, H.chg⟩
end Go.Proofs.Ytpfooiepmnaoaaa.E
