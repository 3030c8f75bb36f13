/- The reference's copy of a term. -/
import Derived.Test.YtpfooiepmnaoaaaEngR
import Derived.Test.YtpfooiepmnaoaaaEngW
namespace Go.Proofs.Ytpfooiepmnaoaaa.E
open Go Go.RowKit Go.Proofs.Ytpfooiepmnaoaaa.X
set_option linter.unusedVariables false
set_option linter.unusedSimpArgs false
/-- A copy, whatever the tree. -/
def Cp (e : ITm) (w : World) (u : Value) (w' : World) : Prop := ∃ t', u = tv t' ∧ er t' = e ∧ Own w.heap.size w' t' ∧ Chg noF w w'
theorem Own.node {B : Nat} {w : World} {a : Option Addr} {c : Nat} {l : List LT} (h : Own B w (nod a c l)) (k i : Int) (s : ByteArray) : Own B w ⟨k, i, s, a, c, l⟩ := h.kis k i s
set_option maxRecDepth 100000 in
set_option maxHeartbeats 4000000 in
theorem spec_l02Copy_ok : ∀ (t : LT) (w0 : World), HT w0 t → Len t → Fn Try.prog 83 [tv t] w0 (Cp (er t) w0) := by
  intro t
  induction t using indT with
  | h t ih =>
  obtain ⟨tk, ti, tx, ta, tc, tl⟩ := t
  simp only at ih
  intro w0 ht hl
  obtain ⟨_, hl1, hl2⟩ := hl
  simp only at hl1 hl2
  refine Fn.body (N := 29) Try.func83 rfl rfl rfl rfl rfl ?_
  have H : SH w0 noF w0 [] [tA ⟨tk, ti, tx, ta, tc, tl⟩] := SH.start _ _ _ (by simpa [tA] using ht)
  repeat' (first
    | (with_reducible refine WC.seq ?_)
    | (with_reducible refine WC.reg ?_)
    | (with_reducible refine WC.block ?_)
    | (with_reducible refine WC.skip ?_)
    | (with_reducible refine WC.ret ?_)
    | (with_reducible refine WC.exit ?_)
    | ((with_reducible refine is_cond ?_); first | refine WC.ctrue rfl ?_ | refine WC.cfalse rfl ?_ | (refine WC.cbool rfl ?_ ?_ <;> intro hcnd))
    | (with_reducible refine WL.nilK ?_)
    | (with_reducible refine WL.nil ?_)
    | (with_reducible refine AtQ.then_norm ?_)
    | (with_reducible refine AtQ.then_ret ?_)
    | (with_reducible refine AtQ.then_exit ?_)
    | (with_reducible refine AtQ.block_ret ?_)
    | (with_reducible refine AtQ.block_norm ?_)
    | (with_reducible refine AtQ.block_here ?_)
    | (with_reducible refine AtQ.loop_ret ?_)
    | (with_reducible refine AtQ.loop_exit ?_)
    | (with_reducible refine AtQ.out_ret ?_)
    | (with_reducible refine AtQ.out_exit ?_)
    | ((with_reducible refine AtQ.block_other ?_ ?_); · exact rfl)
    | ((with_reducible refine is_box ?_); refine WL.boxN H rfl (by decide) ?_; intro ba w H hba _ _)
    | ((with_reducible refine is_move ?_); first | refine WL.y H (Y.move rfl) (by decide) ?_)
    | ((with_reducible refine is_fld ?_); first | refine WL.y H (Y.fld rfl) (by decide) ?_)
    | ((with_reducible refine is_load ?_); first | refine WL.y H (Y.loadX rfl (by repeat' (first | exact List.mem_cons_self .. | apply List.mem_cons_of_mem)) rfl) (by decide) ?_ | refine WL.y H (Y.loadXN rfl (by repeat' (first | exact List.mem_cons_self .. | apply List.mem_cons_of_mem)) rfl rfl) (by decide) ?_)
    | ((with_reducible refine is_idx ?_); first | refine WL.y H (Y.idx rfl rfl (by first | omega | (simp only [List.length_cons, List.length_nil]; done) | (simp only [List.length_cons, List.length_nil]; omega)) (by first | omega | (simp only [List.length_cons, List.length_nil]; done) | (simp only [List.length_cons, List.length_nil]; omega))) (by decide) ?_)
    | ((with_reducible refine is_len ?_); first | refine WL.y H (Y.lenS rfl) (by decide) ?_)
    | ((with_reducible refine is_add ?_); first | refine WL.y H (Y.add rfl rfl (by first | omega | (simp only [List.length_cons, List.length_nil]; done) | (simp only [List.length_cons, List.length_nil]; omega)) (by first | omega | (simp only [List.length_cons, List.length_nil]; done) | (simp only [List.length_cons, List.length_nil]; omega))) (by decide) ?_)
    | ((with_reducible refine is_build ?_); first | refine WL.y H (Y.build rfl rfl) (by decide) ?_)
    | ((with_reducible refine is_lss ?_); first | refine WL.y H ((Y.lss rfl rfl).boolT (by first | omega | (simp only [List.length_cons, List.length_nil]; done) | (simp only [List.length_cons, List.length_nil]; omega))) (by decide) ?_ | refine WL.y H ((Y.lss rfl rfl).boolF (by first | omega | (simp only [List.length_cons, List.length_nil]; done) | (simp only [List.length_cons, List.length_nil]; omega))) (by decide) ?_ | (refine WL.cmp H (Y.lss rfl rfl) (by decide) ?_ ?_ <;> intro hcmp)))
  with_reducible refine is_alloc ?_
  refine WL.alloc H (by decide) ?_; intro br w H hbr _ _
  repeat' (first
    | (with_reducible refine WC.seq ?_)
    | (with_reducible refine WC.reg ?_)
    | (with_reducible refine WC.block ?_)
    | (with_reducible refine WC.skip ?_)
    | (with_reducible refine WC.ret ?_)
    | (with_reducible refine WC.exit ?_)
    | ((with_reducible refine is_cond ?_); first | refine WC.ctrue rfl ?_ | refine WC.cfalse rfl ?_ | (refine WC.cbool rfl ?_ ?_ <;> intro hcnd))
    | (with_reducible refine WL.nilK ?_)
    | (with_reducible refine WL.nil ?_)
    | (with_reducible refine AtQ.then_norm ?_)
    | (with_reducible refine AtQ.then_ret ?_)
    | (with_reducible refine AtQ.then_exit ?_)
    | (with_reducible refine AtQ.block_ret ?_)
    | (with_reducible refine AtQ.block_norm ?_)
    | (with_reducible refine AtQ.block_here ?_)
    | (with_reducible refine AtQ.loop_ret ?_)
    | (with_reducible refine AtQ.loop_exit ?_)
    | (with_reducible refine AtQ.out_ret ?_)
    | (with_reducible refine AtQ.out_exit ?_)
    | ((with_reducible refine AtQ.block_other ?_ ?_); · exact rfl)
    | ((with_reducible refine is_alloc ?_); have hs1 := H.chg.size; refine WL.alloc H (by decide) ?_; intro bo w H hbo _ _)
    | ((with_reducible refine is_move ?_); first | refine WL.y H (Y.move rfl) (by decide) ?_)
    | ((with_reducible refine is_fld ?_); first | refine WL.y H (Y.fld rfl) (by decide) ?_)
    | ((with_reducible refine is_load ?_); first | refine WL.y H (Y.loadX rfl (by repeat' (first | exact List.mem_cons_self .. | apply List.mem_cons_of_mem)) rfl) (by decide) ?_ | refine WL.y H (Y.loadXN rfl (by repeat' (first | exact List.mem_cons_self .. | apply List.mem_cons_of_mem)) rfl rfl) (by decide) ?_)
    | ((with_reducible refine is_idx ?_); first | refine WL.y H (Y.idx rfl rfl (by first | omega | (simp only [List.length_cons, List.length_nil]; done) | (simp only [List.length_cons, List.length_nil]; omega)) (by first | omega | (simp only [List.length_cons, List.length_nil]; done) | (simp only [List.length_cons, List.length_nil]; omega))) (by decide) ?_)
    | ((with_reducible refine is_len ?_); first | refine WL.y H (Y.lenS rfl) (by decide) ?_)
    | ((with_reducible refine is_add ?_); first | refine WL.y H (Y.add rfl rfl (by first | omega | (simp only [List.length_cons, List.length_nil]; done) | (simp only [List.length_cons, List.length_nil]; omega)) (by first | omega | (simp only [List.length_cons, List.length_nil]; done) | (simp only [List.length_cons, List.length_nil]; omega))) (by decide) ?_)
    | ((with_reducible refine is_build ?_); first | refine WL.y H (Y.build rfl rfl) (by decide) ?_)
    | ((with_reducible refine is_lss ?_); first | refine WL.y H ((Y.lss rfl rfl).boolT (by first | omega | (simp only [List.length_cons, List.length_nil]; done) | (simp only [List.length_cons, List.length_nil]; omega))) (by decide) ?_ | refine WL.y H ((Y.lss rfl rfl).boolF (by first | omega | (simp only [List.length_cons, List.length_nil]; done) | (simp only [List.length_cons, List.length_nil]; omega))) (by decide) ?_ | (refine WL.cmp H (Y.lss rfl rfl) (by decide) ?_ ?_ <;> intro hcmp))
    | ((with_reducible refine is_box ?_); first | (refine WL.boxN H rfl (by decide) ?_; intro _ w H _ _ _) | (refine WL.box1 H rfl rfl (by decide) ?_; intro _ w H _ _ _))
    | ((with_reducible refine is_alloc ?_); refine WL.alloc H (by decide) ?_; intro _ w H _ _ _)
    | ((with_reducible refine is_store ?_); first | (refine WL.store1 H rfl rfl rfl (by repeat' (first | exact Upd.here .. | apply Upd.there)) rfl ?_; intro w H _) | (refine WL.storeN H rfl rfl rfl rfl (by repeat' (first | exact Upd.here .. | apply Upd.there)) rfl ?_; intro w H _))
    | ((with_reducible refine is_bslice ?_); refine WL.bslice H rfl rfl rfl (by decide) ?_; intro _ w H _ _ _))
  have hs2 := H.chg.size
  have H := H.add (pA w0.heap.size none 0 []) (pA_nil _ _) (by intro p hp hf; rcases hf with ⟨o, e⟩ | hf; { cases e }; { rw [ftR] at hf; cases hf })
  refine WC.loop (σ := List LT × Option Addr × Nat) (fun s => [(1, .pointer (some ⟨ba, 0, none⟩)), (2, .pointer (some ⟨br, 0, none⟩)), (3, .pointer (some ⟨bo, 0, none⟩)), (14, sl ta tl.length tc), (15, .int .i64 tl.length), (16, .int .i64 (s.1.length : Nat))])
    (fun s w' => s.1.length ≤ tl.length ∧ s.1.map er = (tl.take s.1.length).map er ∧ w0.heap.size ≤ w'.heap.size ∧ SH w0 noF w' [(bo, .cells [.int .i64 tk, .int .i64 ti, .string tx, .slice s.2.1 s.1.length s.2.2].toArray 47 (0, 0)), (br, .cells zt.toArray 47 (0, 0))] [pA w0.heap.size s.2.1 s.2.2 s.1, tA ⟨tk, ti, tx, ta, tc, tl⟩])
    (fun s => tl.length - s.1.length) ([], none, 0) (by repeat' (first | exact Sub.nil | refine Sub.cons rfl ?_)) ⟨Nat.zero_le _, rfl, hs2, H.dropX (.cons_cons _ (.cons_cons _ (List.nil_sublist _)))⟩ (fun s w hinv => ?_)
  obtain ⟨ts, pa, pc⟩ := s
  obtain ⟨hk, hmap, hwsz, H⟩ := hinv
  simp only at hk hmap hwsz H ⊢
  by_cases hlt : ts.length < tl.length
  · obtain ⟨tb, tto, cs, T, fz, ha, _, _⟩ := (H.ht ⟨tk, ti, tx, ta, tc, tl⟩ (by repeat' (first | exact List.mem_cons_self .. | apply List.mem_cons_of_mem))).row (by intro e; rw [show (⟨tk, ti, tx, ta, tc, tl⟩ : LT).l = tl from rfl] at e; rw [e] at hlt; simp at hlt)
    simp only at ha
    subst ha
    have hm := List.getElem_mem hlt
    have hkid := fun w (h : HT w ⟨tk, ti, tx, some ⟨tb, tto, none⟩, tc, tl⟩) => h.kid _ hm
    repeat' (first
      | (with_reducible refine WC.seq ?_)
      | (with_reducible refine WC.reg ?_)
      | (with_reducible refine WC.block ?_)
      | (with_reducible refine WC.skip ?_)
      | (with_reducible refine WC.ret ?_)
      | (with_reducible refine WC.exit ?_)
      | ((with_reducible refine is_cond ?_); first | refine WC.ctrue rfl ?_ | refine WC.cfalse rfl ?_ | (refine WC.cbool rfl ?_ ?_ <;> intro hcnd))
      | (with_reducible refine WL.nilK ?_)
      | (with_reducible refine WL.nil ?_)
      | (with_reducible refine AtQ.then_norm ?_)
      | (with_reducible refine AtQ.then_ret ?_)
      | (with_reducible refine AtQ.then_exit ?_)
      | (with_reducible refine AtQ.block_ret ?_)
      | (with_reducible refine AtQ.block_norm ?_)
      | (with_reducible refine AtQ.block_here ?_)
      | (with_reducible refine AtQ.loop_ret ?_)
      | (with_reducible refine AtQ.loop_exit ?_)
      | (with_reducible refine AtQ.out_ret ?_)
      | (with_reducible refine AtQ.out_exit ?_)
      | ((with_reducible refine AtQ.block_other ?_ ?_); · exact rfl)
      | ((with_reducible refine is_alloc ?_); refine WL.alloc H (by decide) ?_; intro b5 w H hb5 _ _)
      | ((with_reducible refine is_move ?_); first | refine WL.y H (Y.move rfl) (by decide) ?_)
      | ((with_reducible refine is_fld ?_); first | refine WL.y H (Y.fld rfl) (by decide) ?_)
      | ((with_reducible refine is_load ?_); first | refine WL.y H (Y.loadX rfl (by repeat' (first | exact List.mem_cons_self .. | apply List.mem_cons_of_mem)) rfl) (by decide) ?_ | refine WL.y H (Y.loadXN rfl (by repeat' (first | exact List.mem_cons_self .. | apply List.mem_cons_of_mem)) rfl rfl) (by decide) ?_ | refine WL.y H (Y.loadSN (vs := tcs tl[ts.length]) rfl (by repeat' (first | exact List.mem_cons_self .. | apply List.mem_cons_of_mem)) (tA_readsK (i := ts.length) tl[ts.length] rfl (List.getElem?_eq_getElem hlt)) rfl) (by decide) ?_)
      | ((with_reducible refine is_idx ?_); first | refine WL.y H (Y.idx rfl rfl (by first | omega | (simp only [List.length_cons, List.length_nil]; done) | (simp only [List.length_cons, List.length_nil]; omega)) (by first | omega | (simp only [List.length_cons, List.length_nil]; done) | (simp only [List.length_cons, List.length_nil]; omega))) (by decide) ?_)
      | ((with_reducible refine is_len ?_); first | refine WL.y H (Y.lenS rfl) (by decide) ?_)
      | ((with_reducible refine is_add ?_); first | refine WL.y H (Y.add rfl rfl (by first | omega | (simp only [List.length_cons, List.length_nil]; done) | (simp only [List.length_cons, List.length_nil]; omega)) (by first | omega | (simp only [List.length_cons, List.length_nil]; done) | (simp only [List.length_cons, List.length_nil]; omega))) (by decide) ?_)
      | ((with_reducible refine is_build ?_); first | refine WL.y H (Y.build rfl rfl) (by decide) ?_)
      | ((with_reducible refine is_lss ?_); first | refine WL.y H ((Y.lss rfl rfl).boolT (by first | omega | (simp only [List.length_cons, List.length_nil]; done) | (simp only [List.length_cons, List.length_nil]; omega))) (by decide) ?_ | refine WL.y H ((Y.lss rfl rfl).boolF (by first | omega | (simp only [List.length_cons, List.length_nil]; done) | (simp only [List.length_cons, List.length_nil]; omega))) (by decide) ?_ | (refine WL.cmp H (Y.lss rfl rfl) (by decide) ?_ ?_ <;> intro hcmp))
      | ((with_reducible refine is_box ?_); first | (refine WL.boxN H rfl (by decide) ?_; intro _ w H _ _ _) | (refine WL.box1 H rfl rfl (by decide) ?_; intro _ w H _ _ _))
      | ((with_reducible refine is_alloc ?_); refine WL.alloc H (by decide) ?_; intro _ w H _ _ _)
      | ((with_reducible refine is_store ?_); first | (refine WL.store1 H rfl rfl rfl (by repeat' (first | exact Upd.here .. | apply Upd.there)) rfl ?_; intro w H _) | (refine WL.storeN H rfl rfl rfl rfl (by repeat' (first | exact Upd.here .. | apply Upd.there)) rfl ?_; intro w H _))
      | ((with_reducible refine is_bslice ?_); refine WL.bslice H rfl rfl rfl (by decide) ?_; intro _ w H _ _ _))
    refine WC.draw2 [7] mixed H (.keep (.keep (.keep (.nil)))) (.skip (.keep (.nil))) ?_
    intro w H _
    first
      | refine WT.take 0 (by kernel_rfl) (fun _ _ _ h => h) (H.mi (by repeat' (first | exact Incl.nil _ | refine Incl.cons (by repeat' (first | exact List.mem_cons_self .. | apply List.mem_cons_of_mem)) ?_)) (by repeat' (first | exact Incl.nil _ | refine Incl.cons (by repeat' (first | exact List.mem_cons_self .. | apply List.mem_cons_of_mem)) ?_))) (Nth.get (by repeat' (first | exact Nth.zero .. | apply Nth.succ))) rfl (by decide) (Wd.none rfl) rfl (Y.fld rfl) (by kernel_rfl) ?_
    first
      | refine WT.take 1 (by kernel_rfl) (fun _ _ _ h => h) (H.mi (by repeat' (first | exact Incl.nil _ | refine Incl.cons (by repeat' (first | exact List.mem_cons_self .. | apply List.mem_cons_of_mem)) ?_)) (by repeat' (first | exact Incl.nil _ | refine Incl.cons (by repeat' (first | exact List.mem_cons_self .. | apply List.mem_cons_of_mem)) ?_))) (Nth.get (by repeat' (first | exact Nth.zero .. | apply Nth.succ))) rfl (by decide) (Wd.none rfl) rfl (Y.loadX rfl (by repeat' (first | exact List.mem_cons_self .. | apply List.mem_cons_of_mem)) rfl) (by kernel_rfl) ?_
    first
      | refine WT.take 2 (by kernel_rfl) (fun _ _ _ h => h) (H.mi (by repeat' (first | exact Incl.nil _ | refine Incl.cons (by repeat' (first | exact List.mem_cons_self .. | apply List.mem_cons_of_mem)) ?_)) (by repeat' (first | exact Incl.nil _ | refine Incl.cons (by repeat' (first | exact List.mem_cons_self .. | apply List.mem_cons_of_mem)) ?_))) (Nth.get (by repeat' (first | exact Nth.zero .. | apply Nth.succ))) rfl (by decide) (Wd.none rfl) rfl (Y.loadXN rfl (by repeat' (first | exact List.mem_cons_self .. | apply List.mem_cons_of_mem)) rfl rfl) (by kernel_rfl) ?_
    refine WT.run 3 (Nth.get (by repeat' (first | exact Nth.zero .. | apply Nth.succ))) (by kernel_rfl) ?_
    repeat' (first
      | ((with_reducible refine is_call (f := 83) ?_); have hs3 := H.chg.size; have hplt := (pA w0.heap.size pa pc ts).lt _ (H.of (A := pA _ pa pc ts) (by repeat' (first | exact List.mem_cons_self .. | apply List.mem_cons_of_mem))); refine WL.call (vs := [tv tl[ts.length]]) rfl (ih tl[ts.length] hm _ (hkid _ (H.ht _ (by repeat' (first | exact List.mem_cons_self .. | apply List.mem_cons_of_mem)))) (hl2 _ hm)) (by decide) ?_; intro v w hv; obtain ⟨t1, e1, he1, ho1, hc1⟩ := hv; subst e1; have hs1 := hc1.size; have hlo1 := ho1.new; have hhi1 := ho1.ht.lt; have H := H.made hc1 (oA _ t1) ho1 hlo1))
    with_reducible refine WL.nilK ?_
    refine ⟨H.mi (by repeat' (first | exact Incl.nil _ | refine Incl.cons (by repeat' (first | exact List.mem_cons_self .. | apply List.mem_cons_of_mem)) ?_)) (by repeat' (first | exact Incl.nil _ | refine Incl.cons (by repeat' (first | exact List.mem_cons_self .. | apply List.mem_cons_of_mem)) ?_)), ?_⟩
    refine WT.run 4 (Nth.get (by repeat' (first | exact Nth.zero .. | apply Nth.succ))) (by kernel_rfl) ?_
    repeat' (first
      | ((with_reducible refine is_bslice ?_); refine WL.bslice H rfl rfl rfl (by decide) ?_; intro _ w H _ _ _))
    with_reducible refine WL.nilK ?_
    refine ⟨H.mi (by repeat' (first | exact Incl.nil _ | refine Incl.cons (by repeat' (first | exact List.mem_cons_self .. | apply List.mem_cons_of_mem)) ?_)) (by repeat' (first | exact Incl.nil _ | refine Incl.cons (by repeat' (first | exact List.mem_cons_self .. | apply List.mem_cons_of_mem)) ?_)), ?_⟩
    refine WT.run 5 (Nth.get (by repeat' (first | exact Nth.zero .. | apply Nth.succ))) (by kernel_rfl) ?_
    repeat' (first
      | ((with_reducible refine is_append ?_); have hs4 := H.chg.size; have H := H.dropI (S' := [pA _ pa pc ts, oA _ t1, tA ⟨tk, ti, tx, some ⟨tb, tto, none⟩, tc, tl⟩]) (by repeat' (first | exact Incl.nil _ | refine Incl.cons (by repeat' (first | exact List.mem_cons_self .. | apply List.mem_cons_of_mem)) ?_)); refine WL.appendT H rfl rfl (by repeat' (first | exact List.mem_cons_self .. | apply List.mem_cons_of_mem)) (by omega) (Nat.le_refl _) (by omega) (fun z hz h => by have := hlo1 z hz; have := hplt z h; omega) (by intro A hA z hz h; rw [List.mem_singleton.1 hA] at hz; have := ht.lt z hz; have := pA_new (H.of (A := pA _ pa pc ts) (by repeat' (first | exact List.mem_cons_self .. | apply List.mem_cons_of_mem))) z h; omega) (by omega) rfl (by decide) ?_; intro a' c' w H hsz hk))
    with_reducible refine WL.nilK ?_
    refine ⟨H.mi (by repeat' (first | exact Incl.nil _ | refine Incl.cons (by repeat' (first | exact List.mem_cons_self .. | apply List.mem_cons_of_mem)) ?_)) (by repeat' (first | exact Incl.nil _ | refine Incl.cons (by repeat' (first | exact List.mem_cons_self .. | apply List.mem_cons_of_mem)) ?_)), ?_⟩
    first
      | refine WT.take 6 (by kernel_rfl) (fun _ _ _ h => h) (H.mi (by repeat' (first | exact Incl.nil _ | refine Incl.cons (by repeat' (first | exact List.mem_cons_self .. | apply List.mem_cons_of_mem)) ?_)) (by repeat' (first | exact Incl.nil _ | refine Incl.cons (by repeat' (first | exact List.mem_cons_self .. | apply List.mem_cons_of_mem)) ?_))) (Nth.get (by repeat' (first | exact Nth.zero .. | apply Nth.succ))) rfl (by decide) (Wd.none rfl) rfl (Y.fld rfl) (by kernel_rfl) ?_
    refine WT.last 7 (Nth.get (by repeat' (first | exact Nth.zero .. | apply Nth.succ))) (by kernel_rfl) ?_
    repeat' (first
      | ((with_reducible refine is_store ?_); first | (refine WL.store1 H rfl rfl rfl (by repeat' (first | exact Upd.here .. | apply Upd.there)) rfl ?_; intro w H _) | (refine WL.storeN H rfl rfl rfl rfl (by repeat' (first | exact Upd.here .. | apply Upd.there)) rfl ?_; intro w H _)))
    with_reducible refine WL.nilK ?_
    skip
    refine WT.done (by kernel_rfl) ?_
    repeat' (first
      | (with_reducible refine WC.seq ?_)
      | (with_reducible refine WC.reg ?_)
      | (with_reducible refine WC.block ?_)
      | (with_reducible refine WC.skip ?_)
      | (with_reducible refine WC.ret ?_)
      | (with_reducible refine WC.exit ?_)
      | ((with_reducible refine is_cond ?_); first | refine WC.ctrue rfl ?_ | refine WC.cfalse rfl ?_ | (refine WC.cbool rfl ?_ ?_ <;> intro hcnd))
      | (with_reducible refine WL.nilK ?_)
      | (with_reducible refine WL.nil ?_)
      | (with_reducible refine AtQ.then_norm ?_)
      | (with_reducible refine AtQ.then_ret ?_)
      | (with_reducible refine AtQ.then_exit ?_)
      | (with_reducible refine AtQ.block_ret ?_)
      | (with_reducible refine AtQ.block_norm ?_)
      | (with_reducible refine AtQ.block_here ?_)
      | (with_reducible refine AtQ.loop_ret ?_)
      | (with_reducible refine AtQ.loop_exit ?_)
      | (with_reducible refine AtQ.out_ret ?_)
      | (with_reducible refine AtQ.out_exit ?_)
      | ((with_reducible refine AtQ.block_other ?_ ?_); · exact rfl)
      | ((with_reducible refine is_move ?_); first | refine WL.y H (Y.move rfl) (by decide) ?_)
      | ((with_reducible refine is_fld ?_); first | refine WL.y H (Y.fld rfl) (by decide) ?_)
      | ((with_reducible refine is_load ?_); first | refine WL.y H (Y.loadX rfl (by repeat' (first | exact List.mem_cons_self .. | apply List.mem_cons_of_mem)) rfl) (by decide) ?_ | refine WL.y H (Y.loadXN rfl (by repeat' (first | exact List.mem_cons_self .. | apply List.mem_cons_of_mem)) rfl rfl) (by decide) ?_)
      | ((with_reducible refine is_idx ?_); first | refine WL.y H (Y.idx rfl rfl (by first | omega | (simp only [List.length_cons, List.length_nil]; done) | (simp only [List.length_cons, List.length_nil]; omega)) (by first | omega | (simp only [List.length_cons, List.length_nil]; done) | (simp only [List.length_cons, List.length_nil]; omega))) (by decide) ?_)
      | ((with_reducible refine is_len ?_); first | refine WL.y H (Y.lenS rfl) (by decide) ?_)
      | ((with_reducible refine is_add ?_); first | refine WL.y H (Y.add rfl rfl (by first | omega | (simp only [List.length_cons, List.length_nil]; done) | (simp only [List.length_cons, List.length_nil]; omega)) (by first | omega | (simp only [List.length_cons, List.length_nil]; done) | (simp only [List.length_cons, List.length_nil]; omega))) (by decide) ?_)
      | ((with_reducible refine is_build ?_); first | refine WL.y H (Y.build rfl rfl) (by decide) ?_)
      | ((with_reducible refine is_lss ?_); first | refine WL.y H ((Y.lss rfl rfl).boolT (by first | omega | (simp only [List.length_cons, List.length_nil]; done) | (simp only [List.length_cons, List.length_nil]; omega))) (by decide) ?_ | refine WL.y H ((Y.lss rfl rfl).boolF (by first | omega | (simp only [List.length_cons, List.length_nil]; done) | (simp only [List.length_cons, List.length_nil]; omega))) (by decide) ?_ | (refine WL.cmp H (Y.lss rfl rfl) (by decide) ?_ ?_ <;> intro hcmp))
      | ((with_reducible refine is_box ?_); first | (refine WL.boxN H rfl (by decide) ?_; intro _ w H _ _ _) | (refine WL.box1 H rfl rfl (by decide) ?_; intro _ w H _ _ _))
      | ((with_reducible refine is_alloc ?_); refine WL.alloc H (by decide) ?_; intro _ w H _ _ _)
      | ((with_reducible refine is_store ?_); first | (refine WL.store1 H rfl rfl rfl (by repeat' (first | exact Upd.here .. | apply Upd.there)) rfl ?_; intro w H _) | (refine WL.storeN H rfl rfl rfl rfl (by repeat' (first | exact Upd.here .. | apply Upd.there)) rfl ?_; intro w H _))
      | ((with_reducible refine is_bslice ?_); refine WL.bslice H rfl rfl rfl (by decide) ?_; intro _ w H _ _ _))
    refine AtQ.loop_norm (ts ++ [t1], a', c') (by rw [List.length_append]; exact (by repeat' (first | exact Sub.nil | refine Sub.cons rfl ?_))) ⟨by simp; omega, ?_, by omega, ?_⟩ (by simp; omega)
    · simp only
      rw [List.map_append, hmap, List.length_append, List.length_singleton, ← List.take_append_getElem hlt, List.map_append]; show _ ++ [er t1] = _ ++ [er tl[ts.length]]; rw [he1]
    · simp only [List.length_append, List.length_singleton]
      exact H.dropX (.cons _ (.cons _ (.refl _)))
  · repeat' (first
      | (with_reducible refine WC.seq ?_)
      | (with_reducible refine WC.reg ?_)
      | (with_reducible refine WC.block ?_)
      | (with_reducible refine WC.skip ?_)
      | (with_reducible refine WC.ret ?_)
      | (with_reducible refine WC.exit ?_)
      | ((with_reducible refine is_cond ?_); first | refine WC.ctrue rfl ?_ | refine WC.cfalse rfl ?_ | (refine WC.cbool rfl ?_ ?_ <;> intro hcnd))
      | (with_reducible refine WL.nilK ?_)
      | (with_reducible refine WL.nil ?_)
      | (with_reducible refine AtQ.then_norm ?_)
      | (with_reducible refine AtQ.then_ret ?_)
      | (with_reducible refine AtQ.then_exit ?_)
      | (with_reducible refine AtQ.block_ret ?_)
      | (with_reducible refine AtQ.block_norm ?_)
      | (with_reducible refine AtQ.block_here ?_)
      | (with_reducible refine AtQ.loop_ret ?_)
      | (with_reducible refine AtQ.loop_exit ?_)
      | (with_reducible refine AtQ.out_ret ?_)
      | (with_reducible refine AtQ.out_exit ?_)
      | ((with_reducible refine AtQ.block_other ?_ ?_); · exact rfl)
      | ((with_reducible refine is_move ?_); first | refine WL.y H (Y.move rfl) (by decide) ?_)
      | ((with_reducible refine is_fld ?_); first | refine WL.y H (Y.fld rfl) (by decide) ?_)
      | ((with_reducible refine is_load ?_); first | refine WL.y H (Y.loadX rfl (by repeat' (first | exact List.mem_cons_self .. | apply List.mem_cons_of_mem)) rfl) (by decide) ?_ | refine WL.y H (Y.loadXN rfl (by repeat' (first | exact List.mem_cons_self .. | apply List.mem_cons_of_mem)) rfl rfl) (by decide) ?_)
      | ((with_reducible refine is_idx ?_); first | refine WL.y H (Y.idx rfl rfl (by first | omega | (simp only [List.length_cons, List.length_nil]; done) | (simp only [List.length_cons, List.length_nil]; omega)) (by first | omega | (simp only [List.length_cons, List.length_nil]; done) | (simp only [List.length_cons, List.length_nil]; omega))) (by decide) ?_)
      | ((with_reducible refine is_len ?_); first | refine WL.y H (Y.lenS rfl) (by decide) ?_)
      | ((with_reducible refine is_add ?_); first | refine WL.y H (Y.add rfl rfl (by first | omega | (simp only [List.length_cons, List.length_nil]; done) | (simp only [List.length_cons, List.length_nil]; omega)) (by first | omega | (simp only [List.length_cons, List.length_nil]; done) | (simp only [List.length_cons, List.length_nil]; omega))) (by decide) ?_)
      | ((with_reducible refine is_build ?_); first | refine WL.y H (Y.build rfl rfl) (by decide) ?_)
      | ((with_reducible refine is_lss ?_); first | refine WL.y H ((Y.lss rfl rfl).boolT (by first | omega | (simp only [List.length_cons, List.length_nil]; done) | (simp only [List.length_cons, List.length_nil]; omega))) (by decide) ?_ | refine WL.y H ((Y.lss rfl rfl).boolF (by first | omega | (simp only [List.length_cons, List.length_nil]; done) | (simp only [List.length_cons, List.length_nil]; omega))) (by decide) ?_ | (refine WL.cmp H (Y.lss rfl rfl) (by decide) ?_ ?_ <;> intro hcmp))
      | ((with_reducible refine is_box ?_); first | (refine WL.boxN H rfl (by decide) ?_; intro _ w H _ _ _) | (refine WL.box1 H rfl rfl (by decide) ?_; intro _ w H _ _ _))
      | ((with_reducible refine is_alloc ?_); refine WL.alloc H (by decide) ?_; intro _ w H _ _ _)
      | ((with_reducible refine is_store ?_); first | (refine WL.store1 H rfl rfl rfl (by repeat' (first | exact Upd.here .. | apply Upd.there)) rfl ?_; intro w H _) | (refine WL.storeN H rfl rfl rfl rfl (by repeat' (first | exact Upd.here .. | apply Upd.there)) rfl ?_; intro w H _))
      | ((with_reducible refine is_bslice ?_); refine WL.bslice H rfl rfl rfl (by decide) ?_; intro _ w H _ _ _))
    have ek : ts.length = tl.length := by omega
    rw [ek, List.take_length] at hmap
    exact AtQ.r1 (resVal.cN H rfl (by repeat' (first | exact List.mem_cons_self .. | apply List.mem_cons_of_mem)) rfl) ⟨⟨tk, ti, tx, pa, pc, ts⟩, rfl, by rw [er_mk, er_mk, hmap], (H.of (A := pA w0.heap.size pa pc ts) (by repeat' (first | exact List.mem_cons_self .. | apply List.mem_cons_of_mem)) : OwnP _ _ _ _ _).own.kis _ _ _, H.chg⟩
abbrev zT : LT := ⟨0, 0, ⟨#[]⟩, none, 0, []⟩
theorem Tm.lens : ∀ (m : Tm) (t : LT), er t = m.enc → Len t := by
  intro m
  induction m with
  | pair x y ihx ihy =>
    intro t he
    rw [er_eq] at he
    simp only [Tm.enc, S47.mk.injEq] at he
    obtain ⟨_, _, _, hl⟩ := he
    refine ⟨t, ?_, ?_⟩
    · have := congrArg List.length hl; simp at this; omega
    · intro u hu
      have : er u ∈ t.l.map er := List.mem_map_of_mem hu
      rw [hl] at this
      simp only [List.mem_cons, List.not_mem_nil, or_false] at this
      rcases this with h | h
      · exact ihx u h
      · exact ihy u h
  | _ =>
    intro t he
    have hl := (enc_leaf he (fun _ _ h => by cases h)).1
    exact ⟨t, by rw [hl]; simp, by rw [hl]; intro u hu; cases hu⟩
end Go.Proofs.Ytpfooiepmnaoaaa.E
