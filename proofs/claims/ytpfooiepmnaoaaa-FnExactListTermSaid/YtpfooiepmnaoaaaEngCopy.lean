/- copyTerm: a copy in blocks of its own. -/
import Derived.Test.YtpfooiepmnaoaaaEngT
import Derived.Test.YtpfooiepmnaoaaaEngTy
namespace Go.Proofs.Ytpfooiepmnaoaaa.E
open Go Go.RowKit Go.Proofs.Ytpfooiepmnaoaaa.X
set_option linter.unusedVariables false
set_option linter.unusedSimpArgs false
set_option maxRecDepth 100000 in
set_option maxHeartbeats 4000000 in
theorem impl_copyTerm_leaf (m : Tm) (t : LT) (w : World) (he : er t = m.enc) (ht : HT w t) (hm : ∀ x y, m ≠ .pair x y) : Fn Try.prog 84 [tv t] w (Mk m w) := by
  obtain ⟨hl, hk, _, _⟩ := enc_leaf he hm
  refine Fn.body (N := 25) Try.func84 rfl rfl rfl rfl rfl ?_
  have H : SH w noF w [] [tA t] := SH.start _ _ _ (by simpa [tA] using ht)
  repeat' (first
    | (with_reducible refine WC.seq ?_)
    | (with_reducible refine WC.reg ?_)
    | (with_reducible refine WC.skip ?_)
    | (with_reducible refine WC.ret ?_)
    | ((with_reducible refine is_cond ?_); first | refine WC.ctrue rfl ?_ | refine WC.cfalse rfl ?_ | (refine WC.cbool rfl ?_ ?_ <;> intro hcnd))
    | (with_reducible refine WL.nilK ?_)
    | (with_reducible refine WL.nil ?_)
    | (with_reducible refine AtQ.then_norm ?_)
    | (with_reducible refine AtQ.then_ret ?_)
    | (with_reducible refine AtQ.out_ret ?_)
    | ((with_reducible refine is_fld ?_); first | refine WL.y H (Y.fld rfl) (by decide) ?_)
    | ((with_reducible refine is_load ?_); first | refine WL.y H (Y.loadX rfl (by repeat' (first | exact List.mem_cons_self .. | apply List.mem_cons_of_mem)) rfl) (by decide) ?_ | refine WL.y H (Y.loadXN rfl (by repeat' (first | exact List.mem_cons_self .. | apply List.mem_cons_of_mem)) rfl rfl) (by decide) ?_)
    | ((with_reducible refine is_idx ?_); first | refine WL.y H (Y.idx rfl rfl (by first | omega | (simp only [List.length_cons, List.length_nil]; done) | (simp only [List.length_cons, List.length_nil]; omega)) (by first | omega | (simp only [List.length_cons, List.length_nil]; done) | (simp only [List.length_cons, List.length_nil]; omega))) (by decide) ?_)
    | ((with_reducible refine is_build ?_); first | refine WL.y H (Y.build rfl rfl) (by decide) ?_)
    | ((with_reducible refine is_neq ?_); first | refine WL.y H ((Y.neq rfl rfl).boolT (by first | omega | (simp only [List.length_cons, List.length_nil]; done) | (simp only [List.length_cons, List.length_nil]; omega))) (by decide) ?_ | refine WL.y H ((Y.neq rfl rfl).boolF (by first | omega | (simp only [List.length_cons, List.length_nil]; done) | (simp only [List.length_cons, List.length_nil]; omega))) (by decide) ?_ | (refine WL.cmp H (Y.neq rfl rfl) (by decide) ?_ ?_ <;> intro hcmp))
    | ((with_reducible refine is_box ?_); first | (refine WL.boxN H rfl (by decide) ?_; intro _ w H _ _ _) | (refine WL.box1 H rfl rfl (by decide) ?_; intro _ w H _ _ _))
    | ((with_reducible refine is_alloc ?_); refine WL.alloc H (by decide) ?_; intro _ w H _ _ _)
    | ((with_reducible refine is_store ?_); first | (refine WL.store1 H rfl rfl rfl (by repeat' (first | exact Upd.here .. | apply Upd.there)) rfl ?_; intro w H _) | (refine WL.storeN H rfl rfl rfl rfl (by repeat' (first | exact Upd.here .. | apply Upd.there)) rfl ?_; intro w H _))
    | ((with_reducible refine is_bslice ?_); refine WL.bslice H rfl rfl rfl (by decide) ?_; intro _ w H _ _ _))
  refine AtQ.r1 (resVal.cN H rfl (by repeat' (first | exact List.mem_cons_self .. | apply List.mem_cons_of_mem)) rfl) ?_
  refine ⟨⟨t.k, t.i, t.s, none, 0, []⟩, rfl, ?_, Own.leaf rfl, H.chg⟩
  rw [← he, er_eq, er_eq t, hl]
set_option maxRecDepth 100000 in
set_option maxHeartbeats 4000000 in
theorem impl_copyTerm_ok : ∀ (m : Tm) (t : LT) (w : World), er t = m.enc → HT w t → Fn Try.prog 84 [tv t] w (Mk m w) := by
  intro m
  induction m with
  | pair x y ihx ihy =>
    intro t w he ht
    obtain ⟨b, o, c, p, q, rfl, hp, hq, _, _⟩ := enc_pair he ht
    refine Fn.body (N := 25) Try.func84 rfl rfl rfl rfl rfl ?_
    have H : SH w noF w [] [tA ⟨4, 0, ⟨#[]⟩, some ⟨b, o, none⟩, c, [p, q]⟩] := SH.start _ _ _ (by simpa [tA] using ht)
    repeat' (first
      | (with_reducible refine WC.seq ?_)
      | (with_reducible refine WC.reg ?_)
      | (with_reducible refine WC.skip ?_)
      | (with_reducible refine WC.ret ?_)
      | ((with_reducible refine is_cond ?_); first | refine WC.ctrue rfl ?_ | refine WC.cfalse rfl ?_ | (refine WC.cbool rfl ?_ ?_ <;> intro hcnd))
      | (with_reducible refine WL.nilK ?_)
      | (with_reducible refine WL.nil ?_)
      | (with_reducible refine AtQ.then_norm ?_)
      | (with_reducible refine AtQ.then_ret ?_)
      | (with_reducible refine AtQ.out_ret ?_)
      | ((with_reducible refine is_fld ?_); first | refine WL.y H (Y.fld rfl) (by decide) ?_)
      | ((with_reducible refine is_load ?_); first | refine WL.y H (Y.loadX rfl (by repeat' (first | exact List.mem_cons_self .. | apply List.mem_cons_of_mem)) rfl) (by decide) ?_ | refine WL.y H (Y.loadXN rfl (by repeat' (first | exact List.mem_cons_self .. | apply List.mem_cons_of_mem)) rfl rfl) (by decide) ?_)
      | ((with_reducible refine is_idx ?_); first | refine WL.y H (Y.idx rfl rfl (by first | omega | (simp only [List.length_cons, List.length_nil]; done) | (simp only [List.length_cons, List.length_nil]; omega)) (by first | omega | (simp only [List.length_cons, List.length_nil]; done) | (simp only [List.length_cons, List.length_nil]; omega))) (by decide) ?_)
      | ((with_reducible refine is_build ?_); first | refine WL.y H (Y.build rfl rfl) (by decide) ?_)
      | ((with_reducible refine is_neq ?_); first | refine WL.y H ((Y.neq rfl rfl).boolT (by first | omega | (simp only [List.length_cons, List.length_nil]; done) | (simp only [List.length_cons, List.length_nil]; omega))) (by decide) ?_ | refine WL.y H ((Y.neq rfl rfl).boolF (by first | omega | (simp only [List.length_cons, List.length_nil]; done) | (simp only [List.length_cons, List.length_nil]; omega))) (by decide) ?_ | (refine WL.cmp H (Y.neq rfl rfl) (by decide) ?_ ?_ <;> intro hcmp))
      | ((with_reducible refine is_box ?_); first | (refine WL.boxN H rfl (by decide) ?_; intro _ w H _ _ _) | (refine WL.box1 H rfl rfl (by decide) ?_; intro _ w H _ _ _))
      | ((with_reducible refine is_alloc ?_); refine WL.alloc H (by decide) ?_; intro _ w H _ _ _)
      | ((with_reducible refine is_store ?_); first | (refine WL.store1 H rfl rfl rfl (by repeat' (first | exact Upd.here .. | apply Upd.there)) rfl ?_; intro w H _) | (refine WL.storeN H rfl rfl rfl rfl (by repeat' (first | exact Upd.here .. | apply Upd.there)) rfl ?_; intro w H _))
      | ((with_reducible refine is_bslice ?_); refine WL.bslice H rfl rfl rfl (by decide) ?_; intro _ w H _ _ _))
    refine WC.draw mixed H (.skip (.keep (.nil))) ?_
    intro w H _
    first
      | refine WR.take 0 (by kernel_rfl) (fun _ _ _ h => h) (Nth.get (by repeat' (first | exact Nth.zero .. | apply Nth.succ))) rfl (by decide) (Wd.none rfl) rfl (Y.fld rfl) (by kernel_rfl) ?_
    first
      | refine WR.take 1 (by kernel_rfl) (fun _ _ _ h => h) (Nth.get (by repeat' (first | exact Nth.zero .. | apply Nth.succ))) rfl (by decide) (Wd.none rfl) rfl (Y.loadSN (vs := tcs p) rfl (by repeat' (first | exact List.mem_cons_self .. | apply List.mem_cons_of_mem)) (tA_readsK (i := 0) p rfl rfl) rfl) (by kernel_rfl) ?_
      | refine WR.take 1 (by kernel_rfl) (fun _ _ _ h => h) (Nth.get (by repeat' (first | exact Nth.zero .. | apply Nth.succ))) rfl (by decide) (Wd.none rfl) rfl (Y.loadSN (vs := tcs q) rfl (by repeat' (first | exact List.mem_cons_self .. | apply List.mem_cons_of_mem)) (tA_readsK (i := 1) q rfl rfl) rfl) (by kernel_rfl) ?_
      | refine WR.take 1 (by kernel_rfl) (fun _ _ _ h => h) (Nth.get (by repeat' (first | exact Nth.zero .. | apply Nth.succ))) rfl (by decide) (Wd.none rfl) rfl (Y.loadX rfl (by repeat' (first | exact List.mem_cons_self .. | apply List.mem_cons_of_mem)) rfl) (by kernel_rfl) ?_
    first
      | refine WR.take 2 (by kernel_rfl) (fun _ _ _ h => h) (Nth.get (by repeat' (first | exact Nth.zero .. | apply Nth.succ))) rfl (by decide) (Wd.none rfl) rfl (Y.idx rfl rfl (by first | omega | (simp only [List.length_cons, List.length_nil]; done) | (simp only [List.length_cons, List.length_nil]; omega)) (by first | omega | (simp only [List.length_cons, List.length_nil]; done) | (simp only [List.length_cons, List.length_nil]; omega))) (by kernel_rfl) ?_
    first
      | refine WR.take 3 (by kernel_rfl) (fun _ _ _ h => h) (Nth.get (by repeat' (first | exact Nth.zero .. | apply Nth.succ))) rfl (by decide) (Wd.none rfl) rfl (Y.loadSN (vs := tcs p) rfl (by repeat' (first | exact List.mem_cons_self .. | apply List.mem_cons_of_mem)) (tA_readsK (i := 0) p rfl rfl) rfl) (by kernel_rfl) ?_
      | refine WR.take 3 (by kernel_rfl) (fun _ _ _ h => h) (Nth.get (by repeat' (first | exact Nth.zero .. | apply Nth.succ))) rfl (by decide) (Wd.none rfl) rfl (Y.loadSN (vs := tcs q) rfl (by repeat' (first | exact List.mem_cons_self .. | apply List.mem_cons_of_mem)) (tA_readsK (i := 1) q rfl rfl) rfl) (by kernel_rfl) ?_
      | refine WR.take 3 (by kernel_rfl) (fun _ _ _ h => h) (Nth.get (by repeat' (first | exact Nth.zero .. | apply Nth.succ))) rfl (by decide) (Wd.none rfl) rfl (Y.loadXN rfl (by repeat' (first | exact List.mem_cons_self .. | apply List.mem_cons_of_mem)) rfl rfl) (by kernel_rfl) ?_
    first
      | refine WR.take 5 (by kernel_rfl) (fun _ _ _ h => h) (Nth.get (by repeat' (first | exact Nth.zero .. | apply Nth.succ))) rfl (by decide) (Wd.none rfl) rfl (Y.fld rfl) (by kernel_rfl) ?_
    first
      | refine WR.take 6 (by kernel_rfl) (fun _ _ _ h => h) (Nth.get (by repeat' (first | exact Nth.zero .. | apply Nth.succ))) rfl (by decide) (Wd.none rfl) rfl (Y.loadSN (vs := tcs p) rfl (by repeat' (first | exact List.mem_cons_self .. | apply List.mem_cons_of_mem)) (tA_readsK (i := 0) p rfl rfl) rfl) (by kernel_rfl) ?_
      | refine WR.take 6 (by kernel_rfl) (fun _ _ _ h => h) (Nth.get (by repeat' (first | exact Nth.zero .. | apply Nth.succ))) rfl (by decide) (Wd.none rfl) rfl (Y.loadSN (vs := tcs q) rfl (by repeat' (first | exact List.mem_cons_self .. | apply List.mem_cons_of_mem)) (tA_readsK (i := 1) q rfl rfl) rfl) (by kernel_rfl) ?_
      | refine WR.take 6 (by kernel_rfl) (fun _ _ _ h => h) (Nth.get (by repeat' (first | exact Nth.zero .. | apply Nth.succ))) rfl (by decide) (Wd.none rfl) rfl (Y.loadX rfl (by repeat' (first | exact List.mem_cons_self .. | apply List.mem_cons_of_mem)) rfl) (by kernel_rfl) ?_
    first
      | refine WR.take 7 (by kernel_rfl) (fun _ _ _ h => h) (Nth.get (by repeat' (first | exact Nth.zero .. | apply Nth.succ))) rfl (by decide) (Wd.none rfl) rfl (Y.idx rfl rfl (by first | omega | (simp only [List.length_cons, List.length_nil]; done) | (simp only [List.length_cons, List.length_nil]; omega)) (by first | omega | (simp only [List.length_cons, List.length_nil]; done) | (simp only [List.length_cons, List.length_nil]; omega))) (by kernel_rfl) ?_
    first
      | refine WR.take 8 (by kernel_rfl) (fun _ _ _ h => h) (Nth.get (by repeat' (first | exact Nth.zero .. | apply Nth.succ))) rfl (by decide) (Wd.none rfl) rfl (Y.loadSN (vs := tcs p) rfl (by repeat' (first | exact List.mem_cons_self .. | apply List.mem_cons_of_mem)) (tA_readsK (i := 0) p rfl rfl) rfl) (by kernel_rfl) ?_
      | refine WR.take 8 (by kernel_rfl) (fun _ _ _ h => h) (Nth.get (by repeat' (first | exact Nth.zero .. | apply Nth.succ))) rfl (by decide) (Wd.none rfl) rfl (Y.loadSN (vs := tcs q) rfl (by repeat' (first | exact List.mem_cons_self .. | apply List.mem_cons_of_mem)) (tA_readsK (i := 1) q rfl rfl) rfl) (by kernel_rfl) ?_
      | refine WR.take 8 (by kernel_rfl) (fun _ _ _ h => h) (Nth.get (by repeat' (first | exact Nth.zero .. | apply Nth.succ))) rfl (by decide) (Wd.none rfl) rfl (Y.loadXN rfl (by repeat' (first | exact List.mem_cons_self .. | apply List.mem_cons_of_mem)) rfl rfl) (by kernel_rfl) ?_
    refine WR.run 4 (Nth.get (by repeat' (first | exact Nth.zero .. | apply Nth.succ))) (by kernel_rfl) ?_
    repeat' (first
      | ((with_reducible refine is_call ?_); refine WL.call (vs := [tv p]) rfl (ihx p _ hp ((H.ht ⟨4, 0, ⟨#[]⟩, some ⟨b, o, none⟩, c, [p, q]⟩ (by repeat' (first | exact List.mem_cons_self .. | apply List.mem_cons_of_mem))).kid p (by simp))) (by decide) ?_; intro v w hv; obtain ⟨t1, e1, he1, ho1, hc1⟩ := hv; subst e1; have hs1 := hc1.size; have hlo1 := ho1.new; have hhi1 := ho1.ht.lt; have H := H.made hc1 (oA _ t1) ho1 hlo1)
      | ((with_reducible refine is_call ?_); refine WL.call (vs := [tv q]) rfl (ihy q _ hq ((H.ht ⟨4, 0, ⟨#[]⟩, some ⟨b, o, none⟩, c, [p, q]⟩ (by repeat' (first | exact List.mem_cons_self .. | apply List.mem_cons_of_mem))).kid q (by simp))) (by decide) ?_; intro v w hv; obtain ⟨t2, e2, he2, ho2, hc2⟩ := hv; subst e2; have hs2 := hc2.size; have hlo2 := ho2.new; have hhi2 := ho2.ht.lt; have H := H.made hc2 (oA _ t2) ho2 hlo2))
    with_reducible refine WL.nilK ?_
    refine ⟨H.mi (by repeat' (first | exact Incl.nil _ | refine Incl.cons (by repeat' (first | exact List.mem_cons_self .. | apply List.mem_cons_of_mem)) ?_)) (by repeat' (first | exact Incl.nil _ | refine Incl.cons (by repeat' (first | exact List.mem_cons_self .. | apply List.mem_cons_of_mem)) ?_)), ?_⟩
    refine WR.run 9 (Nth.get (by repeat' (first | exact Nth.zero .. | apply Nth.succ))) (by kernel_rfl) ?_
    repeat' (first
      | ((with_reducible refine is_call ?_); refine WL.call (vs := [tv p]) rfl (ihx p _ hp ((H.ht ⟨4, 0, ⟨#[]⟩, some ⟨b, o, none⟩, c, [p, q]⟩ (by repeat' (first | exact List.mem_cons_self .. | apply List.mem_cons_of_mem))).kid p (by simp))) (by decide) ?_; intro v w hv; obtain ⟨t1, e1, he1, ho1, hc1⟩ := hv; subst e1; have hs1 := hc1.size; have hlo1 := ho1.new; have hhi1 := ho1.ht.lt; have H := H.made hc1 (oA _ t1) ho1 hlo1)
      | ((with_reducible refine is_call ?_); refine WL.call (vs := [tv q]) rfl (ihy q _ hq ((H.ht ⟨4, 0, ⟨#[]⟩, some ⟨b, o, none⟩, c, [p, q]⟩ (by repeat' (first | exact List.mem_cons_self .. | apply List.mem_cons_of_mem))).kid q (by simp))) (by decide) ?_; intro v w hv; obtain ⟨t2, e2, he2, ho2, hc2⟩ := hv; subst e2; have hs2 := hc2.size; have hlo2 := ho2.new; have hhi2 := ho2.ht.lt; have H := H.made hc2 (oA _ t2) ho2 hlo2))
    with_reducible refine WL.nilK ?_
    refine ⟨H.mi (by repeat' (first | exact Incl.nil _ | refine Incl.cons (by repeat' (first | exact List.mem_cons_self .. | apply List.mem_cons_of_mem)) ?_)) (by repeat' (first | exact Incl.nil _ | refine Incl.cons (by repeat' (first | exact List.mem_cons_self .. | apply List.mem_cons_of_mem)) ?_)), ?_⟩
    refine WR.run 10 (Nth.get (by repeat' (first | exact Nth.zero .. | apply Nth.succ))) (by kernel_rfl) ?_
    repeat' (first
      | ((with_reducible refine is_bslice ?_); refine WL.bslice H rfl rfl rfl (by decide) ?_; intro _ w H _ _ _))
    with_reducible refine WL.nilK ?_
    refine ⟨H.mi (by repeat' (first | exact Incl.nil _ | refine Incl.cons (by repeat' (first | exact List.mem_cons_self .. | apply List.mem_cons_of_mem)) ?_)) (by repeat' (first | exact Incl.nil _ | refine Incl.cons (by repeat' (first | exact List.mem_cons_self .. | apply List.mem_cons_of_mem)) ?_)), ?_⟩
    first
      | refine WR.take 11 (by kernel_rfl) (fun _ _ _ h => h) (Nth.get (by repeat' (first | exact Nth.zero .. | apply Nth.succ))) rfl (by decide) (Wd.none rfl) rfl (Y.build rfl rfl) (by kernel_rfl) ?_
    refine WR.run 12 (Nth.get (by repeat' (first | exact Nth.zero .. | apply Nth.succ))) (by kernel_rfl) ?_
    repeat' (first
      | ((with_reducible refine is_store ?_); first | (refine WL.store1 H rfl rfl rfl (by repeat' (first | exact Upd.here .. | apply Upd.there)) rfl ?_; intro w H _) | (refine WL.storeN H rfl rfl rfl rfl (by repeat' (first | exact Upd.here .. | apply Upd.there)) rfl ?_; intro w H _)))
    with_reducible refine WL.nilK ?_
    refine ⟨H.mi (by repeat' (first | exact Incl.nil _ | refine Incl.cons (by repeat' (first | exact List.mem_cons_self .. | apply List.mem_cons_of_mem)) ?_)) (by repeat' (first | exact Incl.nil _ | refine Incl.cons (by repeat' (first | exact List.mem_cons_self .. | apply List.mem_cons_of_mem)) ?_)), ?_⟩
    refine WR.done (by kernel_rfl) ?_
    repeat' (first
      | (with_reducible refine WC.seq ?_)
      | (with_reducible refine WC.reg ?_)
      | (with_reducible refine WC.skip ?_)
      | (with_reducible refine WC.ret ?_)
      | ((with_reducible refine is_cond ?_); first | refine WC.ctrue rfl ?_ | refine WC.cfalse rfl ?_ | (refine WC.cbool rfl ?_ ?_ <;> intro hcnd))
      | (with_reducible refine WL.nilK ?_)
      | (with_reducible refine WL.nil ?_)
      | (with_reducible refine AtQ.then_norm ?_)
      | (with_reducible refine AtQ.then_ret ?_)
      | (with_reducible refine AtQ.out_ret ?_)
      | ((with_reducible refine is_fld ?_); first | refine WL.y H (Y.fld rfl) (by decide) ?_)
      | ((with_reducible refine is_load ?_); first | refine WL.y H (Y.loadX rfl (by repeat' (first | exact List.mem_cons_self .. | apply List.mem_cons_of_mem)) rfl) (by decide) ?_ | refine WL.y H (Y.loadXN rfl (by repeat' (first | exact List.mem_cons_self .. | apply List.mem_cons_of_mem)) rfl rfl) (by decide) ?_)
      | ((with_reducible refine is_idx ?_); first | refine WL.y H (Y.idx rfl rfl (by first | omega | (simp only [List.length_cons, List.length_nil]; done) | (simp only [List.length_cons, List.length_nil]; omega)) (by first | omega | (simp only [List.length_cons, List.length_nil]; done) | (simp only [List.length_cons, List.length_nil]; omega))) (by decide) ?_)
      | ((with_reducible refine is_build ?_); first | refine WL.y H (Y.build rfl rfl) (by decide) ?_)
      | ((with_reducible refine is_neq ?_); first | refine WL.y H ((Y.neq rfl rfl).boolT (by first | omega | (simp only [List.length_cons, List.length_nil]; done) | (simp only [List.length_cons, List.length_nil]; omega))) (by decide) ?_ | refine WL.y H ((Y.neq rfl rfl).boolF (by first | omega | (simp only [List.length_cons, List.length_nil]; done) | (simp only [List.length_cons, List.length_nil]; omega))) (by decide) ?_ | (refine WL.cmp H (Y.neq rfl rfl) (by decide) ?_ ?_ <;> intro hcmp))
      | ((with_reducible refine is_box ?_); first | (refine WL.boxN H rfl (by decide) ?_; intro _ w H _ _ _) | (refine WL.box1 H rfl rfl (by decide) ?_; intro _ w H _ _ _))
      | ((with_reducible refine is_alloc ?_); refine WL.alloc H (by decide) ?_; intro _ w H _ _ _)
      | ((with_reducible refine is_store ?_); first | (refine WL.store1 H rfl rfl rfl (by repeat' (first | exact Upd.here .. | apply Upd.there)) rfl ?_; intro w H _) | (refine WL.storeN H rfl rfl rfl rfl (by repeat' (first | exact Upd.here .. | apply Upd.there)) rfl ?_; intro w H _))
      | ((with_reducible refine is_bslice ?_); refine WL.bslice H rfl rfl rfl (by decide) ?_; intro _ w H _ _ _))
    refine AtQ.r1 (resVal.cN H rfl (by repeat' (first | exact List.mem_cons_self .. | apply List.mem_cons_of_mem)) rfl) ?_
    refine ⟨⟨4, 0, ⟨#[]⟩, some ⟨_, 0, none⟩, 2, [t1, t2]⟩, rfl, ?_, Own.pair (T := 47) (H.blk (by repeat' (first | exact List.mem_cons_self .. | apply List.mem_cons_of_mem))) (by omega) (Nat.le_refl _) ((H.own _ t1 (by repeat' (first | exact List.mem_cons_self .. | apply List.mem_cons_of_mem))).mono (by omega)) ((H.own _ t2 (by repeat' (first | exact List.mem_cons_self .. | apply List.mem_cons_of_mem))).mono (by omega)) (fun hb => by have := hhi1 _ hb; omega) (fun hb => by have := hhi2 _ hb; omega) (fun z h1 h2 => by have := hhi1 _ h1; have := hlo2 _ h2; omega), H.chg⟩
    rw [er_eq]
    simp only [List.map_cons, List.map_nil, he1, he2]
    rfl
  | nil => intro t w he ht; exact impl_copyTerm_leaf _ t w he ht (fun _ _ h => by cases h)
  | var n => intro t w he ht; exact impl_copyTerm_leaf _ t w he ht (fun _ _ h => by cases h)
  | sym n => intro t w he ht; exact impl_copyTerm_leaf _ t w he ht (fun _ _ h => by cases h)
  | int n => intro t w he ht; exact impl_copyTerm_leaf _ t w he ht (fun _ _ h => by cases h)
end Go.Proofs.Ytpfooiepmnaoaaa.E
