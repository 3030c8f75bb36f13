/- Marks held: the walks. -/
import Derived.Test.YtpfooiepmnaoaaaEngK2
namespace Go.Proofs.Ytpfooiepmnaoaaa.E
open Go Go.RowKit Go.Proofs.Ytpfooiepmnaoaaa.X Go.Proofs.YtpfooiepmnaoaaaW.PrintWords Go.Proofs.Ytpfooiepmnaoaaa.Base
set_option linter.unusedVariables false
set_option linter.unusedSimpArgs false
theorem tA_read1 {b o c j p : Nat} {d r : List LT} {t : LT} {v : Value} (hj : j < 4) (hp : p = o + (d.length * 4 + j)) (hv : (tcs t)[j]? = some v) : (tA (nod (some ⟨b, o, none⟩) c (d ++ t :: r))).reads b p v := by
  intro w hw
  obtain ⟨b2, o2, cs2, T2, fz2, ha2, hb2, hv2⟩ := HT.row hw (by simp)
  obtain ⟨rfl, rfl, _⟩ := Addr.mk.inj (Option.some.inj ha2)
  have h1 := hv2 (d.length * 4 + j) v (by
    have := tcells_get (d ++ t :: r) d.length j (by simp) hj
    show (tcells (d ++ t :: r))[d.length * 4 + j]? = some v
    rw [this]; simpa using hv)
  simp [World.cell?, hb2, hp, h1]
set_option maxRecDepth 100000 in
set_option maxHeartbeats 4000000 in
theorem laws_heldTermS_of (a : Option Addr) (c : Nat) (l : List LT) (hl : l.length ≤ 1048576) (ih : ∀ y ∈ l, ∀ (w : World) (k k' : Int), HT w (nod y.a y.c y.l) → Mkd y.l k k' → 0 ≤ k → k' ≤ 4000000000000000000 → Fn Try.prog 39 [sl y.a y.l.length y.c, .int .i64 k] w fun u w' => u = .int .i64 k' ∧ Chg noF w w') :
    ∀ (w0 : World) (k0 k' : Int), HT w0 (nod a c l) → Mkd l k0 k' → 0 ≤ k0 → k' ≤ 4000000000000000000 → Fn Try.prog 39 [sl a l.length c, .int .i64 k0] w0 fun u w' => u = .int .i64 k' ∧ Chg noF w0 w' := by
  intro w0 k0 k' ht hm h0 hk
  refine Fn.body (N := 50) Try.func39 rfl rfl rfl rfl rfl ?_
  have H : SH w0 noF w0 [] [tA (nod a c l)] := SH.start _ _ _ (by simpa [tA] using ht)
  repeat' (first
    | (with_reducible refine WC.seq ?_)
    | (with_reducible refine WC.reg ?_)
    | (with_reducible refine WC.block ?_)
    | (with_reducible refine WC.skip ?_)
    | (with_reducible refine WC.ret ?_)
    | (with_reducible refine WC.exit ?_)
    | ((with_reducible refine is_cond ?_); first | refine WC.ctrue rfl ?_ | refine WC.cfalse rfl ?_ | (refine WC.cbool rfl ?_ ?_ <;> intro hcnd))
    | (with_reducible refine WL.nilK ?_)
    | (with_reducible refine WL.nil ?_)
    | (with_reducible refine AtQ.then_norm ?_)
    | (with_reducible refine AtQ.then_ret ?_)
    | (with_reducible refine AtQ.then_exit ?_)
    | (with_reducible refine AtQ.block_ret ?_)
    | (with_reducible refine AtQ.block_norm ?_)
    | (with_reducible refine AtQ.block_here ?_)
    | (with_reducible refine AtQ.loop_ret ?_)
    | (with_reducible refine AtQ.loop_exit ?_)
    | (with_reducible refine AtQ.out_ret ?_)
    | (with_reducible refine AtQ.out_exit ?_)
    | ((with_reducible refine AtQ.block_other ?_ ?_); · exact rfl)
    | ((with_reducible refine is_move ?_); first | refine WL.y H (Y.move rfl) (by decide) ?_)
    | ((with_reducible refine is_assign ?_); first | refine WL.y H (Y.assign rfl) (by decide) ?_)
    | ((with_reducible refine is_fld ?_); first | refine WL.y H (Y.fld rfl) (by decide) ?_)
    | ((with_reducible refine is_load ?_); first | refine WL.y H (Y.loadX rfl (by repeat' (first | exact List.mem_cons_self .. | apply List.mem_cons_of_mem)) rfl) (by decide) ?_ | refine WL.y H (Y.loadXN rfl (by repeat' (first | exact List.mem_cons_self .. | apply List.mem_cons_of_mem)) rfl rfl) (by decide) ?_)
    | ((with_reducible refine is_idx ?_); first | refine WL.y H (Y.idx rfl rfl (by first | omega | (simp only [List.length_cons, List.length_nil]; done) | (simp only [List.length_cons, List.length_nil]; omega)) (by first | omega | (simp only [List.length_cons, List.length_nil]; done) | (simp only [List.length_cons, List.length_nil]; omega))) (by decide) ?_)
    | ((with_reducible refine is_len ?_); first | refine WL.y H (Y.lenS rfl) (by decide) ?_)
    | ((with_reducible refine is_add ?_); first | refine WL.y H (Y.add rfl rfl (by first | omega | (simp only [List.length_cons, List.length_nil]; done) | (simp only [List.length_cons, List.length_nil]; omega)) (by first | omega | (simp only [List.length_cons, List.length_nil]; done) | (simp only [List.length_cons, List.length_nil]; omega))) (by decide) ?_)
    | ((with_reducible refine is_neq ?_); first | refine WL.y H ((Y.neq rfl rfl).boolT (by first | omega | (simp only [List.length_cons, List.length_nil]; done) | (simp only [List.length_cons, List.length_nil]; omega))) (by decide) ?_ | refine WL.y H ((Y.neq rfl rfl).boolF (by first | omega | (simp only [List.length_cons, List.length_nil]; done) | (simp only [List.length_cons, List.length_nil]; omega))) (by decide) ?_ | refine WL.y H (Y.neqSe rfl rfl rfl) (by decide) ?_ | refine WL.y H (Y.neqBe rfl rfl) (by decide) ?_ | (refine WL.cmp H (Y.neq rfl rfl) (by decide) ?_ ?_ <;> intro hcmp))
    | ((with_reducible refine is_lss ?_); first | refine WL.y H ((Y.lss rfl rfl).boolT (by first | omega | (simp only [List.length_cons, List.length_nil]; done) | (simp only [List.length_cons, List.length_nil]; omega))) (by decide) ?_ | refine WL.y H ((Y.lss rfl rfl).boolF (by first | omega | (simp only [List.length_cons, List.length_nil]; done) | (simp only [List.length_cons, List.length_nil]; omega))) (by decide) ?_ | (refine WL.cmp H (Y.lss rfl rfl) (by decide) ?_ ?_ <;> intro hcmp)))
  refine WC.loop (σ := Nat × List LT × Int) (fun s => [(0, sl a l.length c), (1, .int .i64 s.2.2), (5, .int .i64 (s.1 : Nat))])
    (fun s w' => ∃ d, l = d ++ s.2.1 ∧ d.length = s.1 ∧ 0 ≤ s.2.2 ∧ Mkd s.2.1 s.2.2 k' ∧ SH w0 noF w' [] [tA (nod a c l)])
    (fun s => s.2.1.length) (0, l, k0) (by repeat' (first | exact Sub.nil | refine Sub.cons rfl ?_)) ⟨[], rfl, rfl, h0, hm, H⟩ (fun s w hinv => ?_)
  obtain ⟨i, r, k⟩ := s
  obtain ⟨d, hsplit, hd, hk0, hmk, H⟩ := hinv
  simp only at hsplit hd hk0 hmk H ⊢
  subst hd
  have hlen : l.length = d.length + r.length := by rw [hsplit, List.length_append]
  cases hmk with
  | nil =>
    have hlen2 : d.length = l.length := by simp at hlen; omega
    repeat' (first
      | (with_reducible refine WC.seq ?_)
      | (with_reducible refine WC.reg ?_)
      | (with_reducible refine WC.block ?_)
      | (with_reducible refine WC.skip ?_)
      | (with_reducible refine WC.ret ?_)
      | (with_reducible refine WC.exit ?_)
      | ((with_reducible refine is_cond ?_); first | refine WC.ctrue rfl ?_ | refine WC.cfalse rfl ?_ | (refine WC.cbool rfl ?_ ?_ <;> intro hcnd))
      | (with_reducible refine WL.nilK ?_)
      | (with_reducible refine WL.nil ?_)
      | (with_reducible refine AtQ.then_norm ?_)
      | (with_reducible refine AtQ.then_ret ?_)
      | (with_reducible refine AtQ.then_exit ?_)
      | (with_reducible refine AtQ.block_ret ?_)
      | (with_reducible refine AtQ.block_norm ?_)
      | (with_reducible refine AtQ.block_here ?_)
      | (with_reducible refine AtQ.loop_ret ?_)
      | (with_reducible refine AtQ.loop_exit ?_)
      | (with_reducible refine AtQ.out_ret ?_)
      | (with_reducible refine AtQ.out_exit ?_)
      | ((with_reducible refine AtQ.block_other ?_ ?_); · exact rfl)
      | ((with_reducible refine is_move ?_); first | refine WL.y H (Y.move rfl) (by decide) ?_)
      | ((with_reducible refine is_assign ?_); first | refine WL.y H (Y.assign rfl) (by decide) ?_)
      | ((with_reducible refine is_fld ?_); first | refine WL.y H (Y.fld rfl) (by decide) ?_)
      | ((with_reducible refine is_load ?_); first | refine WL.y H (Y.loadX rfl (by repeat' (first | exact List.mem_cons_self .. | apply List.mem_cons_of_mem)) rfl) (by decide) ?_ | refine WL.y H (Y.loadXN rfl (by repeat' (first | exact List.mem_cons_self .. | apply List.mem_cons_of_mem)) rfl rfl) (by decide) ?_)
      | ((with_reducible refine is_idx ?_); first | refine WL.y H (Y.idx rfl rfl (by first | omega | (simp only [List.length_cons, List.length_nil]; done) | (simp only [List.length_cons, List.length_nil]; omega)) (by first | omega | (simp only [List.length_cons, List.length_nil]; done) | (simp only [List.length_cons, List.length_nil]; omega))) (by decide) ?_)
      | ((with_reducible refine is_len ?_); first | refine WL.y H (Y.lenS rfl) (by decide) ?_)
      | ((with_reducible refine is_add ?_); first | refine WL.y H (Y.add rfl rfl (by first | omega | (simp only [List.length_cons, List.length_nil]; done) | (simp only [List.length_cons, List.length_nil]; omega)) (by first | omega | (simp only [List.length_cons, List.length_nil]; done) | (simp only [List.length_cons, List.length_nil]; omega))) (by decide) ?_)
      | ((with_reducible refine is_neq ?_); first | refine WL.y H ((Y.neq rfl rfl).boolT (by first | omega | (simp only [List.length_cons, List.length_nil]; done) | (simp only [List.length_cons, List.length_nil]; omega))) (by decide) ?_ | refine WL.y H ((Y.neq rfl rfl).boolF (by first | omega | (simp only [List.length_cons, List.length_nil]; done) | (simp only [List.length_cons, List.length_nil]; omega))) (by decide) ?_ | refine WL.y H (Y.neqSe rfl rfl rfl) (by decide) ?_ | refine WL.y H (Y.neqBe rfl rfl) (by decide) ?_ | (refine WL.cmp H (Y.neq rfl rfl) (by decide) ?_ ?_ <;> intro hcmp))
      | ((with_reducible refine is_lss ?_); first | refine WL.y H ((Y.lss rfl rfl).boolT (by first | omega | (simp only [List.length_cons, List.length_nil]; done) | (simp only [List.length_cons, List.length_nil]; omega))) (by decide) ?_ | refine WL.y H ((Y.lss rfl rfl).boolF (by first | omega | (simp only [List.length_cons, List.length_nil]; done) | (simp only [List.length_cons, List.length_nil]; omega))) (by decide) ?_ | (refine WL.cmp H (Y.lss rfl rfl) (by decide) ?_ ?_ <;> intro hcmp)))
    exact AtQ.r1 (resVal.t rfl) ⟨rfl, H.chg⟩
  | @cons t r _ k1 _ e0 e1 e2 hm1 hm2 =>
    have htl : t ∈ l := by rw [hsplit]; simp
    have hne : l ≠ [] := List.ne_nil_of_mem htl
    obtain ⟨b, o, cs, T, fz, ha, _, _⟩ := (H.ht (nod a c l) (by repeat' (first | exact List.mem_cons_self .. | apply List.mem_cons_of_mem))).row hne
    have ha' : a = some ⟨b, o, none⟩ := ha
    subst ha'
    simp only [List.length_cons] at hlen
    have hkl := hm1.le
    have hkl2 := hm2.le
    have hkid : ∀ w, HT w (nod (some ⟨b, o, none⟩) c l) → HT w (nod t.a t.c t.l) := fun w h => (h.kid t htl).nod
    have rd : ∀ {j p : Nat} {v : Value}, j < 4 → p = o + (d.length * 4 + j) → (tcs t)[j]? = some v → (tA (nod (some ⟨b, o, none⟩) c l)).reads b p v := fun hj hp hv => by rw [hsplit]; exact tA_read1 hj hp hv
    repeat' (first
      | (with_reducible refine WC.seq ?_)
      | (with_reducible refine WC.reg ?_)
      | (with_reducible refine WC.block ?_)
      | (with_reducible refine WC.skip ?_)
      | (with_reducible refine WC.ret ?_)
      | (with_reducible refine WC.exit ?_)
      | ((with_reducible refine is_cond ?_); first | refine WC.ctrue rfl ?_ | refine WC.cfalse rfl ?_ | (refine WC.cbool rfl ?_ ?_ <;> intro hcnd))
      | (with_reducible refine WL.nilK ?_)
      | (with_reducible refine WL.nil ?_)
      | (with_reducible refine AtQ.then_norm ?_)
      | (with_reducible refine AtQ.then_ret ?_)
      | (with_reducible refine AtQ.then_exit ?_)
      | (with_reducible refine AtQ.block_ret ?_)
      | (with_reducible refine AtQ.block_norm ?_)
      | (with_reducible refine AtQ.block_here ?_)
      | (with_reducible refine AtQ.loop_ret ?_)
      | (with_reducible refine AtQ.loop_exit ?_)
      | (with_reducible refine AtQ.out_ret ?_)
      | (with_reducible refine AtQ.out_exit ?_)
      | ((with_reducible refine AtQ.block_other ?_ ?_); · exact rfl)
      | ((with_reducible refine is_move ?_); first | refine WL.y H (Y.move rfl) (by decide) ?_)
      | ((with_reducible refine is_assign ?_); first | refine WL.y H (Y.assign rfl) (by decide) ?_)
      | ((with_reducible refine is_fld ?_); first | refine WL.y H (Y.fld rfl) (by decide) ?_)
      | ((with_reducible refine is_load ?_); first | refine WL.y H (Y.loadX rfl (by repeat' (first | exact List.mem_cons_self .. | apply List.mem_cons_of_mem)) rfl) (by decide) ?_ | refine WL.y H (Y.loadXN rfl (by repeat' (first | exact List.mem_cons_self .. | apply List.mem_cons_of_mem)) rfl rfl) (by decide) ?_ | refine WL.y H (Y.loadS rfl (by repeat' (first | exact List.mem_cons_self .. | apply List.mem_cons_of_mem)) (rd (j := 0) (v := .int .i64 k) (by decide) (by simp only [Int.toNat_natCast]; omega) (by rw [← e0]; rfl))) (by decide) ?_ | refine WL.y H (Y.loadS rfl (by repeat' (first | exact List.mem_cons_self .. | apply List.mem_cons_of_mem)) (rd (j := 1) (v := .int .i64 (k + 1)) (by decide) (by simp only [Int.toNat_natCast]; omega) (by rw [← e1]; rfl))) (by decide) ?_)
      | ((with_reducible refine is_idx ?_); first | refine WL.y H (Y.idx rfl rfl (by first | omega | (simp only [List.length_cons, List.length_nil]; done) | (simp only [List.length_cons, List.length_nil]; omega)) (by first | omega | (simp only [List.length_cons, List.length_nil]; done) | (simp only [List.length_cons, List.length_nil]; omega))) (by decide) ?_)
      | ((with_reducible refine is_len ?_); first | refine WL.y H (Y.lenS rfl) (by decide) ?_)
      | ((with_reducible refine is_add ?_); first | refine WL.y H (Y.add rfl rfl (by first | omega | (simp only [List.length_cons, List.length_nil]; done) | (simp only [List.length_cons, List.length_nil]; omega)) (by first | omega | (simp only [List.length_cons, List.length_nil]; done) | (simp only [List.length_cons, List.length_nil]; omega))) (by decide) ?_)
      | ((with_reducible refine is_neq ?_); first | refine WL.y H ((Y.neq rfl rfl).boolT (by first | omega | (simp only [List.length_cons, List.length_nil]; done) | (simp only [List.length_cons, List.length_nil]; omega))) (by decide) ?_ | refine WL.y H ((Y.neq rfl rfl).boolF (by first | omega | (simp only [List.length_cons, List.length_nil]; done) | (simp only [List.length_cons, List.length_nil]; omega))) (by decide) ?_ | refine WL.y H (Y.neqSe rfl rfl rfl) (by decide) ?_ | refine WL.y H (Y.neqBe rfl rfl) (by decide) ?_ | (refine WL.cmp H (Y.neq rfl rfl) (by decide) ?_ ?_ <;> intro hcmp))
      | ((with_reducible refine is_lss ?_); first | refine WL.y H ((Y.lss rfl rfl).boolT (by first | omega | (simp only [List.length_cons, List.length_nil]; done) | (simp only [List.length_cons, List.length_nil]; omega))) (by decide) ?_ | refine WL.y H ((Y.lss rfl rfl).boolF (by first | omega | (simp only [List.length_cons, List.length_nil]; done) | (simp only [List.length_cons, List.length_nil]; omega))) (by decide) ?_ | (refine WL.cmp H (Y.lss rfl rfl) (by decide) ?_ ?_ <;> intro hcmp)))
    refine WC.draw mixed H (by repeat' (first | exact .nil | apply Sel.keep)) ?_
    intro w H _
    first
      | refine WR.take 0 (by kernel_rfl) (fun _ _ _ h => h) (Nth.get (by repeat' (first | exact Nth.zero .. | apply Nth.succ))) rfl (by decide) (Wd.none rfl) rfl (Y.move rfl) (by kernel_rfl) ?_
    first
      | refine WR.take 1 (by kernel_rfl) (fun _ _ _ h => h) (Nth.get (by repeat' (first | exact Nth.zero .. | apply Nth.succ))) rfl (by decide) (Wd.none rfl) rfl (Y.move rfl) (by kernel_rfl) ?_
    first
      | refine WR.take 2 (by kernel_rfl) (fun _ _ _ h => h) (Nth.get (by repeat' (first | exact Nth.zero .. | apply Nth.succ))) rfl (by decide) (Wd.none rfl) rfl (Y.idx rfl rfl (by first | omega | (simp only [List.length_cons, List.length_nil]; done) | (simp only [List.length_cons, List.length_nil]; omega)) (by first | omega | (simp only [List.length_cons, List.length_nil]; done) | (simp only [List.length_cons, List.length_nil]; omega))) (by kernel_rfl) ?_
    first
      | refine WR.take 3 (by kernel_rfl) (fun _ _ _ h => h) (Nth.get (by repeat' (first | exact Nth.zero .. | apply Nth.succ))) rfl (by decide) (Wd.none rfl) rfl (Y.fld rfl) (by kernel_rfl) ?_
    first
      | refine WR.take 4 (by kernel_rfl) (fun _ _ _ h => h) (Nth.get (by repeat' (first | exact Nth.zero .. | apply Nth.succ))) rfl (by decide) (Wd.none rfl) rfl (Y.loadS rfl (by repeat' (first | exact List.mem_cons_self .. | apply List.mem_cons_of_mem)) (rd (j := 2) (v := .string (mtx (k + 2))) (by decide) (by simp only [Int.toNat_natCast]; omega) (by rw [← e2]; rfl))) (by kernel_rfl) ?_
      | refine WR.take 4 (by kernel_rfl) (fun _ _ _ h => h) (Nth.get (by repeat' (first | exact Nth.zero .. | apply Nth.succ))) rfl (by decide) (Wd.none rfl) rfl (Y.loadX rfl (by repeat' (first | exact List.mem_cons_self .. | apply List.mem_cons_of_mem)) rfl) (by kernel_rfl) ?_
    first
      | refine WR.take 5 (by kernel_rfl) (fun _ _ _ h => h) (Nth.get (by repeat' (first | exact Nth.zero .. | apply Nth.succ))) rfl (by decide) (Wd.none rfl) rfl (Y.move rfl) (by kernel_rfl) ?_
    refine WR.run 6 (Nth.get (by repeat' (first | exact Nth.zero .. | apply Nth.succ))) (by kernel_rfl) ?_
    repeat' (first
      | ((with_reducible refine is_call (f := 70) ?_); refine WL.call (vs := [.int .i64 (k + 1 + 1)]) rfl (laws_markText_fn (k + 1 + 1) _ (by omega)) (by decide) ?_; intro v w hv2; obtain ⟨f1, hc1⟩ := hv2; rw [Int.add_assoc] at f1; subst f1; have H := H.call hc1))
    with_reducible refine WL.nilK ?_
    refine ⟨H.mi (by repeat' (first | exact Incl.nil _ | refine Incl.cons (by repeat' (first | exact List.mem_cons_self .. | apply List.mem_cons_of_mem)) ?_)) (by repeat' (first | exact Incl.nil _ | refine Incl.cons (by repeat' (first | exact List.mem_cons_self .. | apply List.mem_cons_of_mem)) ?_)), ?_⟩
    first
      | refine WR.take 7 (by kernel_rfl) (fun _ _ _ h => h) (Nth.get (by repeat' (first | exact Nth.zero .. | apply Nth.succ))) rfl (by decide) (Wd.none rfl) rfl ((Y.neq rfl rfl).boolT (by first | omega | (simp only [List.length_cons, List.length_nil]; done) | (simp only [List.length_cons, List.length_nil]; omega))) (by kernel_rfl) ?_
      | refine WR.take 7 (by kernel_rfl) (fun _ _ _ h => h) (Nth.get (by repeat' (first | exact Nth.zero .. | apply Nth.succ))) rfl (by decide) (Wd.none rfl) rfl ((Y.neq rfl rfl).boolF (by first | omega | (simp only [List.length_cons, List.length_nil]; done) | (simp only [List.length_cons, List.length_nil]; omega))) (by kernel_rfl) ?_
      | refine WR.take 7 (by kernel_rfl) (fun _ _ _ h => h) (Nth.get (by repeat' (first | exact Nth.zero .. | apply Nth.succ))) rfl (by decide) (Wd.none rfl) rfl (Y.neqSe rfl rfl rfl) (by kernel_rfl) ?_
      | refine WR.take 7 (by kernel_rfl) (fun _ _ _ h => h) (Nth.get (by repeat' (first | exact Nth.zero .. | apply Nth.succ))) rfl (by decide) (Wd.none rfl) rfl (Y.neqBe rfl rfl) (by kernel_rfl) ?_
      | refine WR.take 7 (by kernel_rfl) (fun _ _ _ h => h) (Nth.get (by repeat' (first | exact Nth.zero .. | apply Nth.succ))) rfl (by decide) (Wd.none rfl) rfl (Y.neq rfl rfl) (by kernel_rfl) ?_
    refine WR.done (by kernel_rfl) ?_
    repeat' (first
      | (with_reducible refine WC.seq ?_)
      | (with_reducible refine WC.reg ?_)
      | (with_reducible refine WC.block ?_)
      | (with_reducible refine WC.skip ?_)
      | (with_reducible refine WC.ret ?_)
      | (with_reducible refine WC.exit ?_)
      | ((with_reducible refine is_cond ?_); first | refine WC.ctrue rfl ?_ | refine WC.cfalse rfl ?_ | (refine WC.cbool rfl ?_ ?_ <;> intro hcnd))
      | (with_reducible refine WL.nilK ?_)
      | (with_reducible refine WL.nil ?_)
      | (with_reducible refine AtQ.then_norm ?_)
      | (with_reducible refine AtQ.then_ret ?_)
      | (with_reducible refine AtQ.then_exit ?_)
      | (with_reducible refine AtQ.block_ret ?_)
      | (with_reducible refine AtQ.block_norm ?_)
      | (with_reducible refine AtQ.block_here ?_)
      | (with_reducible refine AtQ.loop_ret ?_)
      | (with_reducible refine AtQ.loop_exit ?_)
      | (with_reducible refine AtQ.out_ret ?_)
      | (with_reducible refine AtQ.out_exit ?_)
      | ((with_reducible refine AtQ.block_other ?_ ?_); · exact rfl)
      | ((with_reducible refine is_call (f := 39) ?_); refine WL.call (vs := [sl t.a t.l.length t.c, .int .i64 (k + 1 + 1 + 1)]) rfl (ih t htl _ (k + 1 + 1 + 1) k1 (hkid _ (H.ht (nod _ _ l) (by repeat' (first | exact List.mem_cons_self .. | apply List.mem_cons_of_mem)))) (by rw [show k + 1 + 1 + 1 = k + 3 by omega]; exact hm1) (by omega) (by omega)) (by decide) ?_; intro v w hv2; obtain ⟨f1, hc1⟩ := hv2; subst f1; have H := H.call hc1)
      | ((with_reducible refine is_move ?_); first | refine WL.y H (Y.move rfl) (by decide) ?_)
      | ((with_reducible refine is_assign ?_); first | refine WL.y H (Y.assign rfl) (by decide) ?_)
      | ((with_reducible refine is_fld ?_); first | refine WL.y H (Y.fld rfl) (by decide) ?_)
      | ((with_reducible refine is_load ?_); first | refine WL.y H (Y.loadX rfl (by repeat' (first | exact List.mem_cons_self .. | apply List.mem_cons_of_mem)) rfl) (by decide) ?_ | refine WL.y H (Y.loadXN rfl (by repeat' (first | exact List.mem_cons_self .. | apply List.mem_cons_of_mem)) rfl rfl) (by decide) ?_ | refine WL.y H (Y.loadS rfl (by repeat' (first | exact List.mem_cons_self .. | apply List.mem_cons_of_mem)) (rd (j := 3) (v := sl t.a t.l.length t.c) (by decide) (by simp only [Int.toNat_natCast]; omega) rfl)) (by decide) ?_)
      | ((with_reducible refine is_idx ?_); first | refine WL.y H (Y.idx rfl rfl (by first | omega | (simp only [List.length_cons, List.length_nil]; done) | (simp only [List.length_cons, List.length_nil]; omega)) (by first | omega | (simp only [List.length_cons, List.length_nil]; done) | (simp only [List.length_cons, List.length_nil]; omega))) (by decide) ?_)
      | ((with_reducible refine is_len ?_); first | refine WL.y H (Y.lenS rfl) (by decide) ?_)
      | ((with_reducible refine is_add ?_); first | refine WL.y H (Y.add rfl rfl (by first | omega | (simp only [List.length_cons, List.length_nil]; done) | (simp only [List.length_cons, List.length_nil]; omega)) (by first | omega | (simp only [List.length_cons, List.length_nil]; done) | (simp only [List.length_cons, List.length_nil]; omega))) (by decide) ?_)
      | ((with_reducible refine is_neq ?_); first | refine WL.y H ((Y.neq rfl rfl).boolT (by first | omega | (simp only [List.length_cons, List.length_nil]; done) | (simp only [List.length_cons, List.length_nil]; omega))) (by decide) ?_ | refine WL.y H ((Y.neq rfl rfl).boolF (by first | omega | (simp only [List.length_cons, List.length_nil]; done) | (simp only [List.length_cons, List.length_nil]; omega))) (by decide) ?_ | refine WL.y H (Y.neqSe rfl rfl rfl) (by decide) ?_ | refine WL.y H (Y.neqBe rfl rfl) (by decide) ?_ | (refine WL.cmp H (Y.neq rfl rfl) (by decide) ?_ ?_ <;> intro hcmp))
      | ((with_reducible refine is_lss ?_); first | refine WL.y H ((Y.lss rfl rfl).boolT (by first | omega | (simp only [List.length_cons, List.length_nil]; done) | (simp only [List.length_cons, List.length_nil]; omega))) (by decide) ?_ | refine WL.y H ((Y.lss rfl rfl).boolF (by first | omega | (simp only [List.length_cons, List.length_nil]; done) | (simp only [List.length_cons, List.length_nil]; omega))) (by decide) ?_ | (refine WL.cmp H (Y.lss rfl rfl) (by decide) ?_ ?_ <;> intro hcmp)))
    refine AtQ.loop_norm (d.length + 1, r, k1) (by repeat' (first | exact Sub.nil | refine Sub.cons rfl ?_)) ⟨d ++ [t], by rw [hsplit]; simp, by simp, by simp only; omega, hm2, H⟩ (by simp)
theorem laws_heldTermS_nod : ∀ t : LT, Len t → ∀ (w : World) (k k' : Int), HT w (nod t.a t.c t.l) → Mkd t.l k k' → 0 ≤ k → k' ≤ 4000000000000000000 → Fn Try.prog 39 [sl t.a t.l.length t.c, .int .i64 k] w fun u w' => u = .int .i64 k' ∧ Chg noF w w' := by
  intro t
  induction t using indT with
  | h t ih =>
    intro hs
    obtain ⟨_, h1, h2⟩ := hs
    exact laws_heldTermS_of t.a t.c t.l h1 fun y hy => ih y hy (h2 y hy)
theorem laws_heldTermS_ok {w : World} {a : Option Addr} {c : Nat} {l : List LT} (k k' : Int) (ho : HT w (nod a c l)) (hs : Len (nod a c l)) (hm : Mkd l k k') (h0 : 0 ≤ k) (hk : k' ≤ 4000000000000000000) : Fn Try.prog 39 [sl a l.length c, .int .i64 k] w fun u w' => u = .int .i64 k' ∧ Chg noF w w' := laws_heldTermS_nod (nod a c l) hs w k k' ho hm h0 hk
/-- What markTerm does. -/
def MkT (B : Nat) (t : LT) (k : Int) (w : World) (u : Value) (w' : World) : Prop :=
  ∃ l' : List LT, u = .int .i64 (k + 3 * cnL t.l) ∧ Mkd l' k (k + 3 * cnL t.l) ∧ l'.length = t.l.length ∧ ftR l' = ftR t.l ∧ Own B w' ⟨t.k, t.i, t.s, t.a, t.c, l'⟩ ∧ Chg (fun z => z ∈ ft t) w w'
set_option maxRecDepth 100000 in
set_option maxHeartbeats 4000000 in
theorem laws_markTerm_ok {B : Nat} {w0 : World} {t : LT} (k : Int) (ho : Own B w0 t) (hs : Len t) (h0 : 0 ≤ k) (hk : k + 3 * cnL t.l ≤ 4000000000000000000) : Fn Try.prog 38 [tv t, .int .i64 k] w0 (MkT B t k w0) := by
  have hs' : Len (nod t.a t.c t.l) := by obtain ⟨_, h1, h2⟩ := hs; exact ⟨_, h1, h2⟩
  have e : ft (nod t.a t.c t.l) = ft t := by rw [ft_nd, ft_eq]
  refine Fn.body (N := 10) Try.func38 rfl rfl rfl rfl rfl ?_
  have H : SH w0 (fun z => z ∈ ft t) w0 [] [oA B (nod t.a t.c t.l)] := SH.start _ _ _ (by simpa [oA] using (show Own B w0 (nod t.a t.c t.l) from (by obtain ⟨_, _, _, _, _, _⟩ := t; exact ho.kis' 0 0 ⟨#[]⟩)))
  repeat' (first
    | (with_reducible refine WC.seq ?_)
    | (with_reducible refine WC.reg ?_)
    | (with_reducible refine WC.skip ?_)
    | (with_reducible refine WC.ret ?_)
    | (with_reducible refine WL.nilK ?_)
    | (with_reducible refine WL.nil ?_)
    | (with_reducible refine AtQ.then_norm ?_)
    | (with_reducible refine AtQ.then_ret ?_)
    | (with_reducible refine AtQ.out_ret ?_)
    | ((with_reducible refine is_call ?_); refine WL.call (vs := [sl t.a t.l.length t.c, .int .i64 k]) rfl (laws_markTermS_ok k (H.own _ (nod t.a t.c t.l) (by repeat' (first | exact List.mem_cons_self .. | apply List.mem_cons_of_mem))) hs' h0 hk) (by decide) ?_; intro v w hv2; obtain ⟨l', e1, hm1, hln1, hfr1, ho1, hc1⟩ := hv2; subst e1; have hft : ft (nod t.a t.c l') = ft (nod t.a t.c t.l) := (by rw [ft_nd, ft_nd]; exact ftL_len _ hln1 hfr1); have H := H.eff (A' := oA B (nod t.a t.c l')) hc1 ho1 (fun z hz => .inl (by show z ∈ ft (nod t.a t.c t.l); rw [← hft]; exact hz)) (fun z hz => .inl (by rw [← e]; exact hz)) (fun A hA => by cases hA))
    | ((with_reducible refine is_move ?_); first | refine WL.y H (Y.move rfl) (by decide) ?_)
    | ((with_reducible refine is_assign ?_); first | refine WL.y H (Y.assign rfl) (by decide) ?_)
    | ((with_reducible refine is_fld ?_); first | refine WL.y H (Y.fld rfl) (by decide) ?_)
    | ((with_reducible refine is_load ?_); first | refine WL.y H (Y.loadX rfl (by repeat' (first | exact List.mem_cons_self .. | apply List.mem_cons_of_mem)) rfl) (by decide) ?_ | refine WL.y H (Y.loadXN rfl (by repeat' (first | exact List.mem_cons_self .. | apply List.mem_cons_of_mem)) rfl rfl) (by decide) ?_)
    | ((with_reducible refine is_box ?_); first | (refine WL.boxN H rfl (by decide) ?_; intro _ w H _ _ _) | (refine WL.box1 H rfl rfl (by decide) ?_; intro _ w H _ _ _)))
  exact AtQ.r1 (resVal.t rfl) ⟨l', rfl, hm1, hln1, hfr1, (H.own _ (nod t.a t.c l') (by repeat' (first | exact List.mem_cons_self .. | apply List.mem_cons_of_mem))).kis' _ _ _, H.chg⟩
set_option maxRecDepth 100000 in
set_option maxHeartbeats 4000000 in
theorem laws_heldTerm_ok {w0 : World} {t : LT} (k k' : Int) (ho : HT w0 t) (hs : Len t) (hm : Mkd t.l k k') (h0 : 0 ≤ k) (hk : k' ≤ 4000000000000000000) : Fn Try.prog 40 [tv t, .int .i64 k] w0 fun u w' => u = .int .i64 k' ∧ Chg noF w0 w' := by
  have hs' : Len (nod t.a t.c t.l) := by obtain ⟨_, h1, h2⟩ := hs; exact ⟨_, h1, h2⟩
  have hle := hm.le
  refine Fn.body (N := 12) Try.func40 rfl rfl rfl rfl rfl ?_
  have H : SH w0 noF w0 [] [tA t] := SH.start _ _ _ (by simpa [tA] using ho)
  repeat' (first
    | (with_reducible refine WC.seq ?_)
    | (with_reducible refine WC.reg ?_)
    | (with_reducible refine WC.skip ?_)
    | (with_reducible refine WC.ret ?_)
    | ((with_reducible refine is_cond ?_); first | refine WC.ctrue rfl ?_ | refine WC.cfalse rfl ?_ | (refine WC.cbool rfl ?_ ?_ <;> intro hcnd))
    | (with_reducible refine WL.nilK ?_)
    | (with_reducible refine WL.nil ?_)
    | (with_reducible refine AtQ.then_norm ?_)
    | (with_reducible refine AtQ.then_ret ?_)
    | (with_reducible refine AtQ.out_ret ?_)
    | ((with_reducible refine is_call ?_); refine WL.call (vs := [sl t.a t.l.length t.c, .int .i64 k]) rfl (laws_heldTermS_ok k k' (H.ht t (by repeat' (first | exact List.mem_cons_self .. | apply List.mem_cons_of_mem))).nod hs' hm h0 hk) (by decide) ?_; intro v w hv2; obtain ⟨e1, hc1⟩ := hv2; subst e1; have H := H.call hc1)
    | ((with_reducible refine is_move ?_); first | refine WL.y H (Y.move rfl) (by decide) ?_)
    | ((with_reducible refine is_assign ?_); first | refine WL.y H (Y.assign rfl) (by decide) ?_)
    | ((with_reducible refine is_fld ?_); first | refine WL.y H (Y.fld rfl) (by decide) ?_)
    | ((with_reducible refine is_load ?_); first | refine WL.y H (Y.loadX rfl (by repeat' (first | exact List.mem_cons_self .. | apply List.mem_cons_of_mem)) rfl) (by decide) ?_ | refine WL.y H (Y.loadXN rfl (by repeat' (first | exact List.mem_cons_self .. | apply List.mem_cons_of_mem)) rfl rfl) (by decide) ?_)
    | ((with_reducible refine is_lss ?_); first | refine WL.y H ((Y.lss rfl rfl).boolT (by first | omega | (simp only [List.length_cons, List.length_nil]; done) | (simp only [List.length_cons, List.length_nil]; omega))) (by decide) ?_ | refine WL.y H ((Y.lss rfl rfl).boolF (by first | omega | (simp only [List.length_cons, List.length_nil]; done) | (simp only [List.length_cons, List.length_nil]; omega))) (by decide) ?_ | (refine WL.cmp H (Y.lss rfl rfl) (by decide) ?_ ?_ <;> intro hcmp))
    | ((with_reducible refine is_box ?_); first | (refine WL.boxN H rfl (by decide) ?_; intro _ w H _ _ _) | (refine WL.box1 H rfl rfl (by decide) ?_; intro _ w H _ _ _)))
  exact AtQ.r1 (resVal.t rfl) ⟨rfl, H.chg⟩
theorem Mkd.len3 {l : List LT} {k k' : Int} (h : Mkd l k k') : 3 * (l.length : Int) ≤ k' - k := by
  induction h with
  | nil => simp
  | cons h0 h1 h2 hl hr i1 i2 => have := hl.le; simp only [List.length_cons]; omega
theorem Mkd.lens {l : List LT} {k k' : Int} (h : Mkd l k k') : k' - k ≤ 3145728 → ∀ a c, Len (nod a c l) := by
  induction h with
  | nil => intro _ a c; exact ⟨_, by simp, by intro y hy; cases hy⟩
  | @cons t r k k1 k2 h0 h1 h2 hl hr i1 i2 =>
    intro hk a c
    have e1 := hl.le
    have e2 := hr.le
    have l1 := hl.len3
    have l2 := hr.len3
    refine ⟨_, by simp only [List.length_cons]; omega, fun y hy => ?_⟩
    rcases List.mem_cons.1 hy with rfl | hy
    · obtain ⟨_, g1, g2⟩ := i1 (by omega) none 0
      exact ⟨_, g1, g2⟩
    · obtain ⟨_, g1, g2⟩ := i2 (by omega) none 0
      exact g2 y hy
/-- A part of what is held is worked on and let go. -/
theorem SH.off {w0 w w' : World} {F0 : Nat → Prop} {X : List (Nat × Obj)} {S S' : List Asn} {A : Asn} (H : SH w0 F0 w X S) (hA : A ∈ S) (hc : Chg A.ft w w') (hi : Incl S' S) (hF : ∀ b, A.ft b → F0 b ∨ w0.heap.size ≤ b) (hd : ∀ B ∈ S', ∀ b, B.ft b → ¬ A.ft b) : SH w0 F0 w' X S' :=
  (H.dropI hi).away hc hF (H.sep A hA) hd
/-- A list made by a call bears marks now. -/
theorem SH.markS {w0 w w' : World} {F0 : Nat → Prop} {X : List (Nat × Obj)} {S : List Asn} {B : Nat} {a : Option Addr} {c : Nat} {l l' : List LT} (H : SH w0 F0 w X (oA B (nod a c l) :: S)) (hB : w0.heap.size ≤ B) (hln : l'.length = l.length) (hfr : ftR l' = ftR l) (ho : Own B w' (nod a c l')) (hc : Chg (fun z => z ∈ ft (nod a c l)) w w') (hd : ∀ A ∈ S, ∀ b, A.ft b → ¬ b ∈ ft (nod a c l)) : SH w0 F0 w' X (oA B (nod a c l') :: S) :=
  H.eff (A' := oA B (nod a c l')) hc ho (fun z hz => .inl (by have hz' : z ∈ ft (nod a c l') := hz; rw [ft_nd, ftL_len a hln hfr, ← ft_nd (c := c)] at hz'; exact hz')) (fun z hz => .inr (Nat.le_trans hB ((H.own B _ (List.mem_cons_self ..)).new z hz))) hd
/-- A term made by a call bears marks now. -/
theorem SH.markT {w0 w w' : World} {F0 : Nat → Prop} {X : List (Nat × Obj)} {S : List Asn} {B : Nat} {t : LT} {l' : List LT} (H : SH w0 F0 w X (oA B t :: S)) (hB : w0.heap.size ≤ B) (hln : l'.length = t.l.length) (hfr : ftR l' = ftR t.l) (ho : Own B w' ⟨t.k, t.i, t.s, t.a, t.c, l'⟩) (hc : Chg (fun z => z ∈ ft t) w w') (hd : ∀ A ∈ S, ∀ b, A.ft b → ¬ b ∈ ft t) : SH w0 F0 w' X (oA B ⟨t.k, t.i, t.s, t.a, t.c, l'⟩ :: S) :=
  H.eff (A' := oA B ⟨t.k, t.i, t.s, t.a, t.c, l'⟩) hc ho (fun z hz => .inl (by have hz' : z ∈ ft (⟨t.k, t.i, t.s, t.a, t.c, l'⟩ : LT) := hz; rw [ft_eq] at hz'; have h2 : z ∈ ftL t.a l' := hz'; rw [ftL_len _ hln hfr, ← ft_eq] at h2; exact h2)) (fun z hz => .inr (Nat.le_trans hB ((H.own B _ (List.mem_cons_self ..)).new z hz))) hd
end Go.Proofs.Ytpfooiepmnaoaaa.E
