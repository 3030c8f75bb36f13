/- Marks: the walks. -/
import Derived.Test.YtpfooiepmnaoaaaEngK
namespace Go.Proofs.Ytpfooiepmnaoaaa.E
open Go Go.RowKit Go.Proofs.Ytpfooiepmnaoaaa.X Go.Proofs.YtpfooiepmnaoaaaW.PrintWords Go.Proofs.Ytpfooiepmnaoaaa.Base
set_option linter.unusedVariables false
set_option linter.unusedSimpArgs false
theorem laws_markText_fn (k : Int) (w : World) (h : k ≤ 9223372036854775807) : Fn Try.prog 70 [.int .i64 k] w fun u w' => u = .string (mtx k) ∧ Chg noF w w' := by
  obtain ⟨n, hn⟩ := (mtx_ev k h).rounds
  exact (Fn.of ⟨_, Try.func70, rfl, rfl⟩ (laws_markText.calls n _ _ w hn)).mono fun u w' ⟨h1, h2⟩ => ⟨h1, .ofB h2⟩
theorem oA_read1 {B b o c j p : Nat} {d r : List LT} {t : LT} {v : Value} (hj : j < 4) (hp : p = o + (d.length * 4 + j)) (hv : (tcs t)[j]? = some v) : (oA B (nod (some ⟨b, o, none⟩) c (d ++ t :: r))).reads b p v := by
  intro w hw
  obtain ⟨b2, o2, cs2, T2, fz2, ha2, hb2, hv2⟩ := hw.ht.row (by simp)
  obtain ⟨rfl, rfl, _⟩ := Addr.mk.inj (Option.some.inj ha2)
  have h1 := hv2 (d.length * 4 + j) v (by
    have := tcells_get (d ++ t :: r) d.length j (by simp) hj
    show (tcells (d ++ t :: r))[d.length * 4 + j]? = some v
    rw [this]; simpa using hv)
  simp [World.cell?, hb2, hp, h1]
theorem Own.kis' {B : Nat} {w : World} {k i : Int} {s : ByteArray} {a : Option Addr} {c : Nat} {l : List LT} (h : Own B w ⟨k, i, s, a, c, l⟩) (k' i' : Int) (s' : ByteArray) : Own B w ⟨k', i', s', a, c, l⟩ := by
  have e : ft (⟨k', i', s', a, c, l⟩ : LT) = ft ⟨k, i, s, a, c, l⟩ := by rw [ft_eq, ft_eq]
  exact ⟨by cases h.ht with | mk _ h1 h2 h3 => exact .mk _ h1 h2 h3, by rw [e]; exact h.nd, by rw [e]; exact h.new, by rw [e]; exact h.free⟩
theorem ftL_len (a : Option Addr) {l l' : List LT} (h : l'.length = l.length) (e : ftR l' = ftR l) : ftL a l' = ftL a l := by
  by_cases hl : l = []
  · subst hl
    rw [List.eq_nil_of_length_eq_zero h]
  · rw [ftL_ne a hl, ftL_ne a (by intro e2; subst e2; simp at h; exact hl (List.eq_nil_of_length_eq_zero h.symm)), e]
/-- What markTermS does to a list made anew. -/
def MkP (B : Nat) (a : Option Addr) (c : Nat) (l : List LT) (k : Int) (w : World) (u : Value) (w' : World) : Prop :=
  ∃ l' : List LT, u = .int .i64 (k + 3 * cnL l) ∧ Mkd l' k (k + 3 * cnL l) ∧ l'.length = l.length ∧ ftR l' = ftR l ∧ Own B w' (nod a c l') ∧ Chg (fun z => z ∈ ft (nod a c l)) w w'
set_option maxRecDepth 100000 in
set_option maxHeartbeats 4000000 in
theorem laws_markTermS_of (a : Option Addr) (c : Nat) (l : List LT) (hl : l.length ≤ 1048576) (ih : ∀ y ∈ l, ∀ (B : Nat) (w : World) (k : Int), Own B w (nod y.a y.c y.l) → 0 ≤ k → k + 3 * cnL y.l ≤ 4000000000000000000 → Fn Try.prog 23 [sl y.a y.l.length y.c, .int .i64 k] w (MkP B y.a y.c y.l k w)) :
    ∀ (B : Nat) (w0 : World) (k0 : Int), Own B w0 (nod a c l) → 0 ≤ k0 → k0 + 3 * cnL l ≤ 4000000000000000000 → Fn Try.prog 23 [sl a l.length c, .int .i64 k0] w0 (MkP B a c l k0 w0) := by
  intro B w0 k0 ho h0 hk
  refine Fn.body (N := 42) Try.func23 rfl rfl rfl rfl rfl ?_
  have H : SH w0 (fun z => z ∈ ft (nod a c l)) w0 [] [oA B (nod a c l)] := SH.start _ _ _ (by simpa [oA] using ho)
  repeat' (first
    | (with_reducible refine WC.seq ?_)
    | (with_reducible refine WC.reg ?_)
    | (with_reducible refine WC.block ?_)
    | (with_reducible refine WC.skip ?_)
    | (with_reducible refine WC.ret ?_)
    | (with_reducible refine WC.exit ?_)
    | ((with_reducible refine is_cond ?_); first | refine WC.ctrue rfl ?_ | refine WC.cfalse rfl ?_ | (refine WC.cbool rfl ?_ ?_ <;> intro hcnd))
    | (with_reducible refine WL.nilK ?_)
    | (with_reducible refine WL.nil ?_)
    | (with_reducible refine AtQ.then_norm ?_)
    | (with_reducible refine AtQ.then_ret ?_)
    | (with_reducible refine AtQ.then_exit ?_)
    | (with_reducible refine AtQ.block_ret ?_)
    | (with_reducible refine AtQ.block_norm ?_)
    | (with_reducible refine AtQ.block_here ?_)
    | (with_reducible refine AtQ.loop_ret ?_)
    | (with_reducible refine AtQ.loop_exit ?_)
    | (with_reducible refine AtQ.out_ret ?_)
    | (with_reducible refine AtQ.out_exit ?_)
    | ((with_reducible refine AtQ.block_other ?_ ?_); · exact rfl)
    | ((with_reducible refine is_move ?_); first | refine WL.y H (Y.move rfl) (by decide) ?_)
    | ((with_reducible refine is_assign ?_); first | refine WL.y H (Y.assign rfl) (by decide) ?_)
    | ((with_reducible refine is_fld ?_); first | refine WL.y H (Y.fld rfl) (by decide) ?_)
    | ((with_reducible refine is_load ?_); first | refine WL.y H (Y.loadX rfl (by repeat' (first | exact List.mem_cons_self .. | apply List.mem_cons_of_mem)) rfl) (by decide) ?_ | refine WL.y H (Y.loadXN rfl (by repeat' (first | exact List.mem_cons_self .. | apply List.mem_cons_of_mem)) rfl rfl) (by decide) ?_)
    | ((with_reducible refine is_idx ?_); first | refine WL.y H (Y.idx rfl rfl (by first | omega | (simp only [List.length_cons, List.length_nil]; done) | (simp only [List.length_cons, List.length_nil]; omega)) (by first | omega | (simp only [List.length_cons, List.length_nil]; done) | (simp only [List.length_cons, List.length_nil]; omega))) (by decide) ?_)
    | ((with_reducible refine is_len ?_); first | refine WL.y H (Y.lenS rfl) (by decide) ?_)
    | ((with_reducible refine is_add ?_); first | refine WL.y H (Y.add rfl rfl (by first | omega | (simp only [List.length_cons, List.length_nil]; done) | (simp only [List.length_cons, List.length_nil]; omega)) (by first | omega | (simp only [List.length_cons, List.length_nil]; done) | (simp only [List.length_cons, List.length_nil]; omega))) (by decide) ?_)
    | ((with_reducible refine is_lss ?_); first | refine WL.y H ((Y.lss rfl rfl).boolT (by first | omega | (simp only [List.length_cons, List.length_nil]; done) | (simp only [List.length_cons, List.length_nil]; omega))) (by decide) ?_ | refine WL.y H ((Y.lss rfl rfl).boolF (by first | omega | (simp only [List.length_cons, List.length_nil]; done) | (simp only [List.length_cons, List.length_nil]; omega))) (by decide) ?_ | (refine WL.cmp H (Y.lss rfl rfl) (by decide) ?_ ?_ <;> intro hcmp))
    | ((with_reducible refine is_store ?_); first | (refine WL.store1 H rfl rfl rfl (by repeat' (first | exact Upd.here .. | apply Upd.there)) rfl ?_; intro w H _) | (refine WL.storeN H rfl rfl rfl rfl (by repeat' (first | exact Upd.here .. | apply Upd.there)) rfl ?_; intro w H _)))
  refine WC.loop (σ := List LT × List LT × Int) (fun s => [(0, sl a l.length c), (1, .int .i64 s.2.2), (5, .int .i64 (s.1.length : Nat))])
    (fun s w' => ∃ d0, l = d0 ++ s.2.1 ∧ d0.length = s.1.length ∧ Mkd s.1 k0 s.2.2 ∧ s.2.2 + 3 * cnL s.2.1 = k0 + 3 * cnL l ∧ ftR (s.1 ++ s.2.1) = ftR l ∧ SH w0 (fun z => z ∈ ft (nod a c l)) w' [] [oA B (nod a c (s.1 ++ s.2.1))])
    (fun s => s.2.1.length) ([], l, k0) (by repeat' (first | exact Sub.nil | refine Sub.cons rfl ?_)) ⟨[], rfl, rfl, .nil _, rfl, rfl, H⟩ (fun s w hinv => ?_)
  obtain ⟨d, r, k⟩ := s
  obtain ⟨d0, hsplit, hd0, hmk, hcnt, hftr, H⟩ := hinv
  simp only at hsplit hd0 hmk hcnt hftr H ⊢
  have hlen : l.length = d.length + r.length := by rw [hsplit, List.length_append, hd0]
  have hk0 := hmk.le
  cases r with
  | nil =>
    have hlen2 : d.length = l.length := by simp at hlen; omega
    repeat' (first
      | (with_reducible refine WC.seq ?_)
      | (with_reducible refine WC.reg ?_)
      | (with_reducible refine WC.block ?_)
      | (with_reducible refine WC.skip ?_)
      | (with_reducible refine WC.ret ?_)
      | (with_reducible refine WC.exit ?_)
      | ((with_reducible refine is_cond ?_); first | refine WC.ctrue rfl ?_ | refine WC.cfalse rfl ?_ | (refine WC.cbool rfl ?_ ?_ <;> intro hcnd))
      | (with_reducible refine WL.nilK ?_)
      | (with_reducible refine WL.nil ?_)
      | (with_reducible refine AtQ.then_norm ?_)
      | (with_reducible refine AtQ.then_ret ?_)
      | (with_reducible refine AtQ.then_exit ?_)
      | (with_reducible refine AtQ.block_ret ?_)
      | (with_reducible refine AtQ.block_norm ?_)
      | (with_reducible refine AtQ.block_here ?_)
      | (with_reducible refine AtQ.loop_ret ?_)
      | (with_reducible refine AtQ.loop_exit ?_)
      | (with_reducible refine AtQ.out_ret ?_)
      | (with_reducible refine AtQ.out_exit ?_)
      | ((with_reducible refine AtQ.block_other ?_ ?_); · exact rfl)
      | ((with_reducible refine is_move ?_); first | refine WL.y H (Y.move rfl) (by decide) ?_)
      | ((with_reducible refine is_assign ?_); first | refine WL.y H (Y.assign rfl) (by decide) ?_)
      | ((with_reducible refine is_fld ?_); first | refine WL.y H (Y.fld rfl) (by decide) ?_)
      | ((with_reducible refine is_load ?_); first | refine WL.y H (Y.loadX rfl (by repeat' (first | exact List.mem_cons_self .. | apply List.mem_cons_of_mem)) rfl) (by decide) ?_ | refine WL.y H (Y.loadXN rfl (by repeat' (first | exact List.mem_cons_self .. | apply List.mem_cons_of_mem)) rfl rfl) (by decide) ?_)
      | ((with_reducible refine is_idx ?_); first | refine WL.y H (Y.idx rfl rfl (by first | omega | (simp only [List.length_cons, List.length_nil]; done) | (simp only [List.length_cons, List.length_nil]; omega)) (by first | omega | (simp only [List.length_cons, List.length_nil]; done) | (simp only [List.length_cons, List.length_nil]; omega))) (by decide) ?_)
      | ((with_reducible refine is_len ?_); first | refine WL.y H (Y.lenS rfl) (by decide) ?_)
      | ((with_reducible refine is_add ?_); first | refine WL.y H (Y.add rfl rfl (by first | omega | (simp only [List.length_cons, List.length_nil]; done) | (simp only [List.length_cons, List.length_nil]; omega)) (by first | omega | (simp only [List.length_cons, List.length_nil]; done) | (simp only [List.length_cons, List.length_nil]; omega))) (by decide) ?_)
      | ((with_reducible refine is_lss ?_); first | refine WL.y H ((Y.lss rfl rfl).boolT (by first | omega | (simp only [List.length_cons, List.length_nil]; done) | (simp only [List.length_cons, List.length_nil]; omega))) (by decide) ?_ | refine WL.y H ((Y.lss rfl rfl).boolF (by first | omega | (simp only [List.length_cons, List.length_nil]; done) | (simp only [List.length_cons, List.length_nil]; omega))) (by decide) ?_ | (refine WL.cmp H (Y.lss rfl rfl) (by decide) ?_ ?_ <;> intro hcmp))
      | ((with_reducible refine is_store ?_); first | (refine WL.store1 H rfl rfl rfl (by repeat' (first | exact Upd.here .. | apply Upd.there)) rfl ?_; intro w H _) | (refine WL.storeN H rfl rfl rfl rfl (by repeat' (first | exact Upd.here .. | apply Upd.there)) rfl ?_; intro w H _)))
    have e : cnL ([] : List LT) = 0 := by rw [cnL]
    rw [e] at hcnt
    have ek : k = k0 + 3 * cnL l := by omega
    subst ek
    rw [List.append_nil] at hftr H
    exact AtQ.r1 (resVal.t rfl) ⟨d, rfl, hmk, hlen2, hftr, H.own _ _ (by repeat' (first | exact List.mem_cons_self .. | apply List.mem_cons_of_mem)), H.chg⟩
  | cons t r =>
    have htl : t ∈ l := by rw [hsplit]; simp
    have hne : l ≠ [] := List.ne_nil_of_mem htl
    obtain ⟨b, o, cs, T, fz, ha, _, _⟩ := (H.own _ _ (by repeat' (first | exact List.mem_cons_self .. | apply List.mem_cons_of_mem))).ht.row (by simp)
    have ha' : a = some ⟨b, o, none⟩ := ha
    subst ha'
    simp only [List.length_cons] at hlen
    have ec : cnL (t :: r) = 1 + cnL t.l + cnL r := by rw [cnL, cn_eq]
    rw [ec] at hcnt
    have hF : ∀ t' : LT, ft t' = ft t → ∀ z ∈ ft (nod (some ⟨b, o, none⟩) c (d ++ t' :: r)), z ∈ ft (nod (some ⟨b, o, none⟩) c l) ∨ w0.heap.size ≤ z := by
      intro t' ht' z hz
      rw [ft_nd, ftL_put _ ht', ftL_ne _ (by simp), hftr] at hz
      rw [ft_nd, ftL_ne _ hne]
      exact .inl hz
    repeat' (first
      | (with_reducible refine WC.seq ?_)
      | (with_reducible refine WC.reg ?_)
      | (with_reducible refine WC.block ?_)
      | (with_reducible refine WC.skip ?_)
      | (with_reducible refine WC.ret ?_)
      | (with_reducible refine WC.exit ?_)
      | ((with_reducible refine is_cond ?_); first | refine WC.ctrue rfl ?_ | refine WC.cfalse rfl ?_ | (refine WC.cbool rfl ?_ ?_ <;> intro hcnd))
      | (with_reducible refine WL.nilK ?_)
      | (with_reducible refine WL.nil ?_)
      | (with_reducible refine AtQ.then_norm ?_)
      | (with_reducible refine AtQ.then_ret ?_)
      | (with_reducible refine AtQ.then_exit ?_)
      | (with_reducible refine AtQ.block_ret ?_)
      | (with_reducible refine AtQ.block_norm ?_)
      | (with_reducible refine AtQ.block_here ?_)
      | (with_reducible refine AtQ.loop_ret ?_)
      | (with_reducible refine AtQ.loop_exit ?_)
      | (with_reducible refine AtQ.out_ret ?_)
      | (with_reducible refine AtQ.out_exit ?_)
      | ((with_reducible refine AtQ.block_other ?_ ?_); · exact rfl)
      | ((with_reducible refine is_move ?_); first | refine WL.y H (Y.move rfl) (by decide) ?_)
      | ((with_reducible refine is_assign ?_); first | refine WL.y H (Y.assign rfl) (by decide) ?_)
      | ((with_reducible refine is_fld ?_); first | refine WL.y H (Y.fld rfl) (by decide) ?_)
      | ((with_reducible refine is_load ?_); first | refine WL.y H (Y.loadX rfl (by repeat' (first | exact List.mem_cons_self .. | apply List.mem_cons_of_mem)) rfl) (by decide) ?_ | refine WL.y H (Y.loadXN rfl (by repeat' (first | exact List.mem_cons_self .. | apply List.mem_cons_of_mem)) rfl rfl) (by decide) ?_)
      | ((with_reducible refine is_idx ?_); first | refine WL.y H (Y.idx rfl rfl (by first | omega | (simp only [List.length_cons, List.length_nil]; done) | (simp only [List.length_cons, List.length_nil]; omega)) (by first | omega | (simp only [List.length_cons, List.length_nil]; done) | (simp only [List.length_cons, List.length_nil]; omega))) (by decide) ?_)
      | ((with_reducible refine is_len ?_); first | refine WL.y H (Y.lenS rfl) (by decide) ?_)
      | ((with_reducible refine is_add ?_); first | refine WL.y H (Y.add rfl rfl (by first | omega | (simp only [List.length_cons, List.length_nil]; done) | (simp only [List.length_cons, List.length_nil]; omega)) (by first | omega | (simp only [List.length_cons, List.length_nil]; done) | (simp only [List.length_cons, List.length_nil]; omega))) (by decide) ?_)
      | ((with_reducible refine is_lss ?_); first | refine WL.y H ((Y.lss rfl rfl).boolT (by first | omega | (simp only [List.length_cons, List.length_nil]; done) | (simp only [List.length_cons, List.length_nil]; omega))) (by decide) ?_ | refine WL.y H ((Y.lss rfl rfl).boolF (by first | omega | (simp only [List.length_cons, List.length_nil]; done) | (simp only [List.length_cons, List.length_nil]; omega))) (by decide) ?_ | (refine WL.cmp H (Y.lss rfl rfl) (by decide) ?_ ?_ <;> intro hcmp))
      | ((with_reducible refine is_store ?_); first | (refine WL.store1 H rfl rfl rfl (by repeat' (first | exact Upd.here .. | apply Upd.there)) rfl ?_; intro w H _) | (refine WL.storeN H rfl rfl rfl rfl (by repeat' (first | exact Upd.here .. | apply Upd.there)) rfl ?_; intro w H _)))
    with_reducible refine is_store ?_
    refine WL.storeO 0 ⟨k, t.i, t.s, t.a, t.c, t.l⟩ H (hF t rfl) (fun A hA => by cases hA) rfl rfl (by simp only [Int.toNat_natCast]; omega) (by decide) rfl rfl rfl rfl rfl ?_; intro w H hst
    repeat' (first
      | (with_reducible refine WC.seq ?_)
      | (with_reducible refine WC.reg ?_)
      | (with_reducible refine WC.block ?_)
      | (with_reducible refine WC.skip ?_)
      | (with_reducible refine WC.ret ?_)
      | (with_reducible refine WC.exit ?_)
      | ((with_reducible refine is_cond ?_); first | refine WC.ctrue rfl ?_ | refine WC.cfalse rfl ?_ | (refine WC.cbool rfl ?_ ?_ <;> intro hcnd))
      | (with_reducible refine WL.nilK ?_)
      | (with_reducible refine WL.nil ?_)
      | (with_reducible refine AtQ.then_norm ?_)
      | (with_reducible refine AtQ.then_ret ?_)
      | (with_reducible refine AtQ.then_exit ?_)
      | (with_reducible refine AtQ.block_ret ?_)
      | (with_reducible refine AtQ.block_norm ?_)
      | (with_reducible refine AtQ.block_here ?_)
      | (with_reducible refine AtQ.loop_ret ?_)
      | (with_reducible refine AtQ.loop_exit ?_)
      | (with_reducible refine AtQ.out_ret ?_)
      | (with_reducible refine AtQ.out_exit ?_)
      | ((with_reducible refine AtQ.block_other ?_ ?_); · exact rfl)
      | ((with_reducible refine is_move ?_); first | refine WL.y H (Y.move rfl) (by decide) ?_)
      | ((with_reducible refine is_assign ?_); first | refine WL.y H (Y.assign rfl) (by decide) ?_)
      | ((with_reducible refine is_fld ?_); first | refine WL.y H (Y.fld rfl) (by decide) ?_)
      | ((with_reducible refine is_load ?_); first | refine WL.y H (Y.loadX rfl (by repeat' (first | exact List.mem_cons_self .. | apply List.mem_cons_of_mem)) rfl) (by decide) ?_ | refine WL.y H (Y.loadXN rfl (by repeat' (first | exact List.mem_cons_self .. | apply List.mem_cons_of_mem)) rfl rfl) (by decide) ?_)
      | ((with_reducible refine is_idx ?_); first | refine WL.y H (Y.idx rfl rfl (by first | omega | (simp only [List.length_cons, List.length_nil]; done) | (simp only [List.length_cons, List.length_nil]; omega)) (by first | omega | (simp only [List.length_cons, List.length_nil]; done) | (simp only [List.length_cons, List.length_nil]; omega))) (by decide) ?_)
      | ((with_reducible refine is_len ?_); first | refine WL.y H (Y.lenS rfl) (by decide) ?_)
      | ((with_reducible refine is_add ?_); first | refine WL.y H (Y.add rfl rfl (by first | omega | (simp only [List.length_cons, List.length_nil]; done) | (simp only [List.length_cons, List.length_nil]; omega)) (by first | omega | (simp only [List.length_cons, List.length_nil]; done) | (simp only [List.length_cons, List.length_nil]; omega))) (by decide) ?_)
      | ((with_reducible refine is_lss ?_); first | refine WL.y H ((Y.lss rfl rfl).boolT (by first | omega | (simp only [List.length_cons, List.length_nil]; done) | (simp only [List.length_cons, List.length_nil]; omega))) (by decide) ?_ | refine WL.y H ((Y.lss rfl rfl).boolF (by first | omega | (simp only [List.length_cons, List.length_nil]; done) | (simp only [List.length_cons, List.length_nil]; omega))) (by decide) ?_ | (refine WL.cmp H (Y.lss rfl rfl) (by decide) ?_ ?_ <;> intro hcmp))
      | ((with_reducible refine is_store ?_); first | (refine WL.store1 H rfl rfl rfl (by repeat' (first | exact Upd.here .. | apply Upd.there)) rfl ?_; intro w H _) | (refine WL.storeN H rfl rfl rfl rfl (by repeat' (first | exact Upd.here .. | apply Upd.there)) rfl ?_; intro w H _)))
    with_reducible refine is_store ?_
    refine WL.storeO 1 ⟨k, k + 1, t.s, t.a, t.c, t.l⟩ H (hF ⟨k, t.i, t.s, t.a, t.c, t.l⟩ (by rw [ft_eq, ft_eq])) (fun A hA => by cases hA) rfl rfl (by simp only [Int.toNat_natCast]; omega) (by decide) rfl rfl rfl rfl rfl ?_; intro w H hst
    repeat' (first
      | (with_reducible refine WC.seq ?_)
      | (with_reducible refine WC.reg ?_)
      | (with_reducible refine WC.block ?_)
      | (with_reducible refine WC.skip ?_)
      | (with_reducible refine WC.ret ?_)
      | (with_reducible refine WC.exit ?_)
      | ((with_reducible refine is_cond ?_); first | refine WC.ctrue rfl ?_ | refine WC.cfalse rfl ?_ | (refine WC.cbool rfl ?_ ?_ <;> intro hcnd))
      | (with_reducible refine WL.nilK ?_)
      | (with_reducible refine WL.nil ?_)
      | (with_reducible refine AtQ.then_norm ?_)
      | (with_reducible refine AtQ.then_ret ?_)
      | (with_reducible refine AtQ.then_exit ?_)
      | (with_reducible refine AtQ.block_ret ?_)
      | (with_reducible refine AtQ.block_norm ?_)
      | (with_reducible refine AtQ.block_here ?_)
      | (with_reducible refine AtQ.loop_ret ?_)
      | (with_reducible refine AtQ.loop_exit ?_)
      | (with_reducible refine AtQ.out_ret ?_)
      | (with_reducible refine AtQ.out_exit ?_)
      | ((with_reducible refine AtQ.block_other ?_ ?_); · exact rfl)
      | ((with_reducible refine is_call (f := 70) ?_); refine WL.call (vs := [.int .i64 (k + 1 + 1)]) rfl (laws_markText_fn (k + 1 + 1) _ (by omega)) (by decide) ?_; intro v w hv2; obtain ⟨e1, hc1⟩ := hv2; rw [Int.add_assoc] at e1; subst e1; have H := H.call hc1)
      | ((with_reducible refine is_move ?_); first | refine WL.y H (Y.move rfl) (by decide) ?_)
      | ((with_reducible refine is_assign ?_); first | refine WL.y H (Y.assign rfl) (by decide) ?_)
      | ((with_reducible refine is_fld ?_); first | refine WL.y H (Y.fld rfl) (by decide) ?_)
      | ((with_reducible refine is_load ?_); first | refine WL.y H (Y.loadX rfl (by repeat' (first | exact List.mem_cons_self .. | apply List.mem_cons_of_mem)) rfl) (by decide) ?_ | refine WL.y H (Y.loadXN rfl (by repeat' (first | exact List.mem_cons_self .. | apply List.mem_cons_of_mem)) rfl rfl) (by decide) ?_)
      | ((with_reducible refine is_idx ?_); first | refine WL.y H (Y.idx rfl rfl (by first | omega | (simp only [List.length_cons, List.length_nil]; done) | (simp only [List.length_cons, List.length_nil]; omega)) (by first | omega | (simp only [List.length_cons, List.length_nil]; done) | (simp only [List.length_cons, List.length_nil]; omega))) (by decide) ?_)
      | ((with_reducible refine is_len ?_); first | refine WL.y H (Y.lenS rfl) (by decide) ?_)
      | ((with_reducible refine is_add ?_); first | refine WL.y H (Y.add rfl rfl (by first | omega | (simp only [List.length_cons, List.length_nil]; done) | (simp only [List.length_cons, List.length_nil]; omega)) (by first | omega | (simp only [List.length_cons, List.length_nil]; done) | (simp only [List.length_cons, List.length_nil]; omega))) (by decide) ?_)
      | ((with_reducible refine is_lss ?_); first | refine WL.y H ((Y.lss rfl rfl).boolT (by first | omega | (simp only [List.length_cons, List.length_nil]; done) | (simp only [List.length_cons, List.length_nil]; omega))) (by decide) ?_ | refine WL.y H ((Y.lss rfl rfl).boolF (by first | omega | (simp only [List.length_cons, List.length_nil]; done) | (simp only [List.length_cons, List.length_nil]; omega))) (by decide) ?_ | (refine WL.cmp H (Y.lss rfl rfl) (by decide) ?_ ?_ <;> intro hcmp))
      | ((with_reducible refine is_store ?_); first | (refine WL.store1 H rfl rfl rfl (by repeat' (first | exact Upd.here .. | apply Upd.there)) rfl ?_; intro w H _) | (refine WL.storeN H rfl rfl rfl rfl (by repeat' (first | exact Upd.here .. | apply Upd.there)) rfl ?_; intro w H _)))
    with_reducible refine is_store ?_
    refine WL.storeO 2 ⟨k, k + 1, mtx (k + 2), t.a, t.c, t.l⟩ H (hF ⟨k, k + 1, t.s, t.a, t.c, t.l⟩ (by rw [ft_eq, ft_eq])) (fun A hA => by cases hA) rfl rfl (by simp only [Int.toNat_natCast]; omega) (by decide) rfl rfl rfl rfl rfl ?_; intro w H hst
    repeat' (first
      | (with_reducible refine WC.seq ?_)
      | (with_reducible refine WC.reg ?_)
      | (with_reducible refine WC.block ?_)
      | (with_reducible refine WC.skip ?_)
      | (with_reducible refine WC.ret ?_)
      | (with_reducible refine WC.exit ?_)
      | ((with_reducible refine is_cond ?_); first | refine WC.ctrue rfl ?_ | refine WC.cfalse rfl ?_ | (refine WC.cbool rfl ?_ ?_ <;> intro hcnd))
      | (with_reducible refine WL.nilK ?_)
      | (with_reducible refine WL.nil ?_)
      | (with_reducible refine AtQ.then_norm ?_)
      | (with_reducible refine AtQ.then_ret ?_)
      | (with_reducible refine AtQ.then_exit ?_)
      | (with_reducible refine AtQ.block_ret ?_)
      | (with_reducible refine AtQ.block_norm ?_)
      | (with_reducible refine AtQ.block_here ?_)
      | (with_reducible refine AtQ.loop_ret ?_)
      | (with_reducible refine AtQ.loop_exit ?_)
      | (with_reducible refine AtQ.out_ret ?_)
      | (with_reducible refine AtQ.out_exit ?_)
      | ((with_reducible refine AtQ.block_other ?_ ?_); · exact rfl)
      | ((with_reducible refine is_move ?_); first | refine WL.y H (Y.move rfl) (by decide) ?_)
      | ((with_reducible refine is_assign ?_); first | refine WL.y H (Y.assign rfl) (by decide) ?_)
      | ((with_reducible refine is_fld ?_); first | refine WL.y H (Y.fld rfl) (by decide) ?_)
      | ((with_reducible refine is_load ?_); first | refine WL.y H (Y.loadX rfl (by repeat' (first | exact List.mem_cons_self .. | apply List.mem_cons_of_mem)) rfl) (by decide) ?_ | refine WL.y H (Y.loadXN rfl (by repeat' (first | exact List.mem_cons_self .. | apply List.mem_cons_of_mem)) rfl rfl) (by decide) ?_ | refine WL.y H (Y.loadS rfl (by repeat' (first | exact List.mem_cons_self .. | apply List.mem_cons_of_mem)) (oA_read1 (j := 3) (d := d) (r := r) (t := ⟨k, k + 1, mtx (k + 2), t.a, t.c, t.l⟩) (by decide) (by simp only [Int.toNat_natCast]; omega) rfl)) (by decide) ?_)
      | ((with_reducible refine is_idx ?_); first | refine WL.y H (Y.idx rfl rfl (by first | omega | (simp only [List.length_cons, List.length_nil]; done) | (simp only [List.length_cons, List.length_nil]; omega)) (by first | omega | (simp only [List.length_cons, List.length_nil]; done) | (simp only [List.length_cons, List.length_nil]; omega))) (by decide) ?_)
      | ((with_reducible refine is_len ?_); first | refine WL.y H (Y.lenS rfl) (by decide) ?_)
      | ((with_reducible refine is_add ?_); first | refine WL.y H (Y.add rfl rfl (by first | omega | (simp only [List.length_cons, List.length_nil]; done) | (simp only [List.length_cons, List.length_nil]; omega)) (by first | omega | (simp only [List.length_cons, List.length_nil]; done) | (simp only [List.length_cons, List.length_nil]; omega))) (by decide) ?_)
      | ((with_reducible refine is_lss ?_); first | refine WL.y H ((Y.lss rfl rfl).boolT (by first | omega | (simp only [List.length_cons, List.length_nil]; done) | (simp only [List.length_cons, List.length_nil]; omega))) (by decide) ?_ | refine WL.y H ((Y.lss rfl rfl).boolF (by first | omega | (simp only [List.length_cons, List.length_nil]; done) | (simp only [List.length_cons, List.length_nil]; omega))) (by decide) ?_ | (refine WL.cmp H (Y.lss rfl rfl) (by decide) ?_ ?_ <;> intro hcmp))
      | ((with_reducible refine is_store ?_); first | (refine WL.store1 H rfl rfl rfl (by repeat' (first | exact Upd.here .. | apply Upd.there)) rfl ?_; intro w H _) | (refine WL.storeN H rfl rfl rfl rfl (by repeat' (first | exact Upd.here .. | apply Upd.there)) rfl ?_; intro w H _)))
    have hkid : Own B w (nod t.a t.c t.l) := by
      have := (H.own _ _ (by repeat' (first | exact List.mem_cons_self .. | apply List.mem_cons_of_mem))).kid (x := ⟨k, k + 1, mtx (k + 2), t.a, t.c, t.l⟩) (by simp)
      exact this.kis' 0 0 ⟨#[]⟩
    with_reducible refine is_call ?_
    refine WL.call (vs := [sl t.a t.l.length t.c, .int .i64 (k + 1 + 1 + 1)]) rfl (ih t htl B _ (k + 1 + 1 + 1) hkid (by omega) (by omega)) (by decide) ?_; intro v w hv2; obtain ⟨l', e1, hm1, hln1, hfr1, ho1, hc1⟩ := hv2; subst e1
    have hft4 : ft (⟨k, k + 1, mtx (k + 2), t.a, t.c, l'⟩ : LT) = ft (⟨k, k + 1, mtx (k + 2), t.a, t.c, t.l⟩ : LT) := by rw [ft_eq, ft_eq]; exact ftL_len _ hln1 hfr1
    have hft3 : ft (⟨k, k + 1, mtx (k + 2), t.a, t.c, t.l⟩ : LT) = ft (nod t.a t.c t.l) := by rw [ft_eq, ft_eq]
    have hsub : ∀ z, z ∈ ft (⟨k, k + 1, mtx (k + 2), t.a, t.c, t.l⟩ : LT) → z ∈ ft (nod (some ⟨b, o, none⟩) c (d ++ ⟨k, k + 1, mtx (k + 2), t.a, t.c, t.l⟩ :: r)) := fun z hz => by rw [ft_nd, ftL_ne _ (by simp)]; exact List.mem_cons_of_mem _ (mem_ftR.2 ⟨_, by simp, hz⟩)
    have ho4 : Own B w (nod (some ⟨b, o, none⟩) c (d ++ ⟨k, k + 1, mtx (k + 2), t.a, t.c, l'⟩ :: r)) := (H.own _ _ (by repeat' (first | exact List.mem_cons_self .. | apply List.mem_cons_of_mem))).kid_put (hc1.mono fun z hz => by rw [hft3]; exact hz) (by simp only [tcs, hln1]) hft4 (ho1.kis' _ _ _)
    have H := H.eff (A' := oA B (nod (some ⟨b, o, none⟩) c (d ++ ⟨k, k + 1, mtx (k + 2), t.a, t.c, l'⟩ :: r))) (hc1.mono fun z hz => hsub z (by rw [hft3]; exact hz)) ho4 (fun z hz => .inl (by
      have hz' : z ∈ ft (nod (some ⟨b, o, none⟩) c (d ++ ⟨k, k + 1, mtx (k + 2), t.a, t.c, l'⟩ :: r)) := hz
      rw [ft_nd, ftL_put _ hft4, ← ft_nd] at hz'; exact hz')) (hF _ (by rw [hft3, ft_nd, ft_eq])) (fun A hA => by cases hA)
    repeat' (first
      | (with_reducible refine WC.seq ?_)
      | (with_reducible refine WC.reg ?_)
      | (with_reducible refine WC.block ?_)
      | (with_reducible refine WC.skip ?_)
      | (with_reducible refine WC.ret ?_)
      | (with_reducible refine WC.exit ?_)
      | ((with_reducible refine is_cond ?_); first | refine WC.ctrue rfl ?_ | refine WC.cfalse rfl ?_ | (refine WC.cbool rfl ?_ ?_ <;> intro hcnd))
      | (with_reducible refine WL.nilK ?_)
      | (with_reducible refine WL.nil ?_)
      | (with_reducible refine AtQ.then_norm ?_)
      | (with_reducible refine AtQ.then_ret ?_)
      | (with_reducible refine AtQ.then_exit ?_)
      | (with_reducible refine AtQ.block_ret ?_)
      | (with_reducible refine AtQ.block_norm ?_)
      | (with_reducible refine AtQ.block_here ?_)
      | (with_reducible refine AtQ.loop_ret ?_)
      | (with_reducible refine AtQ.loop_exit ?_)
      | (with_reducible refine AtQ.out_ret ?_)
      | (with_reducible refine AtQ.out_exit ?_)
      | ((with_reducible refine AtQ.block_other ?_ ?_); · exact rfl)
      | ((with_reducible refine is_move ?_); first | refine WL.y H (Y.move rfl) (by decide) ?_)
      | ((with_reducible refine is_assign ?_); first | refine WL.y H (Y.assign rfl) (by decide) ?_)
      | ((with_reducible refine is_fld ?_); first | refine WL.y H (Y.fld rfl) (by decide) ?_)
      | ((with_reducible refine is_load ?_); first | refine WL.y H (Y.loadX rfl (by repeat' (first | exact List.mem_cons_self .. | apply List.mem_cons_of_mem)) rfl) (by decide) ?_ | refine WL.y H (Y.loadXN rfl (by repeat' (first | exact List.mem_cons_self .. | apply List.mem_cons_of_mem)) rfl rfl) (by decide) ?_)
      | ((with_reducible refine is_idx ?_); first | refine WL.y H (Y.idx rfl rfl (by first | omega | (simp only [List.length_cons, List.length_nil]; done) | (simp only [List.length_cons, List.length_nil]; omega)) (by first | omega | (simp only [List.length_cons, List.length_nil]; done) | (simp only [List.length_cons, List.length_nil]; omega))) (by decide) ?_)
      | ((with_reducible refine is_len ?_); first | refine WL.y H (Y.lenS rfl) (by decide) ?_)
      | ((with_reducible refine is_add ?_); first | refine WL.y H (Y.add rfl rfl (by first | omega | (simp only [List.length_cons, List.length_nil]; done) | (simp only [List.length_cons, List.length_nil]; omega)) (by first | omega | (simp only [List.length_cons, List.length_nil]; done) | (simp only [List.length_cons, List.length_nil]; omega))) (by decide) ?_)
      | ((with_reducible refine is_lss ?_); first | refine WL.y H ((Y.lss rfl rfl).boolT (by first | omega | (simp only [List.length_cons, List.length_nil]; done) | (simp only [List.length_cons, List.length_nil]; omega))) (by decide) ?_ | refine WL.y H ((Y.lss rfl rfl).boolF (by first | omega | (simp only [List.length_cons, List.length_nil]; done) | (simp only [List.length_cons, List.length_nil]; omega))) (by decide) ?_ | (refine WL.cmp H (Y.lss rfl rfl) (by decide) ?_ ?_ <;> intro hcmp))
      | ((with_reducible refine is_store ?_); first | (refine WL.store1 H rfl rfl rfl (by repeat' (first | exact Upd.here .. | apply Upd.there)) rfl ?_; intro w H _) | (refine WL.storeN H rfl rfl rfl rfl (by repeat' (first | exact Upd.here .. | apply Upd.there)) rfl ?_; intro w H _)))
    refine AtQ.loop_norm (d ++ [⟨k, k + 1, mtx (k + 2), t.a, t.c, l'⟩], r, k + 1 + 1 + 1 + 3 * cnL t.l) (by rw [List.length_append]; exact (by repeat' (first | exact Sub.nil | refine Sub.cons rfl ?_))) ⟨d0 ++ [t], by rw [hsplit]; simp, by simp [hd0], hmk.app (.cons rfl rfl rfl (by rw [show k + 3 = k + 1 + 1 + 1 by omega]; exact hm1) (.nil _)), by simp only; omega, ?_, ?_⟩ (by simp)
    · simp only
      rw [← hftr, List.append_assoc]
      have := ftL_put none hft4 (d := d) (r := r)
      rw [ftR_flat, ftR_flat]
      simp [hft4, hft3, ft_nd, ft_eq t]
    · rw [List.append_assoc]; exact H
theorem laws_markTermS_nod : ∀ t : LT, Len t → ∀ (B : Nat) (w : World) (k : Int), Own B w (nod t.a t.c t.l) → 0 ≤ k → k + 3 * cnL t.l ≤ 4000000000000000000 → Fn Try.prog 23 [sl t.a t.l.length t.c, .int .i64 k] w (MkP B t.a t.c t.l k w) := by
  intro t
  induction t using indT with
  | h t ih =>
    intro hs
    obtain ⟨_, h1, h2⟩ := hs
    exact laws_markTermS_of t.a t.c t.l h1 fun y hy => ih y hy (h2 y hy)
theorem laws_markTermS_ok {B : Nat} {w : World} {a : Option Addr} {c : Nat} {l : List LT} (k : Int) (ho : Own B w (nod a c l)) (hs : Len (nod a c l)) (h0 : 0 ≤ k) (hk : k + 3 * cnL l ≤ 4000000000000000000) : Fn Try.prog 23 [sl a l.length c, .int .i64 k] w (MkP B a c l k w) := laws_markTermS_nod (nod a c l) hs B w k ho h0 hk
end Go.Proofs.Ytpfooiepmnaoaaa.E
