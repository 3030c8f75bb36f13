-- OUT HFnExactListTerm
import Derived.Test.YtpfooiepmnaoaaaEngZ
import Derived.Test.YtpfooiepmnaoaaaEngK3
namespace Go.Proofs.Ytpfooiepmnaoaaa.E
open Go Go.RowKit Go.Proofs.Ytpfooiepmnaoaaa.X Go.Proofs.YtpfooiepmnaoaaaW.PrintWords Go.Proofs.Ytpfooiepmnaoaaa.Base
set_option linter.unusedVariables false
set_option linter.unusedSimpArgs false
theorem SH.monoO {w0 w : World} {F0 : Nat → Prop} {X : List (Nat × Obj)} {S : List Asn} {B : Nat} {t : LT} (B' : Nat) (H : SH w0 F0 w X (oA B t :: S)) (h : B' ≤ B) : SH w0 F0 w X (oA B' t :: S) :=
  (H.add (oA B' t) ((H.own B t (List.mem_cons_self ..)).mono h) (fun p hp hf => H.sep (oA B t) (List.mem_cons_self ..) p hp hf)).dropS (by intro A hA; rcases List.mem_cons.1 hA with rfl | hA; exact List.mem_cons_self ..; exact List.mem_cons_of_mem _ (List.mem_cons_of_mem _ hA))
theorem cn_enc2 : ∀ (m : Tm) (t : LT), er t = m.enc → cn t ≤ m.size := by
  intro m
  induction m with
  | pair x y ihx ihy =>
    intro t he
    obtain ⟨k, i, s, a, c, l⟩ := t
    rw [er_mk] at he
    simp only [Tm.enc, S47.mk.injEq] at he
    obtain ⟨_, _, _, hl⟩ := he
    have h2 : l.length = 2 := by simpa using congrArg List.length hl
    match l, h2, hl with
    | [p, q], _, hl =>
      simp only [List.map_cons, List.map_nil, List.cons.injEq, and_true] at hl
      have h1 := ihx p hl.1
      have h2 := ihy q hl.2
      have e : (Tm.pair x y).size = 1 + x.size + y.size := rfl
      rw [cn_eq, cnL, cnL, cnL, e]
      omega
  | _ =>
    intro t he
    have hl := (enc_leaf he (fun _ _ h => by cases h)).1
    rw [cn_eq, hl, cnL]
    simp [Tm.size]
theorem zT_le (t : LT) (h : er t = er zT) : cnL t.l ≤ 5000 ∧ Sm (er t) := by
  constructor
  · have e := congrArg S47.f3 h
    rw [er_eq, er_mk] at e
    have : t.l = [] := by simpa using e
    rw [this, cnL]; exact Nat.zero_le _
  · rw [h, er_mk]; exact .mk _ (by show (0 : Nat) ≤ _; omega) (by simp) (by simp)
theorem ListTerm_both (L : List ITm) (T : ITm) (hL : ∀ x ∈ L, Sm x) (hT : Sm T) : ∃ (ok : Bool) (R : ITm), (∀ t : LT, er t = R → cnL t.l ≤ 5000 ∧ Sm (er t)) ∧
    (∀ a c l t w, HT w (nod a c l) → HT w t → SmL l → l.map er = L → er t = T → Fn Try.prog 41 [sl a l.length c, tv t] w (LtR ok R w)) ∧ (∀ a c l t w, HT w (nod a c l) → HT w t → SmL l → l.map er = L → er t = T → Fn Try.prog 42 [sl a l.length c, tv t] w (LtR ok R w)) := by
  by_cases hT' : TOk T
  · by_cases hA : ∃ l : List LT, l.map er = L ∧ AllTOk L
    · obtain ⟨l0, h1, h2⟩ := hA
      obtain ⟨ms, h3, h4⟩ := AllTOk.terms (l := l0) (by rw [h1]; exact h2)
      rw [h1] at h3
      obtain ⟨m, hm1, rfl, hm2⟩ := hT'
      have hsl : Sm (lstT ms m).enc := by rw [← lstT_enc, ← h3]; exact lstI_sm _ _ hL hT
      by_cases hz : (lstT ms m).size ≤ 5000
      · refine ⟨true, (lstT ms m).enc, fun t ht => ⟨by have := cn_enc2 _ t ht; rw [cn_eq] at this; omega, by rw [ht]; exact hsl⟩, fun a c l t w g1 g2 g3 g4 g5 => spec_ListTerm_D a c l t w g1 g2 g3 (g5 ▸ hT) ms m (g4.trans h3) g5 (g4 ▸ h2) (g5 ▸ ⟨m, hm1, rfl, hm2⟩) hz, fun a c l t w g1 g2 g3 g4 g5 => ?_⟩
        have := impl_ListTerm_CD a c l t w g1 g2 g3 (g5 ▸ hT) ms m (g4.trans h3) g5 h4 ⟨hm1, hm2⟩
        rw [decide_eq_true hz, if_pos hz] at this
        exact this
      · refine ⟨false, er zT, zT_le, fun a c l t w g1 g2 g3 g4 g5 => spec_ListTerm_C a c l t w g1 g2 g3 (g5 ▸ hT) ms m (g4.trans h3) g5 (g4 ▸ h2) (g5 ▸ ⟨m, hm1, rfl, hm2⟩) hz, fun a c l t w g1 g2 g3 g4 g5 => ?_⟩
        have := impl_ListTerm_CD a c l t w g1 g2 g3 (g5 ▸ hT) ms m (g4.trans h3) g5 h4 ⟨hm1, hm2⟩
        rw [decide_eq_false hz, if_neg hz] at this
        exact this
    · exact ⟨false, er zT, zT_le, fun a c l t w g1 g2 g3 g4 g5 => spec_ListTerm_A a c l t w g1 g2 g3 (g5 ▸ hT) (fun h => hA ⟨l, g4, g4 ▸ h⟩), fun a c l t w g1 g2 g3 g4 g5 => impl_ListTerm_A a c l t w g1 g2 g3 (g5 ▸ hT) (fun h => hA ⟨l, g4, g4 ▸ h⟩) (g5 ▸ hT')⟩
  · refine ⟨false, er zT, zT_le, fun a c l t w g1 g2 g3 g4 g5 => ?_, fun a c l t w g1 g2 g3 g4 g5 => impl_ListTerm_B a c l t w g1 g2 g3 (g5 ▸ hT) (g5 ▸ hT')⟩
    by_cases hv : AllTOk (l.map er)
    · exact spec_ListTerm_B a c l t w g1 g2 g3 (g5 ▸ hT) hv (g5 ▸ hT')
    · exact spec_ListTerm_A a c l t w g1 g2 g3 (g5 ▸ hT) hv
set_option maxRecDepth 100000 in
set_option maxHeartbeats 8000000 in
theorem FnExactListTerm_fn (a : Option Addr) (c : Nat) (l : List LT) (xs : List LTm) (t : LT) (x : LTm) (w0 : World) (ht : HT w0 (nod a c l)) (htt : HT w0 t) (hx : l.map er = xs.map conv) (hB : xs.length * 56 ≤ 140737488351232) (hb : ∀ y ∈ xs, B44 y) (hxt : er t = conv x) (hbt : B44 x) :
    Fn Try.prog 8 [sl a l.length c, tv t] w0 fun u w' => u = .bool true ∧ Chg noF w0 w' := by
  refine Fn.body (N := 119) Try.func8 rfl rfl rfl rfl rfl ?_
  have H : SH w0 noF w0 [] [tA (nod a c l), tA t] := SH.startL _ _ (by intro A hA; simp only [List.mem_cons, List.not_mem_nil, or_false] at hA; rcases hA with rfl | rfl; exact ht; exact htt)
  repeat' (first
    | (with_reducible refine WC.seq ?_)
    | (with_reducible refine WC.reg ?_)
    | (with_reducible refine WC.skip ?_)
    | (with_reducible refine WC.ret ?_)
    | ((with_reducible refine is_cond ?_); first | refine WC.ctrue rfl ?_ | refine WC.cfalse rfl ?_ | (refine WC.cbool rfl ?_ ?_ <;> intro hcnd))
    | (with_reducible refine WL.nilK ?_)
    | (with_reducible refine WL.nil ?_)
    | (with_reducible refine AtQ.then_norm ?_)
    | (with_reducible refine AtQ.then_ret ?_)
    | (with_reducible refine AtQ.out_ret ?_)
    | ((with_reducible refine is_box ?_); refine WL.boxN H rfl (by decide) ?_; intro b3 w H hb3 _ _)
    | ((with_reducible refine is_call (f := 15) ?_); refine WL.call (vs := [sl a l.length c, .int .i64 1048576]) rfl (laws_szTermS_fn a c l xs 1048576 _ (H.ht (nod a c l) (by repeat' (first | exact List.mem_cons_self .. | apply List.mem_cons_of_mem))) hx hB hb (by decide) (by decide)) (by decide) ?_; intro v w hv2; obtain ⟨r, e1, hr1, hr2, hc1⟩ := hv2; subst e1; have H := H.call hc1)
    | ((with_reducible refine is_call (f := 33) ?_); refine WL.call (vs := [tv t, .int .i64 r]) rfl (laws_szTerm_fn t x r _ (H.ht t (by repeat' (first | exact List.mem_cons_self .. | apply List.mem_cons_of_mem))) hxt hbt (by omega) (by omega)) (by decide) ?_; intro v w hv2; obtain ⟨q, e1, hq1, hq2, hc1⟩ := hv2; subst e1; have H := H.call hc1)
    | ((with_reducible refine is_move ?_); first | refine WL.y H (Y.move rfl) (by decide) ?_)
    | ((with_reducible refine is_assign ?_); first | refine WL.y H (Y.assign rfl) (by decide) ?_)
    | ((with_reducible refine is_load ?_); first | refine WL.y H (Y.loadX rfl (by repeat' (first | exact List.mem_cons_self .. | apply List.mem_cons_of_mem)) rfl) (by decide) ?_ | refine WL.y H (Y.loadXN rfl (by repeat' (first | exact List.mem_cons_self .. | apply List.mem_cons_of_mem)) rfl rfl) (by decide) ?_)
    | ((with_reducible refine is_not ?_); first | refine WL.y H (Y.not rfl) (by decide) ?_)
    | ((with_reducible refine is_pick ?_); first | refine WL.y H (Y.pickT rfl rfl) (by decide) ?_ | refine WL.y H (Y.pickF rfl rfl) (by decide) ?_)
    | ((with_reducible refine is_extract ?_); first | refine WL.y H (Y.extract rfl rfl) (by decide) ?_)
    | ((with_reducible refine is_neq ?_); first | refine WL.y H ((Y.neq rfl rfl).boolT (by first | omega | (simp only [List.length_cons, List.length_nil]; done) | (simp only [List.length_cons, List.length_nil]; omega))) (by decide) ?_ | refine WL.y H ((Y.neq rfl rfl).boolF (by first | omega | (simp only [List.length_cons, List.length_nil]; done) | (simp only [List.length_cons, List.length_nil]; omega))) (by decide) ?_ | refine WL.y H (Y.neqSe rfl rfl rfl) (by decide) ?_ | refine WL.y H (Y.neqBe rfl rfl) (by decide) ?_ | (refine WL.cmp H (Y.neq rfl rfl) (by decide) ?_ ?_ <;> intro hcmp))
    | ((with_reducible refine is_lss ?_); first | refine WL.y H ((Y.lss rfl rfl).boolT (by first | omega | (simp only [List.length_cons, List.length_nil]; done) | (simp only [List.length_cons, List.length_nil]; omega))) (by decide) ?_ | refine WL.y H ((Y.lss rfl rfl).boolF (by first | omega | (simp only [List.length_cons, List.length_nil]; done) | (simp only [List.length_cons, List.length_nil]; omega))) (by decide) ?_ | (refine WL.cmp H (Y.lss rfl rfl) (by decide) ?_ ?_ <;> intro hcmp))
    | ((with_reducible refine is_box ?_); first | (refine WL.boxN H rfl (by decide) ?_; intro _ w H _ _ _) | (refine WL.box1 H rfl rfl (by decide) ?_; intro _ w H _ _ _))
    | ((with_reducible refine is_alloc ?_); refine WL.alloc H (by decide) ?_; intro _ w H _ _ _)
    | ((with_reducible refine is_store ?_); first | (refine WL.store1 H rfl rfl rfl (by repeat' (first | exact Upd.here .. | apply Upd.there)) rfl ?_; intro w H _) | (refine WL.storeN H rfl rfl rfl rfl (by repeat' (first | exact Upd.here .. | apply Upd.there)) rfl ?_; intro w H _))
    | ((with_reducible refine is_grd ?_); first | refine WL.grd (Wd.some rfl rfl rfl) rfl ?_ | refine WL.pass (Wd.some rfl rfl rfl) rfl rfl (by decide) ?_ | refine WL.pass0 (Wd.some rfl rfl rfl) rfl rfl ?_))
  · exact AtQ.r1 (resVal.t rfl) ⟨rfl, H.chg⟩
  · exact AtQ.r1 (resVal.t rfl) ⟨rfl, H.chg⟩
  obtain ⟨hs, hwt⟩ := hr2 (by omega)
  obtain ⟨hst, hwtt⟩ := hq2 (by omega)
  obtain ⟨ok, R, hR, hspec, himpl⟩ := ListTerm_both (l.map er) (er t) (fun x hx => by obtain ⟨y, hy, rfl⟩ := List.mem_map.1 hx; exact hs.2 y hy) hst
  refine WC.mid (σ := Nat × LT) (fun s => [(0, sl a l.length c), (3, .pointer (some ⟨b3, 0, none⟩)), (6, .pointer (some ⟨s.1, 0, none⟩)), (7, .bool ok)]) (fun s w' => er s.2 = R ∧ SH w0 noF w' [(s.1, .cells (tcs s.2).toArray 47 (0, 0)), (b3, .cells (tcs t).toArray 44 (0, 0))] [oA w0.heap.size s.2, tA (nod a c l), tA t]) ?_ (fun s w hinv => ?_)
  · repeat' (first
      | (with_reducible refine WC.seq ?_)
      | (with_reducible refine WC.reg ?_)
      | (with_reducible refine WC.skip ?_)
      | (with_reducible refine WC.ret ?_)
      | ((with_reducible refine is_cond ?_); first | refine WC.ctrue rfl ?_ | refine WC.cfalse rfl ?_ | (refine WC.cbool rfl ?_ ?_ <;> intro hcnd))
      | (with_reducible refine WL.nilK ?_)
      | (with_reducible refine WL.nil ?_)
      | (with_reducible refine AtQ.then_norm ?_)
      | (with_reducible refine AtQ.then_ret ?_)
      | (with_reducible refine AtQ.out_ret ?_)
      | ((with_reducible refine is_move ?_); first | refine WL.y H (Y.move rfl) (by decide) ?_)
      | ((with_reducible refine is_assign ?_); first | refine WL.y H (Y.assign rfl) (by decide) ?_)
      | ((with_reducible refine is_load ?_); first | refine WL.y H (Y.loadX rfl (by repeat' (first | exact List.mem_cons_self .. | apply List.mem_cons_of_mem)) rfl) (by decide) ?_ | refine WL.y H (Y.loadXN rfl (by repeat' (first | exact List.mem_cons_self .. | apply List.mem_cons_of_mem)) rfl rfl) (by decide) ?_)
      | ((with_reducible refine is_not ?_); first | refine WL.y H (Y.not rfl) (by decide) ?_)
      | ((with_reducible refine is_pick ?_); first | refine WL.y H (Y.pickT rfl rfl) (by decide) ?_ | refine WL.y H (Y.pickF rfl rfl) (by decide) ?_)
      | ((with_reducible refine is_extract ?_); first | refine WL.y H (Y.extract rfl rfl) (by decide) ?_)
      | ((with_reducible refine is_neq ?_); first | refine WL.y H ((Y.neq rfl rfl).boolT (by first | omega | (simp only [List.length_cons, List.length_nil]; done) | (simp only [List.length_cons, List.length_nil]; omega))) (by decide) ?_ | refine WL.y H ((Y.neq rfl rfl).boolF (by first | omega | (simp only [List.length_cons, List.length_nil]; done) | (simp only [List.length_cons, List.length_nil]; omega))) (by decide) ?_ | refine WL.y H (Y.neqSe rfl rfl rfl) (by decide) ?_ | refine WL.y H (Y.neqBe rfl rfl) (by decide) ?_ | (refine WL.cmp H (Y.neq rfl rfl) (by decide) ?_ ?_ <;> intro hcmp))
      | ((with_reducible refine is_lss ?_); first | refine WL.y H ((Y.lss rfl rfl).boolT (by first | omega | (simp only [List.length_cons, List.length_nil]; done) | (simp only [List.length_cons, List.length_nil]; omega))) (by decide) ?_ | refine WL.y H ((Y.lss rfl rfl).boolF (by first | omega | (simp only [List.length_cons, List.length_nil]; done) | (simp only [List.length_cons, List.length_nil]; omega))) (by decide) ?_ | (refine WL.cmp H (Y.lss rfl rfl) (by decide) ?_ ?_ <;> intro hcmp))
      | ((with_reducible refine is_box ?_); first | (refine WL.boxN H rfl (by decide) ?_; intro _ w H _ _ _) | (refine WL.box1 H rfl rfl (by decide) ?_; intro _ w H _ _ _))
      | ((with_reducible refine is_alloc ?_); refine WL.alloc H (by decide) ?_; intro _ w H _ _ _)
      | ((with_reducible refine is_store ?_); first | (refine WL.store1 H rfl rfl rfl (by repeat' (first | exact Upd.here .. | apply Upd.there)) rfl ?_; intro w H _) | (refine WL.storeN H rfl rfl rfl rfl (by repeat' (first | exact Upd.here .. | apply Upd.there)) rfl ?_; intro w H _))
      | ((with_reducible refine is_grd ?_); first | refine WL.grd (Wd.some rfl rfl rfl) rfl ?_ | refine WL.pass (Wd.some rfl rfl rfl) rfl rfl (by decide) ?_ | refine WL.pass0 (Wd.some rfl rfl rfl) rfl rfl ?_))
    refine WC.draw mixed H (by repeat' (first | exact .nil | apply Sel.keep)) ?_
    intro w H _
    first
      | refine WR.take 0 (by kernel_rfl) (fun _ _ _ h => h) (Nth.get (by repeat' (first | exact Nth.zero .. | apply Nth.succ))) rfl (by decide) (Wd.none rfl) rfl (Y.move rfl) (by kernel_rfl) ?_
    first
      | refine WR.take 2 (by kernel_rfl) (fun _ _ _ h => h) (Nth.get (by repeat' (first | exact Nth.zero .. | apply Nth.succ))) rfl (by decide) (Wd.none rfl) rfl (Y.loadXN rfl (by repeat' (first | exact List.mem_cons_self .. | apply List.mem_cons_of_mem)) rfl rfl) (by kernel_rfl) ?_
    refine WR.two 1 8 (Nth.get (by repeat' (first | exact Nth.zero .. | apply Nth.succ))) (Nth.get (by repeat' (first | exact Nth.zero .. | apply Nth.succ))) (by kernel_rfl) ?_ ?_
    · skip
      repeat' (first
        | ((with_reducible refine is_call (f := 17) ?_); refine WL.call (vs := [sl _ l.length _]) rfl (laws_toTermS_ok _ _ l _ (H.ht (nod _ _ l) (by repeat' (first | exact List.mem_cons_self .. | apply List.mem_cons_of_mem))) (SmL.lens hs)) (by decide) ?_; intro v w hv2; obtain ⟨b1, t1, e1, en1, het1, ho1, hc1, hb1⟩ := hv2; subst e1; have H := H.made hc1 (oA _ (nod _ _ t1)) ho1 ho1.new))
      with_reducible refine WL.nilK ?_
      refine ⟨H.mi (by repeat' (first | exact Incl.nil _ | refine Incl.cons (by repeat' (first | exact List.mem_cons_self .. | apply List.mem_cons_of_mem)) ?_)) (by repeat' (first | exact Incl.nil _ | refine Incl.cons (by repeat' (first | exact List.mem_cons_self .. | apply List.mem_cons_of_mem)) ?_)), ?_⟩
      refine WR.two 3 8 (Nth.get (by repeat' (first | exact Nth.zero .. | apply Nth.succ))) (Nth.get (by repeat' (first | exact Nth.zero .. | apply Nth.succ))) (by kernel_rfl) ?_ ?_
      · skip
        repeat' (first
          | ((with_reducible refine is_call (f := 35) ?_); refine WL.call (vs := [tv t]) rfl (laws_toTerm_ok t _ (H.ht t (by repeat' (first | exact List.mem_cons_self .. | apply List.mem_cons_of_mem))) (Sm.lens t hst)) (by decide) ?_; intro v w hv2; obtain ⟨u1, e1, heu1, ho1, hc1⟩ := hv2; subst e1; have H := H.made hc1 (oA _ u1) ho1 ho1.new))
        with_reducible refine WL.nilK ?_
        refine ⟨H.mi (by repeat' (first | exact Incl.nil _ | refine Incl.cons (by repeat' (first | exact List.mem_cons_self .. | apply List.mem_cons_of_mem)) ?_)) (by repeat' (first | exact Incl.nil _ | refine Incl.cons (by repeat' (first | exact List.mem_cons_self .. | apply List.mem_cons_of_mem)) ?_)), ?_⟩
        refine WR.two 4 8 (Nth.get (by repeat' (first | exact Nth.zero .. | apply Nth.succ))) (Nth.get (by repeat' (first | exact Nth.zero .. | apply Nth.succ))) (by kernel_rfl) ?_ ?_
        · skip
          repeat' (first
            | ((with_reducible refine is_call (f := 41) ?_); have hcs := H.chg.size; refine WL.call (vs := [sl _ t1.length _, tv u1]) rfl (hspec _ _ t1 u1 _ (H.own _ (nod _ _ t1) (by repeat' (first | exact List.mem_cons_self .. | apply List.mem_cons_of_mem))).ht (H.own _ u1 (by repeat' (first | exact List.mem_cons_self .. | apply List.mem_cons_of_mem))).ht (hs.by_map het1) het1 heu1) (by decide) ?_; intro v w hv2; obtain ⟨w1, e1, hew, how, hc1⟩ := hv2; subst e1; have H := (H.made hc1 (oA _ w1) how how.new).monoO w0.heap.size hcs))
          with_reducible refine WL.nilK ?_
          refine ⟨H.mi (by repeat' (first | exact Incl.nil _ | refine Incl.cons (by repeat' (first | exact List.mem_cons_self .. | apply List.mem_cons_of_mem)) ?_)) (by repeat' (first | exact Incl.nil _ | refine Incl.cons (by repeat' (first | exact List.mem_cons_self .. | apply List.mem_cons_of_mem)) ?_)), ?_⟩
          first
            | refine WR.take 5 (by kernel_rfl) (fun _ _ _ h => h) (Nth.get (by repeat' (first | exact Nth.zero .. | apply Nth.succ))) rfl (by decide) (Wd.none rfl) rfl (Y.move rfl) (by kernel_rfl) ?_
          first
            | refine WR.take 6 (by kernel_rfl) (fun _ _ _ h => h) (Nth.get (by repeat' (first | exact Nth.zero .. | apply Nth.succ))) rfl (by decide) (Wd.none rfl) rfl (Y.extract rfl rfl) (by kernel_rfl) ?_
          first
            | refine WR.take 7 (by kernel_rfl) (fun _ _ _ h => h) (Nth.get (by repeat' (first | exact Nth.zero .. | apply Nth.succ))) rfl (by decide) (Wd.none rfl) rfl (Y.extract rfl rfl) (by kernel_rfl) ?_
          refine WR.run 8 (Nth.get (by repeat' (first | exact Nth.zero .. | apply Nth.succ))) (by kernel_rfl) ?_
          repeat' (first
            | ((with_reducible refine is_alloc ?_); refine WL.alloc H (by decide) ?_; intro b6 w H hb6 _ _)
            | ((with_reducible refine is_alloc ?_); refine WL.alloc H (by decide) ?_; intro _ w H _ _ _))
          with_reducible refine WL.nilK ?_
          refine ⟨H.mi (by repeat' (first | exact Incl.nil _ | refine Incl.cons (by repeat' (first | exact List.mem_cons_self .. | apply List.mem_cons_of_mem)) ?_)) (by repeat' (first | exact Incl.nil _ | refine Incl.cons (by repeat' (first | exact List.mem_cons_self .. | apply List.mem_cons_of_mem)) ?_)), ?_⟩
          refine WR.run 9 (Nth.get (by repeat' (first | exact Nth.zero .. | apply Nth.succ))) (by kernel_rfl) ?_
          repeat' (first
            | ((with_reducible refine is_store ?_); first | (refine WL.store1 H rfl rfl rfl (by repeat' (first | exact Upd.here .. | apply Upd.there)) rfl ?_; intro w H _) | (refine WL.storeN H rfl rfl rfl rfl (by repeat' (first | exact Upd.here .. | apply Upd.there)) rfl ?_; intro w H _)))
          with_reducible refine WL.nilK ?_
          refine ⟨H.mi (by repeat' (first | exact Incl.nil _ | refine Incl.cons (by repeat' (first | exact List.mem_cons_self .. | apply List.mem_cons_of_mem)) ?_)) (by repeat' (first | exact Incl.nil _ | refine Incl.cons (by repeat' (first | exact List.mem_cons_self .. | apply List.mem_cons_of_mem)) ?_)), ?_⟩
          first
            | refine WR.take 10 (by kernel_rfl) (fun _ _ _ h => h) (Nth.get (by repeat' (first | exact Nth.zero .. | apply Nth.succ))) rfl (by decide) (Wd.none rfl) rfl (Y.assign rfl) (by kernel_rfl) ?_
          refine WR.done (by kernel_rfl) ?_
          with_reducible refine AtQ.then_norm ?_
          exact ⟨(b6, w1), (by repeat' (first | exact Sub.nil | refine Sub.cons rfl ?_)), hew, H.dropI (by repeat' (first | exact Incl.nil _ | refine Incl.cons (by repeat' (first | exact List.mem_cons_self .. | apply List.mem_cons_of_mem)) ?_))⟩
        · skip
          repeat' (first
            | ((with_reducible refine is_alloc ?_); refine WL.alloc H (by decide) ?_; intro b6 w H hb6 _ _)
            | ((with_reducible refine is_alloc ?_); refine WL.alloc H (by decide) ?_; intro _ w H _ _ _))
          with_reducible refine WL.nilK ?_
          refine ⟨H.mi (by repeat' (first | exact Incl.nil _ | refine Incl.cons (by repeat' (first | exact List.mem_cons_self .. | apply List.mem_cons_of_mem)) ?_)) (by repeat' (first | exact Incl.nil _ | refine Incl.cons (by repeat' (first | exact List.mem_cons_self .. | apply List.mem_cons_of_mem)) ?_)), ?_⟩
          refine WR.run 4 (Nth.get (by repeat' (first | exact Nth.zero .. | apply Nth.succ))) (by kernel_rfl) ?_
          repeat' (first
            | ((with_reducible refine is_call (f := 41) ?_); have hcs := H.chg.size; refine WL.call (vs := [sl _ t1.length _, tv u1]) rfl (hspec _ _ t1 u1 _ (H.own _ (nod _ _ t1) (by repeat' (first | exact List.mem_cons_self .. | apply List.mem_cons_of_mem))).ht (H.own _ u1 (by repeat' (first | exact List.mem_cons_self .. | apply List.mem_cons_of_mem))).ht (hs.by_map het1) het1 heu1) (by decide) ?_; intro v w hv2; obtain ⟨w1, e1, hew, how, hc1⟩ := hv2; subst e1; have H := (H.made hc1 (oA _ w1) how how.new).monoO w0.heap.size hcs))
          with_reducible refine WL.nilK ?_
          refine ⟨H.mi (by repeat' (first | exact Incl.nil _ | refine Incl.cons (by repeat' (first | exact List.mem_cons_self .. | apply List.mem_cons_of_mem)) ?_)) (by repeat' (first | exact Incl.nil _ | refine Incl.cons (by repeat' (first | exact List.mem_cons_self .. | apply List.mem_cons_of_mem)) ?_)), ?_⟩
          first
            | refine WR.take 5 (by kernel_rfl) (fun _ _ _ h => h) (Nth.get (by repeat' (first | exact Nth.zero .. | apply Nth.succ))) rfl (by decide) (Wd.none rfl) rfl (Y.move rfl) (by kernel_rfl) ?_
          first
            | refine WR.take 6 (by kernel_rfl) (fun _ _ _ h => h) (Nth.get (by repeat' (first | exact Nth.zero .. | apply Nth.succ))) rfl (by decide) (Wd.none rfl) rfl (Y.extract rfl rfl) (by kernel_rfl) ?_
          first
            | refine WR.take 7 (by kernel_rfl) (fun _ _ _ h => h) (Nth.get (by repeat' (first | exact Nth.zero .. | apply Nth.succ))) rfl (by decide) (Wd.none rfl) rfl (Y.extract rfl rfl) (by kernel_rfl) ?_
          refine WR.run 9 (Nth.get (by repeat' (first | exact Nth.zero .. | apply Nth.succ))) (by kernel_rfl) ?_
          repeat' (first
            | ((with_reducible refine is_store ?_); first | (refine WL.store1 H rfl rfl rfl (by repeat' (first | exact Upd.here .. | apply Upd.there)) rfl ?_; intro w H _) | (refine WL.storeN H rfl rfl rfl rfl (by repeat' (first | exact Upd.here .. | apply Upd.there)) rfl ?_; intro w H _)))
          with_reducible refine WL.nilK ?_
          refine ⟨H.mi (by repeat' (first | exact Incl.nil _ | refine Incl.cons (by repeat' (first | exact List.mem_cons_self .. | apply List.mem_cons_of_mem)) ?_)) (by repeat' (first | exact Incl.nil _ | refine Incl.cons (by repeat' (first | exact List.mem_cons_self .. | apply List.mem_cons_of_mem)) ?_)), ?_⟩
          first
            | refine WR.take 10 (by kernel_rfl) (fun _ _ _ h => h) (Nth.get (by repeat' (first | exact Nth.zero .. | apply Nth.succ))) rfl (by decide) (Wd.none rfl) rfl (Y.assign rfl) (by kernel_rfl) ?_
          refine WR.done (by kernel_rfl) ?_
          with_reducible refine AtQ.then_norm ?_
          exact ⟨(b6, w1), (by repeat' (first | exact Sub.nil | refine Sub.cons rfl ?_)), hew, H.dropI (by repeat' (first | exact Incl.nil _ | refine Incl.cons (by repeat' (first | exact List.mem_cons_self .. | apply List.mem_cons_of_mem)) ?_))⟩
      · skip
        repeat' (first
          | ((with_reducible refine is_alloc ?_); refine WL.alloc H (by decide) ?_; intro b6 w H hb6 _ _)
          | ((with_reducible refine is_alloc ?_); refine WL.alloc H (by decide) ?_; intro _ w H _ _ _))
        with_reducible refine WL.nilK ?_
        refine ⟨H.mi (by repeat' (first | exact Incl.nil _ | refine Incl.cons (by repeat' (first | exact List.mem_cons_self .. | apply List.mem_cons_of_mem)) ?_)) (by repeat' (first | exact Incl.nil _ | refine Incl.cons (by repeat' (first | exact List.mem_cons_self .. | apply List.mem_cons_of_mem)) ?_)), ?_⟩
        refine WR.run 3 (Nth.get (by repeat' (first | exact Nth.zero .. | apply Nth.succ))) (by kernel_rfl) ?_
        repeat' (first
          | ((with_reducible refine is_call (f := 35) ?_); refine WL.call (vs := [tv t]) rfl (laws_toTerm_ok t _ (H.ht t (by repeat' (first | exact List.mem_cons_self .. | apply List.mem_cons_of_mem))) (Sm.lens t hst)) (by decide) ?_; intro v w hv2; obtain ⟨u1, e1, heu1, ho1, hc1⟩ := hv2; subst e1; have H := H.made hc1 (oA _ u1) ho1 ho1.new))
        with_reducible refine WL.nilK ?_
        refine ⟨H.mi (by repeat' (first | exact Incl.nil _ | refine Incl.cons (by repeat' (first | exact List.mem_cons_self .. | apply List.mem_cons_of_mem)) ?_)) (by repeat' (first | exact Incl.nil _ | refine Incl.cons (by repeat' (first | exact List.mem_cons_self .. | apply List.mem_cons_of_mem)) ?_)), ?_⟩
        refine WR.run 4 (Nth.get (by repeat' (first | exact Nth.zero .. | apply Nth.succ))) (by kernel_rfl) ?_
        repeat' (first
          | ((with_reducible refine is_call (f := 41) ?_); have hcs := H.chg.size; refine WL.call (vs := [sl _ t1.length _, tv u1]) rfl (hspec _ _ t1 u1 _ (H.own _ (nod _ _ t1) (by repeat' (first | exact List.mem_cons_self .. | apply List.mem_cons_of_mem))).ht (H.own _ u1 (by repeat' (first | exact List.mem_cons_self .. | apply List.mem_cons_of_mem))).ht (hs.by_map het1) het1 heu1) (by decide) ?_; intro v w hv2; obtain ⟨w1, e1, hew, how, hc1⟩ := hv2; subst e1; have H := (H.made hc1 (oA _ w1) how how.new).monoO w0.heap.size hcs))
        with_reducible refine WL.nilK ?_
        refine ⟨H.mi (by repeat' (first | exact Incl.nil _ | refine Incl.cons (by repeat' (first | exact List.mem_cons_self .. | apply List.mem_cons_of_mem)) ?_)) (by repeat' (first | exact Incl.nil _ | refine Incl.cons (by repeat' (first | exact List.mem_cons_self .. | apply List.mem_cons_of_mem)) ?_)), ?_⟩
        first
          | refine WR.take 5 (by kernel_rfl) (fun _ _ _ h => h) (Nth.get (by repeat' (first | exact Nth.zero .. | apply Nth.succ))) rfl (by decide) (Wd.none rfl) rfl (Y.move rfl) (by kernel_rfl) ?_
        first
          | refine WR.take 6 (by kernel_rfl) (fun _ _ _ h => h) (Nth.get (by repeat' (first | exact Nth.zero .. | apply Nth.succ))) rfl (by decide) (Wd.none rfl) rfl (Y.extract rfl rfl) (by kernel_rfl) ?_
        first
          | refine WR.take 7 (by kernel_rfl) (fun _ _ _ h => h) (Nth.get (by repeat' (first | exact Nth.zero .. | apply Nth.succ))) rfl (by decide) (Wd.none rfl) rfl (Y.extract rfl rfl) (by kernel_rfl) ?_
        refine WR.run 9 (Nth.get (by repeat' (first | exact Nth.zero .. | apply Nth.succ))) (by kernel_rfl) ?_
        repeat' (first
          | ((with_reducible refine is_store ?_); first | (refine WL.store1 H rfl rfl rfl (by repeat' (first | exact Upd.here .. | apply Upd.there)) rfl ?_; intro w H _) | (refine WL.storeN H rfl rfl rfl rfl (by repeat' (first | exact Upd.here .. | apply Upd.there)) rfl ?_; intro w H _)))
        with_reducible refine WL.nilK ?_
        refine ⟨H.mi (by repeat' (first | exact Incl.nil _ | refine Incl.cons (by repeat' (first | exact List.mem_cons_self .. | apply List.mem_cons_of_mem)) ?_)) (by repeat' (first | exact Incl.nil _ | refine Incl.cons (by repeat' (first | exact List.mem_cons_self .. | apply List.mem_cons_of_mem)) ?_)), ?_⟩
        first
          | refine WR.take 10 (by kernel_rfl) (fun _ _ _ h => h) (Nth.get (by repeat' (first | exact Nth.zero .. | apply Nth.succ))) rfl (by decide) (Wd.none rfl) rfl (Y.assign rfl) (by kernel_rfl) ?_
        refine WR.done (by kernel_rfl) ?_
        with_reducible refine AtQ.then_norm ?_
        exact ⟨(b6, w1), (by repeat' (first | exact Sub.nil | refine Sub.cons rfl ?_)), hew, H.dropI (by repeat' (first | exact Incl.nil _ | refine Incl.cons (by repeat' (first | exact List.mem_cons_self .. | apply List.mem_cons_of_mem)) ?_))⟩
    · skip
      repeat' (first
        | ((with_reducible refine is_alloc ?_); refine WL.alloc H (by decide) ?_; intro b6 w H hb6 _ _)
        | ((with_reducible refine is_alloc ?_); refine WL.alloc H (by decide) ?_; intro _ w H _ _ _))
      with_reducible refine WL.nilK ?_
      refine ⟨H.mi (by repeat' (first | exact Incl.nil _ | refine Incl.cons (by repeat' (first | exact List.mem_cons_self .. | apply List.mem_cons_of_mem)) ?_)) (by repeat' (first | exact Incl.nil _ | refine Incl.cons (by repeat' (first | exact List.mem_cons_self .. | apply List.mem_cons_of_mem)) ?_)), ?_⟩
      refine WR.run 1 (Nth.get (by repeat' (first | exact Nth.zero .. | apply Nth.succ))) (by kernel_rfl) ?_
      repeat' (first
        | ((with_reducible refine is_call (f := 17) ?_); refine WL.call (vs := [sl _ l.length _]) rfl (laws_toTermS_ok _ _ l _ (H.ht (nod _ _ l) (by repeat' (first | exact List.mem_cons_self .. | apply List.mem_cons_of_mem))) (SmL.lens hs)) (by decide) ?_; intro v w hv2; obtain ⟨b1, t1, e1, en1, het1, ho1, hc1, hb1⟩ := hv2; subst e1; have H := H.made hc1 (oA _ (nod _ _ t1)) ho1 ho1.new))
      with_reducible refine WL.nilK ?_
      refine ⟨H.mi (by repeat' (first | exact Incl.nil _ | refine Incl.cons (by repeat' (first | exact List.mem_cons_self .. | apply List.mem_cons_of_mem)) ?_)) (by repeat' (first | exact Incl.nil _ | refine Incl.cons (by repeat' (first | exact List.mem_cons_self .. | apply List.mem_cons_of_mem)) ?_)), ?_⟩
      refine WR.run 3 (Nth.get (by repeat' (first | exact Nth.zero .. | apply Nth.succ))) (by kernel_rfl) ?_
      repeat' (first
        | ((with_reducible refine is_call (f := 35) ?_); refine WL.call (vs := [tv t]) rfl (laws_toTerm_ok t _ (H.ht t (by repeat' (first | exact List.mem_cons_self .. | apply List.mem_cons_of_mem))) (Sm.lens t hst)) (by decide) ?_; intro v w hv2; obtain ⟨u1, e1, heu1, ho1, hc1⟩ := hv2; subst e1; have H := H.made hc1 (oA _ u1) ho1 ho1.new))
      with_reducible refine WL.nilK ?_
      refine ⟨H.mi (by repeat' (first | exact Incl.nil _ | refine Incl.cons (by repeat' (first | exact List.mem_cons_self .. | apply List.mem_cons_of_mem)) ?_)) (by repeat' (first | exact Incl.nil _ | refine Incl.cons (by repeat' (first | exact List.mem_cons_self .. | apply List.mem_cons_of_mem)) ?_)), ?_⟩
      refine WR.run 4 (Nth.get (by repeat' (first | exact Nth.zero .. | apply Nth.succ))) (by kernel_rfl) ?_
      repeat' (first
        | ((with_reducible refine is_call (f := 41) ?_); have hcs := H.chg.size; refine WL.call (vs := [sl _ t1.length _, tv u1]) rfl (hspec _ _ t1 u1 _ (H.own _ (nod _ _ t1) (by repeat' (first | exact List.mem_cons_self .. | apply List.mem_cons_of_mem))).ht (H.own _ u1 (by repeat' (first | exact List.mem_cons_self .. | apply List.mem_cons_of_mem))).ht (hs.by_map het1) het1 heu1) (by decide) ?_; intro v w hv2; obtain ⟨w1, e1, hew, how, hc1⟩ := hv2; subst e1; have H := (H.made hc1 (oA _ w1) how how.new).monoO w0.heap.size hcs))
      with_reducible refine WL.nilK ?_
      refine ⟨H.mi (by repeat' (first | exact Incl.nil _ | refine Incl.cons (by repeat' (first | exact List.mem_cons_self .. | apply List.mem_cons_of_mem)) ?_)) (by repeat' (first | exact Incl.nil _ | refine Incl.cons (by repeat' (first | exact List.mem_cons_self .. | apply List.mem_cons_of_mem)) ?_)), ?_⟩
      first
        | refine WR.take 5 (by kernel_rfl) (fun _ _ _ h => h) (Nth.get (by repeat' (first | exact Nth.zero .. | apply Nth.succ))) rfl (by decide) (Wd.none rfl) rfl (Y.move rfl) (by kernel_rfl) ?_
      first
        | refine WR.take 6 (by kernel_rfl) (fun _ _ _ h => h) (Nth.get (by repeat' (first | exact Nth.zero .. | apply Nth.succ))) rfl (by decide) (Wd.none rfl) rfl (Y.extract rfl rfl) (by kernel_rfl) ?_
      first
        | refine WR.take 7 (by kernel_rfl) (fun _ _ _ h => h) (Nth.get (by repeat' (first | exact Nth.zero .. | apply Nth.succ))) rfl (by decide) (Wd.none rfl) rfl (Y.extract rfl rfl) (by kernel_rfl) ?_
      refine WR.run 9 (Nth.get (by repeat' (first | exact Nth.zero .. | apply Nth.succ))) (by kernel_rfl) ?_
      repeat' (first
        | ((with_reducible refine is_store ?_); first | (refine WL.store1 H rfl rfl rfl (by repeat' (first | exact Upd.here .. | apply Upd.there)) rfl ?_; intro w H _) | (refine WL.storeN H rfl rfl rfl rfl (by repeat' (first | exact Upd.here .. | apply Upd.there)) rfl ?_; intro w H _)))
      with_reducible refine WL.nilK ?_
      refine ⟨H.mi (by repeat' (first | exact Incl.nil _ | refine Incl.cons (by repeat' (first | exact List.mem_cons_self .. | apply List.mem_cons_of_mem)) ?_)) (by repeat' (first | exact Incl.nil _ | refine Incl.cons (by repeat' (first | exact List.mem_cons_self .. | apply List.mem_cons_of_mem)) ?_)), ?_⟩
      first
        | refine WR.take 10 (by kernel_rfl) (fun _ _ _ h => h) (Nth.get (by repeat' (first | exact Nth.zero .. | apply Nth.succ))) rfl (by decide) (Wd.none rfl) rfl (Y.assign rfl) (by kernel_rfl) ?_
      refine WR.done (by kernel_rfl) ?_
      with_reducible refine AtQ.then_norm ?_
      exact ⟨(b6, w1), (by repeat' (first | exact Sub.nil | refine Sub.cons rfl ?_)), hew, H.dropI (by repeat' (first | exact Incl.nil _ | refine Incl.cons (by repeat' (first | exact List.mem_cons_self .. | apply List.mem_cons_of_mem)) ?_))⟩
  obtain ⟨b6, w1⟩ := s
  obtain ⟨hew, H⟩ := hinv
  simp only at hew H ⊢
  repeat' (first
    | (with_reducible refine WC.seq ?_)
    | (with_reducible refine WC.reg ?_)
    | (with_reducible refine WC.skip ?_)
    | (with_reducible refine WC.ret ?_)
    | ((with_reducible refine is_cond ?_); first | refine WC.ctrue rfl ?_ | refine WC.cfalse rfl ?_ | (refine WC.cbool rfl ?_ ?_ <;> intro hcnd))
    | (with_reducible refine WL.nilK ?_)
    | (with_reducible refine WL.nil ?_)
    | (with_reducible refine AtQ.then_norm ?_)
    | (with_reducible refine AtQ.then_ret ?_)
    | (with_reducible refine AtQ.out_ret ?_)
    | ((with_reducible refine is_move ?_); first | refine WL.y H (Y.move rfl) (by decide) ?_)
    | ((with_reducible refine is_assign ?_); first | refine WL.y H (Y.assign rfl) (by decide) ?_)
    | ((with_reducible refine is_load ?_); first | refine WL.y H (Y.loadX rfl (by repeat' (first | exact List.mem_cons_self .. | apply List.mem_cons_of_mem)) rfl) (by decide) ?_ | refine WL.y H (Y.loadXN rfl (by repeat' (first | exact List.mem_cons_self .. | apply List.mem_cons_of_mem)) rfl rfl) (by decide) ?_)
    | ((with_reducible refine is_not ?_); first | refine WL.y H (Y.not rfl) (by decide) ?_)
    | ((with_reducible refine is_pick ?_); first | refine WL.y H (Y.pickT rfl rfl) (by decide) ?_ | refine WL.y H (Y.pickF rfl rfl) (by decide) ?_)
    | ((with_reducible refine is_extract ?_); first | refine WL.y H (Y.extract rfl rfl) (by decide) ?_)
    | ((with_reducible refine is_neq ?_); first | refine WL.y H ((Y.neq rfl rfl).boolT (by first | omega | (simp only [List.length_cons, List.length_nil]; done) | (simp only [List.length_cons, List.length_nil]; omega))) (by decide) ?_ | refine WL.y H ((Y.neq rfl rfl).boolF (by first | omega | (simp only [List.length_cons, List.length_nil]; done) | (simp only [List.length_cons, List.length_nil]; omega))) (by decide) ?_ | refine WL.y H (Y.neqSe rfl rfl rfl) (by decide) ?_ | refine WL.y H (Y.neqBe rfl rfl) (by decide) ?_ | (refine WL.cmp H (Y.neq rfl rfl) (by decide) ?_ ?_ <;> intro hcmp))
    | ((with_reducible refine is_lss ?_); first | refine WL.y H ((Y.lss rfl rfl).boolT (by first | omega | (simp only [List.length_cons, List.length_nil]; done) | (simp only [List.length_cons, List.length_nil]; omega))) (by decide) ?_ | refine WL.y H ((Y.lss rfl rfl).boolF (by first | omega | (simp only [List.length_cons, List.length_nil]; done) | (simp only [List.length_cons, List.length_nil]; omega))) (by decide) ?_ | (refine WL.cmp H (Y.lss rfl rfl) (by decide) ?_ ?_ <;> intro hcmp))
    | ((with_reducible refine is_box ?_); first | (refine WL.boxN H rfl (by decide) ?_; intro _ w H _ _ _) | (refine WL.box1 H rfl rfl (by decide) ?_; intro _ w H _ _ _))
    | ((with_reducible refine is_alloc ?_); refine WL.alloc H (by decide) ?_; intro _ w H _ _ _)
    | ((with_reducible refine is_store ?_); first | (refine WL.store1 H rfl rfl rfl (by repeat' (first | exact Upd.here .. | apply Upd.there)) rfl ?_; intro w H _) | (refine WL.storeN H rfl rfl rfl rfl (by repeat' (first | exact Upd.here .. | apply Upd.there)) rfl ?_; intro w H _))
    | ((with_reducible refine is_grd ?_); first | refine WL.grd (Wd.some rfl rfl rfl) rfl ?_ | refine WL.pass (Wd.some rfl rfl rfl) rfl rfl (by decide) ?_ | refine WL.pass0 (Wd.some rfl rfl rfl) rfl rfl ?_))
  have hw1lt : ∀ z ∈ ft w1, z < w.heap.size := (H.own _ w1 (by repeat' (first | exact List.mem_cons_self .. | apply List.mem_cons_of_mem))).ht.lt
  have hB2 := H.chg.size
  with_reducible refine is_call (f := 17) ?_
  refine WL.call (vs := [sl _ l.length _]) rfl (laws_toTermS_ok _ _ l _ (H.ht (nod _ _ l) (by repeat' (first | exact List.mem_cons_self .. | apply List.mem_cons_of_mem))) (SmL.lens hs)) (by decide) ?_; intro v w hv2; obtain ⟨b2, ts7, e1, en7, het7, ho1, hc1, hb1⟩ := hv2; subst e1; have hsz7 := hc1.size; have H := H.made hc1 (oA _ (nod _ _ ts7)) ho1 ho1.new
  repeat' (first
    | (with_reducible refine WC.seq ?_)
    | (with_reducible refine WC.reg ?_)
    | (with_reducible refine WC.skip ?_)
    | (with_reducible refine WC.ret ?_)
    | ((with_reducible refine is_cond ?_); first | refine WC.ctrue rfl ?_ | refine WC.cfalse rfl ?_ | (refine WC.cbool rfl ?_ ?_ <;> intro hcnd))
    | (with_reducible refine WL.nilK ?_)
    | (with_reducible refine WL.nil ?_)
    | (with_reducible refine AtQ.then_norm ?_)
    | (with_reducible refine AtQ.then_ret ?_)
    | (with_reducible refine AtQ.out_ret ?_)
    | ((with_reducible refine is_move ?_); first | refine WL.y H (Y.move rfl) (by decide) ?_)
    | ((with_reducible refine is_assign ?_); first | refine WL.y H (Y.assign rfl) (by decide) ?_)
    | ((with_reducible refine is_load ?_); first | refine WL.y H (Y.loadX rfl (by repeat' (first | exact List.mem_cons_self .. | apply List.mem_cons_of_mem)) rfl) (by decide) ?_ | refine WL.y H (Y.loadXN rfl (by repeat' (first | exact List.mem_cons_self .. | apply List.mem_cons_of_mem)) rfl rfl) (by decide) ?_)
    | ((with_reducible refine is_not ?_); first | refine WL.y H (Y.not rfl) (by decide) ?_)
    | ((with_reducible refine is_pick ?_); first | refine WL.y H (Y.pickT rfl rfl) (by decide) ?_ | refine WL.y H (Y.pickF rfl rfl) (by decide) ?_)
    | ((with_reducible refine is_extract ?_); first | refine WL.y H (Y.extract rfl rfl) (by decide) ?_)
    | ((with_reducible refine is_neq ?_); first | refine WL.y H ((Y.neq rfl rfl).boolT (by first | omega | (simp only [List.length_cons, List.length_nil]; done) | (simp only [List.length_cons, List.length_nil]; omega))) (by decide) ?_ | refine WL.y H ((Y.neq rfl rfl).boolF (by first | omega | (simp only [List.length_cons, List.length_nil]; done) | (simp only [List.length_cons, List.length_nil]; omega))) (by decide) ?_ | refine WL.y H (Y.neqSe rfl rfl rfl) (by decide) ?_ | refine WL.y H (Y.neqBe rfl rfl) (by decide) ?_ | (refine WL.cmp H (Y.neq rfl rfl) (by decide) ?_ ?_ <;> intro hcmp))
    | ((with_reducible refine is_lss ?_); first | refine WL.y H ((Y.lss rfl rfl).boolT (by first | omega | (simp only [List.length_cons, List.length_nil]; done) | (simp only [List.length_cons, List.length_nil]; omega))) (by decide) ?_ | refine WL.y H ((Y.lss rfl rfl).boolF (by first | omega | (simp only [List.length_cons, List.length_nil]; done) | (simp only [List.length_cons, List.length_nil]; omega))) (by decide) ?_ | (refine WL.cmp H (Y.lss rfl rfl) (by decide) ?_ ?_ <;> intro hcmp))
    | ((with_reducible refine is_box ?_); first | (refine WL.boxN H rfl (by decide) ?_; intro _ w H _ _ _) | (refine WL.box1 H rfl rfl (by decide) ?_; intro _ w H _ _ _))
    | ((with_reducible refine is_alloc ?_); refine WL.alloc H (by decide) ?_; intro _ w H _ _ _)
    | ((with_reducible refine is_store ?_); first | (refine WL.store1 H rfl rfl rfl (by repeat' (first | exact Upd.here .. | apply Upd.there)) rfl ?_; intro w H _) | (refine WL.storeN H rfl rfl rfl rfl (by repeat' (first | exact Upd.here .. | apply Upd.there)) rfl ?_; intro w H _))
    | ((with_reducible refine is_grd ?_); first | refine WL.grd (Wd.some rfl rfl rfl) rfl ?_ | refine WL.pass (Wd.some rfl rfl rfl) rfl rfl (by decide) ?_ | refine WL.pass0 (Wd.some rfl rfl rfl) rfl rfl ?_))
  have hts2lt : ∀ z ∈ ft (nod (some ⟨b2, 0, none⟩) ts7.length ts7), z < w.heap.size := (H.own _ (nod _ _ ts7) (by repeat' (first | exact List.mem_cons_self .. | apply List.mem_cons_of_mem))).ht.lt
  have hB3 := H.chg.size
  have hs_ := hs
  have hs := hst
  with_reducible refine is_call (f := 35) ?_
  refine WL.call (vs := [tv t]) rfl (laws_toTerm_ok t _ (H.ht t (by repeat' (first | exact List.mem_cons_self .. | apply List.mem_cons_of_mem))) (Sm.lens t hs)) (by decide) ?_; intro v w hv2; obtain ⟨t2, e1, het2, ho1, hc1⟩ := hv2; subst e1; have hsz2 := hc1.size; have H := H.made hc1 (oA _ t2) ho1 ho1.new
  have hs := hs_
  repeat' (first
    | (with_reducible refine WC.seq ?_)
    | (with_reducible refine WC.reg ?_)
    | (with_reducible refine WC.skip ?_)
    | (with_reducible refine WC.ret ?_)
    | ((with_reducible refine is_cond ?_); first | refine WC.ctrue rfl ?_ | refine WC.cfalse rfl ?_ | (refine WC.cbool rfl ?_ ?_ <;> intro hcnd))
    | (with_reducible refine WL.nilK ?_)
    | (with_reducible refine WL.nil ?_)
    | (with_reducible refine AtQ.then_norm ?_)
    | (with_reducible refine AtQ.then_ret ?_)
    | (with_reducible refine AtQ.out_ret ?_)
    | ((with_reducible refine is_alloc ?_); refine WL.alloc H (by decide) ?_; intro b9 w H hb9 _ hsz9)
    | ((with_reducible refine is_move ?_); first | refine WL.y H (Y.move rfl) (by decide) ?_)
    | ((with_reducible refine is_assign ?_); first | refine WL.y H (Y.assign rfl) (by decide) ?_)
    | ((with_reducible refine is_load ?_); first | refine WL.y H (Y.loadX rfl (by repeat' (first | exact List.mem_cons_self .. | apply List.mem_cons_of_mem)) rfl) (by decide) ?_ | refine WL.y H (Y.loadXN rfl (by repeat' (first | exact List.mem_cons_self .. | apply List.mem_cons_of_mem)) rfl rfl) (by decide) ?_)
    | ((with_reducible refine is_not ?_); first | refine WL.y H (Y.not rfl) (by decide) ?_)
    | ((with_reducible refine is_pick ?_); first | refine WL.y H (Y.pickT rfl rfl) (by decide) ?_ | refine WL.y H (Y.pickF rfl rfl) (by decide) ?_)
    | ((with_reducible refine is_extract ?_); first | refine WL.y H (Y.extract rfl rfl) (by decide) ?_)
    | ((with_reducible refine is_neq ?_); first | refine WL.y H ((Y.neq rfl rfl).boolT (by first | omega | (simp only [List.length_cons, List.length_nil]; done) | (simp only [List.length_cons, List.length_nil]; omega))) (by decide) ?_ | refine WL.y H ((Y.neq rfl rfl).boolF (by first | omega | (simp only [List.length_cons, List.length_nil]; done) | (simp only [List.length_cons, List.length_nil]; omega))) (by decide) ?_ | refine WL.y H (Y.neqSe rfl rfl rfl) (by decide) ?_ | refine WL.y H (Y.neqBe rfl rfl) (by decide) ?_ | (refine WL.cmp H (Y.neq rfl rfl) (by decide) ?_ ?_ <;> intro hcmp))
    | ((with_reducible refine is_lss ?_); first | refine WL.y H ((Y.lss rfl rfl).boolT (by first | omega | (simp only [List.length_cons, List.length_nil]; done) | (simp only [List.length_cons, List.length_nil]; omega))) (by decide) ?_ | refine WL.y H ((Y.lss rfl rfl).boolF (by first | omega | (simp only [List.length_cons, List.length_nil]; done) | (simp only [List.length_cons, List.length_nil]; omega))) (by decide) ?_ | (refine WL.cmp H (Y.lss rfl rfl) (by decide) ?_ ?_ <;> intro hcmp))
    | ((with_reducible refine is_box ?_); first | (refine WL.boxN H rfl (by decide) ?_; intro _ w H _ _ _) | (refine WL.box1 H rfl rfl (by decide) ?_; intro _ w H _ _ _))
    | ((with_reducible refine is_alloc ?_); refine WL.alloc H (by decide) ?_; intro _ w H _ _ _)
    | ((with_reducible refine is_store ?_); first | (refine WL.store1 H rfl rfl rfl (by repeat' (first | exact Upd.here .. | apply Upd.there)) rfl ?_; intro w H _) | (refine WL.storeN H rfl rfl rfl rfl (by repeat' (first | exact Upd.here .. | apply Upd.there)) rfl ?_; intro w H _))
    | ((with_reducible refine is_grd ?_); first | refine WL.grd (Wd.some rfl rfl rfl) rfl ?_ | refine WL.pass (Wd.some rfl rfl rfl) rfl rfl (by decide) ?_ | refine WL.pass0 (Wd.some rfl rfl rfl) rfl rfl ?_))
  have ht2lt : ∀ z ∈ ft t2, z < w.heap.size := (H.own _ t2 (by repeat' (first | exact List.mem_cons_self .. | apply List.mem_cons_of_mem))).ht.lt
  have hgB := H.chg.size
  with_reducible refine is_call (f := 42) ?_
  refine WL.call (vs := [sl _ ts7.length _, tv t2]) rfl (himpl _ _ ts7 t2 _ (H.own _ (nod _ _ ts7) (by repeat' (first | exact List.mem_cons_self .. | apply List.mem_cons_of_mem))).ht (H.own _ t2 (by repeat' (first | exact List.mem_cons_self .. | apply List.mem_cons_of_mem))).ht (hs.by_map het7) het7 het2) (by decide) ?_; intro v w hv2; obtain ⟨g0, e1, heg, hog, hc1⟩ := hv2; subst e1; have hgge := hog.new; have H := H.made hc1 (oA _ g0) hog hog.new
  repeat' (first
    | (with_reducible refine WC.seq ?_)
    | (with_reducible refine WC.reg ?_)
    | (with_reducible refine WC.skip ?_)
    | (with_reducible refine WC.ret ?_)
    | ((with_reducible refine is_cond ?_); first | refine WC.ctrue rfl ?_ | refine WC.cfalse rfl ?_ | (refine WC.cbool rfl ?_ ?_ <;> intro hcnd))
    | (with_reducible refine WL.nilK ?_)
    | (with_reducible refine WL.nil ?_)
    | (with_reducible refine AtQ.then_norm ?_)
    | (with_reducible refine AtQ.then_ret ?_)
    | (with_reducible refine AtQ.out_ret ?_)
    | ((with_reducible refine is_call (f := 37) ?_); refine WL.call (vs := [tv g0, tv w1]) rfl (laws_eqTerm_fn g0 w1 _ (H.own _ g0 (by repeat' (first | exact List.mem_cons_self .. | apply List.mem_cons_of_mem))).ht (H.own _ w1 (by repeat' (first | exact List.mem_cons_self .. | apply List.mem_cons_of_mem))).ht (heg.trans hew.symm) (hR g0 heg).2) (by decide) ?_; intro v w hv2; obtain ⟨e1, hc1⟩ := hv2; subst e1; have H := H.call hc1)
    | ((with_reducible refine is_alloc ?_); refine WL.alloc H (by decide) ?_; intro b10 w H hb10 _ hsz10)
    | ((with_reducible refine is_move ?_); first | refine WL.y H (Y.move rfl) (by decide) ?_)
    | ((with_reducible refine is_assign ?_); first | refine WL.y H (Y.assign rfl) (by decide) ?_)
    | ((with_reducible refine is_load ?_); first | refine WL.y H (Y.loadX rfl (by repeat' (first | exact List.mem_cons_self .. | apply List.mem_cons_of_mem)) rfl) (by decide) ?_ | refine WL.y H (Y.loadXN rfl (by repeat' (first | exact List.mem_cons_self .. | apply List.mem_cons_of_mem)) rfl rfl) (by decide) ?_)
    | ((with_reducible refine is_not ?_); first | refine WL.y H (Y.not rfl) (by decide) ?_)
    | ((with_reducible refine is_pick ?_); first | refine WL.y H (Y.pickT rfl rfl) (by decide) ?_ | refine WL.y H (Y.pickF rfl rfl) (by decide) ?_)
    | ((with_reducible refine is_extract ?_); first | refine WL.y H (Y.extract rfl rfl) (by decide) ?_)
    | ((with_reducible refine is_neq ?_); first | refine WL.y H ((Y.neq rfl rfl).boolT (by first | omega | (simp only [List.length_cons, List.length_nil]; done) | (simp only [List.length_cons, List.length_nil]; omega))) (by decide) ?_ | refine WL.y H ((Y.neq rfl rfl).boolF (by first | omega | (simp only [List.length_cons, List.length_nil]; done) | (simp only [List.length_cons, List.length_nil]; omega))) (by decide) ?_ | refine WL.y H (Y.neqSe rfl rfl rfl) (by decide) ?_ | refine WL.y H (Y.neqBe rfl rfl) (by decide) ?_ | (refine WL.cmp H (Y.neq rfl rfl) (by decide) ?_ ?_ <;> intro hcmp))
    | ((with_reducible refine is_lss ?_); first | refine WL.y H ((Y.lss rfl rfl).boolT (by first | omega | (simp only [List.length_cons, List.length_nil]; done) | (simp only [List.length_cons, List.length_nil]; omega))) (by decide) ?_ | refine WL.y H ((Y.lss rfl rfl).boolF (by first | omega | (simp only [List.length_cons, List.length_nil]; done) | (simp only [List.length_cons, List.length_nil]; omega))) (by decide) ?_ | (refine WL.cmp H (Y.lss rfl rfl) (by decide) ?_ ?_ <;> intro hcmp))
    | ((with_reducible refine is_box ?_); first | (refine WL.boxN H rfl (by decide) ?_; intro _ w H _ _ _) | (refine WL.box1 H rfl rfl (by decide) ?_; intro _ w H _ _ _))
    | ((with_reducible refine is_alloc ?_); refine WL.alloc H (by decide) ?_; intro _ w H _ _ _)
    | ((with_reducible refine is_store ?_); first | (refine WL.store1 H rfl rfl rfl (by repeat' (first | exact Upd.here .. | apply Upd.there)) rfl ?_; intro w H _) | (refine WL.storeN H rfl rfl rfl rfl (by repeat' (first | exact Upd.here .. | apply Upd.there)) rfl ?_; intro w H _))
    | ((with_reducible refine is_grd ?_); first | refine WL.grd (Wd.some rfl rfl rfl) rfl ?_ | refine WL.pass (Wd.some rfl rfl rfl) rfl rfl (by decide) ?_ | refine WL.pass0 (Wd.some rfl rfl rfl) rfl rfl ?_))
  with_reducible refine is_call (f := 17) ?_
  refine WL.call (vs := [sl _ l.length _]) rfl (laws_toTermS_ok _ _ l _ (H.ht (nod _ _ l) (by repeat' (first | exact List.mem_cons_self .. | apply List.mem_cons_of_mem))) (SmL.lens hs)) (by decide) ?_; intro v w hv2; obtain ⟨b4, ts8, e1, en8, het8, ho1, hc1, hb1⟩ := hv2; subst e1; have hsz8 := hc1.size; have H := H.made hc1 (oA _ (nod _ _ ts8)) ho1 ho1.new
  repeat' (first
    | (with_reducible refine WC.seq ?_)
    | (with_reducible refine WC.reg ?_)
    | (with_reducible refine WC.skip ?_)
    | (with_reducible refine WC.ret ?_)
    | ((with_reducible refine is_cond ?_); first | refine WC.ctrue rfl ?_ | refine WC.cfalse rfl ?_ | (refine WC.cbool rfl ?_ ?_ <;> intro hcnd))
    | (with_reducible refine WL.nilK ?_)
    | (with_reducible refine WL.nil ?_)
    | (with_reducible refine AtQ.then_norm ?_)
    | (with_reducible refine AtQ.then_ret ?_)
    | (with_reducible refine AtQ.out_ret ?_)
    | ((with_reducible refine is_call (f := 19) ?_); refine WL.call (vs := [sl _ ts7.length _, sl _ ts8.length _]) rfl (laws_eqTermS_fn _ _ _ _ ts7 ts8 _ (H.own _ (nod _ _ ts7) (by repeat' (first | exact List.mem_cons_self .. | apply List.mem_cons_of_mem))).ht (H.own _ (nod _ _ ts8) (by repeat' (first | exact List.mem_cons_self .. | apply List.mem_cons_of_mem))).ht (het7.trans het8.symm) (hs.by_map het7)) (by decide) ?_; intro v w hv2; obtain ⟨e1, hc1⟩ := hv2; subst e1; have H := H.call hc1)
    | ((with_reducible refine is_move ?_); first | refine WL.y H (Y.move rfl) (by decide) ?_)
    | ((with_reducible refine is_assign ?_); first | refine WL.y H (Y.assign rfl) (by decide) ?_)
    | ((with_reducible refine is_load ?_); first | refine WL.y H (Y.loadX rfl (by repeat' (first | exact List.mem_cons_self .. | apply List.mem_cons_of_mem)) rfl) (by decide) ?_ | refine WL.y H (Y.loadXN rfl (by repeat' (first | exact List.mem_cons_self .. | apply List.mem_cons_of_mem)) rfl rfl) (by decide) ?_)
    | ((with_reducible refine is_not ?_); first | refine WL.y H (Y.not rfl) (by decide) ?_)
    | ((with_reducible refine is_pick ?_); first | refine WL.y H (Y.pickT rfl rfl) (by decide) ?_ | refine WL.y H (Y.pickF rfl rfl) (by decide) ?_)
    | ((with_reducible refine is_extract ?_); first | refine WL.y H (Y.extract rfl rfl) (by decide) ?_)
    | ((with_reducible refine is_neq ?_); first | refine WL.y H ((Y.neq rfl rfl).boolT (by first | omega | (simp only [List.length_cons, List.length_nil]; done) | (simp only [List.length_cons, List.length_nil]; omega))) (by decide) ?_ | refine WL.y H ((Y.neq rfl rfl).boolF (by first | omega | (simp only [List.length_cons, List.length_nil]; done) | (simp only [List.length_cons, List.length_nil]; omega))) (by decide) ?_ | refine WL.y H (Y.neqSe rfl rfl rfl) (by decide) ?_ | refine WL.y H (Y.neqBe rfl rfl) (by decide) ?_ | (refine WL.cmp H (Y.neq rfl rfl) (by decide) ?_ ?_ <;> intro hcmp))
    | ((with_reducible refine is_lss ?_); first | refine WL.y H ((Y.lss rfl rfl).boolT (by first | omega | (simp only [List.length_cons, List.length_nil]; done) | (simp only [List.length_cons, List.length_nil]; omega))) (by decide) ?_ | refine WL.y H ((Y.lss rfl rfl).boolF (by first | omega | (simp only [List.length_cons, List.length_nil]; done) | (simp only [List.length_cons, List.length_nil]; omega))) (by decide) ?_ | (refine WL.cmp H (Y.lss rfl rfl) (by decide) ?_ ?_ <;> intro hcmp))
    | ((with_reducible refine is_box ?_); first | (refine WL.boxN H rfl (by decide) ?_; intro _ w H _ _ _) | (refine WL.box1 H rfl rfl (by decide) ?_; intro _ w H _ _ _))
    | ((with_reducible refine is_alloc ?_); refine WL.alloc H (by decide) ?_; intro _ w H _ _ _)
    | ((with_reducible refine is_store ?_); first | (refine WL.store1 H rfl rfl rfl (by repeat' (first | exact Upd.here .. | apply Upd.there)) rfl ?_; intro w H _) | (refine WL.storeN H rfl rfl rfl rfl (by repeat' (first | exact Upd.here .. | apply Upd.there)) rfl ?_; intro w H _))
    | ((with_reducible refine is_grd ?_); first | refine WL.grd (Wd.some rfl rfl rfl) rfl ?_ | refine WL.pass (Wd.some rfl rfl rfl) rfl rfl (by decide) ?_ | refine WL.pass0 (Wd.some rfl rfl rfl) rfl rfl ?_))
  refine WC.draw mixed H (by repeat' (first | exact .nil | apply Sel.keep)) ?_
  intro w H _
  first
    | refine WR.take 0 (by kernel_rfl) (fun _ _ _ h => h) (Nth.get (by repeat' (first | exact Nth.zero .. | apply Nth.succ))) rfl (by decide) (Wd.none rfl) rfl (Y.loadXN rfl (by repeat' (first | exact List.mem_cons_self .. | apply List.mem_cons_of_mem)) rfl rfl) (by kernel_rfl) ?_
  first
    | refine WR.take 1 (by kernel_rfl) (fun _ _ _ h => h) (Nth.get (by repeat' (first | exact Nth.zero .. | apply Nth.succ))) rfl (by decide) (Wd.none rfl) rfl (Y.loadXN rfl (by repeat' (first | exact List.mem_cons_self .. | apply List.mem_cons_of_mem)) rfl rfl) (by kernel_rfl) ?_
  refine WR.run 2 (Nth.get (by repeat' (first | exact Nth.zero .. | apply Nth.succ))) (by kernel_rfl) ?_
  repeat' (first
    | ((with_reducible refine is_call (f := 35) ?_); refine WL.call (vs := [tv t]) rfl (laws_toTerm_ok t _ (H.ht t (by repeat' (first | exact List.mem_cons_self .. | apply List.mem_cons_of_mem))) (Sm.lens t hst)) (by decide) ?_; intro v w hv2; obtain ⟨t5, e1, het5, ho1, hc1⟩ := hv2; subst e1; have H := H.made hc1 (oA _ t5) ho1 ho1.new))
  with_reducible refine WL.nilK ?_
  refine ⟨H.mi (by repeat' (first | exact Incl.nil _ | refine Incl.cons (by repeat' (first | exact List.mem_cons_self .. | apply List.mem_cons_of_mem)) ?_)) (by repeat' (first | exact Incl.nil _ | refine Incl.cons (by repeat' (first | exact List.mem_cons_self .. | apply List.mem_cons_of_mem)) ?_)), ?_⟩
  refine WR.run 3 (Nth.get (by repeat' (first | exact Nth.zero .. | apply Nth.succ))) (by kernel_rfl) ?_
  repeat' (first
    | ((with_reducible refine is_call (f := 37) ?_); refine WL.call (vs := [tv t2, tv t5]) rfl (laws_eqTerm_fn t2 t5 _ (H.own _ t2 (by repeat' (first | exact List.mem_cons_self .. | apply List.mem_cons_of_mem))).ht (H.own _ t5 (by repeat' (first | exact List.mem_cons_self .. | apply List.mem_cons_of_mem))).ht (het2.trans het5.symm) (het2 ▸ hst)) (by decide) ?_; intro v w hv2; obtain ⟨e1, hc1⟩ := hv2; subst e1; have H := H.call hc1))
  with_reducible refine WL.nilK ?_
  refine ⟨H.mi (by repeat' (first | exact Incl.nil _ | refine Incl.cons (by repeat' (first | exact List.mem_cons_self .. | apply List.mem_cons_of_mem)) ?_)) (by repeat' (first | exact Incl.nil _ | refine Incl.cons (by repeat' (first | exact List.mem_cons_self .. | apply List.mem_cons_of_mem)) ?_)), ?_⟩
  first
    | refine WR.take 4 (by kernel_rfl) (fun _ _ _ h => h) (Nth.get (by repeat' (first | exact Nth.zero .. | apply Nth.succ))) rfl (by decide) (Wd.none rfl) rfl (Y.not rfl) (by kernel_rfl) ?_
  refine WR.done (by kernel_rfl) ?_
  have hos := H.own _ (nod (some ⟨b2, 0, none⟩) ts7.length ts7) (by repeat' (first | exact List.mem_cons_self .. | apply List.mem_cons_of_mem))
  have hot := H.own _ t2 (by repeat' (first | exact List.mem_cons_self .. | apply List.mem_cons_of_mem))
  have hcs7 : cnL ts7 ≤ wtL xs := cnL_wt (het7.trans hx)
  have hct : cnL t2.l ≤ wt x := cn_wt t2 x (het2.trans hxt)
  have hgL := (hR g0 heg).1
  have hst2 : Sm (er t2) := het2 ▸ hst
  repeat' (first
    | (with_reducible refine WC.seq ?_)
    | (with_reducible refine WC.reg ?_)
    | (with_reducible refine WC.skip ?_)
    | (with_reducible refine WC.ret ?_)
    | ((with_reducible refine is_cond ?_); first | refine WC.ctrue rfl ?_ | refine WC.cfalse rfl ?_ | (refine WC.cbool rfl ?_ ?_ <;> intro hcnd))
    | (with_reducible refine WL.nilK ?_)
    | (with_reducible refine WL.nil ?_)
    | (with_reducible refine AtQ.then_norm ?_)
    | (with_reducible refine AtQ.then_ret ?_)
    | (with_reducible refine AtQ.out_ret ?_)
    | ((with_reducible refine is_call (f := 23) ?_); refine WL.call (vs := [sl _ ts7.length _, .int .i64 1]) rfl (laws_markTermS_ok 1 hos (SmL.lens (hs.by_map het7)) (by decide) (by omega)) (by decide) ?_; intro v w hv2; obtain ⟨l2, e1, hm1, hln1, hfr1, ho1, hc1⟩ := hv2; subst e1; have H := H.off (A := oA _ (nod (some ⟨b2, 0, none⟩) ts7.length ts7)) (S' := [oA _ t2, oA _ g0, oA _ w1, tA (nod a c l), tA t]) (by repeat' (first | exact List.mem_cons_self .. | apply List.mem_cons_of_mem)) hc1 (by repeat' (first | exact Incl.nil _ | refine Incl.cons (by repeat' (first | exact List.mem_cons_self .. | apply List.mem_cons_of_mem)) ?_)) (fun z hz => .inr (Nat.le_trans hB2 (hos.new z hz))) (by intro A hA z hz hz2; simp only [List.mem_cons, List.not_mem_nil, or_false] at hA; have n1 := hos.new z hz2; have n2 := hts2lt z hz2; rcases hA with rfl | rfl | rfl | rfl | rfl; { have := hot.new z hz; omega }; { have := hgge z hz; omega }; { have := hw1lt z hz; omega }; { have := ht.lt z hz; omega }; { have := htt.lt z hz; omega }))
    | ((with_reducible refine is_call (f := 38) ?_); have hot := H.own _ t2 (by repeat' (first | exact List.mem_cons_self .. | apply List.mem_cons_of_mem)); refine WL.call (vs := [tv t2, .int .i64 (1 + 3 * cnL ts7)]) rfl (laws_markTerm_ok (1 + 3 * cnL ts7) hot (Sm.lens t2 hst2) (by omega) (by omega)) (by decide) ?_; intro v w hv2; obtain ⟨l2, e1, hm1, hln1, hfr1, ho1, hc1⟩ := hv2; subst e1; have H := H.off (A := oA _ t2) (S' := [oA _ g0, oA _ w1, tA (nod a c l), tA t]) (by repeat' (first | exact List.mem_cons_self .. | apply List.mem_cons_of_mem)) hc1 (by repeat' (first | exact Incl.nil _ | refine Incl.cons (by repeat' (first | exact List.mem_cons_self .. | apply List.mem_cons_of_mem)) ?_)) (fun z hz => .inr (Nat.le_trans hB3 (hot.new z hz))) (by intro A hA z hz hz2; simp only [List.mem_cons, List.not_mem_nil, or_false] at hA; have n1 := hot.new z hz2; have n2 := ht2lt z hz2; rcases hA with rfl | rfl | rfl | rfl; { have := hgge z hz; omega }; { have := hw1lt z hz; omega }; { have := ht.lt z hz; omega }; { have := htt.lt z hz; omega }))
    | ((with_reducible refine is_call (f := 37) ?_); refine WL.call (vs := [tv g0, tv w1]) rfl (laws_eqTerm_fn g0 w1 _ (H.own _ g0 (by repeat' (first | exact List.mem_cons_self .. | apply List.mem_cons_of_mem))).ht (H.own _ w1 (by repeat' (first | exact List.mem_cons_self .. | apply List.mem_cons_of_mem))).ht (heg.trans hew.symm) (hR g0 heg).2) (by decide) ?_; intro v w hv2; obtain ⟨e1, hc1⟩ := hv2; subst e1; have H := H.call hc1)
    | ((with_reducible refine is_move ?_); first | refine WL.y H (Y.move rfl) (by decide) ?_)
    | ((with_reducible refine is_assign ?_); first | refine WL.y H (Y.assign rfl) (by decide) ?_)
    | ((with_reducible refine is_load ?_); first | refine WL.y H (Y.loadX rfl (by repeat' (first | exact List.mem_cons_self .. | apply List.mem_cons_of_mem)) rfl) (by decide) ?_ | refine WL.y H (Y.loadXN rfl (by repeat' (first | exact List.mem_cons_self .. | apply List.mem_cons_of_mem)) rfl rfl) (by decide) ?_)
    | ((with_reducible refine is_not ?_); first | refine WL.y H (Y.not rfl) (by decide) ?_)
    | ((with_reducible refine is_pick ?_); first | refine WL.y H (Y.pickT rfl rfl) (by decide) ?_ | refine WL.y H (Y.pickF rfl rfl) (by decide) ?_)
    | ((with_reducible refine is_extract ?_); first | refine WL.y H (Y.extract rfl rfl) (by decide) ?_)
    | ((with_reducible refine is_neq ?_); first | refine WL.y H ((Y.neq rfl rfl).boolT (by first | omega | (simp only [List.length_cons, List.length_nil]; done) | (simp only [List.length_cons, List.length_nil]; omega))) (by decide) ?_ | refine WL.y H ((Y.neq rfl rfl).boolF (by first | omega | (simp only [List.length_cons, List.length_nil]; done) | (simp only [List.length_cons, List.length_nil]; omega))) (by decide) ?_ | refine WL.y H (Y.neqSe rfl rfl rfl) (by decide) ?_ | refine WL.y H (Y.neqBe rfl rfl) (by decide) ?_ | (refine WL.cmp H (Y.neq rfl rfl) (by decide) ?_ ?_ <;> intro hcmp))
    | ((with_reducible refine is_lss ?_); first | refine WL.y H ((Y.lss rfl rfl).boolT (by first | omega | (simp only [List.length_cons, List.length_nil]; done) | (simp only [List.length_cons, List.length_nil]; omega))) (by decide) ?_ | refine WL.y H ((Y.lss rfl rfl).boolF (by first | omega | (simp only [List.length_cons, List.length_nil]; done) | (simp only [List.length_cons, List.length_nil]; omega))) (by decide) ?_ | (refine WL.cmp H (Y.lss rfl rfl) (by decide) ?_ ?_ <;> intro hcmp))
    | ((with_reducible refine is_box ?_); first | (refine WL.boxN H rfl (by decide) ?_; intro _ w H _ _ _) | (refine WL.box1 H rfl rfl (by decide) ?_; intro _ w H _ _ _))
    | ((with_reducible refine is_alloc ?_); refine WL.alloc H (by decide) ?_; intro _ w H _ _ _)
    | ((with_reducible refine is_store ?_); first | (refine WL.store1 H rfl rfl rfl (by repeat' (first | exact Upd.here .. | apply Upd.there)) rfl ?_; intro w H _) | (refine WL.storeN H rfl rfl rfl rfl (by repeat' (first | exact Upd.here .. | apply Upd.there)) rfl ?_; intro w H _))
    | ((with_reducible refine is_grd ?_); first | refine WL.grd (Wd.some rfl rfl rfl) rfl ?_ | refine WL.pass (Wd.some rfl rfl rfl) rfl rfl (by decide) ?_ | refine WL.pass0 (Wd.some rfl rfl rfl) rfl rfl ?_))
  with_reducible refine is_call (f := 38) ?_
  refine WL.call (vs := [tv g0, .int .i64 1]) rfl (laws_markTerm_ok 1 (H.own _ g0 (by repeat' (first | exact List.mem_cons_self .. | apply List.mem_cons_of_mem))) (Sm.lens g0 (hR g0 heg).2) (by omega) (by omega)) (by decide) ?_; intro v w hv2; obtain ⟨l0, e1, hm0, hln0, hfr0, ho0, hc1⟩ := hv2; subst e1
  have H := (H.markT hgB hln0 hfr0 ho0 hc1 (by intro A hA z hz hz2; simp only [List.mem_cons, List.not_mem_nil, or_false] at hA; have n1 := hgge z hz2; rcases hA with rfl | rfl | rfl; { have := hw1lt z hz; omega }; { have := ht.lt z hz; omega }; { have := htt.lt z hz; omega })).monoO w0.heap.size hgB
  have ev0 : tv g0 = tv ⟨g0.k, g0.i, g0.s, g0.a, g0.c, l0⟩ := by simp only [tv, tcs, hln0]
  have hlen0 : Len (⟨g0.k, g0.i, g0.s, g0.a, g0.c, l0⟩ : LT) := by obtain ⟨_, q1, q2⟩ := hm0.lens (by omega) none 0; exact ⟨_, q1, q2⟩
  repeat' (first
    | (with_reducible refine WC.seq ?_)
    | (with_reducible refine WC.reg ?_)
    | (with_reducible refine WC.skip ?_)
    | (with_reducible refine WC.ret ?_)
    | ((with_reducible refine is_cond ?_); first | refine WC.ctrue rfl ?_ | refine WC.cfalse rfl ?_ | (refine WC.cbool rfl ?_ ?_ <;> intro hcnd))
    | (with_reducible refine WL.nilK ?_)
    | (with_reducible refine WL.nil ?_)
    | (with_reducible refine AtQ.then_norm ?_)
    | (with_reducible refine AtQ.then_ret ?_)
    | (with_reducible refine AtQ.out_ret ?_)
    | ((with_reducible refine is_call (f := 40) ?_); refine WL.call (vs := [tv g0, .int .i64 1]) rfl (by rw [ev0]; exact laws_heldTerm_ok 1 (1 + 3 * cnL g0.l) (H.own _ ⟨g0.k, g0.i, g0.s, g0.a, g0.c, l0⟩ (by repeat' (first | exact List.mem_cons_self .. | apply List.mem_cons_of_mem))).ht hlen0 hm0 (by omega) (by omega)) (by decide) ?_; intro v w hv2; obtain ⟨e1, hc1⟩ := hv2; subst e1; have H := H.call hc1)
    | ((with_reducible refine is_move ?_); first | refine WL.y H (Y.move rfl) (by decide) ?_)
    | ((with_reducible refine is_assign ?_); first | refine WL.y H (Y.assign rfl) (by decide) ?_)
    | ((with_reducible refine is_load ?_); first | refine WL.y H (Y.loadX rfl (by repeat' (first | exact List.mem_cons_self .. | apply List.mem_cons_of_mem)) rfl) (by decide) ?_ | refine WL.y H (Y.loadXN rfl (by repeat' (first | exact List.mem_cons_self .. | apply List.mem_cons_of_mem)) rfl rfl) (by decide) ?_)
    | ((with_reducible refine is_not ?_); first | refine WL.y H (Y.not rfl) (by decide) ?_)
    | ((with_reducible refine is_pick ?_); first | refine WL.y H (Y.pickT rfl rfl) (by decide) ?_ | refine WL.y H (Y.pickF rfl rfl) (by decide) ?_)
    | ((with_reducible refine is_extract ?_); first | refine WL.y H (Y.extract rfl rfl) (by decide) ?_)
    | ((with_reducible refine is_neq ?_); first | refine WL.y H ((Y.neq rfl rfl).boolT (by first | omega | (simp only [List.length_cons, List.length_nil]; done) | (simp only [List.length_cons, List.length_nil]; omega))) (by decide) ?_ | refine WL.y H ((Y.neq rfl rfl).boolF (by first | omega | (simp only [List.length_cons, List.length_nil]; done) | (simp only [List.length_cons, List.length_nil]; omega))) (by decide) ?_ | refine WL.y H (Y.neqSe rfl rfl rfl) (by decide) ?_ | refine WL.y H (Y.neqBe rfl rfl) (by decide) ?_ | (refine WL.cmp H (Y.neq rfl rfl) (by decide) ?_ ?_ <;> intro hcmp))
    | ((with_reducible refine is_lss ?_); first | refine WL.y H ((Y.lss rfl rfl).boolT (by first | omega | (simp only [List.length_cons, List.length_nil]; done) | (simp only [List.length_cons, List.length_nil]; omega))) (by decide) ?_ | refine WL.y H ((Y.lss rfl rfl).boolF (by first | omega | (simp only [List.length_cons, List.length_nil]; done) | (simp only [List.length_cons, List.length_nil]; omega))) (by decide) ?_ | (refine WL.cmp H (Y.lss rfl rfl) (by decide) ?_ ?_ <;> intro hcmp))
    | ((with_reducible refine is_box ?_); first | (refine WL.boxN H rfl (by decide) ?_; intro _ w H _ _ _) | (refine WL.box1 H rfl rfl (by decide) ?_; intro _ w H _ _ _))
    | ((with_reducible refine is_alloc ?_); refine WL.alloc H (by decide) ?_; intro _ w H _ _ _)
    | ((with_reducible refine is_store ?_); first | (refine WL.store1 H rfl rfl rfl (by repeat' (first | exact Upd.here .. | apply Upd.there)) rfl ?_; intro w H _) | (refine WL.storeN H rfl rfl rfl rfl (by repeat' (first | exact Upd.here .. | apply Upd.there)) rfl ?_; intro w H _))
    | ((with_reducible refine is_grd ?_); first | refine WL.grd (Wd.some rfl rfl rfl) rfl ?_ | refine WL.pass (Wd.some rfl rfl rfl) rfl rfl (by decide) ?_ | refine WL.pass0 (Wd.some rfl rfl rfl) rfl rfl ?_))
  refine WC.mid (σ := Nat × LT) (fun s => [(0, sl a l.length c), (6, .pointer (some ⟨b6, 0, none⟩)), (7, .bool ok), (10, .pointer (some ⟨b10, 0, none⟩)), (13, .int .i64 (1 + 3 * cnL g0.l)), (15, .pointer (some ⟨s.1, 0, none⟩)), (16, .bool ok)]) (fun s w' => er s.2 = R ∧ SH w0 noF w' [(s.1, .cells (tcs s.2).toArray 47 (0, 0)), (b10, .cells (tcs g0).toArray 47 (0, 0)), (b9, .cells (tcs t2).toArray 47 (0, 0)), (b6, .cells (tcs w1).toArray 47 (0, 0)), (b3, .cells (tcs t).toArray 44 (0, 0))] [oA w0.heap.size s.2, oA w0.heap.size ⟨g0.k, g0.i, g0.s, g0.a, g0.c, l0⟩, oA w0.heap.size w1, tA (nod a c l), tA t]) ?_ (fun s w hinv => ?_)
  · repeat' (first
      | (with_reducible refine WC.seq ?_)
      | (with_reducible refine WC.reg ?_)
      | (with_reducible refine WC.skip ?_)
      | (with_reducible refine WC.ret ?_)
      | ((with_reducible refine is_cond ?_); first | refine WC.ctrue rfl ?_ | refine WC.cfalse rfl ?_ | (refine WC.cbool rfl ?_ ?_ <;> intro hcnd))
      | (with_reducible refine WL.nilK ?_)
      | (with_reducible refine WL.nil ?_)
      | (with_reducible refine AtQ.then_norm ?_)
      | (with_reducible refine AtQ.then_ret ?_)
      | (with_reducible refine AtQ.out_ret ?_)
      | ((with_reducible refine is_move ?_); first | refine WL.y H (Y.move rfl) (by decide) ?_)
      | ((with_reducible refine is_assign ?_); first | refine WL.y H (Y.assign rfl) (by decide) ?_)
      | ((with_reducible refine is_load ?_); first | refine WL.y H (Y.loadX rfl (by repeat' (first | exact List.mem_cons_self .. | apply List.mem_cons_of_mem)) rfl) (by decide) ?_ | refine WL.y H (Y.loadXN rfl (by repeat' (first | exact List.mem_cons_self .. | apply List.mem_cons_of_mem)) rfl rfl) (by decide) ?_)
      | ((with_reducible refine is_not ?_); first | refine WL.y H (Y.not rfl) (by decide) ?_)
      | ((with_reducible refine is_pick ?_); first | refine WL.y H (Y.pickT rfl rfl) (by decide) ?_ | refine WL.y H (Y.pickF rfl rfl) (by decide) ?_)
      | ((with_reducible refine is_extract ?_); first | refine WL.y H (Y.extract rfl rfl) (by decide) ?_)
      | ((with_reducible refine is_neq ?_); first | refine WL.y H ((Y.neq rfl rfl).boolT (by first | omega | (simp only [List.length_cons, List.length_nil]; done) | (simp only [List.length_cons, List.length_nil]; omega))) (by decide) ?_ | refine WL.y H ((Y.neq rfl rfl).boolF (by first | omega | (simp only [List.length_cons, List.length_nil]; done) | (simp only [List.length_cons, List.length_nil]; omega))) (by decide) ?_ | refine WL.y H (Y.neqSe rfl rfl rfl) (by decide) ?_ | refine WL.y H (Y.neqBe rfl rfl) (by decide) ?_ | (refine WL.cmp H (Y.neq rfl rfl) (by decide) ?_ ?_ <;> intro hcmp))
      | ((with_reducible refine is_lss ?_); first | refine WL.y H ((Y.lss rfl rfl).boolT (by first | omega | (simp only [List.length_cons, List.length_nil]; done) | (simp only [List.length_cons, List.length_nil]; omega))) (by decide) ?_ | refine WL.y H ((Y.lss rfl rfl).boolF (by first | omega | (simp only [List.length_cons, List.length_nil]; done) | (simp only [List.length_cons, List.length_nil]; omega))) (by decide) ?_ | (refine WL.cmp H (Y.lss rfl rfl) (by decide) ?_ ?_ <;> intro hcmp))
      | ((with_reducible refine is_box ?_); first | (refine WL.boxN H rfl (by decide) ?_; intro _ w H _ _ _) | (refine WL.box1 H rfl rfl (by decide) ?_; intro _ w H _ _ _))
      | ((with_reducible refine is_alloc ?_); refine WL.alloc H (by decide) ?_; intro _ w H _ _ _)
      | ((with_reducible refine is_store ?_); first | (refine WL.store1 H rfl rfl rfl (by repeat' (first | exact Upd.here .. | apply Upd.there)) rfl ?_; intro w H _) | (refine WL.storeN H rfl rfl rfl rfl (by repeat' (first | exact Upd.here .. | apply Upd.there)) rfl ?_; intro w H _))
      | ((with_reducible refine is_grd ?_); first | refine WL.grd (Wd.some rfl rfl rfl) rfl ?_ | refine WL.pass (Wd.some rfl rfl rfl) rfl rfl (by decide) ?_ | refine WL.pass0 (Wd.some rfl rfl rfl) rfl rfl ?_))
    refine WC.draw mixed H (by repeat' (first | exact .nil | apply Sel.keep)) ?_
    intro w H _
    first
      | refine WR.take 0 (by kernel_rfl) (fun _ _ _ h => h) (Nth.get (by repeat' (first | exact Nth.zero .. | apply Nth.succ))) rfl (by decide) (Wd.none rfl) rfl (Y.move rfl) (by kernel_rfl) ?_
    first
      | refine WR.take 2 (by kernel_rfl) (fun _ _ _ h => h) (Nth.get (by repeat' (first | exact Nth.zero .. | apply Nth.succ))) rfl (by decide) (Wd.none rfl) rfl (Y.loadXN rfl (by repeat' (first | exact List.mem_cons_self .. | apply List.mem_cons_of_mem)) rfl rfl) (by kernel_rfl) ?_
    refine WR.two 1 8 (Nth.get (by repeat' (first | exact Nth.zero .. | apply Nth.succ))) (Nth.get (by repeat' (first | exact Nth.zero .. | apply Nth.succ))) (by kernel_rfl) ?_ ?_
    · skip
      repeat' (first
        | ((with_reducible refine is_call (f := 17) ?_); refine WL.call (vs := [sl _ l.length _]) rfl (laws_toTermS_ok _ _ l _ (H.ht (nod _ _ l) (by repeat' (first | exact List.mem_cons_self .. | apply List.mem_cons_of_mem))) (SmL.lens hs)) (by decide) ?_; intro v w hv2; obtain ⟨b1, t1, e1, en1, het1, ho1, hc1, hb1⟩ := hv2; subst e1; have H := H.made hc1 (oA _ (nod _ _ t1)) ho1 ho1.new))
      with_reducible refine WL.nilK ?_
      refine ⟨H.mi (by repeat' (first | exact Incl.nil _ | refine Incl.cons (by repeat' (first | exact List.mem_cons_self .. | apply List.mem_cons_of_mem)) ?_)) (by repeat' (first | exact Incl.nil _ | refine Incl.cons (by repeat' (first | exact List.mem_cons_self .. | apply List.mem_cons_of_mem)) ?_)), ?_⟩
      refine WR.two 3 8 (Nth.get (by repeat' (first | exact Nth.zero .. | apply Nth.succ))) (Nth.get (by repeat' (first | exact Nth.zero .. | apply Nth.succ))) (by kernel_rfl) ?_ ?_
      · skip
        repeat' (first
          | ((with_reducible refine is_call (f := 35) ?_); refine WL.call (vs := [tv t]) rfl (laws_toTerm_ok t _ (H.ht t (by repeat' (first | exact List.mem_cons_self .. | apply List.mem_cons_of_mem))) (Sm.lens t hst)) (by decide) ?_; intro v w hv2; obtain ⟨u1, e1, heu1, ho1, hc1⟩ := hv2; subst e1; have H := H.made hc1 (oA _ u1) ho1 ho1.new))
        with_reducible refine WL.nilK ?_
        refine ⟨H.mi (by repeat' (first | exact Incl.nil _ | refine Incl.cons (by repeat' (first | exact List.mem_cons_self .. | apply List.mem_cons_of_mem)) ?_)) (by repeat' (first | exact Incl.nil _ | refine Incl.cons (by repeat' (first | exact List.mem_cons_self .. | apply List.mem_cons_of_mem)) ?_)), ?_⟩
        refine WR.two 4 8 (Nth.get (by repeat' (first | exact Nth.zero .. | apply Nth.succ))) (Nth.get (by repeat' (first | exact Nth.zero .. | apply Nth.succ))) (by kernel_rfl) ?_ ?_
        · skip
          repeat' (first
            | ((with_reducible refine is_call (f := 42) ?_); have hcs := H.chg.size; refine WL.call (vs := [sl _ t1.length _, tv u1]) rfl (himpl _ _ t1 u1 _ (H.own _ (nod _ _ t1) (by repeat' (first | exact List.mem_cons_self .. | apply List.mem_cons_of_mem))).ht (H.own _ u1 (by repeat' (first | exact List.mem_cons_self .. | apply List.mem_cons_of_mem))).ht (hs.by_map het1) het1 heu1) (by decide) ?_; intro v w hv2; obtain ⟨h0, e1, heh, hoh, hc1⟩ := hv2; subst e1; have H := (H.made hc1 (oA _ h0) hoh hoh.new).monoO w0.heap.size hcs))
          with_reducible refine WL.nilK ?_
          refine ⟨H.mi (by repeat' (first | exact Incl.nil _ | refine Incl.cons (by repeat' (first | exact List.mem_cons_self .. | apply List.mem_cons_of_mem)) ?_)) (by repeat' (first | exact Incl.nil _ | refine Incl.cons (by repeat' (first | exact List.mem_cons_self .. | apply List.mem_cons_of_mem)) ?_)), ?_⟩
          first
            | refine WR.take 5 (by kernel_rfl) (fun _ _ _ h => h) (Nth.get (by repeat' (first | exact Nth.zero .. | apply Nth.succ))) rfl (by decide) (Wd.none rfl) rfl (Y.move rfl) (by kernel_rfl) ?_
          first
            | refine WR.take 6 (by kernel_rfl) (fun _ _ _ h => h) (Nth.get (by repeat' (first | exact Nth.zero .. | apply Nth.succ))) rfl (by decide) (Wd.none rfl) rfl (Y.extract rfl rfl) (by kernel_rfl) ?_
          first
            | refine WR.take 7 (by kernel_rfl) (fun _ _ _ h => h) (Nth.get (by repeat' (first | exact Nth.zero .. | apply Nth.succ))) rfl (by decide) (Wd.none rfl) rfl (Y.extract rfl rfl) (by kernel_rfl) ?_
          refine WR.run 8 (Nth.get (by repeat' (first | exact Nth.zero .. | apply Nth.succ))) (by kernel_rfl) ?_
          repeat' (first
            | ((with_reducible refine is_alloc ?_); refine WL.alloc H (by decide) ?_; intro b15 w H hb15 _ _)
            | ((with_reducible refine is_alloc ?_); refine WL.alloc H (by decide) ?_; intro _ w H _ _ _))
          with_reducible refine WL.nilK ?_
          refine ⟨H.mi (by repeat' (first | exact Incl.nil _ | refine Incl.cons (by repeat' (first | exact List.mem_cons_self .. | apply List.mem_cons_of_mem)) ?_)) (by repeat' (first | exact Incl.nil _ | refine Incl.cons (by repeat' (first | exact List.mem_cons_self .. | apply List.mem_cons_of_mem)) ?_)), ?_⟩
          refine WR.run 9 (Nth.get (by repeat' (first | exact Nth.zero .. | apply Nth.succ))) (by kernel_rfl) ?_
          repeat' (first
            | ((with_reducible refine is_store ?_); first | (refine WL.store1 H rfl rfl rfl (by repeat' (first | exact Upd.here .. | apply Upd.there)) rfl ?_; intro w H _) | (refine WL.storeN H rfl rfl rfl rfl (by repeat' (first | exact Upd.here .. | apply Upd.there)) rfl ?_; intro w H _)))
          with_reducible refine WL.nilK ?_
          refine ⟨H.mi (by repeat' (first | exact Incl.nil _ | refine Incl.cons (by repeat' (first | exact List.mem_cons_self .. | apply List.mem_cons_of_mem)) ?_)) (by repeat' (first | exact Incl.nil _ | refine Incl.cons (by repeat' (first | exact List.mem_cons_self .. | apply List.mem_cons_of_mem)) ?_)), ?_⟩
          first
            | refine WR.take 10 (by kernel_rfl) (fun _ _ _ h => h) (Nth.get (by repeat' (first | exact Nth.zero .. | apply Nth.succ))) rfl (by decide) (Wd.none rfl) rfl (Y.assign rfl) (by kernel_rfl) ?_
          refine WR.done (by kernel_rfl) ?_
          with_reducible refine AtQ.then_norm ?_
          exact ⟨(b15, h0), (by repeat' (first | exact Sub.nil | refine Sub.cons rfl ?_)), heh, H.dropI (by repeat' (first | exact Incl.nil _ | refine Incl.cons (by repeat' (first | exact List.mem_cons_self .. | apply List.mem_cons_of_mem)) ?_))⟩
        · skip
          repeat' (first
            | ((with_reducible refine is_alloc ?_); refine WL.alloc H (by decide) ?_; intro b15 w H hb15 _ _)
            | ((with_reducible refine is_alloc ?_); refine WL.alloc H (by decide) ?_; intro _ w H _ _ _))
          with_reducible refine WL.nilK ?_
          refine ⟨H.mi (by repeat' (first | exact Incl.nil _ | refine Incl.cons (by repeat' (first | exact List.mem_cons_self .. | apply List.mem_cons_of_mem)) ?_)) (by repeat' (first | exact Incl.nil _ | refine Incl.cons (by repeat' (first | exact List.mem_cons_self .. | apply List.mem_cons_of_mem)) ?_)), ?_⟩
          refine WR.run 4 (Nth.get (by repeat' (first | exact Nth.zero .. | apply Nth.succ))) (by kernel_rfl) ?_
          repeat' (first
            | ((with_reducible refine is_call (f := 42) ?_); have hcs := H.chg.size; refine WL.call (vs := [sl _ t1.length _, tv u1]) rfl (himpl _ _ t1 u1 _ (H.own _ (nod _ _ t1) (by repeat' (first | exact List.mem_cons_self .. | apply List.mem_cons_of_mem))).ht (H.own _ u1 (by repeat' (first | exact List.mem_cons_self .. | apply List.mem_cons_of_mem))).ht (hs.by_map het1) het1 heu1) (by decide) ?_; intro v w hv2; obtain ⟨h0, e1, heh, hoh, hc1⟩ := hv2; subst e1; have H := (H.made hc1 (oA _ h0) hoh hoh.new).monoO w0.heap.size hcs))
          with_reducible refine WL.nilK ?_
          refine ⟨H.mi (by repeat' (first | exact Incl.nil _ | refine Incl.cons (by repeat' (first | exact List.mem_cons_self .. | apply List.mem_cons_of_mem)) ?_)) (by repeat' (first | exact Incl.nil _ | refine Incl.cons (by repeat' (first | exact List.mem_cons_self .. | apply List.mem_cons_of_mem)) ?_)), ?_⟩
          first
            | refine WR.take 5 (by kernel_rfl) (fun _ _ _ h => h) (Nth.get (by repeat' (first | exact Nth.zero .. | apply Nth.succ))) rfl (by decide) (Wd.none rfl) rfl (Y.move rfl) (by kernel_rfl) ?_
          first
            | refine WR.take 6 (by kernel_rfl) (fun _ _ _ h => h) (Nth.get (by repeat' (first | exact Nth.zero .. | apply Nth.succ))) rfl (by decide) (Wd.none rfl) rfl (Y.extract rfl rfl) (by kernel_rfl) ?_
          first
            | refine WR.take 7 (by kernel_rfl) (fun _ _ _ h => h) (Nth.get (by repeat' (first | exact Nth.zero .. | apply Nth.succ))) rfl (by decide) (Wd.none rfl) rfl (Y.extract rfl rfl) (by kernel_rfl) ?_
          refine WR.run 9 (Nth.get (by repeat' (first | exact Nth.zero .. | apply Nth.succ))) (by kernel_rfl) ?_
          repeat' (first
            | ((with_reducible refine is_store ?_); first | (refine WL.store1 H rfl rfl rfl (by repeat' (first | exact Upd.here .. | apply Upd.there)) rfl ?_; intro w H _) | (refine WL.storeN H rfl rfl rfl rfl (by repeat' (first | exact Upd.here .. | apply Upd.there)) rfl ?_; intro w H _)))
          with_reducible refine WL.nilK ?_
          refine ⟨H.mi (by repeat' (first | exact Incl.nil _ | refine Incl.cons (by repeat' (first | exact List.mem_cons_self .. | apply List.mem_cons_of_mem)) ?_)) (by repeat' (first | exact Incl.nil _ | refine Incl.cons (by repeat' (first | exact List.mem_cons_self .. | apply List.mem_cons_of_mem)) ?_)), ?_⟩
          first
            | refine WR.take 10 (by kernel_rfl) (fun _ _ _ h => h) (Nth.get (by repeat' (first | exact Nth.zero .. | apply Nth.succ))) rfl (by decide) (Wd.none rfl) rfl (Y.assign rfl) (by kernel_rfl) ?_
          refine WR.done (by kernel_rfl) ?_
          with_reducible refine AtQ.then_norm ?_
          exact ⟨(b15, h0), (by repeat' (first | exact Sub.nil | refine Sub.cons rfl ?_)), heh, H.dropI (by repeat' (first | exact Incl.nil _ | refine Incl.cons (by repeat' (first | exact List.mem_cons_self .. | apply List.mem_cons_of_mem)) ?_))⟩
      · skip
        repeat' (first
          | ((with_reducible refine is_alloc ?_); refine WL.alloc H (by decide) ?_; intro b15 w H hb15 _ _)
          | ((with_reducible refine is_alloc ?_); refine WL.alloc H (by decide) ?_; intro _ w H _ _ _))
        with_reducible refine WL.nilK ?_
        refine ⟨H.mi (by repeat' (first | exact Incl.nil _ | refine Incl.cons (by repeat' (first | exact List.mem_cons_self .. | apply List.mem_cons_of_mem)) ?_)) (by repeat' (first | exact Incl.nil _ | refine Incl.cons (by repeat' (first | exact List.mem_cons_self .. | apply List.mem_cons_of_mem)) ?_)), ?_⟩
        refine WR.run 3 (Nth.get (by repeat' (first | exact Nth.zero .. | apply Nth.succ))) (by kernel_rfl) ?_
        repeat' (first
          | ((with_reducible refine is_call (f := 35) ?_); refine WL.call (vs := [tv t]) rfl (laws_toTerm_ok t _ (H.ht t (by repeat' (first | exact List.mem_cons_self .. | apply List.mem_cons_of_mem))) (Sm.lens t hst)) (by decide) ?_; intro v w hv2; obtain ⟨u1, e1, heu1, ho1, hc1⟩ := hv2; subst e1; have H := H.made hc1 (oA _ u1) ho1 ho1.new))
        with_reducible refine WL.nilK ?_
        refine ⟨H.mi (by repeat' (first | exact Incl.nil _ | refine Incl.cons (by repeat' (first | exact List.mem_cons_self .. | apply List.mem_cons_of_mem)) ?_)) (by repeat' (first | exact Incl.nil _ | refine Incl.cons (by repeat' (first | exact List.mem_cons_self .. | apply List.mem_cons_of_mem)) ?_)), ?_⟩
        refine WR.run 4 (Nth.get (by repeat' (first | exact Nth.zero .. | apply Nth.succ))) (by kernel_rfl) ?_
        repeat' (first
          | ((with_reducible refine is_call (f := 42) ?_); have hcs := H.chg.size; refine WL.call (vs := [sl _ t1.length _, tv u1]) rfl (himpl _ _ t1 u1 _ (H.own _ (nod _ _ t1) (by repeat' (first | exact List.mem_cons_self .. | apply List.mem_cons_of_mem))).ht (H.own _ u1 (by repeat' (first | exact List.mem_cons_self .. | apply List.mem_cons_of_mem))).ht (hs.by_map het1) het1 heu1) (by decide) ?_; intro v w hv2; obtain ⟨h0, e1, heh, hoh, hc1⟩ := hv2; subst e1; have H := (H.made hc1 (oA _ h0) hoh hoh.new).monoO w0.heap.size hcs))
        with_reducible refine WL.nilK ?_
        refine ⟨H.mi (by repeat' (first | exact Incl.nil _ | refine Incl.cons (by repeat' (first | exact List.mem_cons_self .. | apply List.mem_cons_of_mem)) ?_)) (by repeat' (first | exact Incl.nil _ | refine Incl.cons (by repeat' (first | exact List.mem_cons_self .. | apply List.mem_cons_of_mem)) ?_)), ?_⟩
        first
          | refine WR.take 5 (by kernel_rfl) (fun _ _ _ h => h) (Nth.get (by repeat' (first | exact Nth.zero .. | apply Nth.succ))) rfl (by decide) (Wd.none rfl) rfl (Y.move rfl) (by kernel_rfl) ?_
        first
          | refine WR.take 6 (by kernel_rfl) (fun _ _ _ h => h) (Nth.get (by repeat' (first | exact Nth.zero .. | apply Nth.succ))) rfl (by decide) (Wd.none rfl) rfl (Y.extract rfl rfl) (by kernel_rfl) ?_
        first
          | refine WR.take 7 (by kernel_rfl) (fun _ _ _ h => h) (Nth.get (by repeat' (first | exact Nth.zero .. | apply Nth.succ))) rfl (by decide) (Wd.none rfl) rfl (Y.extract rfl rfl) (by kernel_rfl) ?_
        refine WR.run 9 (Nth.get (by repeat' (first | exact Nth.zero .. | apply Nth.succ))) (by kernel_rfl) ?_
        repeat' (first
          | ((with_reducible refine is_store ?_); first | (refine WL.store1 H rfl rfl rfl (by repeat' (first | exact Upd.here .. | apply Upd.there)) rfl ?_; intro w H _) | (refine WL.storeN H rfl rfl rfl rfl (by repeat' (first | exact Upd.here .. | apply Upd.there)) rfl ?_; intro w H _)))
        with_reducible refine WL.nilK ?_
        refine ⟨H.mi (by repeat' (first | exact Incl.nil _ | refine Incl.cons (by repeat' (first | exact List.mem_cons_self .. | apply List.mem_cons_of_mem)) ?_)) (by repeat' (first | exact Incl.nil _ | refine Incl.cons (by repeat' (first | exact List.mem_cons_self .. | apply List.mem_cons_of_mem)) ?_)), ?_⟩
        first
          | refine WR.take 10 (by kernel_rfl) (fun _ _ _ h => h) (Nth.get (by repeat' (first | exact Nth.zero .. | apply Nth.succ))) rfl (by decide) (Wd.none rfl) rfl (Y.assign rfl) (by kernel_rfl) ?_
        refine WR.done (by kernel_rfl) ?_
        with_reducible refine AtQ.then_norm ?_
        exact ⟨(b15, h0), (by repeat' (first | exact Sub.nil | refine Sub.cons rfl ?_)), heh, H.dropI (by repeat' (first | exact Incl.nil _ | refine Incl.cons (by repeat' (first | exact List.mem_cons_self .. | apply List.mem_cons_of_mem)) ?_))⟩
    · skip
      repeat' (first
        | ((with_reducible refine is_alloc ?_); refine WL.alloc H (by decide) ?_; intro b15 w H hb15 _ _)
        | ((with_reducible refine is_alloc ?_); refine WL.alloc H (by decide) ?_; intro _ w H _ _ _))
      with_reducible refine WL.nilK ?_
      refine ⟨H.mi (by repeat' (first | exact Incl.nil _ | refine Incl.cons (by repeat' (first | exact List.mem_cons_self .. | apply List.mem_cons_of_mem)) ?_)) (by repeat' (first | exact Incl.nil _ | refine Incl.cons (by repeat' (first | exact List.mem_cons_self .. | apply List.mem_cons_of_mem)) ?_)), ?_⟩
      refine WR.run 1 (Nth.get (by repeat' (first | exact Nth.zero .. | apply Nth.succ))) (by kernel_rfl) ?_
      repeat' (first
        | ((with_reducible refine is_call (f := 17) ?_); refine WL.call (vs := [sl _ l.length _]) rfl (laws_toTermS_ok _ _ l _ (H.ht (nod _ _ l) (by repeat' (first | exact List.mem_cons_self .. | apply List.mem_cons_of_mem))) (SmL.lens hs)) (by decide) ?_; intro v w hv2; obtain ⟨b1, t1, e1, en1, het1, ho1, hc1, hb1⟩ := hv2; subst e1; have H := H.made hc1 (oA _ (nod _ _ t1)) ho1 ho1.new))
      with_reducible refine WL.nilK ?_
      refine ⟨H.mi (by repeat' (first | exact Incl.nil _ | refine Incl.cons (by repeat' (first | exact List.mem_cons_self .. | apply List.mem_cons_of_mem)) ?_)) (by repeat' (first | exact Incl.nil _ | refine Incl.cons (by repeat' (first | exact List.mem_cons_self .. | apply List.mem_cons_of_mem)) ?_)), ?_⟩
      refine WR.run 3 (Nth.get (by repeat' (first | exact Nth.zero .. | apply Nth.succ))) (by kernel_rfl) ?_
      repeat' (first
        | ((with_reducible refine is_call (f := 35) ?_); refine WL.call (vs := [tv t]) rfl (laws_toTerm_ok t _ (H.ht t (by repeat' (first | exact List.mem_cons_self .. | apply List.mem_cons_of_mem))) (Sm.lens t hst)) (by decide) ?_; intro v w hv2; obtain ⟨u1, e1, heu1, ho1, hc1⟩ := hv2; subst e1; have H := H.made hc1 (oA _ u1) ho1 ho1.new))
      with_reducible refine WL.nilK ?_
      refine ⟨H.mi (by repeat' (first | exact Incl.nil _ | refine Incl.cons (by repeat' (first | exact List.mem_cons_self .. | apply List.mem_cons_of_mem)) ?_)) (by repeat' (first | exact Incl.nil _ | refine Incl.cons (by repeat' (first | exact List.mem_cons_self .. | apply List.mem_cons_of_mem)) ?_)), ?_⟩
      refine WR.run 4 (Nth.get (by repeat' (first | exact Nth.zero .. | apply Nth.succ))) (by kernel_rfl) ?_
      repeat' (first
        | ((with_reducible refine is_call (f := 42) ?_); have hcs := H.chg.size; refine WL.call (vs := [sl _ t1.length _, tv u1]) rfl (himpl _ _ t1 u1 _ (H.own _ (nod _ _ t1) (by repeat' (first | exact List.mem_cons_self .. | apply List.mem_cons_of_mem))).ht (H.own _ u1 (by repeat' (first | exact List.mem_cons_self .. | apply List.mem_cons_of_mem))).ht (hs.by_map het1) het1 heu1) (by decide) ?_; intro v w hv2; obtain ⟨h0, e1, heh, hoh, hc1⟩ := hv2; subst e1; have H := (H.made hc1 (oA _ h0) hoh hoh.new).monoO w0.heap.size hcs))
      with_reducible refine WL.nilK ?_
      refine ⟨H.mi (by repeat' (first | exact Incl.nil _ | refine Incl.cons (by repeat' (first | exact List.mem_cons_self .. | apply List.mem_cons_of_mem)) ?_)) (by repeat' (first | exact Incl.nil _ | refine Incl.cons (by repeat' (first | exact List.mem_cons_self .. | apply List.mem_cons_of_mem)) ?_)), ?_⟩
      first
        | refine WR.take 5 (by kernel_rfl) (fun _ _ _ h => h) (Nth.get (by repeat' (first | exact Nth.zero .. | apply Nth.succ))) rfl (by decide) (Wd.none rfl) rfl (Y.move rfl) (by kernel_rfl) ?_
      first
        | refine WR.take 6 (by kernel_rfl) (fun _ _ _ h => h) (Nth.get (by repeat' (first | exact Nth.zero .. | apply Nth.succ))) rfl (by decide) (Wd.none rfl) rfl (Y.extract rfl rfl) (by kernel_rfl) ?_
      first
        | refine WR.take 7 (by kernel_rfl) (fun _ _ _ h => h) (Nth.get (by repeat' (first | exact Nth.zero .. | apply Nth.succ))) rfl (by decide) (Wd.none rfl) rfl (Y.extract rfl rfl) (by kernel_rfl) ?_
      refine WR.run 9 (Nth.get (by repeat' (first | exact Nth.zero .. | apply Nth.succ))) (by kernel_rfl) ?_
      repeat' (first
        | ((with_reducible refine is_store ?_); first | (refine WL.store1 H rfl rfl rfl (by repeat' (first | exact Upd.here .. | apply Upd.there)) rfl ?_; intro w H _) | (refine WL.storeN H rfl rfl rfl rfl (by repeat' (first | exact Upd.here .. | apply Upd.there)) rfl ?_; intro w H _)))
      with_reducible refine WL.nilK ?_
      refine ⟨H.mi (by repeat' (first | exact Incl.nil _ | refine Incl.cons (by repeat' (first | exact List.mem_cons_self .. | apply List.mem_cons_of_mem)) ?_)) (by repeat' (first | exact Incl.nil _ | refine Incl.cons (by repeat' (first | exact List.mem_cons_self .. | apply List.mem_cons_of_mem)) ?_)), ?_⟩
      first
        | refine WR.take 10 (by kernel_rfl) (fun _ _ _ h => h) (Nth.get (by repeat' (first | exact Nth.zero .. | apply Nth.succ))) rfl (by decide) (Wd.none rfl) rfl (Y.assign rfl) (by kernel_rfl) ?_
      refine WR.done (by kernel_rfl) ?_
      with_reducible refine AtQ.then_norm ?_
      exact ⟨(b15, h0), (by repeat' (first | exact Sub.nil | refine Sub.cons rfl ?_)), heh, H.dropI (by repeat' (first | exact Incl.nil _ | refine Incl.cons (by repeat' (first | exact List.mem_cons_self .. | apply List.mem_cons_of_mem)) ?_))⟩
  obtain ⟨b15, h0⟩ := s
  obtain ⟨heh, H⟩ := hinv
  simp only at heh H ⊢
  repeat' (first
    | (with_reducible refine WC.seq ?_)
    | (with_reducible refine WC.reg ?_)
    | (with_reducible refine WC.skip ?_)
    | (with_reducible refine WC.ret ?_)
    | ((with_reducible refine is_cond ?_); first | refine WC.ctrue rfl ?_ | refine WC.cfalse rfl ?_ | (refine WC.cbool rfl ?_ ?_ <;> intro hcnd))
    | (with_reducible refine WL.nilK ?_)
    | (with_reducible refine WL.nil ?_)
    | (with_reducible refine AtQ.then_norm ?_)
    | (with_reducible refine AtQ.then_ret ?_)
    | (with_reducible refine AtQ.out_ret ?_)
    | ((with_reducible refine is_call (f := 37) ?_); refine WL.call (vs := [tv h0, tv w1]) rfl (laws_eqTerm_fn h0 w1 _ (H.own _ h0 (by repeat' (first | exact List.mem_cons_self .. | apply List.mem_cons_of_mem))).ht (H.own _ w1 (by repeat' (first | exact List.mem_cons_self .. | apply List.mem_cons_of_mem))).ht (heh.trans hew.symm) (hR h0 heh).2) (by decide) ?_; intro v w hv2; obtain ⟨e1, hc1⟩ := hv2; subst e1; have H := H.call hc1)
    | ((with_reducible refine is_call (f := 40) ?_); refine WL.call (vs := [tv g0, .int .i64 1]) rfl (by rw [ev0]; exact laws_heldTerm_ok 1 (1 + 3 * cnL g0.l) (H.own _ ⟨g0.k, g0.i, g0.s, g0.a, g0.c, l0⟩ (by repeat' (first | exact List.mem_cons_self .. | apply List.mem_cons_of_mem))).ht hlen0 hm0 (by omega) (by omega)) (by decide) ?_; intro v w hv2; obtain ⟨e1, hc1⟩ := hv2; subst e1; have H := H.call hc1)
    | ((with_reducible refine is_move ?_); first | refine WL.y H (Y.move rfl) (by decide) ?_)
    | ((with_reducible refine is_assign ?_); first | refine WL.y H (Y.assign rfl) (by decide) ?_)
    | ((with_reducible refine is_load ?_); first | refine WL.y H (Y.loadX rfl (by repeat' (first | exact List.mem_cons_self .. | apply List.mem_cons_of_mem)) rfl) (by decide) ?_ | refine WL.y H (Y.loadXN rfl (by repeat' (first | exact List.mem_cons_self .. | apply List.mem_cons_of_mem)) rfl rfl) (by decide) ?_)
    | ((with_reducible refine is_not ?_); first | refine WL.y H (Y.not rfl) (by decide) ?_)
    | ((with_reducible refine is_pick ?_); first | refine WL.y H (Y.pickT rfl rfl) (by decide) ?_ | refine WL.y H (Y.pickF rfl rfl) (by decide) ?_)
    | ((with_reducible refine is_extract ?_); first | refine WL.y H (Y.extract rfl rfl) (by decide) ?_)
    | ((with_reducible refine is_neq ?_); first | refine WL.y H ((Y.neq rfl rfl).boolT (by first | omega | (simp only [List.length_cons, List.length_nil]; done) | (simp only [List.length_cons, List.length_nil]; omega))) (by decide) ?_ | refine WL.y H ((Y.neq rfl rfl).boolF (by first | omega | (simp only [List.length_cons, List.length_nil]; done) | (simp only [List.length_cons, List.length_nil]; omega))) (by decide) ?_ | refine WL.y H (Y.neqSe rfl rfl rfl) (by decide) ?_ | refine WL.y H (Y.neqBe rfl rfl) (by decide) ?_ | (refine WL.cmp H (Y.neq rfl rfl) (by decide) ?_ ?_ <;> intro hcmp))
    | ((with_reducible refine is_lss ?_); first | refine WL.y H ((Y.lss rfl rfl).boolT (by first | omega | (simp only [List.length_cons, List.length_nil]; done) | (simp only [List.length_cons, List.length_nil]; omega))) (by decide) ?_ | refine WL.y H ((Y.lss rfl rfl).boolF (by first | omega | (simp only [List.length_cons, List.length_nil]; done) | (simp only [List.length_cons, List.length_nil]; omega))) (by decide) ?_ | (refine WL.cmp H (Y.lss rfl rfl) (by decide) ?_ ?_ <;> intro hcmp))
    | ((with_reducible refine is_box ?_); first | (refine WL.boxN H rfl (by decide) ?_; intro _ w H _ _ _) | (refine WL.box1 H rfl rfl (by decide) ?_; intro _ w H _ _ _))
    | ((with_reducible refine is_alloc ?_); refine WL.alloc H (by decide) ?_; intro _ w H _ _ _)
    | ((with_reducible refine is_store ?_); first | (refine WL.store1 H rfl rfl rfl (by repeat' (first | exact Upd.here .. | apply Upd.there)) rfl ?_; intro w H _) | (refine WL.storeN H rfl rfl rfl rfl (by repeat' (first | exact Upd.here .. | apply Upd.there)) rfl ?_; intro w H _))
    | ((with_reducible refine is_grd ?_); first | refine WL.grd (Wd.some rfl rfl rfl) rfl ?_ | refine WL.pass (Wd.some rfl rfl rfl) rfl rfl (by decide) ?_ | refine WL.pass0 (Wd.some rfl rfl rfl) rfl rfl ?_))
  exact AtQ.r1 (resVal.t rfl) ⟨rfl, H.chg⟩
end Go.Proofs.Ytpfooiepmnaoaaa.E
namespace Go.Proofs.Ytpfooiepmnaoaaa.X
open Go Go.RowKit Go.Proofs.Ytpfooiepmnaoaaa.E Go.Proofs.YtpfooiepmnaoaaaW.PrintWords
set_option linter.unusedVariables false
open Classical in
noncomputable def laws_FnExactListTerm.f (k : Nat) (x0 : List LTm) (f0 f1 : Int) (f2 : ByteArray) (f3 : List LTm) : Option Bool := if (x0.length * 56 ≤ 140737488351232 ∧ ∀ x ∈ x0, B44 x) ∧ B44 ⟨f0, f1, f2, f3⟩ then some true else none
theorem laws_FnExactListTerm.calls (k : Nat) (A0 : Option Addr) (c0 : Nat) (l0 : List LTm) (f0 f1 : Int) (f2 : ByteArray) (A1 : Option Addr) (c1 : Nat) (l1 : List LTm) (w : World) (h0 : Kd.C k44 w A0 l0.length l0) (hc0 : l0.length ≤ c0) (h1 : Kd.C k44 w A1 l1.length l1) (hc1 : l1.length ≤ c1) (h : laws_FnExactListTerm.f k l0 f0 f1 f2 l1 = some true) :
    Calls Try.prog 8 #[.slice A0 l0.length c0, .agg #[.int .i64 f0, .int .i64 f1, .string f2, .slice A1 l1.length c1]] w fun e w' => e = .returned (.bool true) ∧ Below w.heap.size w w' := by
  unfold laws_FnExactListTerm.f at h
  split at h
  · rename_i hb
    obtain ⟨l, hl, hx, ht⟩ := locatedS hc0 h0
    obtain ⟨t, g1, g2, g3, g4, g5, g6, hxt, htt⟩ := located (w := w) ⟨f0, f1, f2, l1⟩ A1 c1 hc1 h1
    have ev : (.agg #[.int .i64 f0, .int .i64 f1, .string f2, .slice A1 l1.length c1] : Value) = tv t := by rw [← g4, ← g5]; simp only at g1 g2 g3 g6; rw [← g1, ← g2, ← g3, ← g6]
    rw [ev, ← hl]
    refine (FnExactListTerm_fn A0 c0 l l0 t ⟨f0, f1, f2, l1⟩ w ht htt hx hb.1.1 hb.1.2 hxt hb.2).2.mono fun e w' ⟨v, he, hv, hc⟩ => ?_
    subst hv
    exact ⟨he, hc.below⟩
  · cases h
end Go.Proofs.Ytpfooiepmnaoaaa.X
