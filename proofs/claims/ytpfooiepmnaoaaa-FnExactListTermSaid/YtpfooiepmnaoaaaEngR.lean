/- Rows of terms that grow. -/
import Derived.Test.YtpfooiepmnaoaaaEngK
namespace Go.Proofs.Ytpfooiepmnaoaaa.E
open Go Go.RowKit Go.Proofs.Ytpfooiepmnaoaaa.X
set_option linter.unusedVariables false
set_option linter.unusedSimpArgs false
/-- A row of terms of one's own that may grow: nil, or a block with room. -/
structure OwnP (B : Nat) (w : World) (a : Option Addr) (c : Nat) (ts : List LT) : Prop where
  kids : OwnL B w ts
  row : (ts = [] ∧ a = none ∧ c = 0) ∨ (∃ b pad, a = some ⟨b, 0, none⟩ ∧ w.heap[b]? = some (.cells (tcells ts ++ pad).toArray 47 (0, 0)) ∧ (tcells ts ++ pad).length = c * 4 ∧ B ≤ b ∧ b ∉ ftR ts)
def pft (a : Option Addr) (ts : List LT) (b : Nat) : Prop := (∃ o, a = some ⟨b, o, none⟩) ∨ b ∈ ftR ts
def pA (B : Nat) (a : Option Addr) (c : Nat) (ts : List LT) : Asn where
  ft := pft a ts
  hold w := OwnP B w a c ts
  fr w w' h hh := ⟨hh.kids.fr fun b hb => h b (.inr hb), hh.row.imp id fun ⟨b, pad, ha, h1, h2, h3, h4⟩ => ⟨b, pad, ha, by rw [h b (.inl ⟨0, ha⟩)]; exact h1, h2, h3, h4⟩⟩
  lt w h b hb := by
    rcases hb with ⟨o, hb⟩ | hb
    · rcases h.row with ⟨_, h1, _⟩ | ⟨b', pad, ha, h1, _⟩
      · rw [h1] at hb; cases hb
      · rw [ha] at hb
        obtain ⟨rfl, _, _⟩ := Addr.mk.inj (Option.some.inj hb)
        exact (Array.getElem?_eq_some_iff.1 h1).1
    · exact h.kids.lt b hb
theorem pA_new {B : Nat} {w : World} {a : Option Addr} {c : Nat} {ts : List LT} (h : OwnP B w a c ts) : ∀ b, pft a ts b → B ≤ b := fun b hb => by
  rcases hb with ⟨o, hb⟩ | hb
  · rcases h.row with ⟨_, h1, _⟩ | ⟨b', pad, ha, h1, h2, h3, h4⟩
    · rw [h1] at hb; cases hb
    · rw [ha] at hb
      obtain ⟨rfl, _, _⟩ := Addr.mk.inj (Option.some.inj hb)
      exact h3
  · exact h.kids.new b hb
theorem pA_nil (B : Nat) (w : World) : OwnP B w none 0 [] := ⟨OwnL.nil _ _, .inl ⟨rfl, rfl, rfl⟩⟩
theorem OwnP.own {B : Nat} {w : World} {a : Option Addr} {c : Nat} {ts : List LT} (h : OwnP B w a c ts) : Own B w (nod a c ts) := by
  rcases h.row with ⟨rfl, rfl, rfl⟩ | ⟨b, pad, rfl, h1, h2, h3, h4⟩
  · exact ⟨.leaf rfl, by rw [ft_leaf rfl]; exact List.nodup_nil, (by rw [ft_leaf rfl]; intro b hb; cases hb), (by rw [ft_leaf rfl]; intro b hb; cases hb)⟩
  · refine Own.row h1 h3 ?_ h.kids h4
    simp only [List.length_append, tcells_length] at h2
    omega
section
variable {P : Program} {ops : Array Oper} {N : Nat} {Q : Post} {E : Env} {w w0 : World} {F0 : Nat → Prop} {X : List (Nat × Obj)} {S : List Asn} {rest : List Oper} {ty : TypeId} {pos : String} {af : Array Edge} {d : Nat}
theorem push_lt (h : Array Obj) (o : Obj) {b : Nat} (hb : b < h.size) : (h.push o)[b]? = h[b]? := by rw [Array.getElem?_push_lt hb, Array.getElem?_eq_getElem hb]
theorem push_at (h : Array Obj) (o : Obj) : (h.push o)[h.size]? = some o := by simp
theorem run_appendT {t bytes : Nat} [q : Slt P t 47 4] [qb : Sbt P 47 bytes] [qz : Zct P 47 zt] {B b2 : Nat} {a : Option Addr} {c : Nat} {ts : List LT} {x : LT} (hp : OwnP B w a c ts) (hx : Own B w x) (hd : ∀ z ∈ ft x, ¬ pft a ts z) (hnews : ∀ j v, (tcs x)[j]? = some v → w.cell? ⟨b2, 0 + j, none⟩ = some v) (hB : B ≤ w.heap.size) (hlt : ts.length ≤ 100000000) (hb : bytes ≤ 1000) :
    ∃ a' c' w', (Builtin.append_ #[t, t] ty #[.slice a ts.length c, .slice (some ⟨b2, 0, none⟩) 1 1]).run P w = .ok (.slice a' (ts.length + 1) c') w' ∧ OwnP B w' a' c' (ts ++ [x]) ∧ Chg (fun k => ∃ o, a = some ⟨k, o, none⟩) w w' ∧ (∀ k, (∃ o, a' = some ⟨k, o, none⟩) → (∃ o, a = some ⟨k, o, none⟩) ∨ w.heap.size ≤ k) ∧ w.heap.size ≤ w'.heap.size := by
  have hn : ∀ j v, (tcs x)[j]? = some v → w.cell? ((⟨b2, 0, none⟩ : Addr).add j) = some v := fun j v hj => by rw [adr_add]; exact hnews j v hj
  have hq := qz.ok
  obtain ⟨hq1, hq2⟩ := q.ok
  have hq3 := qb.ok
  have hlx : (tcs x).length = 4 := rfl
  have h1x : ∀ v ∈ tcs x, v.oneCell' = true := by intro v hv; simp only [tcs, List.mem_cons, List.not_mem_nil, or_false] at hv; rcases hv with rfl | rfl | rfl | rfl <;> rfl
  have ecells : tcells (ts ++ [x]) = tcells ts ++ tcs x := by simp [tcells]
  cases hi : P.info? 47 with
  | none => rw [hi] at hq2; cases hq2
  | some i =>
    rw [hi] at hq hq2 hq3
    simp only [Option.map_some, Option.some.injEq] at hq2 hq3
    cases hzv : i.zero with
    | none => simp [hzv] at hq
    | some zv =>
      simp only [Option.bind_some, hzv, Option.map_some, Option.some.injEq] at hq
      have hzs : zv.cells.size = 4 := by rw [hq]; rfl
      -- a new row
      have fresh : ∀ (xs : List Value) (cap : Nat), xs = tcells ts → ts.length + 1 ≤ cap → OwnP B (w.drew.alloc (.cells (xs ++ tcs x ++ (Builtin.zeroCells zv.cells (cap - (ts.length + 1))).toList).toArray 47 (0, 0))) (some ⟨w.heap.size, 0, none⟩) cap (ts ++ [x]) := by
        intro xs cap hxs hcap
        have hfr : ∀ b, b < w.heap.size → (w.drew.alloc (.cells (xs ++ tcs x ++ (Builtin.zeroCells zv.cells (cap - (ts.length + 1))).toList).toArray 47 (0, 0))).heap[b]? = w.heap[b]? := by
          intro b hb
          exact push_lt w.heap _ hb
        have ho : OwnL B (w.drew.alloc (.cells (xs ++ tcs x ++ (Builtin.zeroCells zv.cells (cap - (ts.length + 1))).toList).toArray 47 (0, 0))) (ts ++ [x]) :=
          (hp.kids.snoc hx fun z hz h => hd z hz (.inr h)).fr fun b hb => hfr b ((hp.kids.snoc hx fun z hz h => hd z hz (.inr h)).lt b hb)
        refine ⟨ho, .inr ⟨w.heap.size, (Builtin.zeroCells zv.cells (cap - (ts.length + 1))).toList, rfl, ?_, ?_, hB, fun h => ?_⟩⟩
        · rw [ecells, hxs]; exact push_at w.heap _
        · rw [ecells]
          simp only [List.length_append, Array.length_toList, size_zeroCells, hzs, hlx, tcells_length]
          omega
        · have := (hp.kids.snoc hx fun z hz h => hd z hz (.inr h)).lt _ h
          omega
      rcases hp.row with ⟨rfl, rfl, rfl⟩ | ⟨b, pad, rfl, hrow, hpl, hBb, hbn⟩
      · have hr := run_append_nil (P := P) w t ty 47 i zv hq1 hi hzv ⟨b2, 0, none⟩ 1 1 (tcs x) (by rw [hq2]; rfl) hn (by decide) (by decide) (by rw [hq3]; omega)
        have hge := grownCap_ge w 1 0 47
        have hcs : ((tcs x).toArray ++ Builtin.zeroCells zv.cells (grownCap w 1 0 47 - 1)) = ([] ++ tcs x ++ (Builtin.zeroCells zv.cells (grownCap w 1 0 47 - 1)).toList).toArray := by simp
        rw [hcs] at hr
        exact ⟨_, _, _, hr, fresh [] _ rfl hge, ⟨rfl, rfl, rfl, by simp, fun k hk _ => push_lt w.heap _ hk⟩, fun k ⟨o, e⟩ => .inr (by obtain ⟨rfl, _, _⟩ := Addr.mk.inj (Option.some.inj e); exact Nat.le_refl _), by simp⟩
      · have hcell : ∀ j v, (tcells ts)[j]? = some v → w.cell? ((⟨b, 0, none⟩ : Addr).add j) = some v := fun j v hj => cells_at hrow (by
            rw [Nat.zero_add, List.getElem?_append_left (List.getElem?_eq_some_iff.1 hj).1]; exact hj)
        by_cases hroom : ts.length + 1 ≤ c
        · have hle : (tcells ts).length + (tcs x).length ≤ (tcells ts ++ pad).length := by rw [hpl, tcells_length, hlx]; omega
          have hr := run_append_room (P := P) w t ty 47 i hq1 hi b ts.length c (tcells ts ++ pad).toArray hrow ⟨b2, 0, none⟩ 1 1 (tcs x) (by rw [hq2]; rfl) hn h1x hroom (by rw [hq2, ← tcells_length ts]; simpa using hle)
          have hl : (tcells ts ++ pad).take (ts.length * i.size) ++ tcs x ++ (tcells ts ++ pad).drop (ts.length * i.size + (tcs x).length) = tcells ts ++ tcs x ++ pad.drop (tcs x).length := by
            rw [hq2, ← tcells_length ts, List.take_left, List.drop_append, List.drop_of_length_le (by omega), List.nil_append, Nat.add_sub_cancel_left]
          simp only [List.toList_toArray] at hr
          rw [hl] at hr
          refine ⟨_, _, _, hr, ⟨(hp.kids.snoc hx fun z hz h => hd z hz (.inr h)).fr fun k hk => setRow_other _ _ _ _ (fun e => ?_), .inr ⟨b, pad.drop (tcs x).length, rfl, ?_, ?_, hBb, fun h => ?_⟩⟩, ⟨rfl, rfl, rfl, by simp, fun k _ hk => setRow_other _ _ _ _ (fun e => hk ⟨0, by rw [e]⟩)⟩, fun k h => .inl h, by simp⟩
          · subst e
            rw [ftR_snoc] at hk
            rcases List.mem_append.1 hk with h | h
            · exact hbn h
            · exact hd _ h (.inl ⟨0, rfl⟩)
          · rw [ecells]; exact setRow_heap w b _ _ _ _ hrow
          · rw [ecells, ← hpl]
            simp only [List.length_append, List.length_drop] at hle ⊢
            omega
          · rw [ftR_snoc] at h
            rcases List.mem_append.1 h with h | h
            · exact hbn h
            · exact hd _ h (.inl ⟨0, rfl⟩)
        · have hr := run_append_grow (P := P) w t ty 47 i zv hq1 hi hzv ⟨b, 0, none⟩ ts.length c (tcells ts) (by rw [hq2, tcells_length]) hcell ⟨b2, 0, none⟩ 1 1 (tcs x) (by rw [hq2]; rfl) hn (by omega) (by omega) (growslice_fits (by omega) (by rw [hq3]; have := Nat.mul_le_mul (show ts.length + 1 ≤ 100000001 by omega) hb; omega))
          have hge := grownCap_ge w (ts.length + 1) c 47
          have hcs : ((tcells ts).toArray ++ (tcs x).toArray ++ Builtin.zeroCells zv.cells (grownCap w (ts.length + 1) c 47 - (ts.length + 1))) = (tcells ts ++ tcs x ++ (Builtin.zeroCells zv.cells (grownCap w (ts.length + 1) c 47 - (ts.length + 1))).toList).toArray := by simp
          rw [hcs] at hr
          exact ⟨_, _, _, hr, fresh _ _ rfl hge, ⟨rfl, rfl, rfl, by simp, fun k hk _ => push_lt w.heap _ hk⟩, fun k ⟨o, e⟩ => .inr (by obtain ⟨rfl, _, _⟩ := Addr.mk.inj (Option.some.inj e); exact Nat.le_refl _), by simp⟩
theorem WL.appendT {s x : Operand} {t bytes T : Nat} {fz : Nat × Nat} [q : Slt P t 47 4] [qb : Sbt P 47 bytes] [qz : Zct P 47 zt] {B B' b2 : Nat} {a : Option Addr} {c : Nat} {ts : List LT} {u : LT} (H : SH w0 F0 w X (pA B a c ts :: oA B' u :: S)) (hs : evo E s = some (.slice a ts.length c)) (hx : evo E x = some (.slice (some ⟨b2, 0, none⟩) 1 1)) (hX : (b2, Obj.cells (tcs u).toArray T fz) ∈ X)
    (hB : B ≤ B') (hB0 : w0.heap.size ≤ B) (hBw : B ≤ w.heap.size) (hd : ∀ z ∈ ft u, ¬ pft a ts z) (hd2 : ∀ A ∈ S, ∀ z, A.ft z → ¬ pft a ts z) (hlt : ts.length ≤ 100000000) (hb : Nat.ble bytes 1000 = true) (hN : d < N)
    (h : ∀ a' c' w', SH w0 F0 w' X (pA B a' c' (ts ++ [u]) :: S) → w.heap.size ≤ w'.heap.size → (∀ k, pft a' (ts ++ [u]) k → pft a ts k ∨ k ∈ ft u ∨ w.heap.size ≤ k) → WL P ops N Q rest ((d, .slice a' (ts.length + 1) c') :: E) w') : WL P ops N Q (⟨some d, .call { callee := .builtin .append, args := #[s, x], argTypes := #[t, t] }, ty, pos, af, none⟩ :: rest) E w := by
  have hp : OwnP B w a c ts := H.of (A := pA B a c ts) (List.mem_cons_self ..)
  have hu : Own B' w u := H.of (A := oA B' u) (List.mem_cons_of_mem _ (List.mem_cons_self ..))
  obtain ⟨a', c', w', hr, hp', hc, hblk, hsz⟩ := run_appendT (P := P) (t := t) (ty := ty) hp (hu.mono hB) hd (newsX hX w H.m) hBw hlt (Nat.le_of_ble_eq_true hb)
  have hnew := pA_new hp
  have hk : ∀ k, pft a' (ts ++ [u]) k → pft a ts k ∨ k ∈ ft u ∨ w.heap.size ≤ k := by
    rintro k (h | h)
    · rcases hblk k h with h | h
      · exact .inl (.inl h)
      · exact .inr (.inr h)
    · rw [ftR_snoc] at h
      rcases List.mem_append.1 h with h | h
      · exact .inl (.inr h)
      · exact .inr (.inl h)
  have H1 := (H.dropS (S' := S) (fun A hA => List.mem_cons_of_mem _ (List.mem_cons_of_mem _ hA))).away hc (fun b hb => .inr (Nat.le_trans hB0 (hnew b (.inl hb)))) (fun p hp hF => H.sep _ (List.mem_cons_self ..) p hp (.inl hF)) (fun A hA b hb hF => hd2 A hA b hb (.inl hF))
  refine WL.run rfl rfl hN (fun e he => by simp [execOp, resolve, invoke, builtin, he.eval hs, he.eval hx, hr]) (h a' c' w' (H1.add (pA B a' c' (ts ++ [u])) hp' fun p hp hf => ?_) hsz hk)
  rcases hk _ hf with h | h | h
  · exact H.sep _ (List.mem_cons_self ..) p hp h
  · exact H.sep _ (List.mem_cons_of_mem _ (List.mem_cons_self ..)) p hp h
  · have := H.lt hp; omega
end
end Go.Proofs.Ytpfooiepmnaoaaa.E
