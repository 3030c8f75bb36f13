/- Marks: what is put into the cells of a term made anew, and what is held there. -/
import Derived.Test.YtpfooiepmnaoaaaEngM
import Derived.Test.YtpfooiepmnaoaaaEngV
import Derived.Test.YtpfooiepmnaoaaaMt
namespace Go.Proofs.Ytpfooiepmnaoaaa.E
open Go Go.RowKit Go.Proofs.Ytpfooiepmnaoaaa.X Go.Proofs.YtpfooiepmnaoaaaW.PrintWords Go.Proofs.Ytpfooiepmnaoaaa.Base
set_option linter.unusedVariables false
set_option linter.unusedSimpArgs false
section
variable {P : Program} {N : Nat} {E : Env} {C : World → Prop} {dst : Option Nat} {ty : TypeId} {pos : String} {af : Array Edge} {g : Option (Nat × Bool)} {t u : TypeId} {x y : Operand}
theorem Y.neqSe {a b : ByteArray} (hx : evo E x = some (.string a)) (hy : evo E y = some (.string b)) (h : a = b) : Yld P N E C ⟨dst, .binOp .neq t x y u, ty, pos, af, g⟩ (.bool false) := by
  have := Y.neqS (P := P) (N := N) (C := C) (dst := dst) (ty := ty) (pos := pos) (af := af) (g := g) (t := t) (u := u) hx hy
  subst h; simpa using this
theorem Y.eqlSe {a b : ByteArray} (hx : evo E x = some (.string a)) (hy : evo E y = some (.string b)) (h : a = b) : Yld P N E C ⟨dst, .binOp .eql t x y u, ty, pos, af, g⟩ (.bool true) := by
  have := Y.eqlS (P := P) (N := N) (C := C) (dst := dst) (ty := ty) (pos := pos) (af := af) (g := g) (t := t) (u := u) hx hy
  subst h; simpa using this
theorem Y.neqBe [q : Blt P t] {a : Bool} (hx : evo E x = some (.bool a)) (hy : evo E y = some (.bool a)) : Yld P N E C ⟨dst, .binOp .neq t x y u, ty, pos, af, g⟩ (.bool false) := by
  have := Y.neqB (P := P) (N := N) (C := C) (dst := dst) (ty := ty) (pos := pos) (af := af) (g := g) (u := u) q.ok hx hy
  simpa using this
theorem Y.eqlBe [q : Blt P t] {a : Bool} (hx : evo E x = some (.bool a)) (hy : evo E y = some (.bool a)) : Yld P N E C ⟨dst, .binOp .eql t x y u, ty, pos, af, g⟩ (.bool true) := by
  have := Y.eqlB (P := P) (N := N) (C := C) (dst := dst) (ty := ty) (pos := pos) (af := af) (g := g) (u := u) q.ok hx hy
  simpa using this
end
mutual
def cn : LT → Nat
  | ⟨_, _, _, _, _, l⟩ => 1 + cnL l
def cnL : List LT → Nat
  | [] => 0
  | x :: r => cn x + cnL r
end
theorem cn_eq (t : LT) : cn t = 1 + cnL t.l := by
  obtain ⟨k, i, s, a, c, l⟩ := t
  rw [cn]
theorem cnL_app (l m : List LT) : cnL (l ++ m) = cnL l + cnL m := by
  induction l with
  | nil => rw [cnL]; simp
  | cons x r ih => rw [List.cons_append, cnL, cnL, ih]; omega
theorem cn_wt : ∀ (t : LT) (x : LTm), er t = conv x → cnL t.l ≤ wt x := by
  intro t
  induction t using indT with
  | h t ih =>
    intro x h
    rw [er_eq, conv_eq] at h
    have hl := (S47.mk.inj h).2.2.2
    rw [wt_eq]
    suffices hh : ∀ (l : List LT) (xs : List LTm), (∀ y ∈ l, y ∈ t.l) → l.map er = xs.map conv → cnL l ≤ wtL xs by
      have := hh t.l x.f3 (fun _ h => h) hl
      omega
    intro l
    induction l with
    | nil => intro xs _ _; rw [cnL]; omega
    | cons y r ihr =>
      intro xs hm he
      cases xs with
      | nil => cases he
      | cons z zs =>
        simp only [List.map_cons, List.cons.injEq] at he
        have h1 := ih y (hm y (by simp)) z he.1
        have h2 := ihr zs (fun u hu => hm u (by simp [hu])) he.2
        rw [cnL, wtL, cn_eq]
        omega
theorem cnL_wt {l : List LT} {xs : List LTm} (h : l.map er = xs.map conv) : cnL l ≤ wtL xs := by
  have := cn_wt (nod none 0 l) ⟨0, 0, ⟨#[]⟩, xs⟩ (by rw [er_mk, conv_eq, h])
  rw [wt_eq] at this
  have h2 : cnL l ≤ 0 + wtL xs := this
  omega
/-- The marks from k on, in order; k' is the next. -/
inductive Mkd : List LT → Int → Int → Prop
  | nil (k : Int) : Mkd [] k k
  | cons {t : LT} {r : List LT} {k k1 k2 : Int} (h0 : t.k = k) (h1 : t.i = k + 1) (h2 : t.s = mtx (k + 2)) (hl : Mkd t.l (k + 3) k1) (hr : Mkd r k1 k2) : Mkd (t :: r) k k2
theorem Mkd.app {l m : List LT} {k k1 k2 : Int} (h : Mkd l k k1) (g : Mkd m k1 k2) : Mkd (l ++ m) k k2 := by
  induction h with
  | nil => exact g
  | cons h0 h1 h2 hl _ _ ih => exact .cons h0 h1 h2 hl (ih g)
theorem Mkd.le {l : List LT} {k k1 : Int} (h : Mkd l k k1) : k ≤ k1 := by
  induction h with
  | nil => exact Int.le_refl _
  | cons _ _ _ _ _ i1 i2 => omega
theorem tcells_put {d r : List LT} {t t' : LT} {j : Nat} {v : Value} (hj : j < 4) (h : tcs t' = (tcs t).set j v) : tcells (d ++ t' :: r) = (tcells (d ++ t :: r)).set (d.length * 4 + j) v := by
  unfold tcells
  rw [List.flatMap_append, List.flatMap_append, List.flatMap_cons, List.flatMap_cons, h]
  have e : (d.flatMap tcs).length = d.length * 4 := tcells_length d
  rw [List.set_append_right _ _ (by omega), e, Nat.add_sub_cancel_left, List.set_append_left _ _ (by simpa using hj)]
theorem ftL_put (a : Option Addr) {d r : List LT} {t t' : LT} (h : ft t' = ft t) : ftL a (d ++ t' :: r) = ftL a (d ++ t :: r) := by
  rw [ftL_ne a (by simp), ftL_ne a (by simp), ftR_flat, ftR_flat]
  simp [h]
/-- A row's own block is none of its parts'. -/
theorem Own.apart {B : Nat} {w : World} {b o c : Nat} {l : List LT} (h : Own B w (nod (some ⟨b, o, none⟩) c l)) : ∀ x ∈ l, b ∉ ft x := by
  intro x hx hb
  have hn := h.nd
  rw [ft_nd, ftL_ne _ (List.ne_nil_of_mem hx), List.nodup_cons] at hn
  exact hn.1 (mem_ftR.2 ⟨x, hx, hb⟩)
theorem Own.kid {B : Nat} {w : World} {a : Option Addr} {c : Nat} {l : List LT} (h : Own B w (nod a c l)) {x : LT} (hx : x ∈ l) : Own B w x := by
  have e := ft_nd a c l
  rw [ftL_ne _ (List.ne_nil_of_mem hx)] at e
  have sub : ∀ z ∈ ft x, z ∈ ft (nod a c l) := fun z hz => by rw [e]; exact List.mem_cons_of_mem _ (mem_ftR.2 ⟨x, hx, hz⟩)
  refine ⟨h.ht.kid x hx, ?_, fun z hz => h.new z (sub z hz), fun z hz => h.free z (sub z hz)⟩
  have hn := h.nd
  rw [e, List.nodup_cons, ftR_flat] at hn
  have hn2 := hn.2
  obtain ⟨d, r, rfl⟩ := List.append_of_mem hx
  rw [List.flatMap_append, List.flatMap_cons, List.nodup_append, List.nodup_append] at hn2
  exact hn2.2.1.1
theorem Own.kids_apart {B : Nat} {w : World} {a : Option Addr} {c : Nat} {d r : List LT} {t : LT} (h : Own B w (nod a c (d ++ t :: r))) : ∀ x ∈ d ++ r, ∀ z ∈ ft x, z ∉ ft t := by
  have hn := h.nd
  rw [ft_nd, ftL_ne _ (by simp), List.nodup_cons, ftR_flat] at hn
  have hn2 := hn.2
  rw [List.flatMap_append, List.flatMap_cons, List.nodup_append] at hn2
  obtain ⟨_, h2, h3⟩ := hn2
  rw [List.nodup_append] at h2
  intro x hx z hz hzt
  rcases List.mem_append.1 hx with hx | hx
  · exact h3 z (List.mem_flatMap.2 ⟨x, hx, hz⟩) z (List.mem_append.2 (.inl hzt)) rfl
  · exact h2.2.2 z hzt z (List.mem_flatMap.2 ⟨x, hx, hz⟩) rfl
/-- One cell of a row of one's own is overwritten. -/
theorem Own.put {B : Nat} {w w' : World} {b o c T : Nat} {d r : List LT} {t t' : LT} {j : Nat} {v : Value} {cs : List Value} (h : Own B w (nod (some ⟨b, o, none⟩) c (d ++ t :: r))) (hj : j < 4) (hk : tcs t' = (tcs t).set j v) (hl : t'.l = t.l) (ha : t'.a = t.a) (hc : t'.c = t.c)
    (hb : w.heap[b]? = some (.cells cs.toArray T (0, 0))) (hw : Chg (fun k => k = b) w w') (hb' : w'.heap[b]? = some (.cells (cs.set (o + (d.length * 4 + j)) v).toArray T (0, 0))) : Own B w' (nod (some ⟨b, o, none⟩) c (d ++ t' :: r)) := by
  have hft : ft t' = ft t := by rw [ft_eq, ft_eq, hl, ha]
  have e : ft (nod (some ⟨b, o, none⟩) c (d ++ t' :: r)) = ft (nod (some ⟨b, o, none⟩) c (d ++ t :: r)) := by rw [ft_nd, ft_nd]; exact ftL_put _ hft
  have hap := h.apart
  have kid : ∀ x ∈ d ++ t :: r, HT w' x := fun x hx => (h.ht.kid x hx).chg hw fun z hz e => hap x hx (e ▸ hz)
  refine ⟨.mk _ (by have h1 : (d ++ t :: r).length ≤ c := h.ht.cap; simpa using h1) (fun _ => ?_) (fun x hx => ?_), by rw [e]; exact h.nd, by rw [e]; exact h.new, by
    rw [e]; intro z hz
    by_cases hzb : z = b
    · subst hzb; exact ⟨_, _, hb'⟩
    · obtain ⟨cs2, T2, h2⟩ := h.free z hz
      exact ⟨cs2, T2, by rw [hw.block z (h.ht.lt z hz) hzb]; exact h2⟩⟩
  · obtain ⟨b2, o2, cs2, T2, fz2, ha2, hb2, hv2⟩ := h.ht.row (by simp)
    obtain ⟨rfl, rfl, _⟩ := Addr.mk.inj (Option.some.inj ha2)
    rw [hb] at hb2
    obtain ⟨rfl, rfl, rfl⟩ := Obj.cells.inj (Option.some.inj hb2)
    refine ⟨b, o, _, _, _, rfl, hb', fun q u hq => ?_⟩
    rw [List.getElem?_toArray]
    have hq' : (tcells (d ++ t' :: r))[q]? = some u := hq
    rw [tcells_put hj hk, List.getElem?_set] at hq'
    rw [List.getElem?_set]
    have hlt : d.length * 4 + j < (tcells (d ++ t :: r)).length := by rw [tcells_length]; simp; omega
    split at hq'
    · rename_i hqe
      subst hqe
      have := hv2 (d.length * 4 + j) _ (List.getElem?_eq_getElem hlt)
      rw [List.getElem?_toArray] at this
      rw [if_pos rfl, if_pos (List.getElem?_eq_some_iff.1 this).1]
      exact hq'
    · rename_i hqe
      rw [if_neg (by omega)]
      have := hv2 q u hq'
      rw [List.getElem?_toArray] at this
      exact this
  · have hx' : x ∈ d ++ t' :: r := hx
    rcases List.mem_append.1 hx' with h1 | h1
    · exact kid x (List.mem_append.2 (.inl h1))
    · rcases List.mem_cons.1 h1 with rfl | h1
      · have := kid t (by simp)
        cases this with
        | mk _ g1 g2 g3 => exact .mk _ (by rw [hl, hc]; exact g1) (by rw [hl, ha]; exact g2) (by rw [hl]; exact g3)
      · exact kid x (by simp [h1])
/-- One part of a row of one's own is worked on. -/
theorem Own.kid_put {B : Nat} {w w' : World} {a : Option Addr} {c : Nat} {d r : List LT} {t t' : LT} (h : Own B w (nod a c (d ++ t :: r))) (hw : Chg (fun k => k ∈ ft t) w w') (hk : tcs t' = tcs t) (hft : ft t' = ft t) (ho : Own B w' t') : Own B w' (nod a c (d ++ t' :: r)) := by
  have e : ft (nod a c (d ++ t' :: r)) = ft (nod a c (d ++ t :: r)) := by rw [ft_nd, ft_nd]; exact ftL_put _ hft
  obtain ⟨b, o, cs, T, fz, ha, hb, hv⟩ := h.ht.row (by simp)
  have ha' : a = some ⟨b, o, none⟩ := ha
  subst ha'
  have hbk : b ∉ ft t := h.apart t (by simp)
  have hka := h.kids_apart
  have kid : ∀ x ∈ d ++ r, HT w' x := fun x hx => (h.ht.kid x (by rcases List.mem_append.1 hx with h | h <;> simp [h])).chg hw fun z hz => hka x hx z hz
  have hcells : tcells (d ++ t' :: r) = tcells (d ++ t :: r) := by unfold tcells; simp [hk]
  refine ⟨.mk _ (by have h1 : (d ++ t :: r).length ≤ c := h.ht.cap; simpa using h1) (fun _ => ⟨b, o, cs, T, fz, rfl, ?_, ?_⟩) (fun x hx => ?_), by rw [e]; exact h.nd, by rw [e]; exact h.new, by
    rw [e]; intro z hz
    by_cases hzt : z ∈ ft t
    · exact ho.free z (hft ▸ hzt)
    · obtain ⟨cs2, T2, h2⟩ := h.free z hz
      exact ⟨cs2, T2, by rw [hw.block z (h.ht.lt z hz) hzt]; exact h2⟩⟩
  · rw [hw.block b (h.ht.lt b (by rw [ft_nd, ftL_ne _ (by simp)]; exact List.mem_cons_self ..)) hbk]; exact hb
  · show ∀ q u, (tcells (d ++ t' :: r))[q]? = some u → _
    rw [hcells]; exact hv
  · have hx' : x ∈ d ++ t' :: r := hx
    rcases List.mem_append.1 hx' with h1 | h1
    · exact kid x (List.mem_append.2 (.inl h1))
    · rcases List.mem_cons.1 h1 with rfl | h1
      · exact ho.ht
      · exact kid x (List.mem_append.2 (.inr h1))
section
variable {P : Program} {ops : Array Oper} {N : Nat} {Q : Post} {E : Env} {w w0 : World} {F0 : Nat → Prop} {X : List (Nat × Obj)} {S : List Asn} {rest : List Oper} {ty : TypeId} {pos : String} {af : Array Edge}
/-- A store into a term of one's own. -/
theorem WL.storeO {ty0 : TypeId} {x y : Operand} {B b o c p : Nat} {d r : List LT} {t : LT} {v : Value} [q : Scl P ty0] (j : Nat) (t' : LT) (H : SH w0 F0 w X (oA B (nod (some ⟨b, o, none⟩) c (d ++ t :: r)) :: S)) (hF : ∀ z ∈ ft (nod (some ⟨b, o, none⟩) c (d ++ t :: r)), F0 z ∨ w0.heap.size ≤ z) (hd : ∀ A ∈ S, ∀ z, A.ft z → ¬ z ∈ ft (nod (some ⟨b, o, none⟩) c (d ++ t :: r)))
    (hx : evo E x = some (.pointer (some ⟨b, p, none⟩))) (hy : evo E y = some v) (hp : p = o + (d.length * 4 + j)) (hj : j < 4) (h1 : v.oneCell' = true) (hk : tcs t' = (tcs t).set j v) (hl : t'.l = t.l) (ha : t'.a = t.a) (hc : t'.c = t.c)
    (h : ∀ w', SH w0 F0 w' X (oA B (nod (some ⟨b, o, none⟩) c (d ++ t' :: r)) :: S) → w'.heap.size = w.heap.size → WL P ops N Q rest E w') : WL P ops N Q (⟨none, .store ty0 x y, ty, pos, af, none⟩ :: rest) E w := by
  have ho : Own B w (nod (some ⟨b, o, none⟩) c (d ++ t :: r)) := H.of (List.mem_cons_self ..)
  have hbm : b ∈ ft (nod (some ⟨b, o, none⟩) c (d ++ t :: r)) := by rw [ft_nd, ftL_ne _ (by simp)]; exact List.mem_cons_self ..
  obtain ⟨⟨cs⟩, T, hb⟩ := ho.free b hbm
  obtain ⟨b2, o2, cs2, T2, fz2, ha2, hb2, hv2⟩ := ho.ht.row (by simp)
  obtain ⟨rfl, rfl, _⟩ := Addr.mk.inj (Option.some.inj ha2)
  rw [hb] at hb2
  obtain ⟨rfl, rfl, rfl⟩ := Obj.cells.inj (Option.some.inj hb2)
  have hlt : d.length * 4 + j < (tcells (d ++ t :: r)).length := by rw [tcells_length]; simp; omega
  have hlen := hv2 (d.length * 4 + j) _ (List.getElem?_eq_getElem hlt)
  have hlen := (List.getElem?_eq_some_iff.1 (by simpa using hlen)).1
  obtain ⟨w', hr, c1, h2, hsz'⟩ := run_storeL (P := P) [v] w b p 0 cs T hb (by simp; omega) (by simpa using h1)
  have ho' := ho.put hj hk hl ha hc hb c1 (by rw [h2, Nat.add_zero, hp]; rfl)
  have hft : ft t' = ft t := by rw [ft_eq, ft_eq, hl, ha]
  refine WL.unit rfl rfl (w' := w') (fun a ha => ?_) (h w' (H.eff (A' := oA B _) (c1.mono fun i e => by subst e; exact hbm) ho' (fun z hz => .inl ?_) hF hd) hsz')
  · have hvc : v.cells = #[v] := by cases v <;> first | rfl | simp [Value.oneCell'] at h1
    simp [execOp, ha.eval hx, ha.eval hy, Instr.storeAt, Instr.sureAddr, storeVar, run_size q.ok.1, hvc, hr]
  · have : z ∈ ft (nod (some ⟨b, o, none⟩) c (d ++ t' :: r)) := hz
    rw [ft_nd, ftL_put _ hft, ← ft_nd] at this
    exact this
end
end Go.Proofs.Ytpfooiepmnaoaaa.E
