/- The laws' helpers: weights of what came in, equality of lists of terms. -/
import Derived.Test.YtpfooiepmnaoaaaEngL
import Derived.Test.YtpfooiepmnaoaaaTermS
import Derived.Test.YtpfooiepmnaoaaaX15
import Derived.Test.YtpfooiepmnaoaaaX19
namespace Go.Proofs.Ytpfooiepmnaoaaa.E
open Go Go.RowKit Go.Proofs.Ytpfooiepmnaoaaa.X Go.Proofs.YtpfooiepmnaoaaaW.PrintWords Go.Proofs.Ytpfooiepmnaoaaa.Base
set_option linter.unusedVariables false
set_option linter.unusedSimpArgs false
theorem HT.CL {w : World} {t : LT} (h : HT w t) : ∀ x : LTm, er t = conv x → B44 x → Kd.C k44 w t.a x.f3.length x.f3 := by
  induction h with
  | mk t hc hr hk ih =>
    intro x hx hb
    have hb3 := hb.b3
    rw [er_eq, conv_eq] at hx
    have hl : t.l.map er = x.f3.map conv := (S47.mk.inj hx).2.2.2
    have hlen : t.l.length = x.f3.length := by simpa using congrArg List.length hl
    refine ⟨rfl, by omega, fun h0 => ?_⟩
    have hne : t.l ≠ [] := by intro e; rw [e] at hlen; simp at hlen; omega
    obtain ⟨b, o, cs, T, fz, ha, hh, hv⟩ := hr hne
    refine ⟨⟨b, o, none⟩, ha, fun j p hj => ?_⟩
    obtain ⟨hj1, hj2⟩ := List.getElem?_eq_some_iff.1 hj
    have hjl : j < t.l.length := by omega
    subst hj2
    have hm := List.getElem_mem hjl
    have hej : er t.l[j] = conv x.f3[j] := by
      have := congrArg (fun l => l[j]?) hl
      simpa [List.getElem?_eq_getElem hjl, List.getElem?_eq_getElem hj1] using this
    have hg := ih _ hm _ hej (hb3.2 _ (List.getElem_mem hj1))
    have hej' := hej
    rw [er_eq, conv_eq] at hej'
    obtain ⟨e0, e1, e2, e3⟩ := S47.mk.inj hej'
    have elen : t.l[j].l.length = x.f3[j].f3.length := by simpa using congrArg List.length e3
    refine ⟨tcs t.l[j], rfl, ?_, fun i u hu => ?_⟩
    · have hm := k44_mk w x.f3[j] (A3 := t.l[j].a) (c3 := t.l[j].c) (by have := (hk _ hm).cap; omega) hg
      have e : tcs t.l[j] = [.int .i64 x.f3[j].f0, .int .i64 x.f3[j].f1, .string x.f3[j].f2, .slice t.l[j].a x.f3[j].f3.length t.l[j].c] := by rw [← e0, ← e1, ← e2, ← elen]
      rw [e]
      exact hm
    · rw [adr_add]
      have hi : i < 4 := by have := (List.getElem?_eq_some_iff.1 hu).1; simpa using this
      have h2 := hv (j * 4 + i) u (by rw [tcells_get t.l j i hjl hi]; exact hu)
      show w.cell? ⟨b, o + (j * 4 + i), none⟩ = some u
      simp [World.cell?, hh, h2]
theorem Sm.lens : ∀ (t : LT), Sm (er t) → Len t := by
  intro t
  induction t using indT with
  | h t ih =>
    intro h
    refine ⟨t, ?_, fun y hy => ih y hy (h.sub _ ?_)⟩
    · have := h.len; rw [er_eq] at this; simpa using this
    · rw [er_eq]; exact List.mem_map_of_mem hy
theorem SmL.lens {a : Option Addr} {c : Nat} {l : List LT} (h : SmL l) : Len (nod a c l) := ⟨_, h.1, fun y hy => Sm.lens y (h.2 y hy)⟩
theorem szTermS_ev2 (l : List LTm) (hl : l.length ≤ 140737488351232) (hb : ∀ y ∈ l, B44 y) (left : Int) (g0 : 0 ≤ left) (g1 : left ≤ 1048576) : ∃ r : Int, Ev (fun k => laws_szTermS.f k l left) r ∧ r ≤ left ∧ (0 ≤ r → (wtL l : Int) ≤ left - r) := by
  have loop : ∀ (d i : Nat) (lf : Int), l.length - i = d → i ≤ l.length → 0 ≤ lf → lf ≤ left → ∃ r : Int, Ev (fun k => laws_szTermS.l0 k l lf (i : Int)) r ∧ r ≤ lf ∧ (0 ≤ r → (wtR (l.drop i) : Int) ≤ lf - r) := by
    intro d
    induction d with
    | zero => intro i lf hi hl' h0 h1; exact ⟨lf, Ev.step (f := fun _ => some lf) (fun k => by rw [laws_szTermS.l0, if_neg (by omega)]) (Ev.now _), by omega, fun _ => by
        rw [List.drop_of_length_le (by omega)]; show ((0 : Nat) : Int) ≤ _; omega⟩
    | succ d ihd =>
      intro i lf hi hl' h0 h1
      have hs := szTerm_ev (hb l[i] (List.getElem_mem _)) lf h0 (by omega)
      by_cases c : (wt l[i] : Int) ≤ lf
      · rw [if_pos c] at hs
        obtain ⟨r, hr, hr1, hr2⟩ := ihd (i + 1) (lf - wt l[i]) (by omega) (by omega) (by omega) (by omega)
        refine ⟨r, Ev.step (fun k => by rw [laws_szTermS.l0, if_pos (by omega), if_pos (by omega), rdL_at l i (by omega), w64s (by omega)]) ?_, by omega, fun h => ?_⟩
        · exact Ev.bind hs (Ev.neg (by omega) hr)
        · have := hr2 h
          rw [wtR_drop l i (by omega)]
          omega
      · rw [if_neg c] at hs
        refine ⟨-1, Ev.step (fun k => by rw [laws_szTermS.l0, if_pos (by omega), if_pos (by omega), rdL_at l i (by omega)]) ?_, by omega, fun h => by omega⟩
        exact Ev.bind hs (Ev.pos (by omega) (Ev.now _))
  have hw : wrap64 (left - (l.length : Int)) = left - (l.length : Int) := w64 (by omega) (by omega)
  by_cases c : left - (l.length : Int) < 0
  · exact ⟨-1, Ev.step (f := fun _ => some (-1)) (fun k => by rw [laws_szTermS.f, hw, if_pos c]) (Ev.now _), by omega, fun h => by omega⟩
  · obtain ⟨r, hr, hr1, hr2⟩ := loop l.length 0 (left - (l.length : Int)) (by omega) (by omega) (by omega) (by omega)
    refine ⟨r, Ev.step (fun k => by rw [laws_szTermS.f, hw, if_neg c]; rfl) hr, by omega, fun h => ?_⟩
    have := hr2 h
    rw [List.drop_zero] at this
    rw [wtL_eq]
    omega
theorem wtL_mem : ∀ {l : List LTm} {y : LTm}, y ∈ l → wt y ≤ wtL l
  | x :: r, y, h => by
    rw [wtL]
    rcases List.mem_cons.1 h with rfl | h
    · omega
    · have := wtL_mem h; omega
theorem wtL_len : ∀ l : List LTm, l.length ≤ wtL l
  | [] => by simp
  | x :: r => by have := wtL_len r; rw [wtL, List.length_cons]; omega
theorem laws_szTermS_fn (a : Option Addr) (c : Nat) (l : List LT) (xs : List LTm) (left : Int) (w : World) (ht : HT w (nod a c l)) (hx : l.map er = xs.map conv) (hB : xs.length * 56 ≤ 140737488351232) (hb : ∀ y ∈ xs, B44 y) (h0 : 0 ≤ left) (h1 : left ≤ 1048576) :
    Fn Try.prog 15 [sl a l.length c, .int .i64 left] w fun u w' => ∃ r : Int, u = .int .i64 r ∧ r ≤ left ∧ (0 ≤ r → SmL l ∧ (wtL xs : Int) ≤ left - r) ∧ Chg noF w w' := by
  have hlen : l.length = xs.length := by simpa using congrArg List.length hx
  obtain ⟨r, hr, hr1, hr2⟩ := szTermS_ev2 xs (by omega) hb left h0 h1
  obtain ⟨k, hk⟩ := hr.rounds
  have hC : Kd.C k44 w a xs.length xs := ht.CL ⟨0, 0, ⟨#[]⟩, xs⟩ (by rw [er_eq, conv_eq, hx]) (.mk _ rfl rfl (by show (0 : Nat) ≤ _; omega) hB hb)
  rw [hlen]
  refine (Fn.of ⟨_, Try.func15, rfl, rfl⟩ (laws_szTermS.calls k _ _ _ _ _ w hC (by have h : l.length ≤ c := ht.cap; omega) hk)).mono fun u w' ⟨g1, g2⟩ => ⟨r, g1, hr1, fun h => ?_, .ofB g2⟩
  have p1 := hr2 h
  have p2 := wtL_len xs
  refine ⟨⟨by omega, fun t h => ?_⟩, p1⟩
  have : er t ∈ xs.map conv := by rw [← hx]; exact List.mem_map_of_mem h
  obtain ⟨y, hy, e⟩ := List.mem_map.1 this
  rw [← e]; exact Sm_conv y (by have := wtL_mem hy; omega)
theorem Sm.lg : ∀ {t : ITm}, Sm t → Lg t := by
  intro t h
  induction h with
  | mk t h1 h2 h3 ih => exact .mk t (by omega) ih
theorem laws_eqTermS_fn (a a2 : Option Addr) (c c2 : Nat) (l l2 : List LT) (w : World) (ht : HT w (nod a c l)) (ht2 : HT w (nod a2 c2 l2)) (he : l.map er = l2.map er) (hs : SmL l) :
    Fn Try.prog 19 [sl a l.length c, sl a2 l2.length c2] w fun u w' => u = .bool true ∧ Chg noF w w' := by
  have hlen : l.length = l2.length := by simpa using congrArg List.length he
  have hs2 : SmL l2 := ⟨by rw [← hlen]; exact hs.1, fun t h => by
    have : er t ∈ l.map er := by rw [he]; exact List.mem_map_of_mem h
    obtain ⟨y, hy, e⟩ := List.mem_map.1 this
    rw [← e]; exact hs.2 y hy⟩
  have h1 := ht.C hs.node
  have h2 := ht2.C hs2.node
  rw [er_mk] at h1 h2
  simp only at h1 h2
  rw [← he] at h2
  obtain ⟨k, hk⟩ := (eqTermS_refl (l := l.map er) (by simpa using hs.1) (fun y hy => by obtain ⟨t, ht, rfl⟩ := List.mem_map.1 hy; exact Sm.lg (hs.2 t ht))).rounds
  have := laws_eqTermS.calls k a c (l.map er) a2 c2 (l.map er) true w h1 (by simpa using ht.cap) h2 (by have h : l2.length ≤ c2 := ht2.cap; simp; omega) hk
  simp only [List.length_map] at this
  rw [← hlen]
  exact (Fn.of ⟨_, Try.func19, rfl, rfl⟩ this).mono fun u w' ⟨g1, g2⟩ => ⟨g1, .ofB g2⟩
theorem laws_szTerm_fn (t : LT) (x : LTm) (left : Int) (w : World) (ht : HT w t) (hx : er t = conv x) (hb : B44 x) (h0 : 0 ≤ left) (h1 : left ≤ 1048576) :
    Fn Try.prog 33 [tv t, .int .i64 left] w fun u w' => ∃ r : Int, u = .int .i64 r ∧ r ≤ left ∧ (0 ≤ r → Sm (er t) ∧ (wt x : Int) ≤ left - r) ∧ Chg noF w w' := by
  obtain ⟨k, hk⟩ := (szTerm_ev hb left h0 h1).rounds
  have hC := ht.CL x hx hb
  have hcap := ht.cap
  rw [er_eq, conv_eq] at hx
  obtain ⟨e0, e1, e2, e3⟩ := S47.mk.inj hx
  have elen : t.l.length = x.f3.length := by simpa using congrArg List.length e3
  have hh := laws_szTerm.calls k x.f0 x.f1 x.f2 t.a t.c x.f3 left _ w hC (by omega) hk
  have ev : tv t = .agg #[.int .i64 x.f0, .int .i64 x.f1, .string x.f2, .slice t.a x.f3.length t.c] := by rw [← e0, ← e1, ← e2, ← elen]
  rw [ev]
  refine (Fn.of ⟨_, Try.func33, rfl, rfl⟩ hh).mono fun u w' ⟨g1, g2⟩ => ⟨_, g1, by split <;> omega, fun h => ?_, .ofB g2⟩
  split at h
  · rename_i hw
    rw [if_pos hw]
    exact ⟨by rw [er_eq, e0, e1, e2, e3, ← conv_eq]; exact Sm_conv x (by omega), by omega⟩
  · omega
theorem laws_eqTerm_fn (t t2 : LT) (w : World) (ht : HT w t) (ht2 : HT w t2) (he : er t = er t2) (hs : Sm (er t)) :
    Fn Try.prog 37 [tv t, tv t2] w fun u w' => u = .bool true ∧ Chg noF w w' := by
  obtain ⟨k, hk⟩ := (eqTerm_refl (Sm.lg hs)).rounds
  have h1 := ht.C hs
  have h2 := ht2.C (he ▸ hs)
  rw [← he] at h2
  have c2 := ht2.capE
  rw [← he] at c2
  rw [tv_er t, tv_er t2, ← he]
  exact (Fn.of ⟨_, Try.func37, rfl, rfl⟩ (laws_eqTerm.calls k _ _ _ _ _ _ _ _ _ _ _ _ _ w h1 ht.capE h2 c2 hk)).mono fun u w' ⟨g1, g2⟩ => ⟨g1, .ofB g2⟩
theorem SmL.by_map {l l2 : List LT} (h : SmL l) (he : l2.map er = l.map er) : SmL l2 := ⟨by have := congrArg List.length he; simp at this; rw [this]; exact h.1, fun t ht => by
  have : er t ∈ l.map er := by rw [← he]; exact List.mem_map_of_mem ht
  obtain ⟨y, hy, e⟩ := List.mem_map.1 this
  rw [← e]; exact h.2 y hy⟩
theorem locatedS {w : World} {A : Option Addr} {c : Nat} {xs : List LTm} (hc : xs.length ≤ c) (h : Kd.C k44 w A xs.length xs) : ∃ l : List LT, l.length = xs.length ∧ l.map er = xs.map conv ∧ HT w (nod A c l) := by
  obtain ⟨t, h1, h2, h3, h4, h5, h6, h7, h8⟩ := located (w := w) ⟨0, 0, ⟨#[]⟩, xs⟩ A c hc h
  obtain ⟨k, i, s, a, c', l⟩ := t
  simp only at h1 h2 h3 h4 h5 h6
  subst h4 h5
  refine ⟨l, h6, ?_, h8.nod⟩
  rw [er_mk, conv_eq] at h7
  exact (S47.mk.inj h7).2.2.2
end Go.Proofs.Ytpfooiepmnaoaaa.E
