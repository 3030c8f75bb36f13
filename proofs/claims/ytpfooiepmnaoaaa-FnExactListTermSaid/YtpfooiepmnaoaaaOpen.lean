/- Arguments that a row hands over as data: slices, structs, trees of them, laid open as what the printed contracts read. -/
import Derived.Test.YtpfooiepmnaoaaaWAll
import Derived.ProofKit
import Derived.Deep.Slices
import Derived.SizedLaws
import Derived.ChangeArms
namespace Go.Proofs.Ytpfooiepmnaoaaa.Open
open Go.RowKit Go.Proofs.YtpfooiepmnaoaaaW.PrintWords Go.WideShapes Go.ChangeShapes
set_option linter.unusedVariables false
set_option linter.unusedSimpArgs false
section
variable {H : Type} {enc : TypeId × Value → H} {P : Program} {w : World}
/-- No weight of the datum is beyond the reach. -/
def Fit (P : Program) (t : TypeId) (d : DataW H) : Prop := ∀ n ∈ d.weights P t, n ≤ reachBytes
/-- What reads as data with this many steps is told by kind d, and B holds of it. -/
def OpnAt (enc : TypeId × Value → H) (P : Program) (w : World) (n : Nat) {α : Type} (d : Kd α) (t : TypeId) (B : α → Prop) : Prop :=
  ∀ (cs : List Value) (x : DataW H × List MemPlace), DataW.trod enc P w 0 (fun _ => true) true n t cs = some x → Fit P t x.1 → ∃ a, d.K w a cs ∧ B a
theorem opn_int {k : IntKind} {t : TypeId} (ht : P.underlying t = some (.int k)) (n : Nat) : OpnAt enc P w n (Kd.int k) t (fun a => (Lit.int k a).wf = true) := by
  intro cs x h _
  obtain ⟨a, rfl, rfl, hw⟩ := DataW.trod_int ht h
  exact ⟨a, rfl, hw⟩
theorem opn_bool {t : TypeId} (ht : P.underlying t = some .bool) (n : Nat) : OpnAt enc P w n Kd.bool t (fun _ => True) := by
  intro cs x h _
  obtain ⟨a, rfl, rfl⟩ := DataW.trod_bool ht h
  exact ⟨a, rfl, trivial⟩
theorem opn_str {t : TypeId} (ht : P.underlying t = some .string) (n : Nat) : OpnAt enc P w n Kd.string t (fun a => a.size ≤ 140737488351232) := by
  intro cs x h hf
  obtain ⟨s, rfl, rfl, hw⟩ := DataW.trod_string ht h
  refine ⟨s, rfl, ?_⟩
  have := hf s.data.toList.length (by simp [DataW.weights])
  rw [Array.length_toList] at this
  exact this
theorem fit_all {e : TypeId} : ∀ {ds : List (DataW H)} {d : DataW H}, d ∈ ds → ∀ n ∈ d.weights P e, n ∈ DataW.weightsAll P e ds
  | d0 :: ds, d, hd, n, hn => by
    simp only [DataW.weightsAll, List.mem_append]
    rcases List.mem_cons.1 hd with rfl | hd
    · exact .inl hn
    · exact .inr (fit_all hd n hn)
theorem cells_some {w : World} {a : Addr} {n : Nat} {cs : List Value} (h : w.cells? 0 a n = some cs) : cs.length = n ∧ ∀ i u, cs[i]? = some u → w.cell? (a.add i) = some u := by
  unfold World.cells? at h
  rw [if_pos (Nat.zero_le _)] at h
  have hl := mapM_some_length h
  rw [List.length_range] at hl
  refine ⟨hl, fun i u hu => ?_⟩
  have hi : i < n := by have := (List.getElem?_eq_some_iff.1 hu).1; omega
  have := mapM_some_get h i i (by rw [List.getElem?_range hi])
  rw [this, hu]
theorem add_add (a : Addr) (i j : Nat) : (a.add i).add j = a.add (i + j) := by
  unfold Addr.add
  by_cases hi : i = 0
  · subst hi
    simp
  · by_cases hj : j = 0
    · subst hj
      simp
    · simp [hi, hj, Nat.add_assoc]
theorem choose_list {α : Type} {Q : Nat → α → Prop} : ∀ (n : Nat), (∀ i, i < n → ∃ p, Q i p) → ∃ xs : List α, xs.length = n ∧ ∀ i p, xs[i]? = some p → Q i p
  | 0, _ => ⟨[], rfl, fun i p h => by simp at h⟩
  | n + 1, h => by
    obtain ⟨xs, hl, hx⟩ := choose_list n (fun i hi => h i (by omega))
    obtain ⟨p, hp⟩ := h n (by omega)
    refine ⟨xs ++ [p], by simp [hl], fun i q hq => ?_⟩
    rcases Nat.lt_trichotomy i n with hi | hi | hi
    · rw [List.getElem?_append_left (by omega)] at hq
      exact hx i q hq
    · subst hi
      rw [← hl, List.getElem?_concat_length] at hq
      injection hq with hq
      rw [← hq]; exact hp
    · rw [List.getElem?_eq_none (by simp; omega)] at hq
      cases hq
theorem opn_slice {α : Type} {d : Kd α} {t e : TypeId} {B : α → Prop} (e' : Nat) (ht : P.underlying t = some (.slice e)) (hc : P.cellsOf e = d.sz) {bytes : Nat} (hb : P.bytesOf e = bytes) (n : Nat) (he : ∀ m, m < n → OpnAt enc P w m d e B) :
    OpnAt enc P w n (Kd.slice e' d) t (fun xs => xs.length * bytes ≤ 140737488351232 ∧ ∀ x ∈ xs, B x) := by
  intro cs x h hf
  rcases DataW.trod_slice ht h with ⟨rfl, rfl⟩ | ⟨a, len, cap, elems, rest, m, hm, rfl, rfl, h0, hl, hmx, hlen, hel, _, _⟩
  · exact ⟨[], ⟨none, 0, rfl, Nat.le_refl _, rfl, by simp, fun h => by simp at h⟩, by simp, by simp⟩
  · have hw : (elems.length + rest.length) * bytes ≤ 140737488351232 := by
      have := hf ((elems.length + rest.length) * P.bytesOf e) (by simp [DataW.weights, ht])
      rw [hb] at this
      exact this
    have step : ∀ i : Nat, i < len → ∃ c : List Value, ∃ p : α, c.length = d.sz ∧ d.K w p c ∧ B p ∧ ∀ j u, c[j]? = some u → w.cell? (a.add (i * d.sz + j)) = some u := by
      intro i hi
      have h1 := hel i hi
      have h3 : elems[i]? = some (elems[i]'(by omega)) := List.getElem?_eq_getElem (by omega)
      rw [h3, Option.bind_eq_some_iff] at h1
      obtain ⟨c, hcs, hct⟩ := h1
      rw [hc] at hcs
      obtain ⟨hcl, hcc⟩ := cells_some hcs
      have hfe : Fit P e (elems[i]'(by omega)).1 := by
        intro q hq
        refine hf q ?_
        simp only [DataW.weights, ht]
        refine List.mem_cons_of_mem _ (List.mem_append_left _ (fit_all (List.mem_map_of_mem (List.getElem_mem (by omega))) q hq))
      obtain ⟨p, hp, hB⟩ := he m (by omega) c _ hct hfe
      exact ⟨c, p, hcl, hp, hB, fun j u hu => by rw [← add_add]; exact hcc j u hu⟩
    obtain ⟨xs, hxl, hx⟩ := choose_list (Q := fun i p => ∃ c : List Value, c.length = d.sz ∧ d.K w p c ∧ B p ∧ ∀ j u, c[j]? = some u → w.cell? (a.add (i * d.sz + j)) = some u) len (fun i hi => by
      obtain ⟨c, p, h⟩ := step i hi
      exact ⟨p, c, h⟩)
    have hmx' : len ≤ 9223372036854775807 := by unfold maxLen at hmx; omega
    refine ⟨xs, ⟨some a, cap, by rw [hxl], by rw [hxl]; exact hl, ⟨rfl, by rw [hxl]; exact hmx', fun _ => ⟨a, rfl, fun j p hj => ?_⟩⟩⟩, ?_, ?_⟩
    · obtain ⟨c, h1, h2, _, h4⟩ := hx j p hj
      exact ⟨c, h1, h2, h4⟩
    · rw [hxl, ← hlen]
      exact Nat.le_trans (Nat.mul_le_mul_right _ (Nat.le_add_right _ _)) hw
    · intro y hy
      obtain ⟨j, hj⟩ := List.getElem?_of_mem hy
      obtain ⟨c, _, _, h3, _⟩ := hx j y hj
      exact h3
/-- The fields from place o on. -/
def OpnF (enc : TypeId × Value → H) (P : Program) (w : World) (n : Nat) (fs : List Field) (o : Nat) {α : Type} (d : Kd α) (B : α → Prop) : Prop :=
  ∀ (cs : List Value) (xs : List (DataW H × List MemPlace)), (∀ (i : Nat) (f : Field), fs[i]? = some f → DataW.trod enc P w 0 (fun _ => true) true n f.type ((cs.drop f.offset).take (P.cellsOf f.type)) = xs[i]?) → xs.length = fs.length →
    (∀ q ∈ DataW.weightsEach P (fs.map (·.type)) (xs.map (·.1)), q ≤ reachBytes) → cs.length = o + d.sz → ∃ a, d.K w a (cs.drop o) ∧ B a
theorem opnF_one {α : Type} {d : Kd α} {B : α → Prop} {n o : Nat} {f : Field} (ho : f.offset = o) (hc : P.cellsOf f.type = d.sz) (h : OpnAt enc P w n d f.type B) : OpnF enc P w n [f] o d B := by
  intro cs xs hx hl hf hcs
  match xs, hl with
  | [x], _ =>
    have h1 := hx 0 f rfl
    rw [ho, hc, List.take_of_length_le (by rw [List.length_drop]; omega)] at h1
    exact h _ x h1 (fun q hq => hf q (by simp only [List.map_cons, List.map_nil, DataW.weightsEach, List.mem_append]; exact .inl hq))
theorem opnF_cons {α β : Type} {d : Kd α} {d2 : Kd β} {B : α → Prop} {B2 : β → Prop} {n o o2 : Nat} {f : Field} {fs : List Field} (ho : f.offset = o) (hc : P.cellsOf f.type = d.sz) (ho2 : o2 = o + d.sz) (h : OpnAt enc P w n d f.type B) (h2 : OpnF enc P w n fs o2 d2 B2) :
    OpnF enc P w n (f :: fs) o (Kd.pair d d2) (fun a => B a.1 ∧ B2 a.2) := by
  intro cs xs hx hl hf hcs
  match xs, hl with
  | x :: xs, hl =>
    have hz : cs.length = o + (d.sz + d2.sz) := hcs
    have h1 := hx 0 f rfl
    rw [ho, hc] at h1
    have hw1 : Fit P f.type x.1 := fun q hq => hf q (by simp only [List.map_cons, DataW.weightsEach, List.mem_append]; exact .inl hq)
    obtain ⟨a, hK, hB⟩ := h _ x h1 hw1
    obtain ⟨b, hK2, hB2⟩ := h2 cs xs (fun i g hg => hx (i + 1) g hg) (by simpa using hl) (fun q hq => hf q (by simp only [List.map_cons, DataW.weightsEach, List.mem_append]; exact .inr hq)) (by omega)
    subst ho2
    refine ⟨(a, b), ⟨_, _, ?_, hK, hK2⟩, hB, hB2⟩
    rw [← List.drop_drop, List.take_append_drop]
theorem opn_struct {α β : Type} {d : Kd α} {B : α → Prop} {t : TypeId} {fs : Array Field} (f : β → α) (g : α → β) (hg : ∀ a, f (g a) = a) (ht : P.underlying t = some (.struct fs)) (hc : P.cellsOf t = d.sz) (n : Nat) (h : ∀ m, m < n → OpnF enc P w m fs.toList 0 d B) :
    OpnAt enc P w n (Kd.iso d f) t (fun s => B (f s)) := by
  intro cs x hx hf
  obtain ⟨xs, m, rfl, rfl, hcl, hxl, hi⟩ := DataW.trod_struct ht hx
  obtain ⟨a, hK, hB⟩ := h m (by omega) cs xs (fun i g hg => hi i g (by simpa using hg)) (by simpa using hxl) (fun q hq => hf q (by simp only [DataW.weights, ht]; exact hq)) (by omega)
  refine ⟨g a, ?_, by show B (f (g a)); rw [hg]; exact hB⟩
  show d.K w (f (g a)) cs
  rw [hg]
  simpa using hK
end
end Go.Proofs.Ytpfooiepmnaoaaa.Open
