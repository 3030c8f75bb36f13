/- Lists of terms made anew; the laws' copies of what came in. -/
import Derived.Test.YtpfooiepmnaoaaaEngX
namespace Go.Proofs.Ytpfooiepmnaoaaa.E
open Go Go.RowKit Go.Proofs.Ytpfooiepmnaoaaa.X
set_option linter.unusedVariables false
set_option linter.unusedSimpArgs false
theorem ftR_snoc (ts : List LT) (t : LT) : ftR (ts ++ [t]) = ftR ts ++ ft t := by
  rw [ftR_flat, ftR_flat, List.flatMap_append]; simp
theorem mem_ftR {ts : List LT} {b : Nat} : b ∈ ftR ts ↔ ∃ t ∈ ts, b ∈ ft t := by rw [ftR_flat]; simp
/-- Terms made anew, each in blocks of its own. -/
structure OwnL (B : Nat) (w : World) (ts : List LT) : Prop where
  ht : ∀ t ∈ ts, HT w t
  nd : (ftR ts).Nodup
  new : ∀ b ∈ ftR ts, B ≤ b
  free : ∀ b ∈ ftR ts, ∃ cs T, w.heap[b]? = some (.cells cs T (0, 0))
theorem OwnL.lt {B : Nat} {w : World} {ts : List LT} (h : OwnL B w ts) : ∀ b ∈ ftR ts, b < w.heap.size := fun b hb => by
  obtain ⟨t, ht, hb⟩ := mem_ftR.1 hb
  exact (h.ht t ht).lt b hb
theorem OwnL.fr {B : Nat} {w w' : World} {ts : List LT} (h : OwnL B w ts) (k : ∀ b ∈ ftR ts, w'.heap[b]? = w.heap[b]?) : OwnL B w' ts :=
  ⟨fun t ht => (h.ht t ht).fr fun b hb => k b (mem_ftR.2 ⟨t, ht, hb⟩), h.nd, h.new, fun b hb => by rw [k b hb]; exact h.free b hb⟩
theorem OwnL.nil (B : Nat) (w : World) : OwnL B w [] := ⟨(by intro t h; cases h), (by rw [ftR]; exact List.nodup_nil), (by rw [ftR]; intro b h; cases h), (by rw [ftR]; intro b h; cases h)⟩
theorem OwnL.snoc {B : Nat} {w : World} {ts : List LT} {t : LT} (h : OwnL B w ts) (k : Own B w t) (hd : ∀ z ∈ ft t, z ∉ ftR ts) : OwnL B w (ts ++ [t]) := by
  refine ⟨fun u hu => ?_, ?_, ?_, ?_⟩
  · rcases List.mem_append.1 hu with hu | hu
    · exact h.ht u hu
    · rw [List.mem_singleton.1 hu]; exact k.ht
  · rw [ftR_snoc, List.nodup_append]
    exact ⟨h.nd, k.nd, fun a ha b hb e => hd b hb (e ▸ ha)⟩
  · rw [ftR_snoc]; intro b hb
    rcases List.mem_append.1 hb with hb | hb
    · exact h.new b hb
    · exact k.new b hb
  · rw [ftR_snoc]; intro b hb
    rcases List.mem_append.1 hb with hb | hb
    · exact h.free b hb
    · exact k.free b hb
theorem OwnL.mono {B B' : Nat} {w : World} {ts : List LT} (h : OwnL B w ts) (k : B' ≤ B) : OwnL B' w ts := ⟨h.ht, h.nd, fun b hb => Nat.le_trans k (h.new b hb), h.free⟩
def oL (B : Nat) (ts : List LT) : Asn where
  ft b := b ∈ ftR ts
  hold w := OwnL B w ts
  fr _ _ h hh := hh.fr h
  lt _ h := h.lt
theorem HT.rowOf {w : World} {b c T : Nat} {fz : Nat × Nat} {ts : List LT} {pad : List Value} (hb : w.heap[b]? = some (.cells (tcells ts ++ pad).toArray T fz)) (hc : ts.length ≤ c) (h : ∀ t ∈ ts, HT w t) : HT w (nod (some ⟨b, 0, none⟩) c ts) :=
  .mk _ hc (fun _ => ⟨b, 0, _, T, fz, rfl, hb, fun j v hj => by
    rw [Nat.zero_add, List.getElem?_toArray, List.getElem?_append_left (List.getElem?_eq_some_iff.1 hj).1]; exact hj⟩) h
theorem ft_nd (a : Option Addr) (c : Nat) (l : List LT) : ft (nod a c l) = ftL a l := ft_eq _
theorem Own.row {B : Nat} {w : World} {b c T : Nat} {ts : List LT} {pad : List Value} (hb : w.heap[b]? = some (.cells (tcells ts ++ pad).toArray T (0, 0))) (hB : B ≤ b) (hc : ts.length ≤ c) (h : OwnL B w ts) (hn : b ∉ ftR ts) : Own B w (nod (some ⟨b, 0, none⟩) c ts) := by
  by_cases he : ts = []
  · subst he
    exact ⟨.leaf rfl, by rw [ft_leaf rfl]; exact List.nodup_nil, (by rw [ft_leaf rfl]; intro b hb; cases hb), (by rw [ft_leaf rfl]; intro b hb; cases hb)⟩
  · have e : ft (nod (some ⟨b, 0, none⟩) c ts) = b :: ftR ts := by rw [ft_nd, ftL_ne _ he]; rfl
    refine ⟨.rowOf hb hc h.ht, ?_, ?_, ?_⟩
    · rw [e, List.nodup_cons]; exact ⟨hn, h.nd⟩
    · rw [e]; intro z hz
      rcases List.mem_cons.1 hz with rfl | hz
      · exact hB
      · exact h.new z hz
    · rw [e]; intro z hz
      rcases List.mem_cons.1 hz with rfl | hz
      · exact ⟨_, _, hb⟩
      · exact h.free z hz
/-- One more term, made by a call, joins a list of such. -/
theorem SH.joinL {w0 w : World} {F0 : Nat → Prop} {X : List (Nat × Obj)} {S : List Asn} (H : SH w0 F0 w X S) {B B' : Nat} {ts : List LT} {t : LT} (h1 : oA B' t ∈ S) (h2 : oL B ts ∈ S) (hB : B ≤ B') (hd : ∀ z ∈ ft t, z ∉ ftR ts) : SH w0 F0 w X (oL B (ts ++ [t]) :: S) := by
  refine H.add _ (OwnL.snoc (H.of h2) ((H.own B' t h1).mono hB) hd) (fun p hp hf => ?_)
  have hf' : p.1 ∈ ftR (ts ++ [t]) := hf
  rw [ftR_snoc] at hf'
  rcases List.mem_append.1 hf' with h | h
  · exact H.sep _ h2 p hp h
  · exact H.sep _ h1 p hp h
theorem setC_app (V : List Value) : ∀ (A Z R : List Value), Z.length = V.length → setC (A ++ Z ++ R) A.length V = A ++ V ++ R := by
  induction V with
  | nil => intro A Z R h; rw [List.eq_nil_of_length_eq_zero h]; rfl
  | cons v r ih =>
    intro A Z R h
    match Z, h with
    | z :: Z', h =>
    rw [setC, List.append_assoc, List.set_append_right _ _ (Nat.le_refl _), Nat.sub_self]
    simp only [List.cons_append, List.set_cons_zero]
    have := ih (A ++ [v]) Z' R (by simpa using h)
    simp only [List.length_append, List.length_singleton, List.append_assoc, List.cons_append, List.nil_append] at this ⊢
    exact this
abbrev zt : List Value := [.int .i64 0, .int .i64 0, .string ⟨#[]⟩, .slice none 0 0]
theorem setC_row (ts : List LT) (t : LT) (n : Nat) : setC (tcells ts ++ (List.replicate (n + 1) zt).flatten) (ts.length * 4) (tcs t) = tcells (ts ++ [t]) ++ (List.replicate n zt).flatten := by
  have h := setC_app (tcs t) (tcells ts) zt (List.replicate n zt).flatten rfl
  rw [tcells_length] at h
  rw [List.replicate_succ, List.flatten_cons, ← List.append_assoc, h]
  simp [tcells, List.flatMap_append]
/-- A copy of a term, as the law makes it. -/
def CpT (t : LT) (w : World) (u : Value) (w' : World) : Prop := ∃ t', u = tv t' ∧ er t' = er t ∧ Own w.heap.size w' t' ∧ Chg noF w w'
def CpS (l : List LT) (w : World) (u : Value) (w' : World) : Prop := ∃ b ts, u = .slice (some ⟨b, 0, none⟩) ts.length ts.length ∧ ts.length = l.length ∧ ts.map er = l.map er ∧ Own w.heap.size w' (nod (some ⟨b, 0, none⟩) ts.length ts) ∧ Chg noF w w' ∧ w.heap.size ≤ b
set_option maxRecDepth 100000 in
set_option maxHeartbeats 4000000 in
theorem laws_toTermS_of (a : Option Addr) (c : Nat) (l : List LT) (w0 : World) (ht : HT w0 (nod a c l)) (hs : l.length ≤ 1048576) (ih : ∀ y ∈ l, ∀ w, HT w y → Fn Try.prog 35 [tv y] w (CpT y w)) : Fn Try.prog 17 [sl a l.length c] w0 (CpS l w0) := by
  refine Fn.body (N := 23) Try.func17 rfl rfl rfl rfl rfl ?_
  have H : SH w0 noF w0 [] [tA (nod a c l)] := SH.start _ _ _ (by simpa [tA] using ht)
  repeat' (first
    | (with_reducible refine WC.seq ?_)
    | (with_reducible refine WC.reg ?_)
    | (with_reducible refine WC.block ?_)
    | (with_reducible refine WC.skip ?_)
    | (with_reducible refine WC.ret ?_)
    | (with_reducible refine WC.exit ?_)
    | ((with_reducible refine is_cond ?_); first | refine WC.ctrue rfl ?_ | refine WC.cfalse rfl ?_ | (refine WC.cbool rfl ?_ ?_ <;> intro hcnd))
    | (with_reducible refine WL.nilK ?_)
    | (with_reducible refine WL.nil ?_)
    | (with_reducible refine AtQ.then_norm ?_)
    | (with_reducible refine AtQ.then_ret ?_)
    | (with_reducible refine AtQ.then_exit ?_)
    | (with_reducible refine AtQ.block_ret ?_)
    | (with_reducible refine AtQ.block_norm ?_)
    | (with_reducible refine AtQ.block_here ?_)
    | (with_reducible refine AtQ.loop_ret ?_)
    | (with_reducible refine AtQ.loop_exit ?_)
    | (with_reducible refine AtQ.out_ret ?_)
    | (with_reducible refine AtQ.out_exit ?_)
    | ((with_reducible refine AtQ.block_other ?_ ?_); · exact rfl)
    | ((with_reducible refine is_mksl ?_); refine WL.mksl H rfl rfl rfl (by omega) (by omega) (by decide) ?_; intro b w H hb _ _)
    | ((with_reducible refine is_move ?_); first | refine WL.y H (Y.move rfl) (by decide) ?_)
    | ((with_reducible refine is_assign ?_); first | refine WL.y H (Y.assign rfl) (by decide) ?_)
    | ((with_reducible refine is_load ?_); first | refine WL.y H (Y.loadX rfl (by repeat' (first | exact List.mem_cons_self .. | apply List.mem_cons_of_mem)) rfl) (by decide) ?_ | refine WL.y H (Y.loadXN rfl (by repeat' (first | exact List.mem_cons_self .. | apply List.mem_cons_of_mem)) rfl rfl) (by decide) ?_)
    | ((with_reducible refine is_idx ?_); first | refine WL.y H (Y.idx rfl rfl (by first | omega | (simp only [List.length_cons, List.length_nil]; done) | (simp only [List.length_cons, List.length_nil]; omega)) (by first | omega | (simp only [List.length_cons, List.length_nil]; done) | (simp only [List.length_cons, List.length_nil]; omega))) (by decide) ?_)
    | ((with_reducible refine is_len ?_); first | refine WL.y H (Y.lenS rfl) (by decide) ?_)
    | ((with_reducible refine is_add ?_); first | refine WL.y H (Y.add rfl rfl (by first | omega | (simp only [List.length_cons, List.length_nil]; done) | (simp only [List.length_cons, List.length_nil]; omega)) (by first | omega | (simp only [List.length_cons, List.length_nil]; done) | (simp only [List.length_cons, List.length_nil]; omega))) (by decide) ?_)
    | ((with_reducible refine is_lss ?_); first | refine WL.y H ((Y.lss rfl rfl).boolT (by first | omega | (simp only [List.length_cons, List.length_nil]; done) | (simp only [List.length_cons, List.length_nil]; omega))) (by decide) ?_ | refine WL.y H ((Y.lss rfl rfl).boolF (by first | omega | (simp only [List.length_cons, List.length_nil]; done) | (simp only [List.length_cons, List.length_nil]; omega))) (by decide) ?_ | (refine WL.cmp H (Y.lss rfl rfl) (by decide) ?_ ?_ <;> intro hcmp))
    | ((with_reducible refine is_store ?_); first | (refine WL.store1 H rfl rfl rfl (by repeat' (first | exact Upd.here .. | apply Upd.there)) rfl ?_; intro w H _) | (refine WL.storeN H rfl rfl rfl rfl (by repeat' (first | exact Upd.here .. | apply Upd.there)) rfl ?_; intro w H _)))
  have H := H.add (oL w0.heap.size []) (OwnL.nil _ _) (fun p _ h => by have h' : p.1 ∈ ftR [] := h; rw [ftR] at h'; cases h')
  refine WC.loop (σ := List LT) (fun ts => [(0, sl a l.length c), (3, .slice (some ⟨b, 0, none⟩) l.length l.length), (4, .int .i64 (ts.length : Nat))])
    (fun ts w' => ts.length ≤ l.length ∧ ts.map er = (l.take ts.length).map er ∧ w.heap.size ≤ w'.heap.size ∧ SH w0 noF w' [(b, .cells (tcells ts ++ (List.replicate (l.length - ts.length) zt).flatten).toArray 47 (0, 0))] [oL w0.heap.size ts, tA (nod a c l)])
    (fun ts => l.length - ts.length) [] (by repeat' (first | exact Sub.nil | refine Sub.cons rfl ?_)) ⟨Nat.zero_le _, rfl, Nat.le_refl _, H⟩ (fun ts w1 hinv => ?_)
  obtain ⟨hk, hmap, hwsz, H⟩ := hinv
  by_cases hlt : ts.length < l.length
  · obtain ⟨tb, tto, cs, T, fz, ha, _, _⟩ := (H.ht (nod a c l) (by repeat' (first | exact List.mem_cons_self .. | apply List.mem_cons_of_mem))).row (by intro e; rw [show (nod a c l).l = l from rfl] at e; rw [e] at hlt; simp at hlt)
    simp only at ha
    subst ha
    have hrow := setC_row ts
    have hlen1 : (tcells ts ++ (List.replicate (l.length - ts.length) zt).flatten).length = l.length * 4 := by
      rw [List.length_append, tcells_length]; simp; omega
    obtain ⟨n, hn⟩ : ∃ n, l.length - ts.length = n + 1 := ⟨l.length - ts.length - 1, by omega⟩
    have w := w1
    repeat' (first
      | (with_reducible refine WC.seq ?_)
      | (with_reducible refine WC.reg ?_)
      | (with_reducible refine WC.block ?_)
      | (with_reducible refine WC.skip ?_)
      | (with_reducible refine WC.ret ?_)
      | (with_reducible refine WC.exit ?_)
      | ((with_reducible refine is_cond ?_); first | refine WC.ctrue rfl ?_ | refine WC.cfalse rfl ?_ | (refine WC.cbool rfl ?_ ?_ <;> intro hcnd))
      | (with_reducible refine WL.nilK ?_)
      | (with_reducible refine WL.nil ?_)
      | (with_reducible refine AtQ.then_norm ?_)
      | (with_reducible refine AtQ.then_ret ?_)
      | (with_reducible refine AtQ.then_exit ?_)
      | (with_reducible refine AtQ.block_ret ?_)
      | (with_reducible refine AtQ.block_norm ?_)
      | (with_reducible refine AtQ.block_here ?_)
      | (with_reducible refine AtQ.loop_ret ?_)
      | (with_reducible refine AtQ.loop_exit ?_)
      | (with_reducible refine AtQ.out_ret ?_)
      | (with_reducible refine AtQ.out_exit ?_)
      | ((with_reducible refine AtQ.block_other ?_ ?_); · exact rfl)
      | ((with_reducible refine is_call ?_); have hs0 := H.chg.size; refine WL.call (vs := [tv l[ts.length]]) rfl (ih l[ts.length] (List.getElem_mem hlt) _ ((H.ht (nod _ c l) (by repeat' (first | exact List.mem_cons_self .. | apply List.mem_cons_of_mem))).kid _ (List.getElem_mem hlt))) (by decide) ?_; intro v w hv2; obtain ⟨t1, e1, he1, ho1, hc1⟩ := hv2; subst e1; have hlo := ho1.new; have hhi : ∀ z ∈ ftR ts, z < _ := (H.of (A := oL w0.heap.size ts) (by repeat' (first | exact List.mem_cons_self .. | apply List.mem_cons_of_mem)) : OwnL _ _ ts).lt; have hs1 := hc1.size; have H := H.made hc1 (oA _ t1) ho1 hlo; have H := H.joinL (t := t1) (ts := ts) (by repeat' (first | exact List.mem_cons_self .. | apply List.mem_cons_of_mem)) (by repeat' (first | exact List.mem_cons_self .. | apply List.mem_cons_of_mem)) hs0 (fun z hz h => by have := hlo z hz; have := hhi z h; omega))
      | ((with_reducible refine is_store ?_); refine WL.storeN (vs := tcs t1) H rfl rfl rfl rfl (by repeat' (first | exact Upd.here .. | apply Upd.there)) (Nat.ble_eq_true_of_le (by rw [hlen1]; simp only [Int.toNat_natCast]; omega)) ?_; intro w H hst)
      | ((with_reducible refine is_move ?_); first | refine WL.y H (Y.move rfl) (by decide) ?_)
      | ((with_reducible refine is_assign ?_); first | refine WL.y H (Y.assign rfl) (by decide) ?_)
      | ((with_reducible refine is_load ?_); first | refine WL.y H (Y.loadX rfl (by repeat' (first | exact List.mem_cons_self .. | apply List.mem_cons_of_mem)) rfl) (by decide) ?_ | refine WL.y H (Y.loadXN rfl (by repeat' (first | exact List.mem_cons_self .. | apply List.mem_cons_of_mem)) rfl rfl) (by decide) ?_ | refine WL.y H (Y.loadSN (vs := tcs l[ts.length]) rfl (by repeat' (first | exact List.mem_cons_self .. | apply List.mem_cons_of_mem)) (tA_readsK (i := ts.length) l[ts.length] rfl (List.getElem?_eq_getElem hlt)) rfl) (by decide) ?_)
      | ((with_reducible refine is_idx ?_); first | refine WL.y H (Y.idx rfl rfl (by first | omega | (simp only [List.length_cons, List.length_nil]; done) | (simp only [List.length_cons, List.length_nil]; omega)) (by first | omega | (simp only [List.length_cons, List.length_nil]; done) | (simp only [List.length_cons, List.length_nil]; omega))) (by decide) ?_)
      | ((with_reducible refine is_len ?_); first | refine WL.y H (Y.lenS rfl) (by decide) ?_)
      | ((with_reducible refine is_add ?_); first | refine WL.y H (Y.add rfl rfl (by first | omega | (simp only [List.length_cons, List.length_nil]; done) | (simp only [List.length_cons, List.length_nil]; omega)) (by first | omega | (simp only [List.length_cons, List.length_nil]; done) | (simp only [List.length_cons, List.length_nil]; omega))) (by decide) ?_)
      | ((with_reducible refine is_lss ?_); first | refine WL.y H ((Y.lss rfl rfl).boolT (by first | omega | (simp only [List.length_cons, List.length_nil]; done) | (simp only [List.length_cons, List.length_nil]; omega))) (by decide) ?_ | refine WL.y H ((Y.lss rfl rfl).boolF (by first | omega | (simp only [List.length_cons, List.length_nil]; done) | (simp only [List.length_cons, List.length_nil]; omega))) (by decide) ?_ | (refine WL.cmp H (Y.lss rfl rfl) (by decide) ?_ ?_ <;> intro hcmp))
      | ((with_reducible refine is_store ?_); first | (refine WL.store1 H rfl rfl rfl (by repeat' (first | exact Upd.here .. | apply Upd.there)) rfl ?_; intro w H _) | (refine WL.storeN H rfl rfl rfl rfl (by repeat' (first | exact Upd.here .. | apply Upd.there)) rfl ?_; intro w H _)))
    with_reducible refine is_store ?_
    refine WL.storeN (vs := tcs t1) H rfl rfl rfl rfl (by repeat' (first | exact Upd.here .. | apply Upd.there)) (Nat.ble_eq_true_of_le (by have h4 : (tcs t1).length = 4 := rfl; rw [hlen1, h4]; simp only [Int.toNat_natCast]; omega)) ?_; intro w H hst
    rw [show 0 + ((ts.length : Int)).toNat * 4 = ts.length * 4 by simp, hn, setC_row] at H
    repeat' (first
      | (with_reducible refine WC.seq ?_)
      | (with_reducible refine WC.reg ?_)
      | (with_reducible refine WC.block ?_)
      | (with_reducible refine WC.skip ?_)
      | (with_reducible refine WC.ret ?_)
      | (with_reducible refine WC.exit ?_)
      | ((with_reducible refine is_cond ?_); first | refine WC.ctrue rfl ?_ | refine WC.cfalse rfl ?_ | (refine WC.cbool rfl ?_ ?_ <;> intro hcnd))
      | (with_reducible refine WL.nilK ?_)
      | (with_reducible refine WL.nil ?_)
      | (with_reducible refine AtQ.then_norm ?_)
      | (with_reducible refine AtQ.then_ret ?_)
      | (with_reducible refine AtQ.then_exit ?_)
      | (with_reducible refine AtQ.block_ret ?_)
      | (with_reducible refine AtQ.block_norm ?_)
      | (with_reducible refine AtQ.block_here ?_)
      | (with_reducible refine AtQ.loop_ret ?_)
      | (with_reducible refine AtQ.loop_exit ?_)
      | (with_reducible refine AtQ.out_ret ?_)
      | (with_reducible refine AtQ.out_exit ?_)
      | ((with_reducible refine AtQ.block_other ?_ ?_); · exact rfl)
      | ((with_reducible refine is_move ?_); first | refine WL.y H (Y.move rfl) (by decide) ?_)
      | ((with_reducible refine is_assign ?_); first | refine WL.y H (Y.assign rfl) (by decide) ?_)
      | ((with_reducible refine is_load ?_); first | refine WL.y H (Y.loadX rfl (by repeat' (first | exact List.mem_cons_self .. | apply List.mem_cons_of_mem)) rfl) (by decide) ?_ | refine WL.y H (Y.loadXN rfl (by repeat' (first | exact List.mem_cons_self .. | apply List.mem_cons_of_mem)) rfl rfl) (by decide) ?_)
      | ((with_reducible refine is_idx ?_); first | refine WL.y H (Y.idx rfl rfl (by first | omega | (simp only [List.length_cons, List.length_nil]; done) | (simp only [List.length_cons, List.length_nil]; omega)) (by first | omega | (simp only [List.length_cons, List.length_nil]; done) | (simp only [List.length_cons, List.length_nil]; omega))) (by decide) ?_)
      | ((with_reducible refine is_len ?_); first | refine WL.y H (Y.lenS rfl) (by decide) ?_)
      | ((with_reducible refine is_add ?_); first | refine WL.y H (Y.add rfl rfl (by first | omega | (simp only [List.length_cons, List.length_nil]; done) | (simp only [List.length_cons, List.length_nil]; omega)) (by first | omega | (simp only [List.length_cons, List.length_nil]; done) | (simp only [List.length_cons, List.length_nil]; omega))) (by decide) ?_)
      | ((with_reducible refine is_lss ?_); first | refine WL.y H ((Y.lss rfl rfl).boolT (by first | omega | (simp only [List.length_cons, List.length_nil]; done) | (simp only [List.length_cons, List.length_nil]; omega))) (by decide) ?_ | refine WL.y H ((Y.lss rfl rfl).boolF (by first | omega | (simp only [List.length_cons, List.length_nil]; done) | (simp only [List.length_cons, List.length_nil]; omega))) (by decide) ?_ | (refine WL.cmp H (Y.lss rfl rfl) (by decide) ?_ ?_ <;> intro hcmp))
      | ((with_reducible refine is_store ?_); first | (refine WL.store1 H rfl rfl rfl (by repeat' (first | exact Upd.here .. | apply Upd.there)) rfl ?_; intro w H _) | (refine WL.storeN H rfl rfl rfl rfl (by repeat' (first | exact Upd.here .. | apply Upd.there)) rfl ?_; intro w H _)))
    have e1 : l.length - (ts ++ [t1]).length = n := by simp; omega
    refine AtQ.loop_norm (ts ++ [t1]) (by rw [List.length_append]; exact (by repeat' (first | exact Sub.nil | refine Sub.cons rfl ?_))) ⟨by simp; omega, ?_, Nat.le_trans hwsz (by omega), ?_⟩ (by rw [e1]; omega)
    · rw [List.map_append, hmap, List.length_append, List.length_singleton, ← List.take_append_getElem hlt, List.map_append]; show _ ++ [er t1] = _ ++ [er l[ts.length]]; rw [he1]
    · rw [e1]
      exact H.dropS (by simp)
  · repeat' (first
      | (with_reducible refine WC.seq ?_)
      | (with_reducible refine WC.reg ?_)
      | (with_reducible refine WC.block ?_)
      | (with_reducible refine WC.skip ?_)
      | (with_reducible refine WC.ret ?_)
      | (with_reducible refine WC.exit ?_)
      | ((with_reducible refine is_cond ?_); first | refine WC.ctrue rfl ?_ | refine WC.cfalse rfl ?_ | (refine WC.cbool rfl ?_ ?_ <;> intro hcnd))
      | (with_reducible refine WL.nilK ?_)
      | (with_reducible refine WL.nil ?_)
      | (with_reducible refine AtQ.then_norm ?_)
      | (with_reducible refine AtQ.then_ret ?_)
      | (with_reducible refine AtQ.then_exit ?_)
      | (with_reducible refine AtQ.block_ret ?_)
      | (with_reducible refine AtQ.block_norm ?_)
      | (with_reducible refine AtQ.block_here ?_)
      | (with_reducible refine AtQ.loop_ret ?_)
      | (with_reducible refine AtQ.loop_exit ?_)
      | (with_reducible refine AtQ.out_ret ?_)
      | (with_reducible refine AtQ.out_exit ?_)
      | ((with_reducible refine AtQ.block_other ?_ ?_); · exact rfl)
      | ((with_reducible refine is_move ?_); first | refine WL.y H (Y.move rfl) (by decide) ?_)
      | ((with_reducible refine is_assign ?_); first | refine WL.y H (Y.assign rfl) (by decide) ?_)
      | ((with_reducible refine is_load ?_); first | refine WL.y H (Y.loadX rfl (by repeat' (first | exact List.mem_cons_self .. | apply List.mem_cons_of_mem)) rfl) (by decide) ?_ | refine WL.y H (Y.loadXN rfl (by repeat' (first | exact List.mem_cons_self .. | apply List.mem_cons_of_mem)) rfl rfl) (by decide) ?_)
      | ((with_reducible refine is_idx ?_); first | refine WL.y H (Y.idx rfl rfl (by first | omega | (simp only [List.length_cons, List.length_nil]; done) | (simp only [List.length_cons, List.length_nil]; omega)) (by first | omega | (simp only [List.length_cons, List.length_nil]; done) | (simp only [List.length_cons, List.length_nil]; omega))) (by decide) ?_)
      | ((with_reducible refine is_len ?_); first | refine WL.y H (Y.lenS rfl) (by decide) ?_)
      | ((with_reducible refine is_add ?_); first | refine WL.y H (Y.add rfl rfl (by first | omega | (simp only [List.length_cons, List.length_nil]; done) | (simp only [List.length_cons, List.length_nil]; omega)) (by first | omega | (simp only [List.length_cons, List.length_nil]; done) | (simp only [List.length_cons, List.length_nil]; omega))) (by decide) ?_)
      | ((with_reducible refine is_lss ?_); first | refine WL.y H ((Y.lss rfl rfl).boolT (by first | omega | (simp only [List.length_cons, List.length_nil]; done) | (simp only [List.length_cons, List.length_nil]; omega))) (by decide) ?_ | refine WL.y H ((Y.lss rfl rfl).boolF (by first | omega | (simp only [List.length_cons, List.length_nil]; done) | (simp only [List.length_cons, List.length_nil]; omega))) (by decide) ?_ | (refine WL.cmp H (Y.lss rfl rfl) (by decide) ?_ ?_ <;> intro hcmp))
      | ((with_reducible refine is_store ?_); first | (refine WL.store1 H rfl rfl rfl (by repeat' (first | exact Upd.here .. | apply Upd.there)) rfl ?_; intro w H _) | (refine WL.storeN H rfl rfl rfl rfl (by repeat' (first | exact Upd.here .. | apply Upd.there)) rfl ?_; intro w H _)))
    have ek : ts.length = l.length := by omega
    rw [ek, List.take_length] at hmap
    rw [ek, Nat.sub_self, List.replicate_zero, List.flatten_nil] at H
    have hx := H.xo _ (List.mem_cons_self ..)
    have ho : OwnL w0.heap.size w1 ts := H.of (A := oL w0.heap.size ts) (by repeat' (first | exact List.mem_cons_self .. | apply List.mem_cons_of_mem))
    have hsep := H.sep (oL w0.heap.size ts) (by repeat' (first | exact List.mem_cons_self .. | apply List.mem_cons_of_mem)) _ (List.mem_cons_self ..)
    exact AtQ.r1 (resVal.t rfl) ⟨b, ts, by rw [ek], ek, hmap, Own.row (H.blk (List.mem_cons_self ..)) hb (Nat.le_refl _) ho hsep, H.chg, hb⟩
theorem Own.kis {B : Nat} {w : World} {a : Option Addr} {c : Nat} {l : List LT} (k i : Int) (s : ByteArray) (h : Own B w (nod a c l)) : Own B w ⟨k, i, s, a, c, l⟩ := by
  have e : ft (⟨k, i, s, a, c, l⟩ : LT) = ft (nod a c l) := by rw [ft_eq, ft_eq]
  exact ⟨by cases h.ht with | mk _ h1 h2 h3 => exact .mk _ h1 h2 h3, by rw [e]; exact h.nd, by rw [e]; exact h.new, by rw [e]; exact h.free⟩
theorem HT.nod {w : World} {t : LT} (h : HT w t) : HT w (nod t.a t.c t.l) := by cases h with | mk _ h1 h2 h3 => exact .mk _ h1 h2 h3
theorem er_mk (k i : Int) (s : ByteArray) (a : Option Addr) (c : Nat) (l : List LT) : er ⟨k, i, s, a, c, l⟩ = ⟨k, i, s, l.map er⟩ := er_eq _
/-- Small by their lengths alone. -/
inductive Len : LT → Prop
  | mk (t : LT) (h : t.l.length ≤ 1048576) (k : ∀ y ∈ t.l, Len y) : Len t
set_option maxRecDepth 100000 in
set_option maxHeartbeats 4000000 in
theorem laws_toTerm_ok : ∀ (t : LT) (w : World), HT w t → Len t → Fn Try.prog 35 [tv t] w (CpT t w) := by
  intro t
  induction t using indT with
  | h t ih =>
  intro w0 ht hl
  obtain ⟨_, hl1, hl2⟩ := hl
  refine Fn.body (N := 18) Try.func35 rfl rfl rfl rfl rfl ?_
  have H : SH w0 noF w0 [] [tA t] := SH.start _ _ _ (by simpa [tA] using ht)
  repeat' (first
    | (with_reducible refine WC.seq ?_)
    | (with_reducible refine WC.reg ?_)
    | (with_reducible refine WC.skip ?_)
    | (with_reducible refine WC.ret ?_)
    | (with_reducible refine WL.nilK ?_)
    | (with_reducible refine WL.nil ?_)
    | (with_reducible refine AtQ.then_norm ?_)
    | (with_reducible refine AtQ.then_ret ?_)
    | (with_reducible refine AtQ.out_ret ?_)
    | ((with_reducible refine is_call ?_); have hs0 := H.chg.size; refine WL.call (vs := [sl t.a t.l.length t.c]) rfl (laws_toTermS_of t.a t.c t.l _ (HT.nod (H.ht t (by repeat' (first | exact List.mem_cons_self .. | apply List.mem_cons_of_mem)))) hl1 (fun y hy w hw => ih y hy w hw (hl2 y hy))) (by decide) ?_; intro v w hv2; obtain ⟨b, ts, e1, en, he1, ho1, hc1, hb1⟩ := hv2; subst e1; have hs1 := hc1.size; have H := H.made hc1 (oA _ (nod _ _ ts)) ho1 ho1.new)
    | ((with_reducible refine is_fld ?_); first | refine WL.y H (Y.fld rfl) (by decide) ?_)
    | ((with_reducible refine is_load ?_); first | refine WL.y H (Y.loadX rfl (by repeat' (first | exact List.mem_cons_self .. | apply List.mem_cons_of_mem)) rfl) (by decide) ?_ | refine WL.y H (Y.loadXN rfl (by repeat' (first | exact List.mem_cons_self .. | apply List.mem_cons_of_mem)) rfl rfl) (by decide) ?_)
    | ((with_reducible refine is_box ?_); first | (refine WL.boxN H rfl (by decide) ?_; intro _ w H _ _ _) | (refine WL.box1 H rfl rfl (by decide) ?_; intro _ w H _ _ _))
    | ((with_reducible refine is_alloc ?_); refine WL.alloc H (by decide) ?_; intro _ w H _ _ _)
    | ((with_reducible refine is_store ?_); first | (refine WL.store1 H rfl rfl rfl (by repeat' (first | exact Upd.here .. | apply Upd.there)) rfl ?_; intro w H _) | (refine WL.storeN H rfl rfl rfl rfl (by repeat' (first | exact Upd.here .. | apply Upd.there)) rfl ?_; intro w H _)))
  refine AtQ.r1 (resVal.cN H rfl (by repeat' (first | exact List.mem_cons_self .. | apply List.mem_cons_of_mem)) rfl) ?_
  refine ⟨⟨t.k, t.i, t.s, some ⟨b, 0, none⟩, ts.length, ts⟩, rfl, by rw [er_mk, he1, er_eq], ((H.own _ (nod _ _ ts) (by repeat' (first | exact List.mem_cons_self .. | apply List.mem_cons_of_mem))).mono (by omega)).kis _ _ _, H.chg⟩
theorem laws_toTermS_ok (a : Option Addr) (c : Nat) (l : List LT) (w : World) (ht : HT w (nod a c l)) (hs : Len (nod a c l)) : Fn Try.prog 17 [sl a l.length c] w (CpS l w) := by
  obtain ⟨_, h1, h2⟩ := hs
  exact laws_toTermS_of a c l w ht h1 fun y hy w hw => laws_toTerm_ok y w hw (h2 y hy)
end Go.Proofs.Ytpfooiepmnaoaaa.E
