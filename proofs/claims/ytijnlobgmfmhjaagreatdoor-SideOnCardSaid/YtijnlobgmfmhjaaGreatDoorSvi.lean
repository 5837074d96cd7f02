/- make and append on slices of one's own; calls by contract; an owned block given up; a function's contract from its body. -/
import Derived.Test.YtijnlobgmfmhjaaGreatDoorSvh
namespace Go.Sv
open Go Go.RowKit

/-- a slice of one's own that grows: nil, or at the head of a row of its own -/
def rowV : Option (Nat × Nat) → Nat → Value
  | none, _ => .slice none 0 0
  | some (b, cap), n => .slice (some ⟨b, 0, none⟩) n cap
def rowE (q : Option (Nat × Nat)) (e st n : Nat) (cs : List SV) : HE := match q with
  | none => ⟨none, e, cs, 0⟩
  | some (b, cap) => ⟨some b, e, cs, cap * st - n * st⟩
def rowOk (q : Option (Nat × Nat)) (n : Nat) : Prop := match q with
  | none => n = 0
  | some (_, cap) => n ≤ cap ∧ cap ≤ maxLen
instance {q : Option (Nat × Nat)} {n : Nat} : One (eqS (rowV q n)) := ⟨one_eqS (by cases q <;> rfl)⟩

section
variable {P : Program} {G : Imm} {E : Env} {r : Option Nat} {S : St} {gd : Nat → Option Nat} {p : Bool} {o : Oper} {ops : List Oper} {K : St → Prop}
theorem ok_len_row {H : HL} {g : List (Nat × SV)} {t e st : Nat} [IsSl P t e st] {x : Operand} {q : Option (Nat × Nat)} {n : Nat} (hop : o.op = .call { callee := .builtin .len, args := #[x], argTypes := #[t] }) (hx : opE g x = some (eqS (rowV q n))) (hq : rowOk q n) : OpOK P G H o g (intS .i64 n) := by
  cases q with
  | none => have hq : n = 0 := hq; subst hq; exact ok_len_eq hop hx
  | some q => exact ok_len_eq hop hx

theorem allOne_nil : allOne [] := fun _ h => by cases h
theorem owns_of_entry {q : Option (Nat × Nat)} {e st n : Nat} {cs : List SV} {I : Imm} {W : World} (hq : rowOk q n) (hl : cs.length = n * st) (h : HoldsH [rowE q e st n cs] I W) :
    ∃ xs, W.ownsRow 0 e st (rowV q n) n xs ∧ dens I cs xs ∧ allOne xs := by
  cases q with
  | none =>
    have hq : n = 0 := hq
    subst hq
    have h1 : cs = [] := (h.mem (rowE none e st 0 cs) (by simp)).none rfl
    subst h1
    exact ⟨[], ⟨by simp, .inl ⟨rfl, rfl⟩⟩, dens_nil, allOne_nil⟩
  | some q =>
    obtain ⟨b, cap⟩ := q
    obtain ⟨hq1, hq2⟩ := hq
    obtain ⟨_, c, hc, hsz, h1, hd⟩ := (h.mem (rowE (some (b, cap)) e st n cs) (by simp)).some rfl
    simp only [rowE] at hc hsz h1 hd
    have hle : n * st ≤ cap * st := Nat.mul_le_mul_right _ hq1
    refine ⟨_, ⟨?_, .inr ⟨b, cap, c, rfl, Nat.zero_le _, hc, hq1, hq2, by omega, by rw [hl]⟩⟩, hd, h1⟩
    rw [hd.1, hl]
theorem entry_of_owns {e st n : Nat} {v : Value} {xs : List Value} {cs : List SV} {I : Imm} {W : World} (h : W.ownsRow 0 e st v n xs) (hd : dens I cs xs) (h1 : allOne xs) (hI : ∀ b, v.ownBlock = some b → I b = none) :
    ∃ q, rowOk q n ∧ v = rowV q n ∧ HoldsH [rowE q e st n cs] I W ∧ q.map (·.1) = v.ownBlock := by
  rcases h.2 with ⟨rfl, rfl⟩ | ⟨g, cap, cur, rfl, _, hg, hn, hc, hs, ht⟩
  · have hx : xs = [] := List.eq_nil_of_length_eq_zero (by simpa using h.1)
    subst hx
    have : cs = [] := List.eq_nil_of_length_eq_zero (by simpa using hd.1.symm)
    subst this
    refine ⟨none, rfl, rfl, ⟨by simp [bs, rowE], fun p hp => ?_⟩, rfl⟩
    simp at hp; subst hp; exact .of_none rfl rfl
  · have hl : cs.length = n * st := by rw [← hd.1, h.1]
    refine ⟨some (g, cap), ⟨hn, hc⟩, rfl, ⟨by simp [bs, rowE], fun p hp => ?_⟩, rfl⟩
    simp at hp; subst hp
    have hle : n * st ≤ cap * st := Nat.mul_le_mul_right _ hn
    refine .of_some rfl ⟨hI g rfl, cur, hg, ?_, ?_, ?_⟩
    · simp only [rowE]; omega
    · simp only [rowE]; rw [hl, ht]; exact h1
    · simp only [rowE]; rw [hl, ht]; exact hd
class IsElem (P : Program) (e : TypeId) (zs : outParam (List Value)) (bytes : outParam Nat) : Prop where
  i : ∃ i z, P.info? e = some i ∧ i.zero = some z ∧ z.cells = zs.toArray ∧ i.size = zs.length ∧ i.bytes = bytes
  one : oneAll zs = true
  pos : zs ≠ []

/-- the cells that a slice value leads to -/
theorem l_append_sl {t e st bytes : Nat} {zs : List Value} [IsSl P t e st] [he : IsElem P e zs bytes] {x y : Operand} {q : Option (Nat × Nat)} {n : Nat} {cs : List SV} {α : Type} {f : α → List SV} {l : List α} {g : List (Nat × SV)}
    (hop : o.op = .call { callee := .builtin .append, args := #[x, y], argTypes := #[t, t] }) (hx : opE g x = some (eqS (rowV q n))) (hy : opE g y = some (slS st f l)) (hq : rowOk q n) (hl : cs.length = n * st) (hf : ∀ z ∈ l, (f z).length = st) (hb : (n + l.length) * bytes ≤ big) (hm : n + l.length ≤ big) :
    OpL P G o g [rowE q e st n cs] (fun s H' => ∃ q', rowOk q' (n + l.length) ∧ s = eqS (rowV q' (n + l.length)) ∧ H' = [rowE q' e st (n + l.length) (cs ++ l.flatMap f)]) := by
  intro nn r I W a next Q hm' hh hr kk
  have hvx : a.eval x = rowV q n := hr.get (by simp [hop, Op.operands, Call.operands]) hx
  obtain ⟨ad, cap, hvy, _, _, h3⟩ := hr.get (by simp [hop, Op.operands, Call.operands]) hy
  obtain ⟨xs, hown, hd, h1⟩ := owns_of_entry hq hl hh
  obtain ⟨i, hi, his⟩ := IsSl.i (P := P) (t := t) (e := e) (st := st)
  obtain ⟨i', z, hi', hz1, hz2, hz3, hz4⟩ := he.i
  rw [hi] at hi'; cases hi'
  have hu := IsSl.u (P := P) (t := t) (e := e) (st := st)
  have hst : 0 < st := by rw [← his, hz3]; exact List.length_pos_iff.2 he.pos
  have hIb : ∀ b, (rowV q n).ownBlock = some b → I b = none := by
    intro b hb
    cases q with
    | none => simp [rowV, Value.ownBlock] at hb
    | some q => simp [rowV, Value.ownBlock] at hb; subst hb; exact (hh.lt (b := q.1) (by simp [bs, rowE])).2
  -- the source's cells
  have hsrc : ∃ news : List Value, news.length = l.length * st ∧ dens I (l.flatMap f) news ∧ allOne news ∧ ((l = [] ∧ news = []) ∨ ∃ b p, ad = some ⟨b, p, none⟩ ∧ ∀ j u, news[j]? = some u → W.cell? (Addr.add ⟨b, p, none⟩ j) = some u) := by
    rcases h3 with rfl | ⟨b, p, rfl, hc⟩
    · exact ⟨[], by simp, dens_nil, allOne_nil, .inl ⟨rfl, rfl⟩⟩
    · have : ∀ (m : List α) (k : Nat), (∀ z ∈ m, (f z).length = st) → (∀ i x, m[i]? = some x → cellsAt I b (p + (k + i) * st) (f x)) → ∃ news : List Value, news.length = m.length * st ∧ dens I (m.flatMap f) news ∧ allOne news ∧ ∀ j u, news[j]? = some u → W.cell? (Addr.add ⟨b, p, none⟩ (k * st + j)) = some u := by
        intro m
        induction m with
        | nil => intro k _ _; exact ⟨[], by simp, dens_nil, allOne_nil, by simp⟩
        | cons y m ih =>
          intro k hfm hk
          obtain ⟨news, g1, g2, g3, g4⟩ := ih (k + 1) (fun z hz => hfm z (by simp [hz])) fun i x hx => by have := hk (i + 1) x (by simpa using hx); rwa [show k + (i + 1) = k + 1 + i from by omega] at this
          obtain ⟨c, hcI, hcd⟩ := hk 0 y rfl
          obtain ⟨ee, fr, hcw⟩ := hm'.mem b c hcI
          obtain ⟨ys, f1, f2, f3, f4⟩ := dens_of_at (c := c) (off := p + (k + 0) * st) (hfm y (by simp)) hcd
          refine ⟨ys ++ news, ?_, ?_, ?_, ?_⟩
          · simp [f1, g1, Nat.succ_mul]; omega
          · rw [List.flatMap_cons]; exact f3.append g2
          · intro u hu; rcases List.mem_append.1 hu with h | h; exact f4 u h; exact g3 u h
          · intro j u hj
            by_cases hlt : j < st
            · rw [List.getElem?_append_left (by omega)] at hj
              have := f2 j u hj
              rw [add_spot, cell_of_heap hcw]; rw [show p + (k * st + j) = p + (k + 0) * st + j from by simp; omega]; exact this
            · rw [List.getElem?_append_right (by omega), f1] at hj
              have := g4 _ u hj
              rw [show k * st + j = (k + 1) * st + (j - st) from by rw [Nat.succ_mul]; omega]; exact this
      obtain ⟨news, g1, g2, g3, g4⟩ := this l 0 hf (by simpa using hc)
      exact ⟨news, g1, g2, g3, .inr ⟨b, p, rfl, fun j u hj => by have := g4 j u hj; simpa using this⟩⟩
  obtain ⟨news, n1, n2, n3, n4⟩ := hsrc
  have hmx : n + l.length ≤ maxLen := by unfold maxLen; unfold big at hm; omega
  have hrun : ∃ v' W', (Builtin.append_ #[t, t] o.type #[rowV q n, .slice ad l.length cap]).run P W = .ok v' W' ∧ W'.ownsRow 0 e st v' (n + l.length) (xs ++ news) ∧ W.grownBy W' (rowV q n).ownBlock ∧ (v'.ownBlock = (rowV q n).ownBlock ∨ v'.ownBlock = some W.heap.size) := by
    rcases n4 with ⟨rfl, rfl⟩ | ⟨b, p, rfl, hc⟩
    · cases ad with
      | none =>
        refine ⟨rowV q n, W, ?_, by simpa using hown, ⟨rfl, rfl, rfl, Nat.le_refl _, fun _ _ _ => rfl⟩, .inl rfl⟩
        cases q with
        | none =>
          have hq : n = 0 := hq
          subst hq
          simp [rowV, Builtin.append_, run_underlying hu, sizeOf, typeInfo, hi, Builtin.lenOf, Builtin.firstCells]
        | some q =>
          obtain ⟨b, cap'⟩ := q
          have hq1 : n ≤ cap' := hq.1
          simp [rowV, Builtin.append_, run_underlying hu, sizeOf, typeInfo, hi, Builtin.lenOf, Builtin.firstCells, hq1, storeCells]
      | some ad =>
        obtain ⟨v', W', e1, e2, e3, _, e4⟩ := run_append_own_at (P := P) W 0 t o.type e i z st bytes hu hi hz1 his hz4 (by rw [hz2]; simp; omega) hst (rowV q n) n xs hown ad 0 cap [] (by simp) (by simp) (by simp) (by simpa using hmx) (by simpa [big] using hb) (Nat.zero_le _)
        exact ⟨v', W', e1, by simpa using e2, e3, e4⟩
    · obtain ⟨v', W', e1, e2, e3, _, e4⟩ := run_append_own_at (P := P) W 0 t o.type e i z st bytes hu hi hz1 his hz4 (by rw [hz2]; simp; omega) hst (rowV q n) n xs hown ⟨b, p, none⟩ l.length cap news n1 hc n3 hmx hb (Nat.zero_le _)
      exact ⟨v', W', e1, e2, e3, e4⟩
  obtain ⟨v', W', e1, e2, e3, e4⟩ := hrun
  have hI' : ∀ b, v'.ownBlock = some b → I b = none := by
    intro b hb
    rcases e4 with h | h
    · exact hIb b (by rw [← h]; exact hb)
    · rw [h] at hb; cases hb; exact hm'.none_new
  obtain ⟨q', hq', rfl, hh', hqb⟩ := entry_of_owns e2 (hd.append n2) (by intro x hx; rcases List.mem_append.1 hx with h | h; exact h1 x h; exact n3 x h) hI'
  have hbs : ∀ b, b ∈ bs [rowE q' e st (n + l.length) (cs ++ l.flatMap f)] ↔ (rowV q' (n + l.length)).ownBlock = some b := by
    intro b; cases q' <;> simp [bs, rowE, rowV, Value.ownBlock]; exact eq_comm
  have hbs0 : ∀ b, b ∈ bs [rowE q e st n cs] ↔ (rowV q n).ownBlock = some b := by
    intro b; cases q <;> simp [bs, rowE, rowV, Value.ownBlock]; exact eq_comm
  have hm2 : Holds G I W' := ⟨hm'.glob, fun b c hc => by
    obtain ⟨ee, fr, hw⟩ := hm'.mem b c hc
    exact ⟨ee, fr, (e3.block b (lt_of_some hw) fun h => by have := hIb b h.symm; rw [hc] at this; cases this).trans hw⟩⟩
  have hrun2 : (execOp a.eval o).run P W = .ok (.value (rowV q' (n + l.length))) W' := by
    simp only [execOp, hop, resolve, Sem.run_bind, Sem.run_pure, Result.andThen_ok, invoke, builtin]
    have : Array.map a.eval #[x, y] = #[rowV q n, .slice ad l.length cap] := by simp [hvx, hvy]
    rw [this, e1]; rfl
  refine wp_of_run (by simp [hop]) hrun2 ?_
  refine kk _ I W' _ _ ⟨q', hq', rfl, rfl⟩ ?_ hm2 hh' rfl
  refine ⟨e3.os, e3.tape, e3.output, Imm.le_refl _, e3.size, fun b hb hn => e3.block b hb fun h => hn ((hbs0 b).2 h.symm), fun b h h' => absurd h h', fun b hb => ?_⟩
  have := (hbs b).1 hb
  rcases e4 with h | h
  · exact .inl ((hbs0 b).2 (by rw [← h]; exact this))
  · rw [h] at this; cases this; exact .inr (Nat.le_refl _)
end
end Go.Sv
