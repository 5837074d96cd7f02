/- More rules: a truth value split where it comes up, branches that are known, calls that own what they are handed. -/
import Derived.Test.YtijnlobgmfmhjaaGreatDoorSvs
namespace Go.Sv
open Go Go.RowKit

section
variable {P : Program} {G : Imm} {E : Env} {r : Option Nat} {gd : Nat → Option Nat} {p : Bool} {o : Oper} {ops : List Oper} {K : St → Prop} {S : St} {Q : Exit → St → Prop}
theorem Run.oneB {n t : Nat} {g : List (Nat × SV)} {h : HL} {d : List Nat} {i : Nat × Bool} {b : Bool} (ho : OpOK P G h o g (boolS b)) (hg : guardAt gd g o true) (ht : o.dst = some t) (hd : Nat.blt t n = true)
    (h1 : b = true → Run P G E r gd p ops ⟨n, (t, boolS true) :: g, h, d, i⟩ K) (h2 : b = false → Run P G E r gd p ops ⟨n, (t, boolS false) :: g, h, d, i⟩ K) : Run P G E r gd p (o :: ops) ⟨n, g, h, d, i⟩ K := by
  cases b with
  | true => exact Run.one ho hg ht hd (h1 rfl)
  | false => exact Run.one ho hg ht hd (h2 rfl)
theorem T_condT {c : Operand} {t : Nat} {x y : Code} (hc : c = .tmp t) (hg : look t S.g = some (boolS true)) (h : T P G E r x S Q) : T P G E r (.cond c x y) S Q := T_cond hc hg (fun _ => h) (fun h => absurd h (by decide))
theorem T_condF {c : Operand} {t : Nat} {x y : Code} (hc : c = .tmp t) (hg : look t S.g = some (boolS false)) (h : T P G E r y S Q) : T P G E r (.cond c x y) S Q := T_cond hc hg (fun h => absurd h (by decide)) (fun _ => h)
/-- what runs ahead of the rest, with its own end -/
theorem T_seqQ {x y : Code} {K : St → Prop} (h : T P G E r x S (thenQ K Q)) (k : ∀ S', K S' → T P G E r y S' Q) : T P G E r (.seq x y) S Q :=
  T_seq (T_mono h fun e S' hq => by cases e <;> first | exact k S' hq | exact hq)
theorem guard_none {g : List (Nat × SV)} (h : o.guard = none) : guardAt gd g o true := by simp [guardAt, h]
theorem guard_some {g : List (Nat × SV)} {j d : Nat} {w c b : Bool} (h : o.guard = some (j, w)) (hd : gd j = some d) (hl : look d g = some (boolS c)) (hb : (c == w) = b) : guardAt gd g o b := by
  simp only [guardAt, h]; exact ⟨d, c, hd, hl, hb.symm⟩

/-! nil told from a slice -/
/-- a truth value that says something if it is true -/
def boolIf (q : Prop) : SV := ⟨fun _ v => ∃ b, v = .bool b ∧ (b = true → q), fun _ _ _ _ h => h⟩
theorem ok_eql_nil_if {H : HL} {g : List (Nat × SV)} {t u e st : TypeId} [IsSl P t e st] {x y : Operand} {α : Type} {n : Nat} {f : α → List SV} {l : List α} (hop : o.op = .binOp .eql t x y u) (hx : opE g x = some (slS n f l)) (hy : opE g y = some (eqS (.slice none 0 0))) : OpOK P G H o g (boolIf (l = [])) :=
  ok_pure (by simp [hop]) fun I W a _ _ hr => by
    obtain ⟨ad, cap, h1, _, _, h4⟩ := hr.get (by simp [hop, Op.operands]) hx
    have h2 : a.eval y = .slice none 0 0 := hr.get (by simp [hop, Op.operands]) hy
    refine ⟨.bool ad.isNone, ?_, _, rfl, fun hb => ?_⟩
    · have e := run_equal_slice_nil (w := W) t _ ad l.length cap (IsSl.u (P := P) (t := t))
      have e2 : (binOp .eql t (.slice ad l.length cap) (.slice none 0 0)).run P W = .ok (.bool ad.isNone) W := by
        show ((do pure (.bool (← Op.equal t (.slice ad l.length cap) (.slice none 0 0)))) : Sem Value).run P W = _
        simp [e]
      simp [execOp, hop, h1, h2, eqGuard, e2]
    · rcases h4 with h | ⟨b, o, ha, _⟩
      · exact h
      · rw [ha] at hb; cases hb
theorem T_cond_if {c : Operand} {t : Nat} {x y : Code} {q : Prop} (hc : c = .tmp t) (hg : look t S.g = some (boolIf q)) (h1 : q → T P G E r x S Q) (h2 : T P G E r y S Q) : T P G E r (.cond c x y) S Q := by
  intro n I F a W hs
  subst hc
  obtain ⟨b, hb, hq⟩ := hs.g t _ hg
  exact wpIn_cond_split (t := b) hb (fun h => h1 (hq h) n I F a W hs) (fun _ => h2 n I F a W hs)

/-! a slice laid as a row of one's own -/
theorem l_buildRow {g : List (Nat × SV)} {t e st n : Nat} {zs : List Value} [IsSl P t e st] [hz : IsZero P e zs] {parts : Array (Nat × Operand)} {ps : List (Nat × SV)} {qs : List (Nat × List SV)} (hop : o.op = .buildSlice t n parts) (hp : partsS g parts.toList = some ps) [hf : FlatL ps qs]
    (hn : n * st ≤ 16777216) (hq : qs.length = n) (hne : n = 0 ∨ zs ≠ []) (hl : lensOk st (qs.map (·.2)) = true)
    (hc : fillS ((List.range n).map fun i => (i * st, st)) ((zeroRow zs (n * st)).map eqS) qs = some (qs.map (·.2)).flatten) :
    OpL P G o g [] (fun s H' => ∃ b, rowOk (some (b, n)) n ∧ s = eqS (rowV (some (b, n)) n) ∧ H' = [rowE (some (b, n)) e st n (qs.map (·.2)).flatten]) := by
  intro nn r I W a next Q hm _ hr kk
  have hst : st = zs.length := by
    obtain ⟨j, hj, hs⟩ := IsSl.i (P := P) (t := t) (e := e) (st := st)
    obtain ⟨i, z, hi, _, _, hz3⟩ := hz.i
    rw [hj] at hi; cases hi; omega
  have h1 : allOne (zeroRow zs (n * st)) := zeroRow_one hz.one _ (hne.imp (fun h => by simp [h]) id)
  obtain ⟨c', hc', hd, h1'⟩ := fill_sound (a := a) (I := I) (c := (zeroRow zs (n * st)).toArray) hp hf (reads_parts (by simp [hop, Op.operands]) hr) hc (by simpa using dens_eqS (zeroRow zs (n * st))) (by simpa using h1)
  have hlen : (qs.map (·.2)).length = n := by simpa using hq
  have hfl : (qs.map (·.2)).flatten.length = n * st := by
    have : ∀ {l : List (List SV)}, (∀ c ∈ l, c.length = st) → l.flatten.length = l.length * st := by
      intro l; induction l with
      | nil => intro _; simp
      | cons x l ih => intro h; simp only [List.flatten_cons, List.length_append, List.length_cons]; rw [ih (fun c hc => h c (by simp [hc])), h x (by simp), Nat.add_mul]; omega
    rw [this (lensOk_spec hl), hlen]
  have hrun : (execOp a.eval o).run P W = .ok (.value (.slice (some ⟨W.heap.size, 0, none⟩) n n)) (W.alloc (.cells c' e)) := by
    have := run_buildSlice (P := P) (t := t) (e := e) (st := st) (n := n) (W := W) (parts := (parts.map fun (i, x) => (i, a.eval x))) (c' := c') hn (by rw [Array.toList_map]; exact hc')
    simp only [execOp, hop, Sem.run_bind, this, Result.andThen_ok, Sem.run_pure]
  obtain ⟨hm2, hfr⟩ := fram_alloc hm (.cells c' e) (fun b => b ∈ bs [])
  have hnb : n ≤ maxLen := by
    rcases Nat.eq_zero_or_pos st with h0 | h0
    · rcases hne with h2 | h2
      · omega
      · exact absurd (List.eq_nil_of_length_eq_zero (by omega)) h2
    · have := Nat.le_mul_of_pos_right n h0; unfold maxLen; omega
  refine wp_of_run (by simp [hop]) hrun ?_
  refine kk _ I _ _ _ ⟨W.heap.size, ⟨Nat.le_refl _, hnb⟩, rfl, rfl⟩ ?_ hm2 ?_ rfl
  · refine hfr.weaken (fun _ h => h) fun b hb => .inl (.inr ?_)
    simp [bs, rowE] at hb; exact hb
  · refine ⟨by simp [bs, rowE], fun p hp => ?_⟩
    simp at hp; subst hp
    have hsz : c'.toList.length = n * st := by rw [hd.1, hfl]
    have htk : c'.toList.take (qs.map (·.2)).flatten.length = c'.toList := by rw [hfl, ← hsz]; exact List.take_length
    refine .of_some rfl ⟨hm.none_new, _, alloc_heap_at _ _, ?_, ?_, ?_⟩
    · simp only [rowE, Nat.sub_self, Nat.add_zero]; rw [hfl, ← hsz]; simp
    · simp only [rowE]; rw [htk]; exact h1'
    · simp only [rowE]; rw [htk]; exact hd
theorem Run.buildRow {n0 d0 : Nat} {g : List (Nat × SV)} {h : HL} {d : List Nat} {i : Nat × Bool} {t e st n : Nat} {zs : List Value} [IsSl P t e st] [IsZero P e zs] {parts : Array (Nat × Operand)} {ps : List (Nat × SV)} {qs : List (Nat × List SV)} (hp : p = false) (hop : o.op = .buildSlice t n parts) (hps : partsS g parts.toList = some ps) [FlatL ps qs] (hg : guardAt gd g o true) (ht : o.dst = some d0) (hd : Nat.blt d0 n0 = true)
    (hn : n * st ≤ 16777216) (hq : qs.length = n) (hne : n = 0 ∨ zs ≠ []) (hl : lensOk st (qs.map (·.2)) = true)
    (hc : fillS ((List.range n).map fun i => (i * st, st)) ((zeroRow zs (n * st)).map eqS) qs = some (qs.map (·.2)).flatten)
    (hr : ∀ b, rowOk (some (b, n)) n → Run P G E r gd p ops ⟨n0, (d0, eqS (rowV (some (b, n)) n)) :: g, rowE (some (b, n)) e st n (qs.map (·.2)).flatten :: h, d, i⟩ K) : Run P G E r gd p (o :: ops) ⟨n0, g, h, d, i⟩ K :=
  .loc0 hp (l_buildRow hop hps hn hq hne hl hc) hg ht hd fun s H' ⟨b, e0, e1, e2⟩ => by subst e1; subst e2; exact hr b e0
theorem ent_g {n : Nat} {g g' : List (Nat × SV)} {h : HL} {d : List Nat} {i : Nat × Bool} (hg : subG g g') : Ent ⟨n, g, h, d, i⟩ ⟨n, g', h, d, i⟩ := ⟨rfl, hg, subH_refl _, rfl, rfl⟩
theorem subG_as {g g' : List (Nat × SV)} {t : Nat} {s s' : SV} (h : look t g = some s) (hs : s = s') (k : subG g g') : subG g ((t, s') :: g') := subG_cons (hs ▸ h) k
theorem ghost_drop {n : Nat} {g : List (Nat × SV)} {h h' : HL} {d : List Nat} {i : Nat × Bool} (hs : h'.Sublist h) : Ghost G E r ⟨n, g, h, d, i⟩ ⟨n, g, h', d, i⟩ := fun I F _ _ s =>
  have hb : ∀ b, own ⟨n, g, h', d, i⟩ F b → own ⟨n, g, h, d, i⟩ F b := fun _ hb => hb.imp (fun x => (bs_sub hs).subset x) id
  ⟨I, { s with
    h := s.h.less hs
    f := fun b hb => ⟨(s.f b hb).1, (s.f b hb).2.1, fun x => (s.f b hb).2.2.1 ((bs_sub hs).subset x), (s.f b hb).2.2.2⟩
    l := fun k hk => ⟨(s.l k hk).1, fun x => (s.l k hk).2 (hb _ x)⟩ }, (Fram.refl _ _ _).weaken (fun _ h => h) fun b h => .inr (hb b h)⟩
theorem T_rng {n : Nat} {g : List (Nat × SV)} {h : HL} {d : List Nat} {i : Nat × Bool} {x : Operand} {t : Nat} {ps : Array Tmp} {assign body : Code} {f : FuncId} {caps : List SV} {xs : List (List SV)} (hx : x = .tmp t) (hg : look t g = some (fnS f caps)) (hit : IterSpec P G f caps xs) (hps : ∀ ss ∈ xs, ss.length = ps.size) (hnd : ps.toList.Nodup) (hpn : (ps.toList.all fun p => Nat.blt p n) = true)
    (Inv : Nat → HL → Nat × Bool → Prop) (InvX : Exit → HL → Nat × Bool → Prop) (h0 : Inv 0 h i)
    (hbody : ∀ (l k : Nat) (ss : List SV) (h : HL) (i : Nat × Bool), xs[k]? = some ss → Inv k h i → T P G E (some l) assign ⟨n, zipPs ps.toList ss ++ g, h, [], i⟩ (fun e S' => e = .normal ∧ T P G E (some l) body S' (roundQ Inv InvX k)))
    (hdone : ∀ (h : HL) (i : Nat × Bool) (D : List Nat), Inv xs.length h i → Q .normal ⟨n, g, h, D ++ d, i⟩)
    (hleave : ∀ (h : HL) (i : Nat × Bool) (D : List Nat) (e : Exit) (c : Code), codeOf e = some c → InvX e h i → Q e ⟨n, g, h, D ++ d, i⟩) : T P G E r (.rangeFunc x ps assign body) ⟨n, g, h, d, i⟩ Q :=
  T_range hx hg hit hps hnd (fun p hp => Nat.blt_eq ▸ (List.all_eq_true.1 hpn p hp)) Inv InvX h0 hbody hdone hleave
theorem T_loop2 {c : Code} {α β : Type} (Inv : α → β → St) (p : α → β → Prop) (μ : α → β → Nat) (a0 : α) (b0 : β) (hp0 : p a0 b0) (h0 : Ent S (Inv a0 b0))
    (hr : ∀ a b, p a b → T P G E r c (Inv a b) (thenQ (fun S' => ∃ a' b', p a' b' ∧ μ a' b' < μ a b ∧ Ent S' (Inv a' b')) Q)) : T P G E r (.loop c) S Q :=
  T_loop (γ := α × β) (fun g => Inv g.1 g.2) (fun g => p g.1 g.2) (fun g => μ g.1 g.2) (a0, b0) hp0 h0 fun g hg => T_mono (hr g.1 g.2 hg) fun e S' hq => by
    cases e <;> first | exact hq | (obtain ⟨a, b, h⟩ := hq; exact ⟨(a, b), h⟩)
theorem T_loop3 {c : Code} {α β γ : Type} (Inv : α → β → γ → St) (p : α → β → γ → Prop) (μ : α → β → γ → Nat) (a0 : α) (b0 : β) (c0 : γ) (hp0 : p a0 b0 c0) (h0 : Ent S (Inv a0 b0 c0))
    (hr : ∀ a b d, p a b d → T P G E r c (Inv a b d) (thenQ (fun S' => ∃ a' b' d', p a' b' d' ∧ μ a' b' d' < μ a b d ∧ Ent S' (Inv a' b' d')) Q)) : T P G E r (.loop c) S Q :=
  T_loop (γ := α × β × γ) (fun g => Inv g.1 g.2.1 g.2.2) (fun g => p g.1 g.2.1 g.2.2) (fun g => μ g.1 g.2.1 g.2.2) (a0, b0, c0) hp0 h0 fun g hg => T_mono (hr g.1 g.2.1 g.2.2 hg) fun e S' hq => by
    cases e <;> first | exact hq | (obtain ⟨a, b, d, h⟩ := hq; exact ⟨(a, b, d), h⟩)
theorem T_loop4 {c : Code} {α β γ δ : Type} (Inv : α → β → γ → δ → St) (p : α → β → γ → δ → Prop) (μ : α → β → γ → δ → Nat) (a0 : α) (b0 : β) (c0 : γ) (d0 : δ) (hp0 : p a0 b0 c0 d0) (h0 : Ent S (Inv a0 b0 c0 d0))
    (hr : ∀ a b d e, p a b d e → T P G E r c (Inv a b d e) (thenQ (fun S' => ∃ a' b' d' e', p a' b' d' e' ∧ μ a' b' d' e' < μ a b d e ∧ Ent S' (Inv a' b' d' e')) Q)) : T P G E r (.loop c) S Q :=
  T_loop (γ := α × β × γ × δ) (fun g => Inv g.1 g.2.1 g.2.2.1 g.2.2.2) (fun g => p g.1 g.2.1 g.2.2.1 g.2.2.2) (fun g => μ g.1 g.2.1 g.2.2.1 g.2.2.2) (a0, b0, c0, d0) hp0 h0 fun g hg => T_mono (hr g.1 g.2.1 g.2.2.1 g.2.2.2 hg) fun e S' hq => by
    cases e <;> first | exact hq | (obtain ⟨a, b, d, e, h⟩ := hq; exact ⟨(a, b, d, e), h⟩)
theorem ent_h {n : Nat} {g g' : List (Nat × SV)} {h h' : HL} {d : List Nat} {i : Nat × Bool} (hg : subG g g') (hh : h = h') : Ent ⟨n, g, h, d, i⟩ ⟨n, g', h', d, i⟩ := ⟨rfl, hg, hh ▸ subH_refl _, rfl, rfl⟩
theorem int_eq {k : IntKind} {m n : Int} (h : m = n) (I : Imm) (v : Value) (hv : (intS k m).den I v) : (intS k n).den I v := h ▸ hv
theorem bool_eq {b c : Bool} (h : b = c) (I : Imm) (v : Value) (hv : (boolS b).den I v) : (boolS c).den I v := h ▸ hv
end
end Go.Sv
