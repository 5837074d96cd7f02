/- Regions: what it is for an operation to be carried out (OpOK: it turns nothing that was there; OpEff: it may turn owned blocks), a region in the order of its text, and a region that draws its order: whatever order is drawn, what is known behind it is what the order of the text says. -/
import Derived.Test.YtijnlobgmfmhjaaGreatDoorSvb
namespace Go.Sv
open Go Go.RowKit

def opE (g : List (Nat × SV)) : Operand → Option SV
  | .tmp t => look t g
  | .const v => some (eqS v)
  | .global b => some (eqS (.pointer (some ⟨b, 0, none⟩)))
  | .func f => some (eqS (.func (.func f) #[] #[]))
/-- the operands of an operation are as g says -/
def reads (g : List (Nat × SV)) (I : Imm) (o : Oper) (a : Act) : Prop := ∀ x ∈ o.op.operands.toList, ∀ s, opE g x = some s → s.den I (a.eval x)

def OpOK (P : Program) (G : Imm) (H : HL) (o : Oper) (g : List (Nat × SV)) (s : SV) : Prop :=
  ∀ n r I W a (next : Act → World → Prop) (Q : Exit → Act → World → Prop), Holds G I W → HoldsH H I W → reads g I o a →
    (∀ v I' W', Ext I W I' W' → Holds G I' W' → s.den I' v → next (a.put o.dst v) W') → o.wpIn (Fr r) n P a W next Q
def OpEff (P : Program) (G : Imm) (E : Env) (r : Option Nat) (o : Oper) (S : St) (K : St → Prop) : Prop :=
  ∀ n I F a W (next : Act → World → Prop) (Q : Exit → Act → World → Prop), Sat G E r S I F a W →
    (∀ S' I' F' a' W', Sat G E r S' I' F' a' W' → K S' → Fram (own S F) I W (own S' F') I' W' → next a' W') → o.wpIn (Fr r) n P a W next Q

theorem OpOK.sub {P : Program} {G : Imm} {H : HL} {o : Oper} {g : List (Nat × SV)} {s s' : SV} (h : OpOK P G H o g s) (hs : ∀ I v, s.den I v → s'.den I v) : OpOK P G H o g s' :=
  fun n r I W a next Q hm hh hr k => h n r I W a next Q hm hh hr fun v I' W' he hm' hv => k v I' W' he hm' (hs _ _ hv)

def St.set (S : St) (d : Option Nat) (s : SV) : St := match d with
  | some t => { S with g := (t, s) :: S.g }
  | none => S
variable {P : Program} {G : Imm} {E : Env} {r : Option Nat} {S : St}

theorem reads_of_sat {I : Imm} {F : Nat → Prop} {a : Act} {W : World} (hs : Sat G E r S I F a W) (o : Oper) : reads S.g I o a := by
  intro x _ s hx
  cases x with
  | tmp t => exact hs.g t s hx
  | const v => cases hx; rfl
  | global b => cases hx; rfl
  | func f => cases hx; rfl

theorem put_size (a : Act) (d : Option Nat) (v : Value) : (a.put d v).tmps.size = a.tmps.size := by cases d <;> simp [Act.put]
theorem put_get_same {a : Act} {d : Nat} {v : Value} (h : d < a.tmps.size) : (a.put (some d) v).tmps.getD d undef = v := by simp [Act.put, Array.getD_eq_getD_getElem?, h]
theorem put_get_other {a : Act} {d t : Nat} {v : Value} (h : d ≠ t) : (a.put (some d) v).tmps.getD t undef = a.tmps.getD t undef := by
  simp [Act.put, Array.getD_eq_getD_getElem?, Array.getElem?_setIfInBounds_ne h]

/-- Sat is kept by whatever turns none of its blocks. -/
theorem Sat.keep {I I' : Imm} {F : Nat → Prop} {a : Act} {W W' : World} (hs : Sat G E r S I F a W) (he : Ext I W I' W') (hm : Holds G I' W') : Sat G E r S I' F a W' where
  n := hs.n
  g := fun t s hl => s.mono _ _ _ he.imm (hs.g t s hl)
  m := hm
  h := hs.h.keep he (fun _ _ h => h)
  d := hs.d
  dn := hs.dn
  dk := fun b hb => (he.old' (lt_of_some (hs.dk b hb))).trans (hs.dk b hb)
  e := E.stab _ _ _ _ _ _ hs.e he.imm he.os he.tape he.output he.size (fun b hb => he.old' (hs.f b hb).1) fun b hb => he.new' (hs.f b hb).2.1 (hs.f b hb).1
  f := fun b hb => ⟨Nat.lt_of_lt_of_le (hs.f b hb).1 he.size, he.new' (hs.f b hb).2.1 (hs.f b hb).1, (hs.f b hb).2.2⟩
  l := fun k hk => by obtain ⟨⟨rec, hr⟩, ho⟩ := hs.l k hk; exact ⟨⟨rec, (he.old' (lt_of_some hr)).trans hr⟩, ho⟩
theorem Sat.put {I : Imm} {F : Nat → Prop} {a : Act} {W : World} {d : Option Nat} {s : SV} {v : Value} (hs : Sat G E r S I F a W) (hv : s.den I v) (hd : ∀ t, d = some t → t < S.n) : Sat G E r (S.set d s) I F (a.put d v) W := by
  cases d with
  | none => exact hs
  | some t =>
    refine ⟨?_, ?_, hs.m, hs.h, hs.d, hs.dn, hs.dk, hs.e, hs.f, hs.l⟩
    · rw [put_size]; exact hs.n
    · intro t' s' hl
      simp only [St.set, look] at hl
      split at hl
      · rename_i e; cases hl; rw [Nat.eq_of_beq_eq_true e, put_get_same (by rw [hs.n]; exact hd t rfl)]; exact hv
      · rename_i e; rw [put_get_other (fun h => by subst h; simp at e)]; exact hs.g t' s' hl
theorem own_set (S : St) (d : Option Nat) (s : SV) (F : Nat → Prop) : own (S.set d s) F = own S F := by cases d <;> rfl
theorem Ext.own {I I' : Imm} {W W' : World} (h : Ext I W I' W') (O : Nat → Prop) : Fram O I W O I' W' := h.weaken (fun _ h => h.elim) (fun _ h => .inr h)

/-- where a guard stands: the slot of the operation that it names -/
def guardAt (gd : Nat → Option Nat) (g : List (Nat × SV)) (o : Oper) (b : Bool) : Prop := match o.guard with
  | none => b = true
  | some (j, want) => ∃ d c, gd j = some d ∧ look d g = some (boolS c) ∧ b = (c == want)

/-- The same memory, read otherwise (an owned block given up, a fact weakened). -/
def Ghost (G : Imm) (E : Env) (r : Option Nat) (S S' : St) : Prop := ∀ I F a W, Sat G E r S I F a W → ∃ I', Sat G E r S' I' F a W ∧ Fram (own S F) I W (own S' F) I' W
theorem Ent.ghost {S S' : St} (h : Ent S S') : Ghost G E r S S' := fun I F _ W hs => ⟨I, h.sat hs, by rw [h.own]; exact Fram.refl _ _ _⟩
theorem T_ghost {c : Code} {S' : St} {Q : Exit → St → Prop} (h : Ghost G E r S S') (ht : T P G E r c S' Q) : T P G E r c S Q := by
  intro n I F a W hs
  obtain ⟨I', hs', hf⟩ := h I F a W hs
  exact wpIn_mono (ht n I' F a W hs') fun _ _ _ hp => hp.from hf

/-- A list of operations in the order of the text. 'p': only such as turn nothing that was there. -/
inductive Run (P : Program) (G : Imm) (E : Env) (r : Option Nat) (gd : Nat → Option Nat) (p : Bool) : List Oper → St → (St → Prop) → Prop
  | nil {S : St} {K : St → Prop} (h : K S) : Run P G E r gd p [] S K
  | ok {o : Oper} {ops : List Oper} {S : St} {K : St → Prop} {s : SV} (ho : OpOK P G S.h o S.g s) (hg : guardAt gd S.g o true) (hd : ∀ t, o.dst = some t → t < S.n) (h : Run P G E r gd p ops (S.set o.dst s) K) : Run P G E r gd p (o :: ops) S K
  | skip {o : Oper} {ops : List Oper} {S : St} {K : St → Prop} (hg : guardAt gd S.g o false) (hd : ∀ t, o.dst = some t → t < S.n) (h : Run P G E r gd p ops (S.set o.dst (eqS undef)) K) : Run P G E r gd p (o :: ops) S K
  | eff {o : Oper} {ops : List Oper} {S : St} {K : St → Prop} (K' : St → Prop) (hp : p = false) (ho : OpEff P G E r o S K') (hg : guardAt gd S.g o true) (h : ∀ S', K' S' → Run P G E r gd p ops S' K) : Run P G E r gd p (o :: ops) S K
  | ghost {ops : List Oper} {S : St} {K : St → Prop} (S' : St) (hp : p = false) (hg : Ghost G E r S S') (h : Run P G E r gd p ops S' K) : Run P G E r gd p ops S K

theorem OpOK.eff {o : Oper} {s : SV} (h : OpOK P G S.h o S.g s) (hd : ∀ t, o.dst = some t → t < S.n) : OpEff P G E r o S (fun S' => S' = S.set o.dst s) := by
  intro n I F a W next Q hs k
  refine h n r I W a next Q hs.m hs.h (reads_of_sat hs o) fun v I' W' he hm hv => ?_
  exact k _ I' F _ W' ((hs.keep he hm).put hv hd) rfl (by rw [own_set]; exact he.own _)

theorem wanted_of_guard {gd : Nat → Option Nat} {ops : Array Oper} (hgd : ∀ j, gd j = (ops[j]?).bind (·.dst)) {I : Imm} {F : Nat → Prop} {a : Act} {W : World} (hs : Sat G E r S I F a W) {o : Oper} {b : Bool}
    (h : guardAt gd S.g o b) : Region.wanted o (yielded ops a.tmps) = b := by
  unfold guardAt at h
  unfold Region.wanted
  split at h
  · rename_i e; rw [e]; exact h.symm
  · rename_i j want e
    rw [e]
    obtain ⟨d, c, hj, hl, hb⟩ := h
    have hv : a.tmps.getD d undef = .bool c := hs.g d _ hl
    rw [hgd] at hj
    have hy : yielded ops a.tmps j = some c := by
      unfold yielded
      rw [hj]
      simp only [Option.bind_some]
      rw [Array.getD_eq_getD_getElem?] at hv
      cases hx : a.tmps[d]? with
      | none => rw [hx] at hv; simp [undef] at hv
      | some y => rw [hx] at hv; simp at hv; subst hv; rfl
    simp only [hy, hb]
    cases c <;> cases want <;> rfl

theorem fn_true (r : Option Nat) (f : FuncId) : (Fr r).fn f := trivial

/-- the region in the order of the text -/
theorem run_sound {gd : Nat → Option Nat} {p : Bool} (ops : Array Oper) (hgd : ∀ j, gd j = (ops[j]?).bind (·.dst)) {l : List Oper} {S : St} {K : St → Prop} (h : Run P G E r gd p l S K) :
    ∀ (k : Nat), (∀ i, ops[k + i]? = l[i]?) → ∀ (n : Nat) (Q : Exit → Act → World → Prop) (I : Imm) (F : Nat → Prop) (a : Act) (W : World), Sat G E r S I F a W →
      (∀ S' I' F' a' W', Sat G E r S' I' F' a' W' → K S' → Fram (own S F) I W (own S' F') I' W' → Q .normal a' W') → wpOpsIn (Fr r) n P ops Q ((List.range l.length).map (k + ·)) a W := by
  induction h with
  | nil h => intro k _ n Q I F a W hs hk; exact hk _ I F a W hs h (Fram.refl _ _ _)
  | @ok o l S K s ho hg hd _ ih =>
    intro k hl n Q I F a W hs hk
    have h0 : ops[k]? = some o := by simpa using hl 0
    have hl' : ∀ i, ops[k + 1 + i]? = l[i]? := fun i => by have := hl (i + 1); simpa [Nat.add_assoc, Nat.add_comm 1 i] using this
    simp only [List.length_cons, List.range_succ_eq_map, List.map_cons, List.map_map, wpOpsIn, Nat.add_zero, h0]
    rw [wanted_of_guard hgd hs hg, if_pos rfl]
    refine (ho.eff hd (E := E) (r := r)) n I F a W _ Q hs fun S' I' F' a' W' hs' hk' hf => ?_
    subst hk'
    have := ih (k + 1) hl' n Q I' F' a' W' hs' fun S'' I'' F'' a'' W'' h1 h2 h3 => hk S'' I'' F'' a'' W'' h1 h2 (hf.trans h3)
    rwa [show ((fun x => k + x) ∘ Nat.succ) = (fun x => k + 1 + x) from by funext x; simp; omega]
  | @skip o l S K hg hd _ ih =>
    intro k hl n Q I F a W hs hk
    have h0 : ops[k]? = some o := by simpa using hl 0
    have hl' : ∀ i, ops[k + 1 + i]? = l[i]? := fun i => by have := hl (i + 1); simpa [Nat.add_assoc, Nat.add_comm 1 i] using this
    simp only [List.length_cons, List.range_succ_eq_map, List.map_cons, List.map_map, wpOpsIn, Nat.add_zero, h0]
    rw [wanted_of_guard hgd hs hg, if_neg (by simp)]
    refine ⟨fun f _ => fn_true r f, ?_⟩
    have := ih (k + 1) hl' n Q I F _ W (hs.put (s := eqS undef) rfl hd) fun S'' I'' F'' a'' W'' h1 h2 h3 => hk S'' I'' F'' a'' W'' h1 h2 (by rw [own_set] at h3; exact h3)
    rwa [show ((fun x => k + x) ∘ Nat.succ) = (fun x => k + 1 + x) from by funext x; simp; omega]
  | @eff o l S K K' hp ho hg _ ih =>
    intro k hl n Q I F a W hs hk
    have h0 : ops[k]? = some o := by simpa using hl 0
    have hl' : ∀ i, ops[k + 1 + i]? = l[i]? := fun i => by have := hl (i + 1); simpa [Nat.add_assoc, Nat.add_comm 1 i] using this
    simp only [List.length_cons, List.range_succ_eq_map, List.map_cons, List.map_map, wpOpsIn, Nat.add_zero, h0]
    rw [wanted_of_guard hgd hs hg, if_pos rfl]
    refine ho n I F a W _ Q hs fun S' I' F' a' W' hs' hk' hf => ?_
    have := ih S' hk' (k + 1) hl' n Q I' F' a' W' hs' fun S'' I'' F'' a'' W'' h1 h2 h3 => hk S'' I'' F'' a'' W'' h1 h2 (hf.trans h3)
    rwa [show ((fun x => k + x) ∘ Nat.succ) = (fun x => k + 1 + x) from by funext x; simp; omega]
  | @ghost l S K S' hp hg _ ih =>
    intro k hl n Q I F a W hs hk
    obtain ⟨I', hs', hf⟩ := hg I F a W hs
    exact ih k hl n Q I' F a W hs' fun S'' I'' F'' a'' W'' h1 h2 h3 => hk S'' I'' F'' a'' W'' h1 h2 (hf.trans h3)

def gdOf (l : List Oper) (j : Nat) : Option Nat := (l[j]?).bind (·.dst)
theorem T_region {id : Nat} {l : List Oper} {Q : Exit → St → Prop} (h : Run P G E r (gdOf l) false l S (fun S' => Q .normal S')) : T P G E r (.region id l.toArray false) S Q := by
  intro n I F a W hs
  refine wpIn_region ?_
  have := run_sound l.toArray (fun j => by simp [gdOf]) h 0 (by intro i; simp) n (post G E r Q (own S F) I W) I F a W hs fun S' I' F' a' W' h1 h2 h3 => ⟨S', I', F', h1, h2, h3⟩
  simpa using this
/-- the same with what stands behind it -/
theorem T_regionS {id : Nat} {l : List Oper} {y : Code} {Q : Exit → St → Prop} (h : Run P G E r (gdOf l) false l S (fun S' => T P G E r y S' Q)) : T P G E r (.seq (.region id l.toArray false) y) S Q :=
  T_seq (T_region h)
end Go.Sv
