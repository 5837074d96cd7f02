/- States of the logic, what it is for code to lead from one to others (T), and the rules for the forms of code but for regions and ranges over functions. -/
import Derived.Test.YtijnlobgmfmhjaaGreatDoorSva
namespace Go.Sv
open Go Go.RowKit

def look (t : Nat) : List (Nat × SV) → Option SV
  | [] => none
  | (k, s) :: r => match Nat.beq t k with
    | true => some s
    | false => look t r

structure St where
  n : Nat
  g : List (Nat × SV)
  h : HL
  d : List Nat
  i : Nat × Bool

def mark (b : Nat) : Deferred := { target := .collected b, args := #[] }
structure Env where
  ok : Nat × Bool → Imm → (Nat → Prop) → World → Prop
  stab : ∀ i I F W I' W', ok i I F W → I.le I' → W'.os = W.os → W'.tape = W.tape → W'.output = W.output → W.heap.size ≤ W'.heap.size → (∀ b, F b → W'.heap[b]? = W.heap[b]?) → (∀ b, F b → I' b = none) → ok i I' F W'
def own (S : St) (F : Nat → Prop) (b : Nat) : Prop := b ∈ bs S.h ∨ b ∈ S.d ∨ F b
structure Sat (G : Imm) (E : Env) (r : Option Nat) (S : St) (I : Imm) (F : Nat → Prop) (a : Act) (W : World) : Prop where
  n : a.tmps.size = S.n
  g : ∀ t s, look t S.g = some s → s.den I (a.tmps.getD t undef)
  m : Holds G I W
  h : HoldsH S.h I W
  d : a.defers = S.d.map mark
  dn : S.d.Nodup
  dk : ∀ b ∈ S.d, W.heap[b]? = some (.deferred (some []))
  e : E.ok S.i I F W
  f : ∀ b, F b → b < W.heap.size ∧ I b = none ∧ b ∉ bs S.h ∧ b ∉ S.d
  l : ∀ k, r = some k → (∃ rec, W.heap[k]? = some (.loop rec)) ∧ ¬ own S F k

def Fr (r : Option Nat) : Fence := { Fence.wide with round := r }
theorem fr_none : Fr none = Fence.wide := rfl
theorem fr_round (r : Option Nat) (l : Nat) : (Fr r).inRound l = Fr (some l) := rfl

def post (G : Imm) (E : Env) (r : Option Nat) (Q : Exit → St → Prop) (O : Nat → Prop) (I : Imm) (W : World) (e : Exit) (a' : Act) (W' : World) : Prop :=
  ∃ S' I' F', Sat G E r S' I' F' a' W' ∧ Q e S' ∧ Fram O I W (own S' F') I' W'
def T (P : Program) (G : Imm) (E : Env) (r : Option Nat) (c : Code) (S : St) (Q : Exit → St → Prop) : Prop :=
  ∀ n I F a W, Sat G E r S I F a W → c.wpIn (Fr r) n P (post G E r Q (own S F) I W) a W

variable {P : Program} {G : Imm} {E : Env} {r : Option Nat} {Q : Exit → St → Prop} {S : St}

theorem post.from {Q : Exit → St → Prop} {O O' : Nat → Prop} {I I' : Imm} {W W' : World} (f : Fram O I W O' I' W') {e : Exit} {a : Act} {W'' : World}
    (h : post G E r Q O' I' W' e a W'') : post G E r Q O I W e a W'' := by
  obtain ⟨S', I', F', hs, hq, hf⟩ := h
  exact ⟨S', I', F', hs, hq, f.trans hf⟩
theorem post.here {Q : Exit → St → Prop} {F : Nat → Prop} {I : Imm} {W : World} {e : Exit} {a : Act} (h : Sat G E r S I F a W) (hq : Q e S) : post G E r Q (own S F) I W e a W :=
  ⟨S, I, F, h, hq, Fram.refl _ _ _⟩

def thenQ (k : St → Prop) (Q : Exit → St → Prop) : Exit → St → Prop
  | .normal, S => k S
  | e, S => Q e S
def blockQ (id : Nat) (Q : Exit → St → Prop) : Exit → St → Prop
  | .exit j, S => match Nat.beq j id with
    | true => Q .normal S
    | false => Q (.exit j) S
  | e, S => Q e S
def noGotoQ (Q : Exit → St → Prop) : Exit → St → Prop
  | .goto _, _ => False
  | e, S => Q e S

theorem T_mono {c : Code} {Q' : Exit → St → Prop} (h : T P G E r c S Q) (hq : ∀ e S, Q e S → Q' e S) : T P G E r c S Q' :=
  fun n I F a W hs => wpIn_mono (h n I F a W hs) fun _ _ _ ⟨S', I', F', h1, h2, h3⟩ => ⟨S', I', F', h1, hq _ _ h2, h3⟩
theorem T_skip (h : Q .normal S) : T P G E r .skip S Q := fun _ _ _ _ _ hs => wpIn_skip (post.here hs h)
theorem T_label {l : Nat} (h : Q .normal S) : T P G E r (.label l) S Q := fun _ _ _ _ _ hs => wpIn_label (post.here hs h)
theorem T_exit {id : Nat} (h : Q (.exit id) S) : T P G E r (.exit id) S Q := fun _ _ _ _ _ hs => wpIn_exit (post.here hs h)
theorem T_ret (h : Q .ret S) : T P G E r .ret S Q := fun _ _ _ _ _ hs => wpIn_ret (post.here hs h)
theorem T_seq {x y : Code} (h : T P G E r x S (thenQ (fun S' => T P G E r y S' Q) Q)) : T P G E r (.seq x y) S Q := by
  intro n I F a W hs
  refine wpIn_seq (wpIn_mono (h n I F a W hs) fun e a' W' hp => ?_)
  obtain ⟨S', I', F', h1, h2, h3⟩ := hp
  cases e with
  | normal => exact wpIn_mono (h2 n I' F' a' W' h1) fun _ _ _ hp => hp.from h3
  | _ => exact ⟨S', I', F', h1, h2, h3⟩
theorem T_cond {c : Operand} {t : Nat} {x y : Code} {b : Bool} (hc : c = .tmp t) (hg : look t S.g = some (boolS b)) (ht : b = true → T P G E r x S Q) (hf : b = false → T P G E r y S Q) : T P G E r (.cond c x y) S Q := by
  intro n I F a W hs
  subst hc
  exact wpIn_cond_split (t := b) (hs.g t _ hg) (fun h => ht h n I F a W hs) (fun h => hf h n I F a W hs)
theorem T_cond_any {c : Operand} {t : Nat} {x y : Code} (hc : c = .tmp t) (hg : look t S.g = some anyBool) (ht : T P G E r x S Q) (hf : T P G E r y S Q) : T P G E r (.cond c x y) S Q := by
  intro n I F a W hs
  subst hc
  obtain ⟨b, hb⟩ := hs.g t _ hg
  exact wpIn_cond_split (t := b) hb (fun _ => ht n I F a W hs) (fun _ => hf n I F a W hs)
theorem T_block {id : Nat} {c : Code} (h : T P G E r c S (blockQ id Q)) : T P G E r (.block id c) S Q := by
  intro n I F a W hs
  refine wpIn_block (wpIn_mono (h n I F a W hs) fun e a' W' hp => ?_)
  obtain ⟨S', I', F', h1, h2, h3⟩ := hp
  cases e with
  | exit j =>
    simp only [blockQ] at h2
    by_cases hj : j = id
    · subst hj
      have hb : Nat.beq j j = true := by simp
      rw [hb] at h2
      simp only [Exit.inBlock, if_true]
      exact ⟨S', I', F', h1, h2, h3⟩
    · have hb : Nat.beq j id = false := by
        cases hc : Nat.beq j id with
        | false => rfl
        | true => exact absurd (Nat.eq_of_beq_eq_true hc) hj
      rw [hb] at h2
      simp only [Exit.inBlock, hj, if_false]
      exact ⟨S', I', F', h1, h2, h3⟩
  | _ => exact ⟨S', I', F', h1, h2, h3⟩

section scope
variable {b : Frame} {a : Act} {k : List Item} {cs : List Frame} {w : World}
theorem stepR_scope {c : Code} : step P (lone (b.atR a (.code (.scope c) :: k)) cs w) = .next (lone (b.atR a (.code c :: .inScope c :: k)) cs w) :=
  step_lone_go (by simp [stepG, stepG.exec, Frame.atR])
theorem stepR_inScope {c : Code} : step P (lone (b.atR a (.inScope c :: k)) cs w) = .next (lone (b.atR a k) cs w) :=
  step_lone_go (by simp [stepG, stepG.exec, Frame.atR])
theorem wpIn_scope {F : Fence} {n : Nat} {Q : Exit → Act → World → Prop} {c : Code} (h : c.wpIn F n P (Exit.noGoto Q) a w) : (Code.scope c).wpIn F n P Q a w := by
  intro b k cs hro hb hr
  have h0 : (lone (b.atR a (.code (.scope c) :: k)) cs w).fenced P F := fenced_calm hb hr rfl
  obtain ⟨e, a₁, w₁, hq, harr⟩ := h b (.inScope c :: k) cs hro hb hr
  cases e with
  | normal => exact ⟨.normal, a₁, w₁, hq, .head h0 stepR_scope (StepsIn.trans harr (.one (fenced_calm hb hr rfl) stepR_inScope))⟩
  | exit id =>
    have hx : exitTo id (.inScope c :: k) = exitTo id k := by simp [exitTo]
    exact ⟨.exit id, a₁, w₁, hq, fun k' hk => .head h0 stepR_scope (harr.1 k' (by rw [hx]; exact hk)),
      fun hr' hk => let ⟨k₁, h1, h2⟩ := harr.2 hr' (by rw [hx]; exact hk); ⟨k₁, h1, .head h0 stepR_scope h2⟩⟩
  | goto l => exact hq.elim
  | ret => exact ⟨_, a₁, w₁, hq, .of_steps (.one h0 stepR_scope) harr⟩
  | panic ch => exact ⟨_, a₁, w₁, hq, .of_steps (.one h0 stepR_scope) harr⟩
  | outgrown => exact ⟨_, a₁, w₁, hq, .of_steps (.one h0 stepR_scope) harr⟩
end scope
theorem T_scope {c : Code} (h : T P G E r c S (noGotoQ Q)) : T P G E r (.scope c) S Q := by
  intro n I F a W hs
  refine wpIn_scope (wpIn_mono (h n I F a W hs) fun e a' W' hp => ?_)
  obtain ⟨S', I', F', h1, h2, h3⟩ := hp
  cases e with
  | goto l => exact h2.elim
  | _ => exact ⟨S', I', F', h1, h2, h3⟩

/-- what a state says that speaks of no world -/
theorem T_fact {c : Code} {p : Prop} (hp : ∀ I F a W, Sat G E r S I F a W → p) (h : p → T P G E r c S Q) : T P G E r c S Q :=
  fun n I F a W hs => h (hp I F a W hs) n I F a W hs
theorem T_len {c : Code} {α : Type} {st : Nat} {f : α → List SV} {l : List α} (t : Nat) (hg : look t S.g = some (slS st f l)) (h : l.length ≤ big → T P G E r c S Q) : T P G E r c S Q :=
  T_fact (fun I F a W hs => by obtain ⟨_, _, _, _, h2, _⟩ := hs.g t _ hg; exact h2) h

def subG (g : List (Nat × SV)) : List (Nat × SV) → Prop
  | [] => True
  | (t, s) :: r => (∃ s0, look t g = some s0 ∧ ∀ I v, s0.den I v → s.den I v) ∧ subG g r
theorem subG.look {g g' : List (Nat × SV)} (h : subG g g') : ∀ t s, look t g' = some s → ∃ s0, look t g = some s0 ∧ ∀ I v, s0.den I v → s.den I v := by
  induction g' with
  | nil => intro t s hl; cases hl
  | cons p g' ih =>
    intro t s hl
    obtain ⟨k, s'⟩ := p
    obtain ⟨h1, h2⟩ := h
    simp only [Sv.look] at hl
    split at hl
    · rename_i e; cases hl; rw [Nat.eq_of_beq_eq_true e]; exact h1
    · exact ih h2 t s hl
theorem subG_cons {g g' : List (Nat × SV)} {t : Nat} {s : SV} (h : look t g = some s) (k : subG g g') : subG g ((t, s) :: g') := ⟨⟨s, h, fun _ _ h => h⟩, k⟩
/-- the owned blocks alike, cell by cell -/
def subH : HL → HL → Prop
  | [], [] => True
  | p :: r, q :: s => p.b = q.b ∧ p.e = q.e ∧ p.rest = q.rest ∧ p.cs.length = q.cs.length ∧ (∀ I xs, dens I p.cs xs → dens I q.cs xs) ∧ subH r s
  | _, _ => False
theorem subH_refl : ∀ h : HL, subH h h
  | [] => trivial
  | _ :: r => ⟨rfl, rfl, rfl, rfl, fun _ _ h => h, subH_refl r⟩
theorem subH.bs {h k : HL} (hs : subH h k) : bs k = bs h := by
  induction h generalizing k with
  | nil => cases k with
    | nil => rfl
    | cons => exact hs.elim
  | cons p r ih => cases k with
    | nil => exact hs.elim
    | cons q s =>
      have := ih hs.2.2.2.2.2
      simp only [Sv.bs, List.filterMap_cons] at this ⊢
      rw [hs.1, this]
theorem subH.mem {h k : HL} (hs : subH h k) : ∀ q ∈ k, ∃ p ∈ h, p.b = q.b ∧ p.e = q.e ∧ p.rest = q.rest ∧ p.cs.length = q.cs.length ∧ ∀ I xs, dens I p.cs xs → dens I q.cs xs := by
  induction h generalizing k with
  | nil => cases k with
    | nil => intro q hq; simp at hq
    | cons => exact hs.elim
  | cons p r ih => cases k with
    | nil => exact hs.elim
    | cons q s =>
      intro x hx
      rcases List.mem_cons.1 hx with rfl | hx
      · exact ⟨p, by simp, hs.1, hs.2.1, hs.2.2.1, hs.2.2.2.1, hs.2.2.2.2.1⟩
      · obtain ⟨p', hp', h1⟩ := ih hs.2.2.2.2.2 x hx; exact ⟨p', by simp [hp'], h1⟩
theorem subH.holds {h k : HL} (hs : subH h k) {I : Imm} {W : World} (hh : HoldsH h I W) : HoldsH k I W :=
  ⟨by rw [hs.bs]; exact hh.nodup, fun q hq => by
    obtain ⟨p, hp, h1, h0, h2, h3, h4⟩ := hs.mem q hq
    cases hb : q.b with
    | none => refine .of_none hb (List.eq_nil_of_length_eq_zero ?_); rw [← h3, (hh.mem p hp).none (h1.trans hb)]; rfl
    | some b =>
      obtain ⟨hn, c, hc, hsz, ho, hd⟩ := (hh.mem p hp).some (h1.trans hb)
      exact .of_some hb ⟨hn, c, by rw [← h0]; exact hc, by rw [← h2, ← h3]; exact hsz, by rw [← h3]; exact ho, by rw [← h3]; exact h4 _ _ hd⟩⟩
structure Ent (S S' : St) : Prop where
  n : S'.n = S.n
  g : subG S.g S'.g
  h : subH S.h S'.h
  d : S'.d = S.d
  i : S'.i = S.i
theorem Ent.own {S S' : St} (h : Ent S S') (F : Nat → Prop) : own S' F = own S F := by funext b; simp only [Sv.own, h.h.bs, h.d]
theorem Ent.sat {S S' : St} (h : Ent S S') {I : Imm} {F : Nat → Prop} {a : Act} {W : World} (hs : Sat G E r S I F a W) : Sat G E r S' I F a W where
  n := h.n ▸ hs.n
  g := fun t s hl => by obtain ⟨s0, h1, h2⟩ := h.g.look t s hl; exact h2 _ _ (hs.g t s0 h1)
  m := hs.m
  h := h.h.holds hs.h
  d := by rw [h.d]; exact hs.d
  dn := by rw [h.d]; exact hs.dn
  dk := by rw [h.d]; exact hs.dk
  e := by rw [h.i]; exact hs.e
  f := by rw [h.h.bs, h.d]; exact hs.f
  l := fun k hk => by rw [h.own]; exact hs.l k hk
theorem T_pre {c : Code} {S' : St} (h : Ent S S') (ht : T P G E r c S' Q) : T P G E r c S Q := by
  intro n I F a W hs
  have := ht n I F a W (h.sat hs)
  rwa [h.own] at this

theorem exists_least {p : Nat → Prop} (h : ∃ n, p n) : ∃ n, p n ∧ ∀ m, p m → n ≤ m := by
  obtain ⟨n, hn⟩ := h
  induction n using Nat.strongRecOn with
  | _ n ih =>
    by_cases hx : ∃ m, m < n ∧ p m
    · obtain ⟨m, hm, hp⟩ := hx; exact ih m hm hp
    · exact ⟨n, hn, fun m hm => by rcases Nat.lt_or_ge m n with h1 | h1; exact absurd ⟨m, h1, hm⟩ hx; exact h1⟩
open Classical in
noncomputable def least (p : Nat → Prop) : Nat := if h : ∃ n, p n then Classical.choose (exists_least h) else 0
theorem least_spec {p : Nat → Prop} (h : ∃ n, p n) : p (least p) ∧ ∀ m, p m → least p ≤ m := by
  unfold least; rw [dif_pos h]; exact Classical.choose_spec (exists_least h)

theorem T_loop {c : Code} {γ : Type} (Inv : γ → St) (p : γ → Prop) (μ : γ → Nat) (g0 : γ) (hp0 : p g0) (h0 : Ent S (Inv g0))
    (hr : ∀ g, p g → T P G E r c (Inv g) (thenQ (fun S' => ∃ g', p g' ∧ μ g' < μ g ∧ Ent S' (Inv g')) Q)) : T P G E r (.loop c) S Q := by
  intro n I F a W hs
  let at_ (m : Nat) (a' : Act) (W' : World) : Prop := ∃ g I' F', p g ∧ μ g = m ∧ Sat G E r (Inv g) I' F' a' W' ∧ Fram (own S F) I W (own (Inv g) F') I' W'
  refine wpIn_loop (fun a' W' => ∃ m, at_ m a' W') (fun a' W' => least fun m => at_ m a' W') ?_ ?_
  · exact ⟨μ g0, g0, I, F, hp0, rfl, h0.sat hs, by rw [h0.own]; exact Fram.refl _ _ _⟩
  · intro a' W' hI
    obtain ⟨⟨g, I', F', hp, hm, hs', hf⟩, _⟩ := least_spec (p := fun m => at_ m a' W') hI
    refine wpIn_mono (hr g hp n I' F' a' W' hs') fun e a'' W'' hq => ?_
    obtain ⟨S'', I'', F'', h1, h2, h3⟩ := hq
    cases e with
    | normal =>
      obtain ⟨g', hp', hlt, hent⟩ := h2
      have hat : at_ (μ g') a'' W'' := ⟨g', I'', F'', hp', rfl, hent.sat h1, by rw [hent.own]; exact hf.trans h3⟩
      exact ⟨⟨_, hat⟩, by have := (least_spec (p := fun m => at_ m a'' W'') ⟨_, hat⟩).2 _ hat; omega⟩
    | _ => exact ⟨S'', I'', F'', h1, h2, hf.trans h3⟩
end Go.Sv
