/- The rule of a range over a function. -/
import Derived.Test.YtofplgefmjojjaaGreatDoorSvi
namespace Go.Sv
open Go Go.RowKit
section
variable {P : Program} {G : Imm} {E : Env} {r : Option Nat} {S : St} {Q : Exit → St → Prop}
theorem none_of_obj {I : Imm} {W : World} (hm : Holds G I W) {b : Nat} {o : Obj} (h : W.heap[b]? = some o) (ho : ∀ c e f, o ≠ .cells c e f) : I b = none := by
 cases hI : I b with
 | none => rfl
 | some c => obtain ⟨e, f, hc⟩ := hm.mem b c hI; rw [hc] at h; cases h; exact absurd rfl (ho _ _ _)
theorem not_bs {H : HL} {I : Imm} {W : World} (hh : HoldsH H I W) {b : Nat} {o : Obj} (h : W.heap[b]? = some o) (ho : ∀ c e f, o ≠ .cells c e f) : b ∉ bs H := by
 intro hb
 obtain ⟨p, hp, he⟩ := of_mem_bs hb
 obtain ⟨_, c, hc, _⟩ := (hh.mem p hp).some he
 rw [hc] at h; cases h; exact ho _ _ _ rfl
theorem Sat.putLoop {l : Nat} {I : Imm} {F : Nat → Prop} {a : Act} {W : World} (hs : Sat G E (some l) S I F a W) (rec : Loop) : Sat G E (some l) S I F a (W.putObj l (.loop rec)) := by
 obtain ⟨⟨rec0, h0⟩, ho⟩ := hs.l l rfl
 have hI : I l = none := none_of_obj hs.m h0 (by intros; simp)
 have other : ∀ k, k ≠ l → (W.putObj l (.loop rec)).heap[k]? = W.heap[k]? := fun k hk => World.putObj_heap_other hk
 obtain ⟨hm, hf⟩ := fram_put (W' := W.putObj l (.loop rec)) hs.m hI rfl rfl rfl (by simp) other
 have hFl : ∀ b, F b → b ≠ l := fun b hb e => ho (.inr (.inr (by rw [← e]; exact hb)))
 refine ⟨hs.n, hs.g, hm, hs.h.keep hf fun b hb e => ho (.inl (by rw [← e]; exact hb)), hs.d, hs.dn, fun b hb => ?_, ?_, fun b hb => ?_, fun k hk => ?_⟩
 ·exact (other b fun e => ho (.inr (.inl (by rw [← e]; exact hb)))).trans (hs.dk b hb)
 ·exact E.stab _ _ _ _ _ _ hs.e (Imm.le_refl _) rfl rfl rfl (by simp) (fun b hb => other b (hFl b hb)) fun b hb => (hs.f b hb).2.1
 ·have := hs.f b hb; exact ⟨by simpa using this.1, this.2⟩
 ·cases hk; exact ⟨⟨rec, World.putObj_heap_same (lt_of_some h0)⟩, ho⟩
def zipPs : List Nat → List SV → List (Nat × SV)
 | p :: ps, s :: ss => (p, s) :: zipPs ps ss
 | _, _ => []
theorem look_zipPs {g : List (Nat × SV)} {t : Nat} {s : SV} : ∀ {ps : List Nat} {ss : List SV}, ss.length = ps.length → look t (zipPs ps ss ++ g) = some s → (∃ j : Nat, ps[j]? = some t ∧ ss[j]? = some s) ∨ (t ∉ ps ∧ look t g = some s)
  | [], [], _, h => .inr ⟨by simp, by simpa [zipPs] using h⟩
  | [], _ :: _, hl, _ => by simp at hl
  | _ :: _, [], hl, _ => by simp at hl
  | p :: ps, s0 :: ss, hl, h => by
    simp only [zipPs, List.cons_append, look] at h
    split at h
    · rename_i e; cases h; exact .inl ⟨0, by rw [Nat.eq_of_beq_eq_true e]; rfl, rfl⟩
    · rename_i e
      rcases look_zipPs (by simpa using hl) h with ⟨j, h1, h2⟩ | ⟨h1, h2⟩
      · exact .inl ⟨j + 1, by simpa using h1, by simpa using h2⟩
      · exact .inr ⟨fun hm => (List.mem_cons.1 hm).elim (fun e' => by subst e'; simp at e) h1, h2⟩
abbrev fillPs (ps : List Nat) (vs : List Value) (tmps : Array Value) : Array Value := (ps.zip vs).foldl (fun t x => t.setIfInBounds x.1 x.2) tmps
theorem fillPs_other {t : Nat} : ∀ {ps : List Nat} {vs : List Value} {tmps : Array Value}, t ∉ ps → (fillPs ps vs tmps).getD t undef = tmps.getD t undef
  | [], _, _, _ => by simp [fillPs]
  | _ :: _, [], _, _ => by simp [fillPs]
  | p :: ps, v :: vs, tmps, h => by
    have hne : p ≠ t := fun e => h (by simp [e])
    simp only [fillPs, List.zip_cons_cons, List.foldl_cons]
    have := fillPs_other (ps := ps) (vs := vs) (tmps := tmps.setIfInBounds p v) (t := t) fun hm => h (List.mem_cons_of_mem _ hm)
    simp only [fillPs] at this
    rw [this]
    simp [Array.getD_eq_getD_getElem?, Array.getElem?_setIfInBounds_ne hne]
theorem fillPs_at {t : Nat} {x : Value} : ∀ {ps : List Nat} {vs : List Value} {tmps : Array Value} {j : Nat}, ps.Nodup → ps[j]? = some t → vs[j]? = some x → t < tmps.size → (fillPs ps vs tmps).getD t undef = x
  | [], _, _, _, _, h, _, _ => by simp at h
  | _ :: _, [], _, _, _, _, h, _ => by simp at h
  | p :: ps, v :: vs, tmps, j, hnd, hp, hv, hlt => by
    have hnd' := List.nodup_cons.1 hnd
    simp only [fillPs, List.zip_cons_cons, List.foldl_cons]
    cases j with
    | zero =>
      simp at hp hv; subst hp; subst hv
      have := fillPs_other (ps := ps) (vs := vs) (tmps := tmps.setIfInBounds p v) hnd'.1
      simp only [fillPs] at this
      rw [this]
      simp [Array.getD_eq_getD_getElem?, hlt]
    | succ j =>
      have := fillPs_at (ps := ps) (vs := vs) (tmps := tmps.setIfInBounds p v) (j := j) hnd'.2 (by simpa using hp) (by simpa using hv) (by simpa using hlt)
      simpa only [fillPs] using this
theorem zipPs_look {I : Imm} {ps : List Nat} {ss : List SV} {vs : List Value} {tmps : Array Value} {g : List (Nat × SV)} (hd : dens I ss vs) (hl : ss.length = ps.length) (hnd : ps.Nodup) (hp : ∀ p ∈ ps, p < tmps.size) (hg : ∀ t s, look t g = some s → s.den I (tmps.getD t undef)) (t : Nat) (s : SV)
  (h : look t (zipPs ps ss ++ g) = some s) : s.den I ((fillPs ps vs tmps).getD t undef) := by
 rcases look_zipPs hl h with ⟨j, h1, h2⟩ | ⟨h1, h2⟩
 ·obtain ⟨x, hx, hs⟩ := hd.get h2
  rw [fillPs_at hnd h1 hx (hp t (List.mem_of_getElem? h1))]; exact hs
 ·rw [fillPs_other h1]; exact hg t s h2
def codeOf : Exit → Option Code
 | .ret => some .ret
 | .exit id => some (.exit id)
 | _ => none
def itOk (E : Env) (r : Option Nat) (ro : Loop) (d : List Nat) (I0 : Imm) (l : Nat) (rec : LoopState → Option Code → Loop) (Inv : Nat → HL → Nat × Bool → Prop) (InvX : Exit → HL → Nat × Bool → Prop) (i : Nat × Bool) (I : Imm) (F : Nat → Prop) (W : World) : Prop :=
  ∃ h ie Fc, (∀ b, F b ↔ b ∈ bs h ∨ b ∈ d ∨ b = l ∨ Fc b ∨ r = some b) ∧ I0.le I ∧ HoldsH h I W ∧ E.ok ie I Fc W ∧ (∀ b, Fc b → b < W.heap.size ∧ I b = none ∧ b ∉ bs h ∧ b ∉ d ∧ b ≠ l ∧ r ≠ some b) ∧
    (∀ b ∈ d, W.heap[b]? = some (.deferred (some []))) ∧ (∀ k, r = some k → k ≠ l ∧ W.heap[k]? = some (.loop ro)) ∧
    ((i.2 = false ∧ W.heap[l]? = some (.loop (rec .ready none)) ∧ Inv i.1 h ie) ∨ (i.2 = true ∧ ∃ e c, codeOf e = some c ∧ W.heap[l]? = some (.loop (rec .done (some c))) ∧ InvX e h ie))
def itEnv (E : Env) (r : Option Nat) (ro : Loop) (d : List Nat) (I0 : Imm) (l : Nat) (rec : LoopState → Option Code → Loop) (Inv : Nat → HL → Nat × Bool → Prop) (InvX : Exit → HL → Nat × Bool → Prop) : Env where
 ok := itOk E r ro d I0 l rec Inv InvX
 stab := by
  rintro i I F W I' W' ⟨h, ie, Fc, hF, h0, hh, he, hc, hd, hk, hl⟩ hle hos ht ho hs hw hn
  have fb : ∀ b ∈ bs h, F b := fun b hb => (hF b).2 (.inl hb)
  have fd : ∀ b ∈ d, F b := fun b hb => (hF b).2 (.inr (.inl hb))
  have fl : F l := (hF l).2 (.inr (.inr (.inl rfl)))
  have fc : ∀ b, Fc b → F b := fun b hb => (hF b).2 (.inr (.inr (.inr (.inl hb))))
  refine ⟨h, ie, Fc, hF, Imm.le_trans h0 hle, ⟨hh.nodup, fun p hp => ?_⟩, ?_, fun b hb => ⟨Nat.lt_of_lt_of_le (hc b hb).1 hs, hn b (fc b hb), (hc b hb).2.2⟩, fun b hb => (hw b (fd b hb)).trans (hd b hb), fun k hk' => ?_, ?_⟩
  ·cases hb : p.b with
   | none => exact .of_none hb ((hh.mem p hp).none hb)
   | some b => exact .of_some hb (((hh.mem p hp).some hb).keep hle (hn b (fb b (mem_bs hp hb))) (hw b (fb b (mem_bs hp hb))))
  ·exact E.stab _ _ _ _ _ _ he hle hos ht ho hs (fun b hb => hw b (fc b hb)) fun b hb => hn b (fc b hb)
  ·obtain ⟨h1, h2⟩ := hk k hk'
   exact ⟨h1, (hw k ((hF k).2 (.inr (.inr (.inr (.inr hk')))))).trans h2⟩
  ·rcases hl with ⟨a1, a2, a3⟩ | ⟨a1, e, c, a2, a3, a4⟩
   ·exact .inl ⟨a1, (hw l fl).trans a2, a3⟩
   ·exact .inr ⟨a1, e, c, a2, (hw l fl).trans a3, a4⟩
def roundQ (Inv : Nat → HL → Nat × Bool → Prop) (InvX : Exit → HL → Nat × Bool → Prop) (k : Nat) : Exit → St → Prop
 | .normal, S => Inv (k + 1) S.h S.i
 | .ret, S => InvX .ret S.h S.i
 | .exit id, S => InvX (.exit id) S.h S.i
 | _, _ => False
theorem union_fram {O O' : Nat → Prop} {I I' : Imm} {W W' : World} (f : Fram O I W O' I' W') (X : Nat → Prop) : Fram (fun b => O b ∨ X b) I W (fun b => O' b ∨ X b) I' W' :=
 f.weaken (fun _ h => .inl h) fun b hb => hb.elim .inl fun h => .inr (.inr h)
theorem yield_it {n0 : Nat} {g : List (Nat × SV)} {d : List Nat} {I0 : Imm} {l : Nat} {fnid : FuncId} {ps : Array Tmp} {assign body : Code} {tmps : Array Value} {db : Nat} {ro : Loop} {xs : List (List SV)} {Inv : Nat → HL → Nat × Bool → Prop} {InvX : Exit → HL → Nat × Bool → Prop}
    (hps : ∀ ss ∈ xs, ss.length = ps.size) (hnd : ps.toList.Nodup) (hpn : ∀ p ∈ ps.toList, p < n0) (hsz : tmps.size = n0) (hg : ∀ t s, look t g = some s → s.den I0 (tmps.getD t undef))
    (hbody : ∀ (k : Nat) (ss : List SV) (h : HL) (i : Nat × Bool), xs[k]? = some ss → Inv k h i → T P G E (some l) assign ⟨n0, zipPs ps.toList ss ++ g, h, [], i⟩ (fun e S' => e = .normal ∧ T P G E (some l) body S' (roundQ Inv InvX k))) :
    YieldOK P G (itEnv E r ro d I0 l (fun st pe => { state := st, pending := pe, fn := fnid, tmps := tmps, params := ps, assign := assign, body := body, defers := db }) Inv InvX) l xs := by
  intro k ss hk n I F W vs hok hap hm hd
  obtain ⟨h, ie, Fc, hF, h0, hh, he, hc, hdd, hkk, hl⟩ := hok
  obtain ⟨_, hl1, hInv⟩ : (k, false).2 = false ∧ _ ∧ _ := by
    rcases hl with h | ⟨h, _⟩
    · exact h
    · cases h
  have hlen : vs.toArray.size = ps.size := by have := hd.1; have := hps ss (List.mem_of_getElem? hk); simp; omega
  refine ⟨fnid, _, assign, body, run_yield hl1 hlen, roundIn_of_wpIn trivial ?_⟩
  have hlI : I l = none := none_of_obj hm hl1 (by intros; simp)
  have hlb : l ∉ bs h := not_bs hh hl1 (by intros; simp)
  -- the state of the round
  have hfold : ((ps.zip vs.toArray).foldl (fun (t : Array Value) (x : Tmp × Value) => t.setIfInBounds x.1 x.2) tmps) = ((ps.toList.zip vs).foldl (fun (t : Array Value) (x : Tmp × Value) => t.setIfInBounds x.1 x.2) tmps) := by
    rw [← Array.foldl_toList]; simp
  have hfs : ∀ (z : List (Tmp × Value)) (t : Array Value), (z.foldl (fun (t : Array Value) (x : Tmp × Value) => t.setIfInBounds x.1 x.2) t).size = t.size := by
    intro z
    induction z with
    | nil => intro t; rfl
    | cons x z ih => intro t; simp only [List.foldl_cons]; rw [ih]; simp
  have hs : Sat G E (some l) ⟨n0, zipPs ps.toList ss ++ g, h, [], ie⟩ I Fc { tmps := ((ps.zip vs.toArray).foldl (fun (t : Array Value) (x : Tmp × Value) => t.setIfInBounds x.1 x.2) tmps), defers := [] } W := by
    refine ⟨?_, fun t s ht => ?_, hm, hh, rfl, List.nodup_nil, fun b hb => (by cases hb), he, fun b hb => ⟨(hc b hb).1, (hc b hb).2.1, (hc b hb).2.2.1, by simp⟩, fun j hj => ?_⟩
    · simp only [hfold, hfs, hsz]
    · rw [hfold]
      exact zipPs_look hd (by rw [hps ss (List.mem_of_getElem? hk)]; simp) hnd (fun p hp => by rw [hsz]; exact hpn p hp) (fun t s ht => s.mono _ _ _ h0 (hg t s ht)) t s ht
    · cases hj
      refine ⟨⟨_, hl1⟩, fun ho => ?_⟩
      rcases ho with ho | ho | ho
      · exact hlb ho
      · cases ho
      · exact (hc l ho).2.2.2.2.1 rfl
  have hown0 : ∀ b, own ⟨n0, zipPs ps.toList ss ++ g, h, [], ie⟩ Fc b ↔ b ∈ bs h ∨ Fc b := by intro b; simp [own]
  refine wpIn_mono (hbody k ss h ie hk hInv n I Fc _ W hs) fun e a₁ W₁ hp => ?_
  obtain ⟨S₁, I₁, F₁, s1, ⟨rfl, hT⟩, f1⟩ := hp
  have hl2 : W₁.heap[l]? = some (.loop { state := .ready, pending := none, fn := fnid, tmps := tmps, params := ps, assign := assign, body := body, defers := db }) :=
    (f1.old l (lt_of_some hl1) fun ho => by rcases (hown0 l).1 ho with h' | h'; exact hlb h'; exact (hc l h').2.2.2.2.1 rfl).trans hl1
  refine ⟨_, run_beginRound hl2 rfl, ?_⟩
  have s2 := s1.putLoop { state := .busy, pending := none, fn := fnid, tmps := tmps, params := ps, assign := assign, body := body, defers := db }
  have hl1I : I₁ l = none := none_of_obj s1.m hl2 (by intros; simp)
  have f2 : Fram (fun b => own S₁ F₁ b ∨ b = l) I₁ W₁ (fun b => own S₁ F₁ b ∨ b = l) I₁ (W₁.putObj l (.loop { state := .busy, pending := none, fn := fnid, tmps := tmps, params := ps, assign := assign, body := body, defers := db })) :=
    (fram_put (W' := W₁.putObj l (.loop { state := .busy, pending := none, fn := fnid, tmps := tmps, params := ps, assign := assign, body := body, defers := db })) s1.m hl1I rfl rfl rfl (by simp) (fun k hk => World.putObj_heap_other hk)).2.weaken (fun b hb => .inr hb) fun b hb => .inr hb
  refine wpIn_mono (hT n I₁ F₁ a₁ _ s2) fun e a₂ W₂ hp => ?_
  obtain ⟨S₂, I₂, F₂, s3, hq, f3⟩ := hp
  have hl3 : ∃ rc, W₂.heap[l]? = some (.loop rc) ∧ rc = { state := .busy, pending := none, fn := fnid, tmps := tmps, params := ps, assign := assign, body := body, defers := db } := by
    refine ⟨_, ?_, rfl⟩
    refine (f3.old l ?_ (s2.l l rfl).2).trans (World.putObj_heap_same (lt_of_some hl2))
    simp; exact lt_of_some hl2
  obtain ⟨rc, hl3, hrc⟩ := hl3
  have hl2I : I₂ l = none := none_of_obj s3.m hl3 (by intros; simp)
  have ftot : Fram (fun b => own ⟨n0, zipPs ps.toList ss ++ g, h, [], ie⟩ Fc b ∨ b = l) I W (fun b => own S₂ F₂ b ∨ b = l) I₂ W₂ := ((union_fram f1 (· = l)).trans f2).trans (union_fram f3 (· = l))
  -- the round's end
  have fin : ∀ (jump : Option Code) (rc' : Loop) (b : Bool), (Instr.endRound l jump).run P W₂ = .ok (.bool b) (W₂.putObj l (.loop rc')) →
      ((b = true ∧ rc' = { state := .ready, pending := none, fn := fnid, tmps := tmps, params := ps, assign := assign, body := body, defers := db } ∧ Inv (k + 1) S₂.h S₂.i) ∨
       (b = false ∧ ∃ e c, codeOf e = some c ∧ rc' = { state := .done, pending := some c, fn := fnid, tmps := tmps, params := ps, assign := assign, body := body, defers := db } ∧ InvX e S₂.h S₂.i)) →
      ∃ v w', (Instr.endRound l jump).run P W₂ = .ok v w' ∧ ∃ b I' F', Ending.returned v = .returned (.bool b) ∧ itOk E r ro d I0 l (fun st pe => { state := st, pending := pe, fn := fnid, tmps := tmps, params := ps, assign := assign, body := body, defers := db }) Inv InvX (k + 1, !b) I' F' w' ∧ apart F' I' w' ∧ Holds G I' w' ∧ Fram F I W F' I' w' := by
    intro jump rc' b hrun hcase
    have s4 := s3.putLoop rc'
    have f4 : Fram (fun b => own S₂ F₂ b ∨ b = l) I₂ W₂ (fun b => own S₂ F₂ b ∨ b = l) I₂ (W₂.putObj l (.loop rc')) :=
      (fram_put (W' := W₂.putObj l (.loop rc')) s3.m hl2I rfl rfl rfl (by simp) (fun k hk => World.putObj_heap_other hk)).2.weaken (fun b hb => .inr hb) fun b hb => .inr hb
    have fall := ftot.trans f4
    have hout : ∀ b o, W.heap[b]? = some o → (∀ c e f, o ≠ .cells c e f) → ¬ Fc b → b ≠ l → (W₂.putObj l (.loop rc')).heap[b]? = some o ∧ ¬ own S₂ F₂ b := by
      intro b o hb ho hfc hbl
      have hno : ¬ (own ⟨n0, zipPs ps.toList ss ++ g, h, [], ie⟩ Fc b ∨ b = l) := by
        rintro (h' | h')
        · rcases (hown0 b).1 h' with h' | h'
          · exact not_bs hh hb ho h'
          · exact hfc h'
        · exact hbl h'
      refine ⟨(fall.old b (lt_of_some hb) hno).trans hb, fun h' => ?_⟩
      rcases fall.own b (.inl h') with h' | h'
      · exact hno h'
      · have := lt_of_some hb; omega
    have hdn : ∀ b ∈ d, (W₂.putObj l (.loop rc')).heap[b]? = some (.deferred (some [])) ∧ ¬ own S₂ F₂ b := fun b hb =>
      hout b _ (hdd b hb) (by intros; simp) (fun h' => (hc b h').2.2.2.1 hb) fun e' => by have h9 := hdd b hb; rw [e', hl1] at h9; cases h9
    have hrn : ∀ j, r = some j → j ≠ l ∧ (W₂.putObj l (.loop rc')).heap[j]? = some (.loop ro) ∧ ¬ own S₂ F₂ j := fun j hj => by
      obtain ⟨h1, h2⟩ := hkk j hj
      have := hout j _ h2 (by intros; simp) (fun h' => (hc j h').2.2.2.2.2 hj) h1
      exact ⟨h1, this.1, this.2⟩
    have hl4 : (W₂.putObj l (.loop rc')).heap[l]? = some (.loop rc') := World.putObj_heap_same (lt_of_some hl3)
    refine ⟨_, _, hrun, b, I₂, fun c => c ∈ bs S₂.h ∨ c ∈ d ∨ c = l ∨ F₂ c ∨ r = some c, rfl, ⟨S₂.h, S₂.i, F₂, fun c => Iff.rfl, Imm.le_trans h0 fall.imm, s4.h, s4.e, fun c hc' => ?_, fun c hc' => (hdn c hc').1, fun j hj => ⟨(hrn j hj).1, (hrn j hj).2.1⟩, ?_⟩, ?_, s4.m, ?_⟩
    · obtain ⟨g1, g2, g3, _⟩ := s4.f c hc'
      exact ⟨g1, g2, g3, fun h' => (hdn c h').2 (.inr (.inr hc')), fun h' => (s4.l l rfl).2 (.inr (.inr (by rw [← h']; exact hc'))), fun h' => (hrn c h').2.2 (.inr (.inr hc'))⟩
    · rcases hcase with ⟨rfl, rfl, hi⟩ | ⟨rfl, e, c, he', rfl, hi⟩
      · exact .inl ⟨rfl, hl4, hi⟩
      · exact .inr ⟨rfl, e, c, he', hl4, hi⟩
    · intro c hc'
      rcases hc' with h' | h' | h' | h' | h'
      · exact s4.h.lt h'
      · have := (hdn c h').1; exact ⟨lt_of_some this, none_of_obj s4.m this (by intros; simp)⟩
      · subst h'; exact ⟨lt_of_some hl4, none_of_obj s4.m hl4 (by intros; simp)⟩
      · exact ⟨(s4.f c h').1, (s4.f c h').2.1⟩
      · have h2 := (hrn c h').2.1; exact ⟨lt_of_some h2, none_of_obj s4.m h2 (by intros; simp)⟩
    · refine fall.weaken (fun c hc' => (hF c).2 ?_) fun c hc' => ?_
      · rcases hc' with h' | h'
        · rcases (hown0 c).1 h' with h' | h'
          · exact .inl h'
          · exact .inr (.inr (.inr (.inl h')))
        · exact .inr (.inr (.inl h'))
      · rcases hc' with h' | h' | h' | h' | h'
        · exact .inl (.inl (.inl h'))
        · exact .inr ((hF c).2 (.inr (.inl h')))
        · exact .inl (.inr h')
        · exact .inl (.inl (.inr (.inr h')))
        · exact .inr ((hF c).2 (.inr (.inr (.inr (.inr h')))))
  have hend := fun jump => run_endRound (P := P) (w := W₂) jump hl3
  subst hrc
  cases e with
  | normal => exact fin none _ true (by simpa using hend none) (.inl ⟨rfl, rfl, hq⟩)
  | ret => exact fin (some .ret) _ false (by simpa using hend (some .ret)) (.inr ⟨rfl, .ret, .ret, rfl, rfl, hq⟩)
  | exit id => exact fin (some (.exit id)) _ false (by simpa using hend (some (.exit id))) (.inr ⟨rfl, .exit id, .exit id, rfl, rfl, hq⟩)
  | _ => exact hq.elim
theorem enter_spec {I : Imm} {F : Nat → Prop} {a : Act} {W : World} (hs : Sat G E r S I F a W) (fnid : FuncId) (ps : Array Tmp) (assign body : Code) :
    ∃ (l : Nat) (D : List Nat) (W1 : World) (db : Nat), (Instr.enterLoop fnid a.tmps ps assign body r).run P W = .ok (l, D.map mark) W1 ∧ W1.heap[l]? = some (.loop { state := .ready, pending := none, fn := fnid, tmps := a.tmps, params := ps, assign := assign, body := body, defers := db }) ∧
      W.heap.size ≤ l ∧ (∀ b ∈ D, W.heap.size ≤ b ∧ W1.heap[b]? = some (.deferred (some []))) ∧ D.Nodup ∧ W1.os = W.os ∧ W1.tape = W.tape ∧ W1.output = W.output ∧ W.heap.size ≤ W1.heap.size ∧ ∀ b, b < W.heap.size → W1.heap[b]? = W.heap[b]? := by
  cases hr : r with
  | none =>
    refine ⟨W.heap.size + 1, [W.heap.size], _, W.heap.size, run_enterLoop_outer fnid a.tmps ps assign body, ?_, by omega, ?_, by simp, rfl, rfl, rfl, by simp; omega, fun b hb => ?_⟩
    · have := World.alloc_heap_new (W.alloc (.deferred (some []))) (.loop { state := .ready, pending := none, fn := fnid, tmps := a.tmps, params := ps, assign := assign, body := body, defers := W.heap.size })
      rwa [World.size_alloc] at this
    · intro b hb
      simp at hb; subst hb
      exact ⟨Nat.le_refl _, (alloc_heap_old _ _ (by simp)).trans (alloc_heap_at _ _)⟩
    · rw [alloc_heap_old _ _ (by simp; omega), alloc_heap_old _ _ hb]
  | some l0 =>
    obtain ⟨⟨rec, h0⟩, _⟩ := hs.l l0 hr
    refine ⟨W.heap.size, [], W.alloc (.loop { state := .ready, pending := none, fn := fnid, tmps := a.tmps, params := ps, assign := assign, body := body, defers := rec.defers }), rec.defers, ?_, alloc_heap_at _ _, Nat.le_refl _, by simp, by simp, rfl, rfl, rfl, by simp, fun b hb => alloc_heap_old _ _ hb⟩
    unfold Instr.enterLoop
    simp only [Sem.run_bind, run_getLoop h0, run_newObj_alloc, Result.andThen, Sem.run_pure, List.map_nil]
theorem T_range {x : Operand} {t : Nat} {ps : Array Tmp} {assign body : Code} {f : FuncId} {caps : List SV} {xs : List (List SV)} (hx : x = .tmp t) (hg : look t S.g = some (fnS f caps)) (hit : IterSpec P G f caps xs) (hps : ∀ ss ∈ xs, ss.length = ps.size) (hnd : ps.toList.Nodup) (hpn : ∀ p ∈ ps.toList, p < S.n)
  (Inv : Nat → HL → Nat × Bool → Prop) (InvX : Exit → HL → Nat × Bool → Prop) (h0 : Inv 0 S.h S.i)
  (hbody : ∀ (l k : Nat) (ss : List SV) (h : HL) (i : Nat × Bool), xs[k]? = some ss → Inv k h i → T P G E (some l) assign ⟨S.n, zipPs ps.toList ss ++ S.g, h, [], i⟩ (fun e S' => e = .normal ∧ T P G E (some l) body S' (roundQ Inv InvX k)))
  (hdone : ∀ (h : HL) (i : Nat × Bool) (D : List Nat), Inv xs.length h i → Q .normal ⟨S.n, S.g, h, D ++ S.d, i⟩)
  (hleave : ∀ (h : HL) (i : Nat × Bool) (D : List Nat) (e : Exit) (c : Code), codeOf e = some c → InvX e h i → Q e ⟨S.n, S.g, h, D ++ S.d, i⟩) : T P G E r (.rangeFunc x ps assign body) S Q := by
 intro n I F a W hs
 subst hx
 obtain ⟨cv, hav, hcd⟩ := hs.g t _ hg
 refine wpIn_rangeFunc fun fnid _ => ?_
 obtain ⟨l, D, W1, db, hrun, hl1, hlge, hD, hDnd, e1, e2, e3, e4, e5⟩ := enter_spec (P := P) hs fnid ps assign body
 have hm1 : Holds G I W1 := ⟨hs.m.glob, fun b c hc => by obtain ⟨e, fz, h⟩ := hs.m.mem b c hc; exact ⟨e, fz, (e5 b (lt_of_some h)).trans h⟩⟩
 have hnew : ∀ b, I b ≠ none → b < W.heap.size := fun b hb => by
  cases hI : I b with
  | none => exact absurd hI hb
  | some c => obtain ⟨e, fz, h⟩ := hs.m.mem b c hI; exact lt_of_some h
 have hIn : ∀ b, W.heap.size ≤ b → I b = none := fun b hb => by
  cases hI : I b with
  | none => rfl
  | some c => have := hnew b (by simp [hI]); omega
 have hbsl : ∀ b ∈ bs S.h, b < W.heap.size := fun b hb => (hs.h.lt hb).1
 have hdl : ∀ b ∈ S.d, b < W.heap.size := fun b hb => lt_of_some (hs.dk b hb)
 have hh1 : HoldsH S.h I W1 := ⟨hs.h.nodup, fun p hp => by
  cases hb : p.b with
  | none => exact .of_none hb ((hs.h.mem p hp).none hb)
  | some b => have h := (hs.h.mem p hp).some hb; exact .of_some hb (h.keep (Imm.le_refl _) h.1 (e5 b h.lt))⟩
 have hE1 : E.ok S.i I F W1 := E.stab _ _ _ _ _ _ hs.e (Imm.le_refl _) e1 e2 e3 e4 (fun b hb => e5 b (hs.f b hb).1) fun b hb => (hs.f b hb).2.1
 obtain ⟨ro, hro⟩ : ∃ ro : Loop, ∀ k, r = some k → W.heap[k]? = some (.loop ro) := by
  cases hr : r with
  | none => exact ⟨{ state := .ready, pending := none, fn := fnid, tmps := a.tmps, params := ps, assign := assign, body := body, defers := db }, fun k hk => by cases hk⟩
  | some k0 => obtain ⟨⟨rec, h⟩, _⟩ := hs.l k0 hr; exact ⟨rec, fun k hk => by cases hk; exact h⟩
 have hlD : l ∉ D := fun h => by have := (hD l h).2; rw [hl1] at this; cases this
 have hok : (itEnv E r ro (D ++ S.d) I l (fun st pe => { state := st, pending := pe, fn := fnid, tmps := a.tmps, params := ps, assign := assign, body := body, defers := db }) Inv InvX).ok (0, false) I (fun b => b ∈ bs S.h ∨ b ∈ D ++ S.d ∨ b = l ∨ F b ∨ r = some b) W1 := by
  refine ⟨S.h, S.i, F, fun b => Iff.rfl, Imm.le_refl _, hh1, hE1, fun b hb => ?_, fun b hb => ?_, fun k hk => ?_, .inl ⟨rfl, hl1, h0⟩⟩
  ·obtain ⟨g1, g2, g3, g4⟩ := hs.f b hb
   refine ⟨by omega, g2, g3, fun h => ?_, by omega, fun h => (hs.l b h).2 (.inr (.inr hb))⟩
   rcases List.mem_append.1 h with h | h
   ·have := (hD b h).1; omega
   ·exact g4 h
  ·rcases List.mem_append.1 hb with h | h
   ·exact (hD b h).2
   ·exact (e5 b (hdl b h)).trans (hs.dk b h)
  ·have h := hro k hk
   exact ⟨by have := lt_of_some h; omega, (e5 k (lt_of_some h)).trans h⟩
 have hap : apart (fun b => b ∈ bs S.h ∨ b ∈ D ++ S.d ∨ b = l ∨ F b ∨ r = some b) I W1 := by
  intro b hb
  rcases hb with h | h | h | h | h
  ·exact ⟨by have := hbsl b h; omega, (hs.h.lt h).2⟩
  ·rcases List.mem_append.1 h with h | h
   ·exact ⟨lt_of_some (hD b h).2, hIn b (hD b h).1⟩
   ·exact ⟨by have := hdl b h; omega, none_of_obj hs.m (hs.dk b h) (by intros; simp)⟩
  ·subst h; exact ⟨lt_of_some hl1, hIn b hlge⟩
  ·exact ⟨by have := (hs.f b h).1; omega, (hs.f b h).2.1⟩
  ·obtain ⟨⟨rec, h'⟩, _⟩ := hs.l b h; exact ⟨by have := lt_of_some h'; omega, none_of_obj hs.m h' (by intros; simp)⟩
 have hy := yield_it (P := P) (G := G) (E := E) (r := r) (n0 := S.n) (g := S.g) (d := D ++ S.d) (I0 := I) (l := l) (fnid := fnid) (ps := ps) (assign := assign) (body := body) (tmps := a.tmps) (db := db) (ro := ro) (xs := xs) (Inv := Inv) (InvX := InvX) hps hnd hpn hs.n hs.g (hbody l)
 refine ⟨l, D.map mark, W1, { target := .fn (.func f) cv.toArray, args := #[.func (.yield l) #[] #[]] }, W1, f, (Value.func (.yield l) #[] #[] :: cv).toArray, W1, hrun, ?_, fun f' _ => fn_true r f', ?_, fun h => by simp [Fr, Fence.wide] at h, ?_⟩
 ·simp only [resolve, rangeCall]
  have : a.eval (.tmp t) = .func (.func f) #[] cv.toArray := hav
  simp only [this, Deferred.ofValue, Sem.run_pure, Array.empty_append]
  simp [Act.eval]
 ·have : (#[Value.func (.yield l) #[] #[]] ++ cv.toArray) = (Value.func (.yield l) #[] #[] :: cv).toArray := by apply Array.ext'; simp
  simp only [invoke, this, hit.enters]
 ·refine callsIn_fr r ((hit.main l _ I _ W1 cv hy hok hap hm1 hcd).mono ?_)
  rintro e W' ⟨v, I', F', i, rfl, hi, ⟨h, ie, Fc, hF', h0', hh', hE', hc', hd', hk', hl'⟩, hap', hm', hfr⟩
  -- the record, whatever it says, is not busy
  have fin : ∀ (st : LoopState) (pe : Option Code), st ≠ .busy → W'.heap[l]? = some (.loop { state := st, pending := pe, fn := fnid, tmps := a.tmps, params := ps, assign := assign, body := body, defers := db }) →
    ∃ W2, (Instr.endLoop l).run P W' = .ok pe W2 ∧ Sat G E r ⟨S.n, S.g, h, D ++ S.d, ie⟩ I' Fc { a with defers := D.map mark ++ a.defers } W2 ∧ Fram (own S F) I W (own ⟨S.n, S.g, h, D ++ S.d, ie⟩ Fc) I' W2 := by
   intro st pe hst hlw
   have hend := run_endLoop (P := P) hlw hst
   refine ⟨_, hend, ?_, ?_⟩
   ·have other : ∀ k, k ≠ l → (W'.putObj l (.loop { state := .exhausted, pending := pe, fn := fnid, tmps := a.tmps, params := ps, assign := assign, body := body, defers := db })).heap[k]? = W'.heap[k]? := fun k hk => World.putObj_heap_other hk
    have hlI : I' l = none := none_of_obj hm' hlw (by intros; simp)
    obtain ⟨hm2, hf2⟩ := fram_put (W' := W'.putObj l (.loop { state := .exhausted, pending := pe, fn := fnid, tmps := a.tmps, params := ps, assign := assign, body := body, defers := db })) hm' hlI rfl rfl rfl (by simp) other
    have hlb : l ∉ bs h := not_bs hh' hlw (by intros; simp)
    refine ⟨hs.n, fun t s ht => s.mono _ _ _ h0' (hs.g t s ht), hm2, hh'.keep hf2 fun b hb e => hlb (by rw [← e]; exact hb), by simp [hs.d], ?_, fun b hb => (other b fun e => ?_).trans (hd' b hb), ?_, fun b hb => ?_, fun k hk => ?_⟩
    ·refine List.nodup_append.2 ⟨hDnd, hs.dn, fun x hx y hy e => ?_⟩
     subst e; have := (hD x hx).1; have := hdl x hy; omega
    ·subst e; have := hd' b hb; rw [hlw] at this; cases this
    ·exact E.stab _ _ _ _ _ _ hE' (Imm.le_refl _) rfl rfl rfl (by simp) (fun b hb => other b (hc' b hb).2.2.2.2.1) fun b hb => (hc' b hb).2.1
    ·obtain ⟨g1, g2, g3, g4, _⟩ := hc' b hb; exact ⟨by simpa using g1, g2, g3, g4⟩
    ·obtain ⟨h1, h2⟩ := hk' k hk
     refine ⟨⟨ro, (other k h1).trans h2⟩, fun ho => ?_⟩
     rcases ho with ho | ho | ho
     ·exact not_bs hh' h2 (by intros; simp) ho
     ·have := hd' k ho; rw [h2] at this; cases this
     ·exact (hc' k ho).2.2.2.2.2 hk
   ·have sub0 : ∀ b, (b ∈ bs S.h ∨ b ∈ D ++ S.d ∨ b = l ∨ F b ∨ r = some b) → b < W.heap.size → r ≠ some b → own S F b := fun b hb hlt hr => by
     rcases hb with h | h | h | h | h
     ·exact .inl h
     ·rcases List.mem_append.1 h with h | h
      ·have := (hD b h).1; omega
      ·exact .inr (.inl h)
     ·omega
     ·exact .inr (.inr h)
     ·exact absurd h hr
    refine ⟨hfr.os.trans e1, hfr.tape.trans e2, hfr.output.trans e3, hfr.imm, by have := hfr.size; simp; omega, fun b hb hn => ?_, fun b hb hb' => ?_, fun b hb => ?_⟩
    ·rw [World.putObj_heap_other (by omega)]
     by_cases hr : r = some b
     ·rw [(hk' b hr).2, hro b hr]
     ·rw [hfr.old b (by omega) fun h => hn (sub0 b h hb hr), e5 b hb]
    ·by_cases hlt : b < W.heap.size
     ·rcases hfr.new b hb hb' with h | h
      ·by_cases hr : r = some b
       ·have h2 := (hk' b hr).2
        exact absurd (none_of_obj hm' h2 (by intros; simp)) hb'
       ·exact .inl (sub0 b h hlt hr)
      ·omega
     ·exact .inr (by omega)
    ·by_cases hlt : b < W.heap.size
     ·left
      have hF : F' b := (hF' b).2 (by
       rcases hb with h | h | h
       ·exact .inl h
       ·exact .inr (.inl h)
       ·exact .inr (.inr (.inr (.inl h))))
      rcases hfr.own b hF with h | h
      ·refine sub0 b h hlt fun hr => ?_
       have h2 := (hk' b hr).2
       rcases hb with h | h | h
       ·exact not_bs hh' h2 (by intros; simp) h
       ·have := hd' b h; rw [h2] at this; cases this
       ·exact (hc' b h).2.2.2.2.2 hr
      ·omega
     ·exact .inr (by omega)
  rcases hl' with ⟨a1, a2, a3⟩ | ⟨a1, e, c, a2, a3, a4⟩
  ·obtain ⟨W2, f1, f2, f3⟩ := fin _ _ (by simp) a2
   have hie : i = (xs.length, false) := by
    rcases hi with h | h
    ·exact h
    ·rw [a1] at h; cases h
   rw [hie] at a3
   exact ⟨none, W2, f1, ⟨_, I', Fc, f2, hdone h ie D a3, f3⟩⟩
  ·obtain ⟨W2, f1, f2, f3⟩ := fin _ _ (by simp) a3
   refine ⟨some c, W2, f1, ?_⟩
   cases e with
   | ret => cases a2; exact wpIn_ret ⟨_, I', Fc, f2, hleave h ie D .ret _ rfl a4, f3⟩
   | exit id => cases a2; exact wpIn_exit ⟨_, I', Fc, f2, hleave h ie D (.exit id) _ rfl a4, f3⟩
   | _ => cases a2
end
end Go.Sv
/- More rules: a truth value split where it comes up, branches that are known, calls that own what they are handed. -/
namespace Go.Sv
open Go Go.RowKit
section
variable {P : Program} {G : Imm} {E : Env} {r : Option Nat} {gd : Nat → Option Nat} {p : Bool} {o : Oper} {ops : List Oper} {K : St → Prop} {S : St} {Q : Exit → St → Prop}
theorem Run.oneB {n t : Nat} {g : List (Nat × SV)} {h : HL} {d : List Nat} {i : Nat × Bool} {b : Bool} (ho : OpOK P G h o g (boolS b)) (hg : guardAt gd g o true) (ht : o.dst = some t) (hd : Nat.blt t n = true)
  (h1 : b = true → Run P G E r gd p ops ⟨n, (t, boolS true) :: g, h, d, i⟩ K) (h2 : b = false → Run P G E r gd p ops ⟨n, (t, boolS false) :: g, h, d, i⟩ K) : Run P G E r gd p (o :: ops) ⟨n, g, h, d, i⟩ K := by
 cases b with
 | true => exact Run.one ho hg ht hd (h1 rfl)
 | false => exact Run.one ho hg ht hd (h2 rfl)
theorem T_condT {c : Operand} {t : Nat} {x y : Code} (hc : c = .tmp t) (hg : look t S.g = some (boolS true)) (h : T P G E r x S Q) : T P G E r (.cond c x y) S Q := T_cond hc hg (fun _ => h) (fun h => absurd h (by decide))
theorem T_condF {c : Operand} {t : Nat} {x y : Code} (hc : c = .tmp t) (hg : look t S.g = some (boolS false)) (h : T P G E r y S Q) : T P G E r (.cond c x y) S Q := T_cond hc hg (fun h => absurd h (by decide)) (fun _ => h)
theorem T_seqQ {x y : Code} {K : St → Prop} (h : T P G E r x S (thenQ K Q)) (k : ∀ S', K S' → T P G E r y S' Q) : T P G E r (.seq x y) S Q :=
 T_seq (T_mono h fun e S' hq => by cases e <;> first | exact k S' hq | exact hq)
/-! nil told from a slice -/
def boolIf (q : Prop) : SV := ⟨fun _ v => ∃ b, v = .bool b ∧ (b = true → q), fun _ _ _ _ h => h⟩
theorem ok_eql_nil_if {H : HL} {g : List (Nat × SV)} {t u e st : TypeId} [IsSl P t e st] {x y : Operand} {α : Type} {n : Nat} {f : α → List SV} {l : List α} (hop : o.op = .binOp .eql t x y u) (hx : opE g x = some (slS n f l)) (hy : opE g y = some (eqS (.slice none 0 0))) : OpOK P G H o g (boolIf (l = [])) :=
 ok_pure (by simp [hop]) fun I W a _ _ hr => by
  obtain ⟨ad, cap, h1, _, _, h4⟩ := hr.get (by simp [hop, Op.operands]) hx
  have h2 : a.eval y = .slice none 0 0 := hr.get (by simp [hop, Op.operands]) hy
  refine ⟨.bool ad.isNone, ?_, _, rfl, fun hb => ?_⟩
  ·have e := run_equal_slice_nil (w := W) t _ ad l.length cap (IsSl.u (P := P) (t := t))
   have e2 : (binOp .eql t (.slice ad l.length cap) (.slice none 0 0)).run P W = .ok (.bool ad.isNone) W := by
    show ((do pure (.bool (← Op.equal t (.slice ad l.length cap) (.slice none 0 0)))) : Sem Value).run P W = _
    simp [e]
   simp [execOp, hop, h1, h2, eqGuard, e2]
  ·rcases h4 with h | ⟨b, o, ha, _⟩
   ·exact h
   ·rw [ha] at hb; cases hb
theorem T_cond_if {c : Operand} {t : Nat} {x y : Code} {q : Prop} (hc : c = .tmp t) (hg : look t S.g = some (boolIf q)) (h1 : q → T P G E r x S Q) (h2 : T P G E r y S Q) : T P G E r (.cond c x y) S Q := by
 intro n I F a W hs
 subst hc
 obtain ⟨b, hb, hq⟩ := hs.g t _ hg
 exact wpIn_cond_split (t := b) hb (fun h => h1 (hq h) n I F a W hs) (fun _ => h2 n I F a W hs)
/-! a slice laid as a row of one's own -/
theorem l_buildRow {g : List (Nat × SV)} {t e st n : Nat} {zs : List Value} [IsSl P t e st] [hz : IsZero P e zs] {parts : Array (Nat × Operand)} {ps : List (Nat × SV)} {qs : List (Nat × List SV)} (hop : o.op = .buildSlice t n parts) (hp : partsS g parts.toList = some ps) [hf : FlatL ps qs]
  (hn : n * st ≤ 16777216) (hq : qs.length = n) (hne : n = 0 ∨ zs ≠ []) (hl : lensOk st (qs.map (·.2)) = true)
  (hc : fillS ((List.range n).map fun i => (i * st, st)) ((zeroRow zs (n * st)).map eqS) qs = some (qs.map (·.2)).flatten) :
  OpL P G o g [] (fun s H' => ∃ b, rowOk (some (b, n)) n ∧ s = eqS (rowV (some (b, n)) n) ∧ H' = [rowE (some (b, n)) e st n (qs.map (·.2)).flatten]) := by
 intro nn r I W a next Q hm _ hr kk
 have hst : st = zs.length := by
  obtain ⟨j, hj, hs⟩ := IsSl.i (P := P) (t := t) (e := e) (st := st)
  obtain ⟨i, z, hi, _, _, hz3⟩ := hz.i
  rw [hj] at hi; cases hi; omega
 have h1 : allOne (zeroRow zs (n * st)) := zeroRow_one hz.one _ (hne.imp (fun h => by simp [h]) id)
 obtain ⟨c', hc', hd, h1'⟩ := fill_sound (a := a) (I := I) (c := (zeroRow zs (n * st)).toArray) hp hf (reads_parts (by simp [hop, Op.operands]) hr) hc (by simpa using dens_eqS (zeroRow zs (n * st))) (by simpa using h1)
 have hlen : (qs.map (·.2)).length = n := by simpa using hq
 have hfl : (qs.map (·.2)).flatten.length = n * st := by
  have : ∀ {l : List (List SV)}, (∀ c ∈ l, c.length = st) → l.flatten.length = l.length * st := by
   intro l; induction l with
   | nil => intro _; simp
   | cons x l ih => intro h; simp only [List.flatten_cons, List.length_append, List.length_cons]; rw [ih (fun c hc => h c (by simp [hc])), h x (by simp), Nat.add_mul]; omega
  rw [this (lensOk_spec hl), hlen]
 have hrun : (execOp a.eval o).run P W = .ok (.value (.slice (some ⟨W.heap.size, 0, none⟩) n n)) (W.alloc (.cells c' e)) := by
  have := run_buildSlice (P := P) (t := t) (e := e) (st := st) (n := n) (W := W) (parts := (parts.map fun (i, x) => (i, a.eval x))) (c' := c') hn (by rw [Array.toList_map]; exact hc')
  simp only [execOp, hop, Sem.run_bind, this, Result.andThen_ok, Sem.run_pure]
 obtain ⟨hm2, hfr⟩ := fram_alloc hm (.cells c' e) (fun b => b ∈ bs [])
 have hnb : n ≤ maxLen := by
  rcases Nat.eq_zero_or_pos st with h0 | h0
  ·rcases hne with h2 | h2
   ·omega
   ·exact absurd (List.eq_nil_of_length_eq_zero (by omega)) h2
  ·have := Nat.le_mul_of_pos_right n h0; unfold maxLen; omega
 refine wp_of_run (by simp [hop]) hrun ?_
 refine kk _ I _ _ _ ⟨W.heap.size, ⟨Nat.le_refl _, hnb⟩, rfl, rfl⟩ ?_ hm2 ?_ rfl
 ·refine hfr.weaken (fun _ h => h) fun b hb => .inl (.inr ?_)
  simp [bs, rowE] at hb; exact hb
 ·refine ⟨by simp [bs, rowE], fun p hp => ?_⟩
  simp at hp; subst hp
  have hsz : c'.toList.length = n * st := by rw [hd.1, hfl]
  have htk : c'.toList.take (qs.map (·.2)).flatten.length = c'.toList := by rw [hfl, ← hsz]; exact List.take_length
  refine .of_some rfl ⟨hm.none_new, _, alloc_heap_at _ _, ?_, ?_, ?_⟩
  ·simp only [rowE, Nat.sub_self, Nat.add_zero]; rw [hfl, ← hsz]; simp
  ·simp only [rowE]; rw [htk]; exact h1'
  ·simp only [rowE]; rw [htk]; exact hd
theorem Run.buildRow {n0 d0 : Nat} {g : List (Nat × SV)} {h : HL} {d : List Nat} {i : Nat × Bool} {t e st n : Nat} {zs : List Value} [IsSl P t e st] [IsZero P e zs] {parts : Array (Nat × Operand)} {ps : List (Nat × SV)} {qs : List (Nat × List SV)} (hp : p = false) (hop : o.op = .buildSlice t n parts) (hps : partsS g parts.toList = some ps) [FlatL ps qs] (hg : guardAt gd g o true) (ht : o.dst = some d0) (hd : Nat.blt d0 n0 = true)
  (hn : n * st ≤ 16777216) (hq : qs.length = n) (hne : n = 0 ∨ zs ≠ []) (hl : lensOk st (qs.map (·.2)) = true)
  (hc : fillS ((List.range n).map fun i => (i * st, st)) ((zeroRow zs (n * st)).map eqS) qs = some (qs.map (·.2)).flatten)
  (hr : ∀ b, rowOk (some (b, n)) n → Run P G E r gd p ops ⟨n0, (d0, eqS (rowV (some (b, n)) n)) :: g, rowE (some (b, n)) e st n (qs.map (·.2)).flatten :: h, d, i⟩ K) : Run P G E r gd p (o :: ops) ⟨n0, g, h, d, i⟩ K :=
 .loc0 hp (l_buildRow hop hps hn hq hne hl hc) hg ht hd fun s H' ⟨b, e0, e1, e2⟩ => by subst e1; subst e2; exact hr b e0
theorem ent_g {n : Nat} {g g' : List (Nat × SV)} {h : HL} {d : List Nat} {i : Nat × Bool} (hg : subG g g') : Ent ⟨n, g, h, d, i⟩ ⟨n, g', h, d, i⟩ := ⟨rfl, hg, subH_refl _, rfl, rfl⟩
theorem subG_as {g g' : List (Nat × SV)} {t : Nat} {s s' : SV} (h : look t g = some s) (hs : s = s') (k : subG g g') : subG g ((t, s') :: g') := subG_cons (hs ▸ h) k
theorem ghost_drop {n : Nat} {g : List (Nat × SV)} {h h' : HL} {d : List Nat} {i : Nat × Bool} (hs : h'.Sublist h) : Ghost G E r ⟨n, g, h, d, i⟩ ⟨n, g, h', d, i⟩ := fun I F _ _ s =>
 have hb : ∀ b, own ⟨n, g, h', d, i⟩ F b → own ⟨n, g, h, d, i⟩ F b := fun _ hb => hb.imp (fun x => (bs_sub hs).subset x) id
 ⟨I, { s with
  h := s.h.less hs
  f := fun b hb => ⟨(s.f b hb).1, (s.f b hb).2.1, fun x => (s.f b hb).2.2.1 ((bs_sub hs).subset x), (s.f b hb).2.2.2⟩
  l := fun k hk => ⟨(s.l k hk).1, fun x => (s.l k hk).2 (hb _ x)⟩ }, (Fram.refl _ _ _).weaken (fun _ h => h) fun b h => .inr (hb b h)⟩
theorem T_rng {n : Nat} {g : List (Nat × SV)} {h : HL} {d : List Nat} {i : Nat × Bool} {x : Operand} {t : Nat} {ps : Array Tmp} {assign body : Code} {f : FuncId} {caps : List SV} {xs : List (List SV)} (hx : x = .tmp t) (hg : look t g = some (fnS f caps)) (hit : IterSpec P G f caps xs) (hps : ∀ ss ∈ xs, ss.length = ps.size) (hnd : ps.toList.Nodup) (hpn : (ps.toList.all fun p => Nat.blt p n) = true)
  (Inv : Nat → HL → Nat × Bool → Prop) (InvX : Exit → HL → Nat × Bool → Prop) (h0 : Inv 0 h i)
  (hbody : ∀ (l k : Nat) (ss : List SV) (h : HL) (i : Nat × Bool), xs[k]? = some ss → Inv k h i → T P G E (some l) assign ⟨n, zipPs ps.toList ss ++ g, h, [], i⟩ (fun e S' => e = .normal ∧ T P G E (some l) body S' (roundQ Inv InvX k)))
  (hdone : ∀ (h : HL) (i : Nat × Bool) (D : List Nat), Inv xs.length h i → Q .normal ⟨n, g, h, D ++ d, i⟩)
  (hleave : ∀ (h : HL) (i : Nat × Bool) (D : List Nat) (e : Exit) (c : Code), codeOf e = some c → InvX e h i → Q e ⟨n, g, h, D ++ d, i⟩) : T P G E r (.rangeFunc x ps assign body) ⟨n, g, h, d, i⟩ Q :=
 T_range hx hg hit hps hnd (fun p hp => Nat.blt_eq ▸ (List.all_eq_true.1 hpn p hp)) Inv InvX h0 hbody hdone hleave
theorem T_loop2 {c : Code} {α β : Type} (Inv : α → β → St) (p : α → β → Prop) (μ : α → β → Nat) (a0 : α) (b0 : β) (hp0 : p a0 b0) (h0 : Ent S (Inv a0 b0))
  (hr : ∀ a b, p a b → T P G E r c (Inv a b) (thenQ (fun S' => ∃ a' b', p a' b' ∧ μ a' b' < μ a b ∧ Ent S' (Inv a' b')) Q)) : T P G E r (.loop c) S Q :=
 T_loop (γ := α × β) (fun g => Inv g.1 g.2) (fun g => p g.1 g.2) (fun g => μ g.1 g.2) (a0, b0) hp0 h0 fun g hg => T_mono (hr g.1 g.2 hg) fun e S' hq => by
  cases e <;> first | exact hq | (obtain ⟨a, b, h⟩ := hq; exact ⟨(a, b), h⟩)
theorem T_loop3 {c : Code} {α β γ : Type} (Inv : α → β → γ → St) (p : α → β → γ → Prop) (μ : α → β → γ → Nat) (a0 : α) (b0 : β) (c0 : γ) (hp0 : p a0 b0 c0) (h0 : Ent S (Inv a0 b0 c0))
  (hr : ∀ a b d, p a b d → T P G E r c (Inv a b d) (thenQ (fun S' => ∃ a' b' d', p a' b' d' ∧ μ a' b' d' < μ a b d ∧ Ent S' (Inv a' b' d')) Q)) : T P G E r (.loop c) S Q :=
 T_loop (γ := α × β × γ) (fun g => Inv g.1 g.2.1 g.2.2) (fun g => p g.1 g.2.1 g.2.2) (fun g => μ g.1 g.2.1 g.2.2) (a0, b0, c0) hp0 h0 fun g hg => T_mono (hr g.1 g.2.1 g.2.2 hg) fun e S' hq => by
  cases e <;> first | exact hq | (obtain ⟨a, b, d, h⟩ := hq; exact ⟨(a, b, d), h⟩)
theorem T_loop4 {c : Code} {α β γ δ : Type} (Inv : α → β → γ → δ → St) (p : α → β → γ → δ → Prop) (μ : α → β → γ → δ → Nat) (a0 : α) (b0 : β) (c0 : γ) (d0 : δ) (hp0 : p a0 b0 c0 d0) (h0 : Ent S (Inv a0 b0 c0 d0))
  (hr : ∀ a b d e, p a b d e → T P G E r c (Inv a b d e) (thenQ (fun S' => ∃ a' b' d' e', p a' b' d' e' ∧ μ a' b' d' e' < μ a b d e ∧ Ent S' (Inv a' b' d' e')) Q)) : T P G E r (.loop c) S Q :=
 T_loop (γ := α × β × γ × δ) (fun g => Inv g.1 g.2.1 g.2.2.1 g.2.2.2) (fun g => p g.1 g.2.1 g.2.2.1 g.2.2.2) (fun g => μ g.1 g.2.1 g.2.2.1 g.2.2.2) (a0, b0, c0, d0) hp0 h0 fun g hg => T_mono (hr g.1 g.2.1 g.2.2.1 g.2.2.2 hg) fun e S' hq => by
  cases e <;> first | exact hq | (obtain ⟨a, b, d, e, h⟩ := hq; exact ⟨(a, b, d, e), h⟩)
theorem ent_h {n : Nat} {g g' : List (Nat × SV)} {h h' : HL} {d : List Nat} {i : Nat × Bool} (hg : subG g g') (hh : h = h') : Ent ⟨n, g, h, d, i⟩ ⟨n, g', h', d, i⟩ := ⟨rfl, hg, hh ▸ subH_refl _, rfl, rfl⟩
theorem int_eq {k : IntKind} {m n : Int} (h : m = n) (I : Imm) (v : Value) (hv : (intS k m).den I v) : (intS k n).den I v := h ▸ hv
theorem bool_eq {b c : Bool} (h : b = c) (I : Imm) (v : Value) (hv : (boolS b).den I v) : (boolS c).den I v := h ▸ hv
end
end Go.Sv
