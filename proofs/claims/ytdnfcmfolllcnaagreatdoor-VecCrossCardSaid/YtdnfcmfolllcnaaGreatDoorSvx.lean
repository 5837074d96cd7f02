/- A drawn region with one effect that does not wait for all pure operations ahead of it in the text. -/
import Derived.Test.YtdnfcmfolllcnaaGreatDoorSvw
namespace Go.Sv
open Go Go.RowKit
section
variable {P : Program} {G : Imm} {E : Env} {r : Option Nat} {S : St}
theorem HoldsH.sub_ok {H H' : HL} {o : Oper} {g : List (Nat × SV)} {s : SV} (hs : H'.Sublist H) (h : OpOK P G H' o g s) : OpOK P G H o g s :=
  fun n r I W a next Q hm hh hr k => h n r I W a next Q hm (hh.less hs) hr k
def setG (d : Option Nat) (s : SV) (g : List (Nat × SV)) : List (Nat × SV) := match d with
  | some t => (t, s) :: g
  | none => g
/-- the pure operations: those that the effect waits for may look at all that is owned, the others only at Hc -/
inductive RunE (P : Program) (G : Imm) (gd : Nat → Option Nat) (n : Nat) (h Hc : HL) (early : Nat → Bool) : Nat → List Oper → List (Nat × SV) → (List (Nat × SV) → Prop) → Prop
  | nil {k : Nat} {g : List (Nat × SV)} {K : List (Nat × SV) → Prop} (hK : K g) : RunE P G gd n h Hc early k [] g K
  | early {k : Nat} {o : Oper} {ops : List Oper} {g : List (Nat × SV)} {s : SV} {K : List (Nat × SV) → Prop} (ho : OpOK P G h o g s) (hg : guardAt gd g o true) (hd : dstOk o n = true) (he : early k = true) (hr : RunE P G gd n h Hc early (k + 1) ops (setG o.dst s g) K) : RunE P G gd n h Hc early k (o :: ops) g K
  | late {k : Nat} {o : Oper} {ops : List Oper} {g : List (Nat × SV)} {s : SV} {K : List (Nat × SV) → Prop} (ho : OpOK P G Hc o g s) (hg : guardAt gd g o true) (hd : dstOk o n = true) (hr : RunE P G gd n h Hc early (k + 1) ops (setG o.dst s g) K) : RunE P G gd n h Hc early k (o :: ops) g K
  | skip {k : Nat} {o : Oper} {ops : List Oper} {g : List (Nat × SV)} {K : List (Nat × SV) → Prop} (hg : guardAt gd g o false) (hd : dstOk o n = true) (hr : RunE P G gd n h Hc early (k + 1) ops (setG o.dst (eqS undef) g) K) : RunE P G gd n h Hc early k (o :: ops) g K
theorem gAt_succ (o : Oper) (l : List Oper) (sv : Nat → SV) (g : List (Nat × SV)) (k : Nat) : gAt (o :: l) sv g (k + 1) = gAt l (fun i => sv (i + 1)) (setG o.dst (sv 0) g) k := by
  cases h : o.dst <;> simp [gAt, setG, h]
theorem runE_parts {gd : Nat → Option Nat} {n : Nat} {h Hc : HL} {early : Nat → Bool} {k : Nat} {l : List Oper} {g : List (Nat × SV)} {K : List (Nat × SV) → Prop} (hr : RunE P G gd n h Hc early k l g K) :
    ∃ sv : Nat → SV, K (gAt l sv g l.length) ∧ ∀ i o, l[i]? = some o → (∀ t, o.dst = some t → t < n) ∧
      ((((OpOK P G h o (gAt l sv g i) (sv i) ∧ early (k + i) = true) ∨ OpOK P G Hc o (gAt l sv g i) (sv i)) ∧ guardAt gd (gAt l sv g i) o true) ∨ (guardAt gd (gAt l sv g i) o false ∧ sv i = eqS undef)) := by
  have build : ∀ {k : Nat} {o : Oper} {ops : List Oper} {g : List (Nat × SV)} {s : SV} {K : List (Nat × SV) → Prop}, dstOk o n = true →
      ((((OpOK P G h o g s ∧ early k = true) ∨ OpOK P G Hc o g s) ∧ guardAt gd g o true) ∨ (guardAt gd g o false ∧ s = eqS undef)) →
      (∃ sv : Nat → SV, K (gAt ops sv (setG o.dst s g) ops.length) ∧ ∀ i p, ops[i]? = some p → (∀ t, p.dst = some t → t < n) ∧
        ((((OpOK P G h p (gAt ops sv (setG o.dst s g) i) (sv i) ∧ early (k + 1 + i) = true) ∨ OpOK P G Hc p (gAt ops sv (setG o.dst s g) i) (sv i)) ∧ guardAt gd (gAt ops sv (setG o.dst s g) i) p true) ∨ (guardAt gd (gAt ops sv (setG o.dst s g) i) p false ∧ sv i = eqS undef))) →
      ∃ sv : Nat → SV, K (gAt (o :: ops) sv g (o :: ops).length) ∧ ∀ i p, (o :: ops)[i]? = some p → (∀ t, p.dst = some t → t < n) ∧
        ((((OpOK P G h p (gAt (o :: ops) sv g i) (sv i) ∧ early (k + i) = true) ∨ OpOK P G Hc p (gAt (o :: ops) sv g i) (sv i)) ∧ guardAt gd (gAt (o :: ops) sv g i) p true) ∨ (guardAt gd (gAt (o :: ops) sv g i) p false ∧ sv i = eqS undef)) := by
    intro k o ops g s K hd h0 ⟨sv, h1, h2⟩
    refine ⟨fun | 0 => s | i + 1 => sv i, by rw [List.length_cons, gAt_succ]; exact h1, fun i p hp => ?_⟩
    cases i with
    | zero => cases hp; rw [gAt_zero]; exact ⟨dstOk_spec hd, h0⟩
    | succ i =>
      have h3 := h2 i p (by simpa using hp)
      rw [gAt_succ, show k + (i + 1) = k + 1 + i by omega]
      exact h3
  induction hr with
  | nil hK => exact ⟨fun _ => eqS undef, hK, fun i o hi => by simp at hi⟩
  | early ho hg hd he _ ih => exact build hd (.inl ⟨.inl ⟨ho, he⟩, hg⟩) ih
  | late ho hg hd _ ih => exact build hd (.inl ⟨.inr ho, hg⟩) ih
  | skip hg hd _ ih => exact build hd (.inr ⟨hg, rfl⟩) ih
/-- the effect, and what comes behind it -/
def EffAt (P : Program) (G : Imm) (E : Env) (r : Option Nat) (gd : Nat → Option Nat) (o : Oper) (rest : List Oper) (Hc : HL) (S1 : St) (K : St → Prop) : Prop :=
  ∃ j q Kl, S1.h[j]? = some q ∧ OpL P G o S1.g [q] Kl ∧ guardAt gd S1.g o true ∧ o.dst = none ∧ ∀ s H', Kl s H' → Hc.Sublist (putAt S1.h j H') ∧ Run P G E r gd false rest { S1 with h := putAt S1.h j H' } K
def drawOkE (l : List Oper) (N : Nat) : Bool := edgesOk l && (nodupDst l && (readsOk l && tailOk l (N + 1)))
def earlyOf (l : List Oper) (N k : Nat) : Bool := ((masks l).getD N 0).testBit k
theorem draw_soundE {l : List Oper} {N : Nat} (hok : drawOkE l N = true) {oN : Oper} (hoN : l[N]? = some oN) {sv : Nat → SV} {K : St → Prop} {Hc : HL} (hHc : Hc.Sublist S.h) {j : Nat} {q : HE} {Kl : SV → HL → Prop} (hq : S.h[j]? = some q)
    (hst : ∀ i o, l[i]? = some o → i < N → (∀ t, o.dst = some t → t < S.n) ∧ ((((OpOK P G S.h o (gAt (l.take (N + 1)) sv S.g i) (sv i) ∧ earlyOf l N i = true) ∨ OpOK P G Hc o (gAt (l.take (N + 1)) sv S.g i) (sv i)) ∧ guardAt (gdOf l) (gAt (l.take (N + 1)) sv S.g i) o true) ∨ (guardAt (gdOf l) (gAt (l.take (N + 1)) sv S.g i) o false ∧ sv i = eqS undef)))
    (heff : OpL P G oN (gAt (l.take (N + 1)) sv S.g N) [q] Kl) (hgN : guardAt (gdOf l) (gAt (l.take (N + 1)) sv S.g N) oN true) (hdN : oN.dst = none)
    (hK : ∀ s H', Kl s H' → Hc.Sublist (putAt S.h j H') ∧ Run P G E r (gdOf l) false (l.drop (N + 1)) { S with h := putAt S.h j H', g := gAt (l.take (N + 1)) sv S.g (l.take (N + 1)).length } K) :
    ∀ (fuel : Nat) (L : Array Bool) (hc : HL) (n : Nat) (Q : Exit → Act → World → Prop) (I : Imm) (F : Nat → Prop) (a : Act) (W : World), countOff L ≤ fuel → Mid G E r l (N + 1) sv { S with h := hc } L I F a W →
      ((¬ Ld L N ∧ hc = S.h) ∨ (Ld L N ∧ ∃ s H', Kl s H' ∧ hc = putAt S.h j H')) →
      (∀ S' I' F' a' W', Sat G E r S' I' F' a' W' → K S' → Fram (own { S with h := hc } F) I W (own S' F') I' W' → Q .normal a' W') → wpAnyIn (Fr r) n P .any l.toArray Q fuel L a W := by
  simp only [drawOkE, Bool.and_eq_true] at hok
  obtain ⟨hed, hnd, hrd, htail⟩ := hok
  have hgd : ∀ j, gdOf l j = (l.toArray[j]?).bind (·.dst) := fun j => by simp [gdOf]
  have hN : N + 1 ≤ l.length := lt_of_get hoN
  intro fuel
  induction fuel with
  | zero =>
    intro L hc n Q I F a W hcf hm hph hk
    have hall : ∀ j, j < l.length → Ld L j := fun j hj => countOff_zero (by omega) (by rw [hm.size]; exact hj)
    have hNl : N + 1 = l.length := by
      rcases Nat.lt_or_ge (N + 1) l.length with h | h
      · have := hm.low (N + 1) (hall (N + 1) h); omega
      · omega
    rcases hph with ⟨h1, _⟩ | ⟨_, s, H', hkl, rfl⟩
    · exact absurd (hall N (by omega)) h1
    exact tail_sound hgd htail hed (hK s H' hkl).2 (N + 1) (Nat.le_refl _) rfl L hm.size (fun j hj => ⟨fun h => hm.low j h, fun _ => hall j hj⟩) 0 n Q I F a W (by omega) (hm.done hN fun j hj => hall j (by omega)) hk
  | succ fuel ih =>
    intro L hc n Q I F a W hcf hm hph hk
    by_cases hall : ∀ j, j < N + 1 → Ld L j
    · have hcount : l.length ≤ (N + 1) + countOff L := by
        have h1 : L.toList.count false = (L.toList.take (N + 1)).count false + (L.toList.drop (N + 1)).count false := by rw [← List.count_append, List.take_append_drop]
        have h2 : (L.toList.drop (N + 1)).count false = (L.toList.drop (N + 1)).length := by
          refine List.count_eq_length.2 fun b hb => ?_
          obtain ⟨k, hk1, hk2⟩ := List.mem_iff_getElem.1 hb
          have hk3 : N + 1 + k < L.size := by simp at hk1; omega
          have : ¬ Ld L (N + 1 + k) := fun h => by have := hm.low _ h; omega
          unfold Ld at this
          simp only [Array.getD_eq_getD_getElem?, Array.getElem?_eq_getElem hk3, Option.getD_some] at this
          rw [← hk2]; simp only [List.getElem_drop, Array.getElem_toList]; simpa using this
        have := hm.size
        unfold countOff; rw [h1, h2]; simp; omega
      rcases hph with ⟨h1, _⟩ | ⟨_, s, H', hkl, rfl⟩
      · exact absurd (hall N (by omega)) h1
      exact tail_sound hgd htail hed (hK s H' hkl).2 (N + 1) (Nat.le_refl _) rfl L hm.size (fun j hj => ⟨fun h => hm.low j h, fun h => hall j h⟩) (fuel + 1) n Q I F a W (by omega) (hm.done hN hall) hk
    · refine ⟨fun hnil => ?_, fun i hi => ?_⟩
      · exfalso
        obtain ⟨j, hj⟩ := Classical.not_forall.1 hall
        obtain ⟨hj1, hj2⟩ := Classical.not_imp.1 hj
        obtain ⟨m, ⟨hm1, hm2⟩, hm3⟩ := exists_least (p := fun j => j < N + 1 ∧ ¬ Ld L j) ⟨j, hj1, hj2⟩
        have : m ∈ Region.ready .any l.toArray L := (ready_spec hm.size).2 ⟨l[m]'(by omega), List.getElem?_eq_getElem (by omega), hm2, fun e he hb => by
          have h1 := edgesOk_spec hed (show l[m]? = some (l[m]'(by omega)) from List.getElem?_eq_getElem (by omega)) he hb
          by_cases hx : Ld L e.on
          · exact hx
          · have := hm3 e.on ⟨by omega, hx⟩; omega⟩
        rw [hnil] at this; cases this
      · obtain ⟨o, ho, hn, hpre⟩ := (ready_spec hm.size).1 hi
        have hiN : i < N + 1 := by
          rcases Nat.lt_or_ge i (N + 1) with h | h
          · exact h
          · exfalso
            refine hall fun j hj => ?_
            exact (tailOk_spec htail (lt_of_get ho) h (show j < i by omega)).listed (L := Ld L) hm.closed fun o' ho' => by rw [ho] at ho'; cases ho'; exact hpre
        have hilt : i < L.size := by rw [hm.size]; exact lt_of_get ho
        have hcnt := countOff_set hilt hn
        simp only [wpOpIn, List.getElem?_toArray, ho]
        by_cases hiE : i = N
        · subst hiE
          rw [hoN] at ho; cases ho
          rw [hm.wanted hrd hoN hiN hn hpre hgN, if_pos rfl]
          obtain ⟨_, rfl⟩ : ¬ Ld L i ∧ hc = S.h := by
            rcases hph with h | ⟨h, _⟩
            · exact h
            · exact absurd h hn
          have hsp := split_at hq
          have hq0 : HoldsH [q] I W := hm.sat.h.less (List.singleton_sublist.2 (List.mem_of_getElem? hq))
          refine heff n r I W a _ Q hm.sat.m hq0 (hm.reads hrd hoN hiN hn hpre) fun v I' W' s H' hkl hf hm' hh' hv => ?_
          have hput : putAt S.h j H' = S.h.take j ++ H' ++ S.h.drop (j + 1) := putAt_eq hq H'
          have hh2 : HoldsH (putAt S.h j H') I' W' := by
            rw [hput]; exact HoldsH.frame (Hp := [q]) (by rw [← hsp]; exact hm.sat.h) hh' hf
          have hbq : ∀ b, b ∈ bs [q] → b ∈ bs S.h := fun b hb => (bs_sub (List.singleton_sublist.2 (List.mem_of_getElem? hq))).subset hb
          obtain ⟨s1, f1⟩ := hm.sat.turn (h' := putAt S.h j H') (O := (· ∈ bs [q])) (O' := (· ∈ bs H')) hbq hf (fun b hb => by
            rw [hput, bs_append, bs_append] at hb
            rcases List.mem_append.1 hb with hb | hb
            · rcases List.mem_append.1 hb with hb | hb
              · exact .inl ((bs_sub (List.take_sublist j S.h)).subset hb)
              · rcases hf.own b hb with h | h
                · exact .inl (hbq b h)
                · exact .inr h
            · exact .inl ((bs_sub (List.drop_sublist (j + 1) S.h)).subset hb)) hm' hh2
          have hle : I.le I' := hf.imm
          have hm2 : Mid G E r l (i + 1) sv { S with h := putAt S.h j H' } (L.setIfInBounds i true) I' F (a.put oN.dst v) W' := by
            rw [hdN]
            refine ⟨by simpa using hm.size, ?_, ?_, ?_, ?_, ?_⟩
            · exact s1
            · intro t s hl hno
              exact s.mono _ _ _ hle (hm.old t s hl fun j p hp hd hj => hno j p hp hd ((Ld_set hilt).2 (.inr hj)))
            · intro j p d hp hj hd
              rcases (Ld_set hilt).1 hj with e | hj
              · subst e; rw [hoN] at hp; cases hp; rw [hdN] at hd; cases hd
              · exact (sv j).mono _ _ _ hle (hm.new j p d hp hj hd)
            · intro j hj
              rcases (Ld_set hilt).1 hj with e | hj
              · omega
              · exact hm.low j hj
            · intro j p hp hj e he' hb
              refine (Ld_set hilt).2 (.inr ?_)
              rcases (Ld_set hilt).1 hj with e' | hj
              · subst e'; rw [hoN] at hp; cases hp; exact hpre e he' hb
              · exact hm.closed j p hp hj e he' hb
          exact ih _ _ n Q I' F _ W' (by omega) hm2 (.inr ⟨(Ld_set hilt).2 (.inl rfl), s, H', hkl, rfl⟩) fun S'' I'' F'' a'' W'' h1 h2 h3 => hk S'' I'' F'' a'' W'' h1 h2 (f1.trans h3)
        · obtain ⟨hdst, hstep⟩ := hst i o ho (by omega)
          have hph' : (¬ Ld (L.setIfInBounds i true) N ∧ hc = S.h) ∨ (Ld (L.setIfInBounds i true) N ∧ ∃ s H', Kl s H' ∧ hc = putAt S.h j H') := by
            rcases hph with ⟨h1, h2⟩ | ⟨h1, h2⟩
            · refine .inl ⟨fun h => ?_, h2⟩
              rcases (Ld_set hilt).1 h with e | h
              · exact hiE e.symm
              · exact h1 h
            · exact .inr ⟨(Ld_set hilt).2 (.inr h1), h2⟩
          rcases hstep with ⟨hop, hg⟩ | ⟨hg, hsv⟩
          · rw [hm.wanted hrd ho hiN hn hpre hg, if_pos rfl]
            have hop' : OpOK P G hc o (gAt (l.take (N + 1)) sv S.g i) (sv i) := by
              rcases hop with ⟨hop, hea⟩ | hop
              · rcases hph with ⟨_, rfl⟩ | ⟨hl, _⟩
                · exact hop
                · exact absurd ((masks_reach hea).listed (L := Ld L) hm.closed fun o' ho' => by rw [hoN] at ho'; cases ho'; exact hm.closed N oN hoN hl) hn
              · rcases hph with ⟨_, rfl⟩ | ⟨_, s, H', hkl, rfl⟩
                · exact HoldsH.sub_ok hHc hop
                · exact HoldsH.sub_ok (hK s H' hkl).1 hop
            refine hop' n r I W a _ Q hm.sat.m hm.sat.h (hm.reads hrd ho hiN hn hpre) fun v I' W' he hh hv => ?_
            exact ih _ _ n Q I' F _ W' (by omega) (hm.step hnd ho hiN hdst hpre he hh hv) hph' fun S'' I'' F'' a'' W'' h1 h2 h3 => hk S'' I'' F'' a'' W'' h1 h2 ((he.own _).trans h3)
          · rw [hm.wanted hrd ho hiN hn hpre hg, if_neg (by simp)]
            refine ⟨fun f _ => fn_true r f, ?_⟩
            exact ih _ _ n Q I F _ W (by omega) (hm.step hnd ho hiN hdst hpre (Fram.refl _ _ _) hm.sat.m (by rw [hsv]; exact rfl)) hph' hk
theorem gAt_take : ∀ {l : List Oper} {k i : Nat} {sv : Nat → SV} {g : List (Nat × SV)}, i ≤ k → gAt (l.take k) sv g i = gAt l sv g i
  | [], k, i, sv, g, _ => by simp
  | o :: l, 0, i, sv, g, h => by
    have : i = 0 := by omega
    subst this; rw [gAt_zero, gAt_zero]
  | o :: l, k + 1, 0, sv, g, _ => by rw [gAt_zero, gAt_zero]
  | o :: l, k + 1, i + 1, sv, g, h => by
    rw [List.take_succ_cons, gAt_succ, gAt_succ]
    exact gAt_take (by omega)
theorem gAt_none : ∀ {l : List Oper} {i : Nat} {o : Oper} {sv : Nat → SV} {g : List (Nat × SV)}, l[i]? = some o → o.dst = none → gAt l sv g (i + 1) = gAt l sv g i
  | [], i, o, sv, g, h, _ => by simp at h
  | p :: l, 0, o, sv, g, h, hd => by
    simp at h; subst h
    rw [gAt_succ, gAt_zero, gAt_zero, hd]; rfl
  | p :: l, i + 1, o, sv, g, h, hd => by
    rw [gAt_succ, gAt_succ]
    exact gAt_none (by simpa using h) hd
/-- whatever order is drawn -/
def TA (P : Program) (G : Imm) (E : Env) (r : Option Nat) (l : List Oper) (S : St) (Q : Exit → St → Prop) : Prop :=
  ∀ n I F a W, Sat G E r S I F a W → wpAnyIn (Fr r) n P .any l.toArray (post G E r Q (own S F) I W) l.length (Array.replicate l.length false) a { W with drawn := W.drawn + 1 }
theorem TA.T [hmx : Mixed P] {id : Nat} {l : List Oper} {Q : Exit → St → Prop} (h : TA P G E r l S Q) : T P G E r (.region id l.toArray true) S Q := fun n I F a W hs => wpIn_region_any hmx.h (by simpa using h n I F a W hs)
theorem TA_drawE (N : Nat) (Hc : HL) {l : List Oper} {oN : Oper} {Q : Exit → St → Prop} {n : Nat} {g : List (Nat × SV)} {h : HL} {d : List Nat} {i : Nat × Bool} (hok : drawOkE l N = true) (hoN : l[N]? = some oN) (hHc : Hc.Sublist h)
    (hr : RunE P G (gdOf l) n h Hc (earlyOf l N) 0 (l.take N) g (fun g' => EffAt P G E r (gdOf l) oN (l.drop (N + 1)) Hc ⟨n, g', h, d, i⟩ (fun S' => Q .normal S'))) : TA P G E r l ⟨n, g, h, d, i⟩ Q := by
  intro nn I F a W hs
  obtain ⟨sv, ⟨j, q, Kl, hq, heff, hgN, hdN, hK⟩, hst⟩ := runE_parts hr
  simp only at hq heff hgN hK
  have hN := lt_of_get hoN
  have hd := ext_drawn hs.m (W.drawn + 1)
  have hs' := hs.keep hd.2 hd.1
  have hlen : (l.take N).length = N := by simp; omega
  have hlen1 : (l.take (N + 1)).length = N + 1 := by simp; omega
  have e1 : ∀ k, k ≤ N → gAt (l.take N) sv g k = gAt (l.take (N + 1)) sv g k := fun k hk => by rw [gAt_take hk, gAt_take (by omega)]
  rw [hlen, e1 N (Nat.le_refl _)] at heff hgN hK
  have e2 : gAt (l.take (N + 1)) sv g (l.take (N + 1)).length = gAt (l.take (N + 1)) sv g N := by
    rw [hlen1, gAt_take (Nat.le_refl _), gAt_take (by omega), gAt_none hoN hdN]
  refine draw_soundE (P := P) (G := G) (E := E) (r := r) (S := ⟨n, g, h, d, i⟩) (K := fun S' => Q .normal S') hok hoN hHc hq (fun k o hk hkN => ?_) heff hgN hdN (fun s H' hkl => ?_) _ _ h nn (post G E r Q (own ⟨n, g, h, d, i⟩ F) I W) I F a _ ?_ ?_ (.inl ⟨?_, rfl⟩) ?_
  · have h1 := hst k o (by rw [take_get hkN]; exact hk)
    rw [e1 k (by omega), Nat.zero_add] at h1
    exact h1
  · have h1 := hK s H' hkl
    refine ⟨h1.1, ?_⟩
    simp only [e2]; exact h1.2
  · simp [countOff]
  · have hL : ∀ j, ¬ Ld (Array.replicate l.length false) j := fun j => by
      unfold Ld; simp only [Array.getD_eq_getD_getElem?, Array.getElem?_replicate]; split <;> simp
    exact ⟨by simp, ⟨hs'.n, fun t s h => (by cases h), hs'.m, hs'.h, hs'.d, hs'.dn, hs'.dk, hs'.e, hs'.f, hs'.l⟩, fun t s hl _ => hs'.g t s hl, fun j o d _ hj => absurd hj (hL j), fun j hj => absurd hj (hL j), fun j o _ hj => absurd hj (hL j)⟩
  · unfold Ld; simp only [Array.getD_eq_getD_getElem?, Array.getElem?_replicate]; split <;> simp
  · intro S' I' F' a' W' h1 h2 h3
    exact ⟨S', I', F', h1, h2, (hd.2.own _).trans h3⟩
theorem T_drawE [hmx : Mixed P] (N : Nat) (Hc : HL) {id : Nat} {l : List Oper} {oN : Oper} {Q : Exit → St → Prop} {n : Nat} {g : List (Nat × SV)} {h : HL} {d : List Nat} {i : Nat × Bool} (hok : drawOkE l N = true) (hoN : l[N]? = some oN) (hHc : Hc.Sublist h)
    (hr : RunE P G (gdOf l) n h Hc (earlyOf l N) 0 (l.take N) g (fun g' => EffAt P G E r (gdOf l) oN (l.drop (N + 1)) Hc ⟨n, g', h, d, i⟩ (fun S' => Q .normal S'))) : T P G E r (.region id l.toArray true) ⟨n, g, h, d, i⟩ Q := (TA_drawE N Hc hok hoN hHc hr).T
theorem T_drawES [Mixed P] (N : Nat) (Hc : HL) {id : Nat} {l : List Oper} {oN : Oper} {y : Code} {Q : Exit → St → Prop} {n : Nat} {g : List (Nat × SV)} {h : HL} {d : List Nat} {i : Nat × Bool} (hok : drawOkE l N = true) (hoN : l[N]? = some oN) (hHc : Hc.Sublist h)
    (hr : RunE P G (gdOf l) n h Hc (earlyOf l N) 0 (l.take N) g (fun g' => EffAt P G E r (gdOf l) oN (l.drop (N + 1)) Hc ⟨n, g', h, d, i⟩ (fun S' => T P G E r y S' Q))) : T P G E r (.seq (.region id l.toArray true) y) ⟨n, g, h, d, i⟩ Q := T_seq (T_drawE N Hc hok hoN hHc hr)
section eff
variable {gd : Nat → Option Nat} {n : Nat} {g : List (Nat × SV)} {h Hc : HL} {d : List Nat} {i : Nat × Bool} {early : Nat → Bool} {o : Oper} {ops : List Oper} {K : St → Prop}
theorem RunE.one {k t : Nat} {s : SV} {K : List (Nat × SV) → Prop} (ho : OpOK P G h o g s) (hg : guardAt gd g o true) (ht : o.dst = some t) (hd : Nat.blt t n = true) (he : early k = true) (hr : RunE P G gd n h Hc early (k + 1) ops ((t, s) :: g) K) : RunE P G gd n h Hc early k (o :: ops) g K :=
  .early ho hg (by simp only [dstOk, ht]; exact hd) he (by rw [ht]; exact hr)
theorem RunE.lat {k t : Nat} {s : SV} {K : List (Nat × SV) → Prop} (ho : OpOK P G Hc o g s) (hg : guardAt gd g o true) (ht : o.dst = some t) (hd : Nat.blt t n = true) (hr : RunE P G gd n h Hc early (k + 1) ops ((t, s) :: g) K) : RunE P G gd n h Hc early k (o :: ops) g K :=
  .late ho hg (by simp only [dstOk, ht]; exact hd) (by rw [ht]; exact hr)
theorem EffAt.store (j : Nat) {t m : TypeId} [HasSize P t m] {x y : Operand} {b off e k : Nat} {cs ds : List SV} {s : SV} [FlatC s ds] (hop : o.op = .store t x y) (hx : opE g x = some (eqS (.pointer (some ⟨b, off, none⟩)))) (hy : opE g y = some s)
    (hH : h[j]? = some ⟨some b, e, cs, k⟩) (hm : ds.length = m) (hoff : Nat.ble (off + ds.length) cs.length = true) (hd : o.dst = none) (hg : guardAt gd g o true) (hc : Hc.Sublist (putAt h j [⟨some b, e, setAll cs off ds, k⟩]))
    (hr : Run P G E r gd false ops ⟨n, g, putAt h j [⟨some b, e, setAll cs off ds, k⟩], d, i⟩ K) : EffAt P G E r gd o ops Hc ⟨n, g, h, d, i⟩ K :=
  ⟨j, _, _, hH, l_store hop hx hy hm (Nat.le_of_ble_eq_true hoff), hg, hd, fun s' H' ⟨_, hH'⟩ => by subst hH'; exact ⟨hc, hr⟩⟩
end eff
end
end Go.Sv
