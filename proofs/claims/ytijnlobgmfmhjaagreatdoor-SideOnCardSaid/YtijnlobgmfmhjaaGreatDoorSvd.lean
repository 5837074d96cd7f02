/- A region that draws its order: what a derivation in the order of the text says holds behind whatever order is drawn. -/
import Derived.Test.YtijnlobgmfmhjaaGreatDoorSvc
namespace Go.Sv
open Go Go.RowKit

/-- operation j waits, directly or through others, for operation i -/
inductive Reach (l : List Oper) : Nat → Nat → Prop
  | one {j : Nat} {o : Oper} {e : Edge} (h : l[j]? = some o) (he : e ∈ o.after.toList) (hb : Region.binds .any e = true) : Reach l j e.on
  | step {j i : Nat} {o : Oper} {e : Edge} (h : l[j]? = some o) (he : e ∈ o.after.toList) (hb : Region.binds .any e = true) (k : Reach l e.on i) : Reach l j i

def maskOf (acc : List Nat) (o : Oper) : Nat := o.after.toList.foldl (fun s e => if Region.binds .any e then s ||| 2 ^ e.on ||| acc.getD e.on 0 else s) 0
def masksFrom : List Nat → List Oper → List Nat
  | acc, [] => acc
  | acc, o :: l => masksFrom (acc ++ [maskOf acc o]) l
def masks (l : List Oper) : List Nat := masksFrom [] l

theorem foldl_or {es : List Edge} {acc : List Nat} {s i : Nat} (h : (es.foldl (fun s e => if Region.binds .any e then s ||| 2 ^ e.on ||| acc.getD e.on 0 else s) s).testBit i = true) :
    s.testBit i = true ∨ ∃ e ∈ es, Region.binds .any e = true ∧ (e.on = i ∨ (acc.getD e.on 0).testBit i = true) := by
  induction es generalizing s with
  | nil => exact .inl h
  | cons e es ih =>
    simp only [List.foldl_cons] at h
    rcases ih h with h1 | ⟨e', he', hb, h2⟩
    · by_cases hb : Region.binds .any e = true
      · rw [if_pos hb] at h1
        simp only [Nat.testBit_or, Bool.or_eq_true] at h1
        rcases h1 with (h1 | h1) | h1
        · exact .inl h1
        · refine .inr ⟨e, by simp, hb, .inl ?_⟩
          rw [Nat.testBit_two_pow] at h1; simpa using h1
        · exact .inr ⟨e, by simp, hb, .inr h1⟩
      · rw [if_neg hb] at h1; exact .inl h1
    · exact .inr ⟨e', by simp [he'], hb, h2⟩
theorem masksFrom_reach {l : List Oper} : ∀ (rest : List Oper) (acc : List Nat), (∀ i, l[acc.length + i]? = rest[i]?) → (∀ j i, (acc.getD j 0).testBit i = true → Reach l j i) → ∀ j i, ((masksFrom acc rest).getD j 0).testBit i = true → Reach l j i
  | [], acc, _, h, j, i, hb => h j i hb
  | o :: rest, acc, hl, h, j, i, hb => by
    refine masksFrom_reach rest (acc ++ [maskOf acc o]) ?_ ?_ j i hb
    · intro i; have := hl (i + 1); simp only [List.length_append, List.length_cons, List.length_nil]; rw [show acc.length + (0 + 1) + i = acc.length + (i + 1) from by omega, this]; simp
    · intro j i hb
      by_cases hj : j < acc.length
      · rw [List.getD_eq_getElem?_getD, List.getElem?_append_left hj, ← List.getD_eq_getElem?_getD] at hb; exact h j i hb
      · by_cases hj' : j = acc.length
        · subst hj'
          have h0 : l[acc.length]? = some o := by simpa using hl 0
          rw [List.getD_eq_getElem?_getD, List.getElem?_append_right (Nat.le_refl _)] at hb
          simp only [Nat.sub_self, List.getElem?_cons_zero, Option.getD_some] at hb
          rcases foldl_or hb with h1 | ⟨e, he, hbi, h2 | h2⟩
          · simp at h1
          · subst h2; exact .one h0 he hbi
          · exact .step h0 he hbi (h _ _ h2)
        · rw [List.getD_eq_getElem?_getD, List.getElem?_eq_none (by simp; omega)] at hb; simp at hb
theorem masks_reach {l : List Oper} {j i : Nat} (h : ((masks l).getD j 0).testBit i = true) : Reach l j i :=
  masksFrom_reach l [] (by simp) (by intro j i h; simp at h) j i h
theorem Reach.listed {l : List Oper} {L : Nat → Prop} {j i : Nat} (h : Reach l j i) (hc : ∀ j o, l[j]? = some o → L j → ∀ e ∈ o.after.toList, Region.binds .any e = true → L e.on)
    (h0 : ∀ o, l[j]? = some o → ∀ e ∈ o.after.toList, Region.binds .any e = true → L e.on) : L i := by
  induction h with
  | one h he hb => exact h0 _ h _ he hb
  | step h he hb _ ih => exact ih fun o ho => hc _ o ho (h0 _ h _ he hb)

def edgesOk (l : List Oper) : Bool := l.zipIdx.all fun (o, i) => o.after.toList.all fun e => !Region.binds .any e || e.on < i
def nodupDst : List Oper → Bool
  | [] => true
  | o :: l => (match o.dst with | some d => l.all fun p => p.dst != some d | none => true) && nodupDst l
def readsOk (l : List Oper) : Bool :=
  let ms := masks l
  l.zipIdx.all fun (o, i) => (o.looksAt l.toArray).all fun t => l.zipIdx.all fun (p, j) => p.dst != some t || i == j || (if j < i then (ms.getD i 0).testBit j else (ms.getD j 0).testBit i)
def tailOk (l : List Oper) (N : Nat) : Bool :=
  let ms := masks l
  (List.range l.length).all fun j => j < N || (List.range j).all fun i => (ms.getD j 0).testBit i
def drawOk (l : List Oper) (N : Nat) : Bool := edgesOk l && (nodupDst l && (readsOk l && tailOk l N))

theorem zipIdx_all {α : Type} {l : List α} {f : α × Nat → Bool} (h : l.zipIdx.all f = true) {i : Nat} {x : α} (hi : l[i]? = some x) : f (x, i) = true := by
  refine List.all_eq_true.1 h (x, i) ?_
  rw [List.mem_zipIdx_iff_getElem?]; simpa using hi
theorem edgesOk_spec {l : List Oper} (h : edgesOk l = true) {i : Nat} {o : Oper} (hi : l[i]? = some o) {e : Edge} (he : e ∈ o.after.toList) (hb : Region.binds .any e = true) : e.on < i := by
  have := List.all_eq_true.1 (zipIdx_all h hi) e he
  simpa [hb] using this
theorem nodupDst_spec : ∀ {l : List Oper}, nodupDst l = true → ∀ {i j : Nat} {o p : Oper} {d : Nat}, l[i]? = some o → l[j]? = some p → o.dst = some d → p.dst = some d → i = j
  | [], _, i, _, o, _, _, hi, _, _, _ => by simp at hi
  | q :: l, h, i, j, o, p, d, hi, hj, ho, hp => by
    simp only [nodupDst, Bool.and_eq_true] at h
    have hq : ∀ {k : Nat} {x : Oper}, q.dst = some d → l[k]? = some x → x.dst = some d → False := fun hq hk hx => by
      have h1 := h.1
      rw [hq] at h1
      have := List.all_eq_true.1 h1 _ (List.mem_of_getElem? hk)
      simp [hx] at this
    cases i with
    | zero => cases j with
      | zero => rfl
      | succ j => simp at hi hj; subst hi; exact (hq ho hj hp).elim
    | succ i => cases j with
      | zero => simp at hi hj; subst hj; exact (hq hp hi ho).elim
      | succ j => simp at hi hj; exact congrArg _ (nodupDst_spec h.2 hi hj ho hp)
theorem readsOk_spec {l : List Oper} (h : readsOk l = true) {i j : Nat} {o p : Oper} {t : Nat} (hi : l[i]? = some o) (ht : t ∈ o.looksAt l.toArray) (hj : l[j]? = some p) (hp : p.dst = some t) :
    i = j ∨ (j < i ∧ Reach l i j) ∨ (i < j ∧ Reach l j i) := by
  have h1 := zipIdx_all (List.all_eq_true.1 (zipIdx_all h hi) t ht) hj
  simp only [hp, bne_self_eq_false, Bool.false_or, Bool.or_eq_true, beq_iff_eq] at h1
  rcases h1 with h1 | h1
  · exact .inl h1
  · split at h1
    · rename_i hlt; exact .inr (.inl ⟨hlt, masks_reach h1⟩)
    · by_cases he : i = j
      · exact .inl he
      · exact .inr (.inr ⟨by omega, masks_reach h1⟩)
theorem tailOk_spec {l : List Oper} {N : Nat} (h : tailOk l N = true) {j i : Nat} (hj : j < l.length) (hN : N ≤ j) (hi : i < j) : Reach l j i := by
  have h1 := List.all_eq_true.1 h j (by simpa using hj)
  simp only [Bool.or_eq_true, decide_eq_true_eq] at h1
  rcases h1 with h1 | h1
  · omega
  · exact masks_reach (List.all_eq_true.1 h1 i (by simpa using hi))

variable {P : Program} {G : Imm} {E : Env} {r : Option Nat} {S : St}

def gAt : List Oper → (Nat → SV) → List (Nat × SV) → Nat → List (Nat × SV)
  | [], _, g, _ => g
  | _ :: _, _, g, 0 => g
  | o :: l, sv, g, k + 1 => gAt l (fun i => sv (i + 1)) (match o.dst with | some d => (d, sv 0) :: g | none => g) k
theorem gAt_zero (l : List Oper) (sv : Nat → SV) (g : List (Nat × SV)) : gAt l sv g 0 = g := by cases l <;> rfl
/-- what g says behind k operations: the last that wrote the slot, or what it was -/
theorem look_gAt {l : List Oper} : ∀ {sv : Nat → SV} {g : List (Nat × SV)} {k t : Nat} {s : SV}, look t (gAt l sv g k) = some s →
    (∃ j o, j < k ∧ l[j]? = some o ∧ o.dst = some t ∧ s = sv j) ∨ (look t g = some s ∧ ∀ j o, j < k → l[j]? = some o → o.dst ≠ some t) := by
  induction l with
  | nil => intro sv g k t s h; exact .inr ⟨h, fun j o _ hj => by simp at hj⟩
  | cons o l ih =>
    intro sv g k t s h
    cases k with
    | zero => exact .inr ⟨h, fun j o hj => by omega⟩
    | succ k =>
      rcases ih h with ⟨j, p, hj, hp, hd, hs⟩ | ⟨hl, hn⟩
      · exact .inl ⟨j + 1, p, by omega, by simpa using hp, hd, hs⟩
      · cases hd : o.dst with
        | none =>
          rw [hd] at hl
          refine .inr ⟨hl, fun j p hj hp => ?_⟩
          cases j with
          | zero => simp at hp; subst hp; simp [hd]
          | succ j => exact hn j p (by omega) (by simpa using hp)
        | some d =>
          rw [hd] at hl
          simp only [look] at hl
          split at hl
          · rename_i e; cases hl; exact .inl ⟨0, o, by omega, rfl, by rw [hd, Nat.eq_of_beq_eq_true e], rfl⟩
          · rename_i e
            refine .inr ⟨hl, fun j p hj hp => ?_⟩
            cases j with
            | zero => simp at hp; subst hp; rw [hd]; intro h'; cases h'; simp at e
            | succ j => exact hn j p (by omega) (by simpa using hp)

/-- the derivation taken apart: what each operation gives -/
theorem run_parts {gd : Nat → Option Nat} {p : Bool} {l : List Oper} {S : St} {K : St → Prop} (h : Run P G E r gd p l S K) (hp : p = true) :
    ∃ sv : Nat → SV, K { S with g := gAt l sv S.g l.length } ∧ ∀ i o, l[i]? = some o → (∀ t, o.dst = some t → t < S.n) ∧
      ((OpOK P G S.h o (gAt l sv S.g i) (sv i) ∧ guardAt gd (gAt l sv S.g i) o true) ∨ (guardAt gd (gAt l sv S.g i) o false ∧ sv i = eqS undef)) := by
  induction h with
  | nil h => exact ⟨fun _ => anyS, h, fun i o hi => by simp at hi⟩
  | @ok o l S K s ho hg hd _ ih =>
    obtain ⟨sv, hK, hst⟩ := ih
    refine ⟨fun i => match i with | 0 => s | i + 1 => sv i, ?_, ?_⟩
    · have e : (S.set o.dst s).g = (match o.dst with | some d => (d, s) :: S.g | none => S.g) := by cases o.dst <;> rfl
      have e2 : ({ S.set o.dst s with g := gAt l sv (S.set o.dst s).g l.length } : St) = { S with g := gAt l sv (match o.dst with | some d => (d, s) :: S.g | none => S.g) l.length } := by rw [e]; cases o.dst <;> rfl
      rw [e2] at hK; exact hK
    · intro i p hi
      cases i with
      | zero => simp at hi; subst hi; exact ⟨hd, .inl ⟨ho, hg⟩⟩
      | succ i =>
        have := hst i p (by simpa using hi)
        have e : (S.set o.dst s).g = (match o.dst with | some d => (d, s) :: S.g | none => S.g) := by cases o.dst <;> rfl
        have en : (S.set o.dst s).n = S.n := by cases o.dst <;> rfl
        have eh : (S.set o.dst s).h = S.h := by cases o.dst <;> rfl
        rw [en, eh, e] at this; exact this
  | @skip o l S K hg hd _ ih =>
    obtain ⟨sv, hK, hst⟩ := ih
    refine ⟨fun i => match i with | 0 => eqS undef | i + 1 => sv i, ?_, ?_⟩
    · have e : (S.set o.dst (eqS undef)).g = (match o.dst with | some d => (d, eqS undef) :: S.g | none => S.g) := by cases o.dst <;> rfl
      have e2 : ({ S.set o.dst (eqS undef) with g := gAt l sv (S.set o.dst (eqS undef)).g l.length } : St) = { S with g := gAt l sv (match o.dst with | some d => (d, eqS undef) :: S.g | none => S.g) l.length } := by rw [e]; cases o.dst <;> rfl
      rw [e2] at hK; exact hK
    · intro i p hi
      cases i with
      | zero => simp at hi; subst hi; exact ⟨hd, .inr ⟨hg, rfl⟩⟩
      | succ i =>
        have := hst i p (by simpa using hi)
        have e : (S.set o.dst (eqS undef)).g = (match o.dst with | some d => (d, eqS undef) :: S.g | none => S.g) := by cases o.dst <;> rfl
        have en : (S.set o.dst (eqS undef)).n = S.n := by cases o.dst <;> rfl
        have eh : (S.set o.dst (eqS undef)).h = S.h := by cases o.dst <;> rfl
        rw [en, eh, e] at this; exact this
  | eff K' hp' => rw [hp] at hp'; cases hp'
  | ghost S' hp' => rw [hp] at hp'; cases hp'

/-- the listed operations -/
def Ld (L : Array Bool) (j : Nat) : Prop := L.getD j false = true
theorem Ld_set {L : Array Bool} {i j : Nat} (hi : i < L.size) : Ld (L.setIfInBounds i true) j ↔ j = i ∨ Ld L j := by
  unfold Ld
  simp only [Array.getD_eq_getD_getElem?]
  by_cases h : j = i
  · subst h; simp [hi]
  · rw [Array.getElem?_setIfInBounds_ne (Ne.symm h)]; simp [h]
theorem ready_spec {l : List Oper} {L : Array Bool} (hL : L.size = l.length) {i : Nat} : i ∈ Region.ready .any l.toArray L ↔ ∃ o, l[i]? = some o ∧ ¬ Ld L i ∧ ∀ e ∈ o.after.toList, Region.binds .any e = true → Ld L e.on := by
  unfold Region.ready
  rw [List.mem_filter]
  constructor
  · rintro ⟨h1, h2⟩
    simp only [List.size_toArray, List.mem_range] at h1
    simp only [Bool.and_eq_true, Bool.not_eq_eq_eq_not, Bool.not_true] at h2
    refine ⟨l[i], by simp [h1], ?_, ?_⟩
    · unfold Ld; have := h2.1; simp only [Array.getD_eq_getD_getElem?, Array.getElem?_eq_getElem (show i < L.size by omega)] at this ⊢; simp at this ⊢; exact this
    · intro e he hb
      have := h2.2
      simp only [List.getElem?_toArray, List.getElem?_eq_getElem h1, Option.map_some, Option.getD_some, Array.all_eq_true'] at this
      have := this e (by simpa using he)
      simpa [hb, Ld] using this
  · rintro ⟨o, ho, hn, he⟩
    have h1 : i < l.length := by rcases Nat.lt_or_ge i l.length with h | h; exact h; simp [List.getElem?_eq_none h] at ho
    refine ⟨by simpa using h1, ?_⟩
    simp only [Bool.and_eq_true, Bool.not_eq_eq_eq_not, Bool.not_true]
    refine ⟨?_, ?_⟩
    · unfold Ld at hn; simp only [Array.getD_eq_getD_getElem?, Array.getElem?_eq_getElem (show i < L.size by omega)] at hn ⊢; simpa using hn
    · simp only [List.getElem?_toArray, ho, Option.map_some, Option.getD_some, Array.all_eq_true']
      intro e he'
      by_cases hb : Region.binds .any e = true
      · have := he e (by simpa using he') hb; unfold Ld at this; rw [this]; simp
      · simp [hb]

theorem lt_of_get {α : Type} {l : List α} {i : Nat} {x : α} (h : l[i]? = some x) : i < l.length := by
  rcases Nat.lt_or_ge i l.length with h' | h'
  · exact h'
  · simp [List.getElem?_eq_none h'] at h
/-- the tail: which operation may come -/
theorem tail_only {l : List Oper} {N : Nat} (htail : tailOk l N = true) (hed : edgesOk l = true) {k : Nat} {L : Array Bool} (hN : N ≤ k) (hL : L.size = l.length) (hLd : ∀ j, j < l.length → (Ld L j ↔ j < k))
    {i : Nat} (hi : i ∈ Region.ready .any l.toArray L) : i = k ∧ k < l.length := by
  obtain ⟨o, ho, hn, he⟩ := (ready_spec hL).1 hi
  have hlt := lt_of_get ho
  have hge : k ≤ i := by
    rcases Nat.lt_or_ge i k with h | h
    · exact absurd ((hLd i hlt).2 h) hn
    · exact h
  by_cases e : i = k
  · exact ⟨e, by omega⟩
  · have hc : ∀ j o, l[j]? = some o → Ld L j → ∀ e ∈ o.after.toList, Region.binds .any e = true → Ld L e.on := by
      intro j o hj hl e he hb
      have h1 := edgesOk_spec hed hj he hb
      have h2 := (hLd j (lt_of_get hj)).1 hl
      exact (hLd e.on (by have := lt_of_get hj; omega)).2 (by omega)
    have := (tailOk_spec htail hlt (by omega) (show k < i by omega)).listed (L := Ld L) hc (fun o' ho' => by rw [ho] at ho'; cases ho'; exact he)
    have := (hLd k (by omega)).1 this
    omega
theorem tail_ready {l : List Oper} (hed : edgesOk l = true) {k : Nat} {L : Array Bool} (hL : L.size = l.length) (hLd : ∀ j, j < l.length → (Ld L j ↔ j < k)) (hk : k < l.length) : k ∈ Region.ready .any l.toArray L := by
  refine (ready_spec hL).2 ⟨l[k], by simp [hk], fun h => ?_, fun e he hb => ?_⟩
  · have := (hLd k hk).1 h; omega
  · have := edgesOk_spec hed (show l[k]? = some l[k] by simp [hk]) he hb
    exact (hLd e.on (by omega)).2 this
/-- the tail: one operation behind the other -/
theorem tail_sound {gd : Nat → Option Nat} {l : List Oper} (hgd : ∀ j, gd j = (l.toArray[j]?).bind (·.dst)) {N : Nat} (htail : tailOk l N = true) (hed : edgesOk l = true) {l' : List Oper} {S : St} {K : St → Prop} {p : Bool} (h : Run P G E r gd p l' S K) :
    ∀ (k : Nat), N ≤ k → l' = l.drop k → ∀ (L : Array Bool), L.size = l.length → (∀ j, j < l.length → (Ld L j ↔ j < k)) → ∀ (fuel n : Nat) (Q : Exit → Act → World → Prop) (I : Imm) (F : Nat → Prop) (a : Act) (W : World), l.length ≤ k + fuel → Sat G E r S I F a W →
      (∀ S' I' F' a' W', Sat G E r S' I' F' a' W' → K S' → Fram (own S F) I W (own S' F') I' W' → Q .normal a' W') → wpAnyIn (Fr r) n P .any l.toArray Q fuel L a W := by
  have step : ∀ {o : Oper} {rest : List Oper} {k : Nat}, o :: rest = l.drop k → k < l.length ∧ l[k]? = some o ∧ rest = l.drop (k + 1) := by
    intro o rest k he
    have hk : k < l.length := by
      rcases Nat.lt_or_ge k l.length with h | h
      · exact h
      · rw [List.drop_eq_nil_of_le h] at he; cases he
    have := List.drop_eq_getElem_cons hk
    rw [← he] at this
    cases this
    exact ⟨hk, by simp [hk], rfl⟩
  have next : ∀ {k : Nat} {L : Array Bool}, k < l.length → L.size = l.length → (∀ j, j < l.length → (Ld L j ↔ j < k)) → (L.setIfInBounds k true).size = l.length ∧ ∀ j, j < l.length → (Ld (L.setIfInBounds k true) j ↔ j < k + 1) := by
    intro k L hk hL hLd
    refine ⟨by simpa using hL, fun j hj => ?_⟩
    rw [Ld_set (by omega), hLd j hj]; omega
  have pos : ∀ {k fuel : Nat}, k < l.length → l.length ≤ k + fuel → ∃ f, fuel = f + 1 := fun hk hf => ⟨_, (Nat.sub_add_cancel (show 1 ≤ _ by omega)).symm⟩
  have none_ready : ∀ {k : Nat} {L : Array Bool}, k < l.length → L.size = l.length → (∀ j, j < l.length → (Ld L j ↔ j < k)) → ∀ {X : Prop}, Region.ready .any l.toArray L = [] → X := by
    intro k L hk hL hLd X h
    have := tail_ready hed hL hLd hk
    rw [h] at this; cases this
  induction h with
  | nil h =>
    intro k hN hd L hL hLd fuel n Q I F a W hf hs hk
    have hge : l.length ≤ k := by
      rcases Nat.lt_or_ge k l.length with h' | h'
      · have := congrArg List.length hd; simp at this; omega
      · exact h'
    have hnil : Region.ready .any l.toArray L = [] := by
      rw [List.eq_nil_iff_forall_not_mem]
      intro i hi
      have := tail_only htail hed hN hL hLd hi
      omega
    have hq := hk _ I F a W hs h (Fram.refl _ _ _)
    cases fuel with
    | zero => exact ⟨hnil, hq⟩
    | succ fuel => exact ⟨fun _ => hq, fun i hi => by rw [hnil] at hi; cases hi⟩
  | @ok o rest S K s ho hg hd _ ih =>
    intro k hN hdr L hL hLd fuel n Q I F a W hf hs hk
    obtain ⟨hk', h0, hrest⟩ := step hdr
    obtain ⟨f, rfl⟩ := pos hk' hf
    refine ⟨none_ready hk' hL hLd, fun i hi => ?_⟩
    obtain ⟨rfl, _⟩ := tail_only htail hed hN hL hLd hi
    obtain ⟨n1, n2⟩ := next hk' hL hLd
    simp only [wpOpIn, List.getElem?_toArray, h0]
    rw [wanted_of_guard hgd hs hg, if_pos rfl]
    refine (ho.eff hd (E := E) (r := r)) n I F a W _ Q hs fun S' I' F' a' W' hs' hk1 hf' => ?_
    subst hk1
    exact ih (i + 1) (by omega) hrest _ n1 n2 f n Q I' F' a' W' (by omega) hs' fun S'' I'' F'' a'' W'' h1 h2 h3 => hk S'' I'' F'' a'' W'' h1 h2 (hf'.trans h3)
  | @skip o rest S K hg hd _ ih =>
    intro k hN hdr L hL hLd fuel n Q I F a W hf hs hk
    obtain ⟨hk', h0, hrest⟩ := step hdr
    obtain ⟨f, rfl⟩ := pos hk' hf
    refine ⟨none_ready hk' hL hLd, fun i hi => ?_⟩
    obtain ⟨rfl, _⟩ := tail_only htail hed hN hL hLd hi
    obtain ⟨n1, n2⟩ := next hk' hL hLd
    simp only [wpOpIn, List.getElem?_toArray, h0]
    rw [wanted_of_guard hgd hs hg, if_neg (by simp)]
    exact ⟨fun f _ => fn_true r f, ih (i + 1) (by omega) hrest _ n1 n2 f n Q I F _ W (by omega) (hs.put (s := eqS undef) rfl hd) fun S'' I'' F'' a'' W'' h1 h2 h3 => hk S'' I'' F'' a'' W'' h1 h2 (by rw [own_set] at h3; exact h3)⟩
  | @eff o rest S K K' hp ho hg _ ih =>
    intro k hN hdr L hL hLd fuel n Q I F a W hf hs hk
    obtain ⟨hk', h0, hrest⟩ := step hdr
    obtain ⟨f, rfl⟩ := pos hk' hf
    refine ⟨none_ready hk' hL hLd, fun i hi => ?_⟩
    obtain ⟨rfl, _⟩ := tail_only htail hed hN hL hLd hi
    obtain ⟨n1, n2⟩ := next hk' hL hLd
    simp only [wpOpIn, List.getElem?_toArray, h0]
    rw [wanted_of_guard hgd hs hg, if_pos rfl]
    refine ho n I F a W _ Q hs fun S' I' F' a' W' hs' hk1 hf' => ?_
    exact ih S' hk1 (i + 1) (by omega) hrest _ n1 n2 f n Q I' F' a' W' (by omega) hs' fun S'' I'' F'' a'' W'' h1 h2 h3 => hk S'' I'' F'' a'' W'' h1 h2 (hf'.trans h3)
  | @ghost rest S K S' hp hg _ ih =>
    intro k hN hdr L hL hLd fuel n Q I F a W hf hs hk
    obtain ⟨I', hs', hf'⟩ := hg I F a W hs
    exact ih k hN hdr L hL hLd fuel n Q I' F a W hf hs' fun S'' I'' F'' a'' W'' h1 h2 h3 => hk S'' I'' F'' a'' W'' h1 h2 (hf'.trans h3)

/-- what is known while a part of the first N operations, in whatever order, has been carried out -/
structure Mid (G : Imm) (E : Env) (r : Option Nat) (l : List Oper) (N : Nat) (sv : Nat → SV) (S : St) (L : Array Bool) (I : Imm) (F : Nat → Prop) (a : Act) (W : World) : Prop where
  size : L.size = l.length
  sat : Sat G E r { S with g := [] } I F a W
  old : ∀ t s, look t S.g = some s → (∀ j o, l[j]? = some o → o.dst = some t → ¬ Ld L j) → s.den I (a.tmps.getD t undef)
  new : ∀ j o d, l[j]? = some o → Ld L j → o.dst = some d → (sv j).den I (a.tmps.getD d undef)
  low : ∀ j, Ld L j → j < N
  closed : ∀ j o, l[j]? = some o → Ld L j → ∀ e ∈ o.after.toList, Region.binds .any e = true → Ld L e.on

theorem take_get {α : Type} {l : List α} {N i : Nat} (h : i < N) : (l.take N)[i]? = l[i]? := by rw [List.getElem?_take]; simp [h]
theorem looksAt_tmp {l : List Oper} {o : Oper} {t : Nat} (h : Operand.tmp t ∈ o.op.operands.toList) : t ∈ o.looksAt l.toArray := by
  unfold Oper.looksAt
  exact List.mem_append.2 (.inl (List.mem_filterMap.2 ⟨.tmp t, h, rfl⟩))
theorem looksAt_guard {l : List Oper} {o : Oper} {j d : Nat} {b : Bool} (hg : o.guard = some (j, b)) (hd : (l.toArray[j]?).bind (·.dst) = some d) : d ∈ o.looksAt l.toArray := by
  unfold Oper.looksAt
  refine List.mem_append.2 (.inr ?_)
  rw [hg]; simp only [hd, Option.toList_some, List.mem_singleton]

section mid
variable {l : List Oper} {N : Nat} {sv : Nat → SV} {L : Array Bool} {I : Imm} {F : Nat → Prop} {a : Act} {W : World}
/-- the slot that an operation looks at holds what the order of the text says -/
theorem Mid.slot (hm : Mid G E r l N sv S L I F a W) (hrd : readsOk l = true) {i : Nat} {o : Oper} (hi : l[i]? = some o) (hN : i < N) (hn : ¬ Ld L i)
    (hpre : ∀ e ∈ o.after.toList, Region.binds .any e = true → Ld L e.on) {t : Nat} (ht : t ∈ o.looksAt l.toArray) {s : SV} (hl : look t (gAt (l.take N) sv S.g i) = some s) : s.den I (a.tmps.getD t undef) := by
  rcases look_gAt hl with ⟨j, p, hj, hp, hd, rfl⟩ | ⟨hg, hno⟩
  · rw [take_get (by omega)] at hp
    refine hm.new j p t hp ?_ hd
    rcases readsOk_spec hrd hi ht hp hd with h1 | ⟨_, h1⟩ | ⟨h1, _⟩
    · omega
    · exact h1.listed (L := Ld L) hm.closed fun o' ho' => by rw [hi] at ho'; cases ho'; exact hpre
    · omega
  · refine hm.old t s hg fun j p hp hd hj => ?_
    have hjN := hm.low j hj
    have hge : i ≤ j := by
      rcases Nat.lt_or_ge j i with h | h
      · exact absurd hd (hno j p h (by rw [take_get hjN]; exact hp))
      · exact h
    rcases readsOk_spec hrd hi ht hp hd with h1 | ⟨h1, _⟩ | ⟨_, h1⟩
    · subst h1; exact hn hj
    · omega
    · exact hn (h1.listed (L := Ld L) hm.closed fun o' ho' => hm.closed j o' ho' hj)
theorem Mid.reads (hm : Mid G E r l N sv S L I F a W) (hrd : readsOk l = true) {i : Nat} {o : Oper} (hi : l[i]? = some o) (hN : i < N) (hn : ¬ Ld L i)
    (hpre : ∀ e ∈ o.after.toList, Region.binds .any e = true → Ld L e.on) : reads (gAt (l.take N) sv S.g i) I o a := by
  intro x hx s hs
  cases x with
  | tmp t => exact hm.slot hrd hi hN hn hpre (looksAt_tmp hx) hs
  | const v => cases hs; rfl
  | global b => cases hs; rfl
  | func f => cases hs; rfl
theorem Mid.wanted (hm : Mid G E r l N sv S L I F a W) (hrd : readsOk l = true) {i : Nat} {o : Oper} (hi : l[i]? = some o) (hN : i < N) (hn : ¬ Ld L i)
    (hpre : ∀ e ∈ o.after.toList, Region.binds .any e = true → Ld L e.on) {b : Bool} (hg : guardAt (gdOf l) (gAt (l.take N) sv S.g i) o b) : Region.wanted o (yielded l.toArray a.tmps) = b := by
  unfold guardAt at hg
  unfold Region.wanted
  split at hg
  · rename_i e; rw [e]; exact hg.symm
  · rename_i j want e
    rw [e]
    obtain ⟨d, c, hj, hl, hb⟩ := hg
    have hj' : (l.toArray[j]?).bind (·.dst) = some d := by simpa [gdOf] using hj
    have hv : a.tmps.getD d undef = .bool c := hm.slot hrd hi hN hn hpre (looksAt_guard e hj') hl
    have hy : yielded l.toArray a.tmps j = some c := by
      unfold yielded
      rw [hj']
      simp only [Option.bind_some]
      rw [Array.getD_eq_getD_getElem?] at hv
      cases hx : a.tmps[d]? with
      | none => rw [hx] at hv; simp [undef] at hv
      | some y => rw [hx] at hv; simp at hv; subst hv; rfl
    simp only [hy, hb]
    cases c <;> cases want <;> rfl
/-- one operation more -/
theorem Mid.step (hm : Mid G E r l N sv S L I F a W) (hnd : nodupDst l = true) {i : Nat} {o : Oper} (hi : l[i]? = some o) (hN : i < N) (hdst : ∀ t, o.dst = some t → t < S.n)
    (hpre : ∀ e ∈ o.after.toList, Region.binds .any e = true → Ld L e.on) {v : Value} {I' : Imm} {W' : World} (he : Ext I W I' W') (hh : Holds G I' W') (hv : (sv i).den I' v) :
    Mid G E r l N sv S (L.setIfInBounds i true) I' F (a.put o.dst v) W' := by
  have hilt : i < L.size := by rw [hm.size]; exact lt_of_get hi
  have hs := hm.sat.keep he hh
  refine ⟨by simpa using hm.size, ?_, ?_, ?_, ?_, ?_⟩
  · exact ⟨by rw [put_size]; exact hs.n, fun t s h => (by cases h), hs.m, hs.h, by cases hd : o.dst <;> simp [Act.put, hs.d], hs.dn, hs.dk, hs.e, hs.f, hs.l⟩
  · intro t s hl hno
    have hno' : ∀ j p, l[j]? = some p → p.dst = some t → ¬ Ld L j := fun j p hp hd hj => hno j p hp hd ((Ld_set hilt).2 (.inr hj))
    have h1 := s.mono _ _ _ he.imm (hm.old t s hl hno')
    cases hd : o.dst with
    | none => exact h1
    | some d =>
      rw [put_get_other fun e => by subst e; exact hno i o hi hd ((Ld_set hilt).2 (.inl rfl))]
      exact h1
  · intro j p d hp hj hd
    rcases (Ld_set hilt).1 hj with e | hj
    · subst e
      rw [hi] at hp; cases hp
      rw [hd, put_get_same (by rw [hm.sat.n]; exact hdst d hd)]
      exact hv
    · have h1 := (sv j).mono _ _ _ he.imm (hm.new j p d hp hj hd)
      cases hdo : o.dst with
      | none => exact h1
      | some d' =>
        by_cases e : d' = d
        · subst e
          have := nodupDst_spec hnd hi hp hdo hd
          subst this
          rw [put_get_same (by rw [hm.sat.n]; exact hdst d' hdo)]
          exact hv
        · rw [put_get_other e]; exact h1
  · intro j hj
    rcases (Ld_set hilt).1 hj with e | hj
    · omega
    · exact hm.low j hj
  · intro j p hp hj e he' hb
    refine (Ld_set hilt).2 (.inr ?_)
    rcases (Ld_set hilt).1 hj with e' | hj
    · subst e'; rw [hi] at hp; cases hp; exact hpre e he' hb
    · exact hm.closed j p hp hj e he' hb
/-- all of the first N have been carried out -/
theorem Mid.done (hm : Mid G E r l N sv S L I F a W) (hN : N ≤ l.length) (hall : ∀ j, j < N → Ld L j) : Sat G E r { S with g := gAt (l.take N) sv S.g (l.take N).length } I F a W := by
  have hs := hm.sat
  refine ⟨hs.n, fun t s hl => ?_, hs.m, hs.h, hs.d, hs.dn, hs.dk, hs.e, hs.f, hs.l⟩
  rcases look_gAt hl with ⟨j, p, hj, hp, hd, rfl⟩ | ⟨hg, hno⟩
  · have hj' : j < N := by simp at hj; omega
    rw [take_get hj'] at hp
    exact hm.new j p t hp (hall j hj') hd
  · exact hm.old t s hg fun j p hp hd hj => hno j p (by have := hm.low j hj; simp; omega) (by rw [take_get (hm.low j hj)]; exact hp) hd
end mid

def countOff (L : Array Bool) : Nat := L.toList.count false
theorem countOff_set {L : Array Bool} {i : Nat} (hi : i < L.size) (hn : ¬ Ld L i) : countOff L = countOff (L.setIfInBounds i true) + 1 := by
  have h0 : L[i] = false := by
    unfold Ld at hn
    simp only [Array.getD_eq_getD_getElem?, Array.getElem?_eq_getElem hi, Option.getD_some] at hn
    simpa using hn
  unfold countOff
  have : (L.setIfInBounds i true).toList = L.toList.set i true := by simp
  have hc : 0 < L.toList.count false := List.count_pos_iff.2 (by rw [← h0]; simp)
  have h1 : (L.toList.set i true).count false = L.toList.count false - 1 := by
    rw [List.count_set (by simpa using hi)]; simp [h0]
  rw [this, h1]; omega
theorem countOff_zero {L : Array Bool} (h : countOff L = 0) {j : Nat} (hj : j < L.size) : Ld L j := by
  unfold countOff at h
  have := List.count_eq_zero.1 h
  unfold Ld
  simp only [Array.getD_eq_getD_getElem?, Array.getElem?_eq_getElem hj, Option.getD_some]
  cases hx : L[j] with
  | true => rfl
  | false => exact absurd (by rw [← hx]; simp) this

class Mixed (P : Program) : Prop where
  h : P.follows .mixedOrders = true
theorem draw_sound {l : List Oper} {N : Nat} (hok : drawOk l N = true) (hN : N ≤ l.length) {sv : Nat → SV} {K : St → Prop}
    (hst : ∀ i o, l[i]? = some o → i < N → (∀ t, o.dst = some t → t < S.n) ∧ ((OpOK P G S.h o (gAt (l.take N) sv S.g i) (sv i) ∧ guardAt (gdOf l) (gAt (l.take N) sv S.g i) o true) ∨ (guardAt (gdOf l) (gAt (l.take N) sv S.g i) o false ∧ sv i = eqS undef)))
    (hK : Run P G E r (gdOf l) false (l.drop N) { S with g := gAt (l.take N) sv S.g (l.take N).length } K) :
    ∀ (fuel : Nat) (L : Array Bool) (n : Nat) (Q : Exit → Act → World → Prop) (I : Imm) (F : Nat → Prop) (a : Act) (W : World), countOff L ≤ fuel → Mid G E r l N sv S L I F a W →
      (∀ S' I' F' a' W', Sat G E r S' I' F' a' W' → K S' → Fram (own S F) I W (own S' F') I' W' → Q .normal a' W') → wpAnyIn (Fr r) n P .any l.toArray Q fuel L a W := by
  simp only [drawOk, Bool.and_eq_true] at hok
  obtain ⟨hed, hnd, hrd, htail⟩ := hok
  have hgd : ∀ j, gdOf l j = (l.toArray[j]?).bind (·.dst) := fun j => by simp [gdOf]
  intro fuel
  induction fuel with
  | zero =>
    intro L n Q I F a W hc hm hk
    have hall : ∀ j, j < l.length → Ld L j := fun j hj => countOff_zero (by omega) (by rw [hm.size]; exact hj)
    have hNl : N = l.length := by
      rcases Nat.lt_or_ge N l.length with h | h
      · have := hm.low N (hall N h); omega
      · omega
    refine tail_sound hgd htail hed hK N (Nat.le_refl _) rfl L hm.size (fun j hj => ⟨fun h => hm.low j h, fun _ => hall j hj⟩) 0 n Q I F a W (by omega) (hm.done hN fun j hj => hall j (by omega)) hk
  | succ fuel ih =>
    intro L n Q I F a W hc hm hk
    by_cases hall : ∀ j, j < N → Ld L j
    · have hcount : l.length ≤ N + countOff L := by
        have h1 : L.toList.count false = (L.toList.take N).count false + (L.toList.drop N).count false := by rw [← List.count_append, List.take_append_drop]
        have h2 : (L.toList.drop N).count false = (L.toList.drop N).length := by
          refine List.count_eq_length.2 fun b hb => ?_
          obtain ⟨k, hk1, hk2⟩ := List.mem_iff_getElem.1 hb
          have hk3 : N + k < L.size := by simp at hk1; omega
          have : ¬ Ld L (N + k) := fun h => by have := hm.low _ h; omega
          unfold Ld at this
          simp only [Array.getD_eq_getD_getElem?, Array.getElem?_eq_getElem hk3, Option.getD_some] at this
          rw [← hk2]; simp only [List.getElem_drop, Array.getElem_toList]; simpa using this
        have := hm.size
        unfold countOff; rw [h1, h2]; simp; omega
      exact tail_sound hgd htail hed hK N (Nat.le_refl _) rfl L hm.size (fun j hj => ⟨fun h => hm.low j h, fun h => hall j h⟩) (fuel + 1) n Q I F a W (by omega) (hm.done hN hall) hk
    · refine ⟨fun hnil => ?_, fun i hi => ?_⟩
      · exfalso
        obtain ⟨j, hj⟩ := Classical.not_forall.1 hall
        obtain ⟨hj1, hj2⟩ := Classical.not_imp.1 hj
        obtain ⟨m, ⟨hm1, hm2⟩, hm3⟩ := exists_least (p := fun j => j < N ∧ ¬ Ld L j) ⟨j, hj1, hj2⟩
        have : m ∈ Region.ready .any l.toArray L := (ready_spec hm.size).2 ⟨l[m]'(by omega), List.getElem?_eq_getElem (by omega), hm2, fun e he hb => by
          have h1 := edgesOk_spec hed (show l[m]? = some (l[m]'(by omega)) from List.getElem?_eq_getElem (by omega)) he hb
          by_cases hx : Ld L e.on
          · exact hx
          · have := hm3 e.on ⟨by omega, hx⟩; omega⟩
        rw [hnil] at this; cases this
      · obtain ⟨o, ho, hn, hpre⟩ := (ready_spec hm.size).1 hi
        have hiN : i < N := by
          rcases Nat.lt_or_ge i N with h | h
          · exact h
          · exfalso
            refine hall fun j hj => ?_
            exact (tailOk_spec htail (lt_of_get ho) h (show j < i by omega)).listed (L := Ld L) hm.closed fun o' ho' => by rw [ho] at ho'; cases ho'; exact hpre
        have hilt : i < L.size := by rw [hm.size]; exact lt_of_get ho
        have hcnt := countOff_set hilt hn
        obtain ⟨hdst, hstep⟩ := hst i o ho hiN
        simp only [wpOpIn, List.getElem?_toArray, ho]
        rcases hstep with ⟨hop, hg⟩ | ⟨hg, hsv⟩
        · rw [hm.wanted hrd ho hiN hn hpre hg, if_pos rfl]
          refine hop n r I W a _ Q hm.sat.m hm.sat.h (hm.reads hrd ho hiN hn hpre) fun v I' W' he hh hv => ?_
          exact ih _ n Q I' F _ W' (by omega) (hm.step hnd ho hiN hdst hpre he hh hv) fun S'' I'' F'' a'' W'' h1 h2 h3 => hk S'' I'' F'' a'' W'' h1 h2 ((he.own _).trans h3)
        · rw [hm.wanted hrd ho hiN hn hpre hg, if_neg (by simp)]
          refine ⟨fun f _ => fn_true r f, ?_⟩
          exact ih _ n Q I F _ W (by omega) (hm.step hnd ho hiN hdst hpre (Fram.refl _ _ _) hm.sat.m (by rw [hsv]; exact rfl)) hk

theorem T_draw [hmx : Mixed P] (N : Nat) {id : Nat} {l : List Oper} {Q : Exit → St → Prop} (hok : drawOk l N = true) (h : Run P G E r (gdOf l) true (l.take N) S (fun S1 => Run P G E r (gdOf l) false (l.drop N) S1 (fun S' => Q .normal S'))) :
    T P G E r (.region id l.toArray true) S Q := by
  intro n I F a W hs
  refine wpIn_region_any hmx.h ?_
  obtain ⟨sv, hK, hst⟩ := run_parts h rfl
  have hd := ext_drawn hs.m (W.drawn + 1)
  have hs' := hs.keep hd.2 hd.1
  have hNl : (l.take N) = (l.take (min N l.length)) := by simp [List.take_eq_take_iff]
  have hdl : (l.drop N) = (l.drop (min N l.length)) := by
    rcases Nat.le_total N l.length with h | h
    · rw [Nat.min_eq_left h]
    · rw [Nat.min_eq_right h, List.drop_eq_nil_of_le h, List.drop_eq_nil_of_le (Nat.le_refl _)]
  rw [hNl] at hK hst
  rw [hdl] at hK
  have hok' : drawOk l (min N l.length) = true := by
    simp only [drawOk, Bool.and_eq_true] at hok ⊢
    refine ⟨hok.1, hok.2.1, hok.2.2.1, ?_⟩
    refine List.all_eq_true.2 fun j hj => ?_
    have := List.all_eq_true.1 hok.2.2.2 j hj
    simp only [List.mem_range] at hj
    simp only [Bool.or_eq_true, decide_eq_true_eq] at this ⊢
    rcases this with h | h
    · exact .inl (by omega)
    · exact .inr h
  refine draw_sound hok' (Nat.min_le_right _ _) (fun i o hi hiN => hst i o (by rw [take_get hiN]; exact hi)) hK _ _ n (post G E r Q (own S F) I W) I F a _ ?_ ?_ ?_
  · simp [countOff]
  · have hL : ∀ j, ¬ Ld (Array.replicate l.length false) j := fun j => by
      unfold Ld; simp only [Array.getD_eq_getD_getElem?, Array.getElem?_replicate]; split <;> simp
    exact ⟨by simp, ⟨hs'.n, fun t s h => (by cases h), hs'.m, hs'.h, hs'.d, hs'.dn, hs'.dk, hs'.e, hs'.f, hs'.l⟩, fun t s hl _ => hs'.g t s hl, fun j o d _ hj => absurd hj (hL j), fun j hj => absurd hj (hL j), fun j o _ hj => absurd hj (hL j)⟩
  · intro S' I' F' a' W' h1 h2 h3
    exact ⟨S', I', F', h1, h2, (hd.2.own _).trans h3⟩
theorem T_drawS [Mixed P] (N : Nat) {id : Nat} {l : List Oper} {y : Code} {Q : Exit → St → Prop} (hok : drawOk l N = true) (h : Run P G E r (gdOf l) true (l.take N) S (fun S1 => Run P G E r (gdOf l) false (l.drop N) S1 (fun S' => T P G E r y S' Q))) :
    T P G E r (.seq (.region id l.toArray true) y) S Q := T_seq (T_draw N hok h)
end Go.Sv
