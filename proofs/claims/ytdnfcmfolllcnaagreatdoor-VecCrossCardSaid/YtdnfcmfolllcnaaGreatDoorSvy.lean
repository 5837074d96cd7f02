/- A drawn region's operations in another order of the text. -/
import Derived.Test.YtdnfcmfolllcnaaGreatDoorSvx
namespace Go.Sv
open Go Go.RowKit
section
variable {P : Program} {G : Imm} {E : Env} {r : Option Nat} {S : St}
def ren (p : List Nat) (o : Oper) : Oper := { o with after := o.after.map fun e => { e with on := p.idxOf e.on }, guard := o.guard.map fun x => (p.idxOf x.1, x.2) }
def permOps (p : List Nat) (l : List Oper) : List Oper := p.map fun i => ren p (l.getD i default)
def permOk (p : List Nat) (l : List Oper) : Bool := Nat.beq p.length l.length && (p.all (fun i => Nat.blt i l.length) && (decide p.Nodup && ((List.range l.length).all (fun i => p.contains i) && l.all fun o => o.after.toList.all (fun e => Nat.blt e.on l.length) && (match o.guard with | some (j, _) => Nat.blt j l.length | none => true))))
theorem ren_wp (p : List Nat) (o : Oper) (F : Fence) (n : Nat) (a : Act) (w : World) (K : Act → World → Prop) (Q : Exit → Act → World → Prop) : (ren p o).wpIn F n P a w K Q ↔ o.wpIn F n P a w K Q := by
  cases o; rfl
structure PermFacts (p : List Nat) (l : List Oper) : Prop where
  len : p.length = l.length
  lt : ∀ i ∈ p, i < l.length
  nd : p.Nodup
  all : ∀ i, i < l.length → i ∈ p
  edge : ∀ (i : Nat) (o : Oper), l[i]? = some o → ∀ e ∈ o.after.toList, Edge.on e < l.length
  guard : ∀ (i : Nat) (o : Oper) (j : Nat) (b : Bool), l[i]? = some o → o.guard = some (j, b) → j < l.length
theorem permOk_spec {p : List Nat} {l : List Oper} (h : permOk p l = true) : PermFacts p l := by
  simp only [permOk, Bool.and_eq_true, List.all_eq_true, decide_eq_true_eq] at h
  obtain ⟨h1, h2, h3, h4, h5⟩ := h
  refine ⟨Nat.eq_of_beq_eq_true h1, fun i hi => Nat.blt_eq ▸ h2 i hi, h3, fun i hi => by simpa using h4 i (by simpa using hi), fun i o ho e he => Nat.blt_eq ▸ (h5 o (List.mem_of_getElem? ho)).1 e he, fun i o j b ho hg => ?_⟩
  have := (h5 o (List.mem_of_getElem? ho)).2
  rw [hg] at this
  exact Nat.blt_eq ▸ this
theorem perm_get {p : List Nat} {l : List Oper} (h : PermFacts p l) {k i : Nat} {o : Oper} (hk : p[k]? = some i) (ho : l[i]? = some o) : (permOps p l)[k]? = some (ren p o) := by
  simp only [permOps, List.getElem?_map, hk, Option.map_some, List.getD_eq_getElem?_getD, ho, Option.getD_some]
theorem idx_get {p : List Nat} {i : Nat} (h : i ∈ p) : p[p.idxOf i]? = some i := by
  rw [List.getElem?_eq_getElem (List.idxOf_lt_length_iff.2 h), List.getElem_idxOf]
theorem get_idx {p : List Nat} (hn : p.Nodup) {k i : Nat} (h : p[k]? = some i) : p.idxOf i = k := by
  have hi : i ∈ p := List.mem_of_getElem? h
  have h1 := idx_get hi
  exact (List.getElem?_inj (List.idxOf_lt_length_iff.2 hi) hn).1 (h1.trans h.symm)
theorem wpAny_perm {p : List Nat} {l : List Oper} (h : PermFacts p l) {F : Fence} {n : Nat} {Q : Exit → Act → World → Prop} :
    ∀ (fuel : Nat) (L L' : Array Bool) (a : Act) (w : World), L.size = l.length → L'.size = l.length → (∀ k i, p[k]? = some i → (Ld L' k ↔ Ld L i)) → wpAnyIn F n P .any (permOps p l).toArray Q fuel L' a w → wpAnyIn F n P .any l.toArray Q fuel L a w := by
  have hlen : (permOps p l).length = l.length := by simp [permOps, h.len]
  have hready : ∀ (L L' : Array Bool), L.size = l.length → L'.size = l.length → (∀ k i, p[k]? = some i → (Ld L' k ↔ Ld L i)) → ∀ k i, p[k]? = some i → i ∈ Region.ready .any l.toArray L → k ∈ Region.ready .any (permOps p l).toArray L' := by
    intro L L' hL hL' hc k i hk hi
    obtain ⟨o, ho, hn, hpre⟩ := (ready_spec hL).1 hi
    refine (ready_spec (by rw [hL', hlen])).2 ⟨ren p o, perm_get h hk ho, fun hx => hn ((hc k i hk).1 hx), fun e he hb => ?_⟩
    simp only [ren, Array.toList_map, List.mem_map] at he
    obtain ⟨e0, he0, rfl⟩ := he
    have hm := h.all _ (h.edge i o ho e0 he0)
    exact (hc _ _ (idx_get hm)).2 (hpre e0 he0 hb)
  have hready' : ∀ (L L' : Array Bool), L.size = l.length → L'.size = l.length → (∀ k i, p[k]? = some i → (Ld L' k ↔ Ld L i)) → Region.ready .any l.toArray L = [] → Region.ready .any (permOps p l).toArray L' = [] := by
    intro L L' hL hL' hc he
    refine List.eq_nil_iff_forall_not_mem.2 fun k hk => ?_
    obtain ⟨o', ho', hn, hpre⟩ := (ready_spec (by rw [hL', hlen])).1 hk
    have hklt : k < p.length := by have := lt_of_get ho'; rw [hlen, ← h.len] at this; exact this
    have hki := List.getElem?_eq_getElem hklt
    have hilt := h.lt _ (List.getElem_mem hklt)
    have hio := List.getElem?_eq_getElem hilt
    have := perm_get h hki hio
    rw [ho'] at this; cases this
    have : p[k] ∈ Region.ready .any l.toArray L := (ready_spec hL).2 ⟨_, hio, fun hx => hn ((hc k _ hki).2 hx), fun e he hb => by
      have hm := h.all _ (h.edge _ _ hio e he)
      refine (hc _ _ (idx_get hm)).1 (hpre { e with on := p.idxOf e.on } ?_ hb)
      simp only [ren, Array.toList_map, List.mem_map]
      exact ⟨e, he, rfl⟩⟩
    rw [he] at this; cases this
  intro fuel
  induction fuel with
  | zero =>
    intro L L' a w hL hL' hc hw
    refine ⟨List.eq_nil_iff_forall_not_mem.2 fun i hi => ?_, hw.2⟩
    obtain ⟨o, ho, _⟩ := (ready_spec hL).1 hi
    have := hready L L' hL hL' hc _ i (idx_get (h.all i (lt_of_get ho))) hi
    rw [hw.1] at this; cases this
  | succ fuel ih =>
    intro L L' a w hL hL' hc hw
    refine ⟨fun he => hw.1 (hready' L L' hL hL' hc he), fun i hi => ?_⟩
    obtain ⟨o, ho, hn, _⟩ := (ready_spec hL).1 hi
    have hik := idx_get (h.all i (lt_of_get ho))
    have h1 := hw.2 _ (hready L L' hL hL' hc _ i hik hi)
    have hkp := perm_get h hik ho
    simp only [wpOpIn, List.getElem?_toArray, ho, hkp] at h1 ⊢
    have hyield : ∀ j, j < l.length → yielded (permOps p l).toArray a.tmps (p.idxOf j) = yielded l.toArray a.tmps j := by
      intro j hj
      have hjo := List.getElem?_eq_getElem hj
      have := perm_get h (idx_get (h.all j hj)) hjo
      unfold yielded
      simp only [List.getElem?_toArray, this, hjo, Option.bind_some]
      rfl
    have hwant : Region.wanted (ren p o) (yielded (permOps p l).toArray a.tmps) = Region.wanted o (yielded l.toArray a.tmps) := by
      unfold Region.wanted
      cases hg : o.guard with
      | none => simp [ren, hg]
      | some x =>
        obtain ⟨j, b⟩ := x
        simp only [ren, hg, Option.map_some]
        rw [hyield j (h.guard i o j b ho hg)]
    rw [hwant] at h1
    have hnext : ∀ (a : Act) (w : World), wpAnyIn F n P .any (permOps p l).toArray Q fuel (L'.setIfInBounds (p.idxOf i) true) a w → wpAnyIn F n P .any l.toArray Q fuel (L.setIfInBounds i true) a w := by
      intro a w hx
      refine ih _ _ a w (by simpa using hL) (by simpa using hL') (fun k j hk => ?_) hx
      rw [Ld_set (by rw [hL', ← h.len]; exact lt_of_get hik), Ld_set (by rw [hL]; exact lt_of_get ho), hc k j hk]
      refine or_congr ⟨fun e => ?_, fun e => ?_⟩ Iff.rfl
      · subst e; rw [hik] at hk; exact (Option.some.inj hk).symm
      · subst e; exact (get_idx h.nd hk).symm
    split
    · rename_i hw1
      rw [if_pos hw1] at h1
      exact Oper.wpIn_mono hnext ((ren_wp p o F n a w _ Q).1 h1)
    · rename_i hw1
      rw [if_neg hw1] at h1
      refine ⟨fun f hf => h1.1 f ?_, hnext _ _ h1.2⟩
      cases o; exact hf
theorem TA_perm (p : List Nat) {l : List Oper} {Q : Exit → St → Prop} (hok : permOk p l = true) (h : TA P G E r (permOps p l) S Q) : TA P G E r l S Q := by
  intro n I F a W hs
  have hf := permOk_spec hok
  have hlen : (permOps p l).length = l.length := by simp [permOps, hf.len]
  have h1 := h n I F a W hs
  rw [hlen] at h1
  refine wpAny_perm hf l.length _ (Array.replicate l.length false) a _ (by simp) (by simp) (fun k i _ => ?_) h1
  have hL : ∀ m j, ¬ Ld (Array.replicate m false) j := fun m j => by
    unfold Ld; simp only [Array.getD_eq_getD_getElem?, Array.getElem?_replicate]; split <;> simp
  exact ⟨fun h => absurd h (hL _ _), fun h => absurd h (hL _ _)⟩
theorem T_drawP [Mixed P] (p : List Nat) (N : Nat) (Hc : HL) {id : Nat} {l : List Oper} {oN : Oper} {Q : Exit → St → Prop} {n : Nat} {g : List (Nat × SV)} {h : HL} {d : List Nat} {i : Nat × Bool} (hp : permOk p l = true) (hok : drawOkE (permOps p l) N = true) (hoN : (permOps p l)[N]? = some oN) (hHc : Hc.Sublist h)
    (hr : RunE P G (gdOf (permOps p l)) n h Hc (earlyOf (permOps p l) N) 0 ((permOps p l).take N) g (fun g' => EffAt P G E r (gdOf (permOps p l)) oN ((permOps p l).drop (N + 1)) Hc ⟨n, g', h, d, i⟩ (fun S' => Q .normal S'))) : T P G E r (.region id l.toArray true) ⟨n, g, h, d, i⟩ Q := (TA_perm p hp (TA_drawE N Hc hok hoN hHc hr)).T
theorem T_drawPS [Mixed P] (p : List Nat) (N : Nat) (Hc : HL) {id : Nat} {l : List Oper} {oN : Oper} {y : Code} {Q : Exit → St → Prop} {n : Nat} {g : List (Nat × SV)} {h : HL} {d : List Nat} {i : Nat × Bool} (hp : permOk p l = true) (hok : drawOkE (permOps p l) N = true) (hoN : (permOps p l)[N]? = some oN) (hHc : Hc.Sublist h)
    (hr : RunE P G (gdOf (permOps p l)) n h Hc (earlyOf (permOps p l) N) 0 ((permOps p l).take N) g (fun g' => EffAt P G E r (gdOf (permOps p l)) oN ((permOps p l).drop (N + 1)) Hc ⟨n, g', h, d, i⟩ (fun S' => T P G E r y S' Q))) : T P G E r (.seq (.region id l.toArray true) y) ⟨n, g, h, d, i⟩ Q := T_seq (T_drawP p N Hc hp hok hoN hHc hr)
end
end Go.Sv
