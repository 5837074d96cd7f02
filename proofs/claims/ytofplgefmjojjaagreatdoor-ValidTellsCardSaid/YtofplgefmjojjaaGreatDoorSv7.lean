/- A call of a function value to which one's own blocks are handed; a slice said in other words. -/
import Derived.Test.YtofplgefmjojjaaGreatDoorSv1
namespace Go.Sv
open Go Go.RowKit
section
variable {P : Program} {G : Imm} {E : Env} {r : Option Nat} {S : St} {gd : Nat → Option Nat} {p : Bool} {o : Oper} {ops : List Oper} {K : St → Prop}
end
theorem cells_imp {I : Imm} {b o : Nat} {cs ds : List SV} (h : cellsAt I b o cs) (hi : ∀ (i : Nat) (s : SV), ds[i]? = some s → ∃ r : SV, cs[i]? = some r ∧ ∀ v, r.den I v → s.den I v) : cellsAt I b o ds := by
 obtain ⟨c, hc, hx⟩ := h
 refine ⟨c, hc, fun i s hs => ?_⟩
 obtain ⟨r, hr, hv⟩ := hi i s hs
 obtain ⟨x, h1, h2, h3⟩ := hx i r hr
 exact ⟨x, h1, hv x h2, h3⟩
theorem sl_conv {α β : Type} {f : α → List SV} {g : β → List SV} (k : α → β) {st : Nat} {l : List α} {I : Imm} {v : Value} (hf : ∀ x ∈ l, ∀ (i : Nat) (s : SV), (g (k x))[i]? = some s → ∃ r : SV, (f x)[i]? = some r ∧ ∀ v, r.den I v → s.den I v) (h : (slS st f l).den I v) : (slS st g (l.map k)).den I v := by
 obtain ⟨a, cap, hv, h1, h2, h3⟩ := h
 refine ⟨a, cap, by rw [hv, List.length_map], by rwa [List.length_map], by rwa [List.length_map], ?_⟩
 rcases h3 with h3 | ⟨b, o, ha, h4⟩
 ·exact .inl (by rw [h3]; rfl)
 ·refine .inr ⟨b, o, ha, fun i y hy => ?_⟩
  rw [List.getElem?_map] at hy
  rcases hx : l[i]? with _ | x
  ·rw [hx] at hy; cases hy
  ·rw [hx] at hy; cases hy
   exact cells_imp (h4 i x hx) (hf x (List.mem_of_getElem? hx))
theorem sl_same {α β : Type} {f : α → List SV} {g : β → List SV} (k : α → β) {st : Nat} {l : List α} {I : Imm} {v : Value} (hf : ∀ x, g (k x) = f x) (h : (slS st f l).den I v) : (slS st g (l.map k)).den I v :=
 sl_conv k (fun x _ i s hs => ⟨s, by rw [← hf]; exact hs, fun _ h => h⟩) h
theorem dens_mid {I : Imm} {c1 c2 : List SV} {s s' : SV} {xs : List Value} (h : ∀ v, s.den I v → s'.den I v) (hd : dens I (c1 ++ s :: c2) xs) : dens I (c1 ++ s' :: c2) xs := by
 refine ⟨by rw [hd.1]; simp, fun i r x hr hx => ?_⟩
 rcases Nat.lt_trichotomy i c1.length with hi | rfl | hi
 ·rw [List.getElem?_append_left hi] at hr
  exact hd.2 i r x (by rw [List.getElem?_append_left hi]; exact hr) hx
 ·rw [List.getElem?_append_right (Nat.le_refl _), Nat.sub_self] at hr
  cases hr
  exact h x (hd.2 c1.length s x (by simp) hx)
 ·obtain ⟨j, hj⟩ : ∃ j, i - c1.length = j + 1 := ⟨i - c1.length - 1, by omega⟩
  rw [List.getElem?_append_right (by omega), hj, List.getElem?_cons_succ] at hr
  exact hd.2 i r x (by rw [List.getElem?_append_right (by omega), hj, List.getElem?_cons_succ]; exact hr) hx
section
variable {P : Program} {G : Imm} {E : Env} {r : Option Nat} {S : St}
theorem Sat.cellAt {c1 c2 : List SV} {n : Nat} {g : List (Nat × SV)} {pre post : HL} {b : Option Nat} {e k : Nat} {s s' : SV} {d : List Nat} {i : Nat × Bool} {I : Imm} {F : Nat → Prop} {a : Act} {W : World} (hs : Sat G E r ⟨n, g, pre ++ ⟨b, e, c1 ++ s :: c2, k⟩ :: post, d, i⟩ I F a W) (h : ∀ v, s.den I v → s'.den I v) :
    Sat G E r ⟨n, g, pre ++ ⟨b, e, c1 ++ s' :: c2, k⟩ :: post, d, i⟩ I F a W ∧ own ⟨n, g, pre ++ ⟨b, e, c1 ++ s' :: c2, k⟩ :: post, d, i⟩ F = own ⟨n, g, pre ++ ⟨b, e, c1 ++ s :: c2, k⟩ :: post, d, i⟩ F := by
  have hb : bs (pre ++ ⟨b, e, c1 ++ s' :: c2, k⟩ :: post) = bs (pre ++ ⟨b, e, c1 ++ s :: c2, k⟩ :: post) := by simp [bs, List.filterMap_append, List.filterMap_cons]
  have ho : own ⟨n, g, pre ++ ⟨b, e, c1 ++ s' :: c2, k⟩ :: post, d, i⟩ F = own ⟨n, g, pre ++ ⟨b, e, c1 ++ s :: c2, k⟩ :: post, d, i⟩ F := by funext c; simp only [own]; rw [hb]
  refine ⟨{ hs with
    h := ⟨by rw [hb]; exact hs.h.nodup, fun p hp => ?_⟩
    f := fun c hc => ⟨(hs.f c hc).1, (hs.f c hc).2.1, fun x => (hs.f c hc).2.2.1 (hb ▸ x), (hs.f c hc).2.2.2⟩
    l := fun j hj => ⟨(hs.l j hj).1, fun x => (hs.l j hj).2 (ho ▸ x)⟩ }, ho⟩
  rcases List.mem_append.1 hp with h1 | h1
  · exact hs.h.mem p (List.mem_append.2 (.inl h1))
  · rcases List.mem_cons.1 h1 with h1 | h1
    · subst h1
      have h2 := hs.h.mem ⟨b, e, c1 ++ s :: c2, k⟩ (by simp)
      cases b with
      | none => exact absurd (h2.none rfl) (by simp)
      | some b =>
        obtain ⟨g1, c, g2, g3, g4, g5⟩ := h2.some rfl
        have hl : (c1 ++ s' :: c2).length = (c1 ++ s :: c2).length := by simp
        exact .of_some rfl ⟨g1, c, g2, show c.size = (c1 ++ s' :: c2).length + k by rw [hl]; exact g3, show allOne (c.toList.take (c1 ++ s' :: c2).length) by rw [hl]; exact g4, show dens I _ (c.toList.take (c1 ++ s' :: c2).length) by rw [hl]; exact dens_mid h g5⟩
    · exact hs.h.mem p (by simp [h1])
theorem ghost_slo (c1 c2 : List SV) (pre mid post : HL) {n : Nat} {g : List (Nat × SV)} {d : List Nat} {i : Nat × Bool} {b0 : Option Nat} {e0 k0 : Nat} {q : Option (Nat × Nat)} {e st m : Nat} {cs : List SV} {α : Type} {f : α → List SV} {l : List α} (hq : rowOk q m) (hl : l.length = m) (hcs : cs = l.flatMap f) (hf : ∀ x ∈ l, (f x).length = st) (hb : m ≤ big) :
    Ghost G E r ⟨n, g, pre ++ rowE q e st m cs :: (mid ++ ⟨b0, e0, c1 ++ eqS (rowV q m) :: c2, k0⟩ :: post), d, i⟩ ⟨n, g, pre ++ (mid ++ ⟨b0, e0, c1 ++ slS st f l :: c2, k0⟩ :: post), d, i⟩ := by
  intro I F a W hs
  rw [← List.append_assoc]
  subst hcs
  cases q with
  | none =>
    have hq : m = 0 := hq
    subst hq
    have hl0 : l = [] := List.eq_nil_of_length_eq_zero hl
    subst hl0
    obtain ⟨I', s1, f1⟩ := ghost_drop (G := G) (E := E) (r := r) (n := n) (g := g) (d := d) (i := i) (h := pre ++ rowE none e st 0 ([].flatMap f) :: (mid ++ ⟨b0, e0, c1 ++ eqS (rowV none 0) :: c2, k0⟩ :: post)) (h' := (pre ++ mid) ++ ⟨b0, e0, c1 ++ eqS (rowV none 0) :: c2, k0⟩ :: post) (by rw [List.append_assoc]; exact List.Sublist.append_left (List.sublist_cons_self _ _) _) I F a W hs
    obtain ⟨s2, o2⟩ := s1.cellAt (s' := slS st f []) fun v hv => ⟨none, 0, hv, Nat.le_refl _, Nat.zero_le _, .inl rfl⟩
    exact ⟨I', s2, by rw [o2]; exact f1⟩
  | some q =>
    obtain ⟨b, cap⟩ := q
    obtain ⟨I', s1, s2, hle, hc⟩ := freeze_at (j := pre.length) (b := b) (e := e) (k := cap * st - m * st) (cs := l.flatMap f) (by simp [rowE]) hs
    have ee : (pre ++ rowE (some (b, cap)) e st m (l.flatMap f) :: (mid ++ ⟨b0, e0, c1 ++ eqS (rowV (some (b, cap)) m) :: c2, k0⟩ :: post)).take pre.length ++ (pre ++ rowE (some (b, cap)) e st m (l.flatMap f) :: (mid ++ ⟨b0, e0, c1 ++ eqS (rowV (some (b, cap)) m) :: c2, k0⟩ :: post)).drop (pre.length + 1) = (pre ++ mid) ++ ⟨b0, e0, c1 ++ eqS (rowV (some (b, cap)) m) :: c2, k0⟩ :: post := by simp [List.drop_append]
    simp only [ee] at s1 s2
    obtain ⟨s3, o3⟩ := s1.cellAt (s' := slS st f l) fun v hv => by
      obtain ⟨c, hc1, hc2⟩ := hc
      refine ⟨some ⟨b, 0, none⟩, cap, by rw [hl]; exact hv, by rw [hl]; exact hq.1, by rw [hl]; exact hb, .inr ⟨b, 0, rfl, fun i x hx => ⟨c, hc1, fun k s hk => ?_⟩⟩⟩
      have : (l.flatMap f)[i * st + k]? = some s := by
        rw [List.flatMap_def]
        exact flatten_at (by intro d hd; obtain ⟨y, hy, rfl⟩ := List.mem_map.1 hd; exact hf y hy) (by rw [List.getElem?_map, hx]; rfl) hk
      have := hc2 _ s this
      simpa [Nat.add_assoc] using this
    exact ⟨I', s3, by rw [o3]; exact s2⟩
end
end Go.Sv
