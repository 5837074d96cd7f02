/- A field of a struct that is held as a value; a drawn region in which two new blocks are made and filled. -/
import Derived.Test.YtdnfcmfolllcnaaGreatDoorSv1
namespace Go.Sv
open Go Go.RowKit
section
variable {P : Program} {G : Imm} {E : Env} {r : Option Nat} {S : St} {H : HL} {o : Oper} {g : List (Nat × SV)}
theorem dens.drop {I : Imm} {cs : List SV} {xs : List Value} (h : dens I cs xs) (n : Nat) : dens I (cs.drop n) (xs.drop n) :=
  ⟨by simp [h.1], fun i s x hi hx => by rw [List.getElem?_drop] at hi hx; exact h.2 _ s x hi hx⟩
theorem dens.take {I : Imm} {cs : List SV} {xs : List Value} (h : dens I cs xs) (n : Nat) : dens I (cs.take n) (xs.take n) :=
  ⟨by simp [h.1], fun i s x hi hx => by
    rw [List.getElem?_take] at hi hx
    split at hi
    · rename_i hlt; rw [if_pos hlt] at hx; exact h.2 _ s x hi hx
    · cases hi⟩
theorem ok_field_agg {st ft n k : Nat} {fs : Array Field} {f : Field} {x : Operand} {cs ds : List SV} [IsAgg P ft n] (hu : P.underlying st = some (.struct fs)) (hf : fs[k]? = some f) (hft : f.type = ft) (hop : o.op = .field st x k) (hx : opE g x = some (aggS cs)) (hd : (cs.drop f.offset).take n = ds) (hn : ds.length = n) : OpOK P G H o g (aggS ds) :=
  ok_pure (by simp [hop]) fun I W a _ _ hr => by
    obtain ⟨xs, hv, hxs, h1⟩ := hr.get (by simp [hop, Op.operands]) hx
    obtain ⟨d, hd', hm⟩ := IsAgg.h (P := P) (t := ft) (n := n)
    obtain ⟨i, hi, hin⟩ := IsAgg.i (P := P) (t := ft) (n := n)
    have h2 : (isAgg ft).run P W = .ok true W := by
      unfold isAgg; simp only [Sem.run_bind, run_underlying hd', Result.andThen_ok]
      cases d <;> simp_all
    have h3 : (sizeOf ft).run P W = .ok n W := by simp [sizeOf, typeInfo, hi, hin]
    refine ⟨.agg ((xs.drop f.offset).take n).toArray, ?_, _, rfl, by rw [← hd]; exact (hxs.drop _).take _, fun y hy => h1 y (List.mem_of_mem_drop (List.mem_of_mem_take hy))⟩
    have h4 : xs.toArray.extract f.offset (f.offset + n) = ((xs.drop f.offset).take n).toArray := by
      simp [List.take_drop, List.extract_eq_take_drop]
    simp only [execOp, hop, hv, Instr.field, Sem.run_bind, run_underlying hu, Result.andThen_ok, hf, asAgg, Sem.run_pure, part, hft, h2, h3, h4, if_true]

def phase (L : Nat → Prop) (a c : Nat) (v : SV) (t : TypeId) (zs : List Value) (ds : List SV) (p : HL) : Prop :=
  (¬ L a ∧ ¬ L c ∧ p = []) ∨ (L a ∧ ¬ L c ∧ ∃ b, v = eqS (.pointer (some ⟨b, 0, none⟩)) ∧ p = [⟨some b, t, zs.map eqS, 0⟩]) ∨ (L a ∧ L c ∧ ∃ b, v = eqS (.pointer (some ⟨b, 0, none⟩)) ∧ p = [⟨some b, t, setAll (zs.map eqS) 0 ds, 0⟩])
theorem phase.other {L : Nat → Prop} {a c k : Nat} {v v' : SV} {t : TypeId} {zs : List Value} {ds : List SV} {p : HL} (h : phase L a c v t zs ds p) (ha : k ≠ a) (hc : k ≠ c) (hv : v' = v) : phase (fun j => j = k ∨ L j) a c v' t zs ds p := by
  subst hv
  rcases h with ⟨h1, h2, h3⟩ | ⟨h1, h2, h3⟩ | ⟨h1, h2, h3⟩
  · exact .inl ⟨fun h => h.elim (fun e => ha e.symm) h1, fun h => h.elim (fun e => hc e.symm) h2, h3⟩
  · exact .inr (.inl ⟨.inr h1, fun h => h.elim (fun e => hc e.symm) h2, h3⟩)
  · exact .inr (.inr ⟨.inr h1, .inr h2, h3⟩)
theorem phase.before {L : Nat → Prop} {a c : Nat} {v : SV} {t : TypeId} {zs : List Value} {ds : List SV} {p : HL} (h : phase L a c v t zs ds p) (ha : ¬ L a) : p = [] ∧ ¬ L c := by
  rcases h with ⟨_, h1, h2⟩ | ⟨h1, _⟩ | ⟨h1, _⟩
  · exact ⟨h2, h1⟩
  · exact absurd h1 ha
  · exact absurd h1 ha
theorem phase.made {L : Nat → Prop} {a c : Nat} {v : SV} {t : TypeId} {zs : List Value} {ds : List SV} {p : HL} (h : phase L a c v t zs ds p) (ha : L a) (hc : ¬ L c) : ∃ b, v = eqS (.pointer (some ⟨b, 0, none⟩)) ∧ p = [⟨some b, t, zs.map eqS, 0⟩] := by
  rcases h with ⟨h1, _⟩ | ⟨_, _, h2⟩ | ⟨_, h1, _⟩
  · exact absurd ha h1
  · exact h2
  · exact absurd h1 hc
theorem phase.full {L : Nat → Prop} {a c : Nat} {v : SV} {t : TypeId} {zs : List Value} {ds : List SV} {p : HL} (h : phase L a c v t zs ds p) (ha : L a) (hc : L c) : ∃ b, v = eqS (.pointer (some ⟨b, 0, none⟩)) ∧ p = [⟨some b, t, setAll (zs.map eqS) 0 ds, 0⟩] := by
  rcases h with ⟨h1, _⟩ | ⟨_, h1, _⟩ | ⟨_, _, h2⟩
  · exact absurd ha h1
  · exact absurd hc h1
  · exact h2

def drawOk2 (l : List Oper) (N : Nat) : Bool := edgesOk l && (nodupDst l && (readsOk l && tailOk l (N + 4)))
/-- one new block, with what is stored into it -/
structure NewB (P : Program) (n : Nat) (g : List (Nat × SV)) (oA oC : Oper) (da db : Nat) (t : TypeId) (zs : List Value) (ds : List SV) : Prop where
  e : ∃ m y s, IsZero P t zs ∧ HasSize P t m ∧ FlatC s ds ∧ oA.op = .alloc t ∧ oA.dst = some da ∧ oA.guard = none ∧ Nat.blt da n = true ∧ oC.op = .store t (.tmp da) y ∧ oC.dst = none ∧ oC.guard = none ∧ y ≠ .tmp da ∧ y ≠ .tmp db ∧ opE g y = some s ∧ ds.length = m ∧ zs.length = ds.length
structure EffA2 (P : Program) (G : Imm) (E : Env) (r : Option Nat) (gd : Nat → Option Nat) (n : Nat) (h : HL) (d : List Nat) (ix : Nat × Bool) (oA oB oC oD : Oper) (rest : List Oper) (g : List (Nat × SV)) (K : St → Prop) : Prop where
  e : ∃ da db t t' zs zs' ds ds', da ≠ db ∧ NewB P n g oA oC da db t zs ds ∧ NewB P n g oB oD db da t' zs' ds' ∧
    ∀ b b', Run P G E r gd false rest ⟨n, (db, eqS (.pointer (some ⟨b', 0, none⟩))) :: (da, eqS (.pointer (some ⟨b, 0, none⟩))) :: g, ⟨some b', t', setAll (zs'.map eqS) 0 ds', 0⟩ :: ⟨some b, t, setAll (zs.map eqS) 0 ds, 0⟩ :: h, d, ix⟩ K
theorem NewB.mk1 {n : Nat} {oA oC : Oper} {da db : Nat} {t m : TypeId} {zs : List Value} {y : Operand} {s : SV} {ds : List SV} [IsZero P t zs] [HasSize P t m] [FlatC s ds] (h1 : oA.op = .alloc t) (h2 : oA.dst = some da) (h3 : oA.guard = none) (h4 : Nat.blt da n = true) (h5 : oC.op = .store t (.tmp da) y) (h6 : oC.dst = none) (h7 : oC.guard = none) (h8 : y ≠ .tmp da) (h9 : y ≠ .tmp db) (h10 : opE g y = some s) (h11 : ds.length = m) (h12 : zs.length = ds.length) : NewB P n g oA oC da db t zs ds :=
  ⟨m, y, s, inferInstance, inferInstance, inferInstance, h1, h2, h3, h4, h5, h6, h7, h8, h9, h10, h11, h12⟩
theorem TA_draw2 (N : Nat) {l : List Oper} {oA oB oC oD : Oper} {Q : Exit → St → Prop} {n : Nat} {g : List (Nat × SV)} {h : HL} {d : List Nat} {i : Nat × Bool} (hok : drawOk2 l N = true) (hoA : l[N]? = some oA) (hoB : l[N + 1]? = some oB) (hoC : l[N + 2]? = some oC) (hoD : l[N + 3]? = some oD)
    (hr : RunE P G (gdOf l) n h h (fun _ => false) 0 (l.take N) g (fun g' => EffA2 P G E r (gdOf l) n h d i oA oB oC oD (l.drop (N + 4)) g' (fun S' => Q .normal S'))) : TA P G E r l ⟨n, g, h, d, i⟩ Q := by
  intro nn I F a W hs
  simp only [drawOk2, Bool.and_eq_true] at hok
  obtain ⟨hed, hnd, hrd, htail⟩ := hok
  obtain ⟨sv, ⟨da, db, t, t', zs, zs', ds, ds', hdab, ⟨m, y, s, hz, hsz, hfl, hAop, hAd, hAg, hdn, hCop, hCd, hCg, hya, hyb, hy, hm, hzl⟩, ⟨m', y', s', hz', hsz', hfl', hBop, hBd, hBg, hdn', hDop, hDd, hDg, hya', hyb', hy', hm', hzl'⟩, hK⟩, hst⟩ := runE_parts hr
  have hND := lt_of_get hoD
  have hd := ext_drawn hs.m (W.drawn + 1)
  have hs' := hs.keep hd.2 hd.1
  have hlen : (l.take N).length = N := by simp; omega
  have hlen4 : (l.take (N + 4)).length = N + 4 := by simp; omega
  rw [hlen] at hy hy'
  simp only [hlen] at hK
  have e1 : ∀ (sv' : Nat → SV) k, (∀ j, j < N → sv' j = sv j) → k ≤ N → gAt (l.take (N + 4)) sv' g k = gAt (l.take N) sv g k := fun sv' k hsv hk => by
    rw [gAt_take hk, gAt_take (by omega)]; exact gAt_congr fun j hj => hsv j (by omega)
  have e2 : ∀ (sv' : Nat → SV), (∀ j, j < N → sv' j = sv j) → gAt (l.take (N + 4)) sv' g (N + 1) = (da, sv' N) :: gAt (l.take N) sv g N := fun sv' hsv => by
    rw [gAt_last (o := oA) (by rw [take_get (by omega)]; exact hoA), hAd, e1 sv' N hsv (Nat.le_refl _)]; rfl
  have e3 : ∀ (sv' : Nat → SV), (∀ j, j < N → sv' j = sv j) → gAt (l.take (N + 4)) sv' g (N + 2) = (db, sv' (N + 1)) :: (da, sv' N) :: gAt (l.take N) sv g N := fun sv' hsv => by
    rw [gAt_last (o := oB) (by rw [take_get (by omega)]; exact hoB), hBd, e2 sv' hsv]; rfl
  have e4 : ∀ (sv' : Nat → SV), (∀ j, j < N → sv' j = sv j) → gAt (l.take (N + 4)) sv' g (N + 3) = (db, sv' (N + 1)) :: (da, sv' N) :: gAt (l.take N) sv g N := fun sv' hsv => by
    rw [gAt_none (o := oC) (by rw [take_get (by omega)]; exact hoC) hCd, e3 sv' hsv]
  have e5 : ∀ (sv' : Nat → SV), (∀ j, j < N → sv' j = sv j) → gAt (l.take (N + 4)) sv' g (l.take (N + 4)).length = (db, sv' (N + 1)) :: (da, sv' N) :: gAt (l.take N) sv g N := fun sv' hsv => by
    rw [hlen4, gAt_none (o := oD) (by rw [take_get (by omega)]; exact hoD) hDd, e4 sv' hsv]
  have hCA : Reach l (N + 2) N := by
    rcases readsOk_spec hrd hoC (t := da) (looksAt_tmp (by rw [hCop]; simp [Op.operands])) hoA hAd with h1 | ⟨_, h1⟩ | ⟨h1, _⟩
    · omega
    · exact h1
    · omega
  have hDB : Reach l (N + 3) (N + 1) := by
    rcases readsOk_spec hrd hoD (t := db) (looksAt_tmp (by rw [hDop]; simp [Op.operands])) hoB hBd with h1 | ⟨_, h1⟩ | ⟨h1, _⟩
    · omega
    · exact h1
    · omega
  refine draw_soundG (P := P) (G := G) (E := E) (r := r) (S := ⟨n, g, h, d, i⟩) (N := N + 4) (K := fun S' => Q .normal S')
    (R := fun L sv' hc => (∀ j, j < N → sv' j = sv j) ∧ ∃ pB pA, hc = pB ++ pA ++ h ∧ phase L N (N + 2) (sv' N) t zs ds pA ∧ phase L (N + 1) (N + 3) (sv' (N + 1)) t' zs' ds' pB)
    hed hnd hrd htail (by omega) (fun k o hk hkN => ?_) (fun L sv' hc hR hall => ?_) _ _ h nn (post G E r Q (own ⟨n, g, h, d, i⟩ F) I W) I F a _ sv ?_ ⟨fun _ _ => rfl, [], [], rfl, .inl ⟨?_, ?_, rfl⟩, .inl ⟨?_, ?_, rfl⟩⟩ ?_ ?_
  · by_cases hkA : k = N
    · subst hkA
      rw [hoA] at hk; cases hk
      refine ⟨fun u hu => by rw [hAd] at hu; cases hu; exact Nat.le_of_ble_eq_true hdn, fun L sv' hc hR hn hpre hcl => .inr ⟨by simp [guardAt, hAg], ?_⟩⟩
      obtain ⟨hsv, pB, pA, rfl, phA, phB⟩ := hR
      obtain ⟨rfl, hnc⟩ := phA.before hn
      refine ⟨pB, [], h, _, by simp, l_alloc hAop, fun s1 H' ⟨b, h1, h2⟩ => ⟨fun j j1 => by rw [upd_ne (by omega)]; exact hsv j j1, pB, H', rfl, .inr (.inl ⟨.inl rfl, fun h3 => ?_, b, by rw [upd_eq, h1], by rw [h2]⟩), phB.other (by omega) (by omega) (upd_ne (by omega))⟩⟩
      rcases h3 with h3 | h3
      · omega
      · exact hnc h3
    · by_cases hkB : k = N + 1
      · subst hkB
        rw [hoB] at hk; cases hk
        refine ⟨fun u hu => by rw [hBd] at hu; cases hu; exact Nat.le_of_ble_eq_true hdn', fun L sv' hc hR hn hpre hcl => .inr ⟨by simp [guardAt, hBg], ?_⟩⟩
        obtain ⟨hsv, pB, pA, rfl, phA, phB⟩ := hR
        obtain ⟨rfl, hnc⟩ := phB.before hn
        refine ⟨[], [], pA ++ h, _, by simp, l_alloc hBop, fun s1 H' ⟨b, h1, h2⟩ => ⟨fun j j1 => by rw [upd_ne (by omega)]; exact hsv j j1, H', pA, by simp, phA.other (by omega) (by omega) (upd_ne (by omega)), .inr (.inl ⟨.inl rfl, fun h3 => ?_, b, by rw [upd_eq, h1], by rw [h2]⟩)⟩⟩
        rcases h3 with h3 | h3
        · omega
        · exact hnc h3
      · by_cases hkC : k = N + 2
        · subst hkC
          rw [hoC] at hk; cases hk
          refine ⟨fun u hu => (by rw [hCd] at hu; cases hu), fun L sv' hc hR hn hpre hcl => .inr ⟨by simp [guardAt, hCg], ?_⟩⟩
          obtain ⟨hsv, pB, pA, rfl, phA, phB⟩ := hR
          have hLN : L N := hCA.listed (L := L) hcl fun o' ho' => by rw [hoC] at ho'; cases ho'; exact hpre
          obtain ⟨b, hb1, rfl⟩ := phA.made hLN hn
          rw [e3 sv' hsv, hb1]
          have hyy : opE ((db, sv' (N + 1)) :: (da, eqS (.pointer (some ⟨b, 0, none⟩))) :: gAt (l.take N) sv g N) y = some s := opE_cons hyb (opE_cons hya hy)
          have hxx : opE ((db, sv' (N + 1)) :: (da, eqS (.pointer (some ⟨b, 0, none⟩))) :: gAt (l.take N) sv g N) (.tmp da) = some (eqS (.pointer (some ⟨b, 0, none⟩))) := opE_cons (fun h => hdab (by cases h; rfl)) (by simp [opE, look])
          have hL := l_store (P := P) (G := G) (e := t) (k := 0) (cs := zs.map eqS) (hsz := hsz) (hf := hfl) hCop hxx hyy hm (by rw [Nat.zero_add, List.length_map, hzl]; exact Nat.le_refl _)
          refine ⟨pB, [⟨some b, t, zs.map eqS, 0⟩], h, _, rfl, hL, fun s1 H' ⟨h1, h2⟩ => ⟨fun j j1 => by rw [upd_ne (by omega)]; exact hsv j j1, pB, H', rfl, .inr (.inr ⟨.inr hLN, .inl rfl, b, by rw [upd_ne (by omega)]; exact hb1, by rw [h2]⟩), phB.other (by omega) (by omega) (upd_ne (by omega))⟩⟩
        · by_cases hkD : k = N + 3
          · subst hkD
            rw [hoD] at hk; cases hk
            refine ⟨fun u hu => (by rw [hDd] at hu; cases hu), fun L sv' hc hR hn hpre hcl => .inr ⟨by simp [guardAt, hDg], ?_⟩⟩
            obtain ⟨hsv, pB, pA, rfl, phA, phB⟩ := hR
            have hLN : L (N + 1) := hDB.listed (L := L) hcl fun o' ho' => by rw [hoD] at ho'; cases ho'; exact hpre
            obtain ⟨b, hb1, rfl⟩ := phB.made hLN hn
            rw [e4 sv' hsv, hb1]
            have hyy : opE ((db, eqS (.pointer (some ⟨b, 0, none⟩))) :: (da, sv' N) :: gAt (l.take N) sv g N) y' = some s' := opE_cons hya' (opE_cons hyb' hy')
            have hxx : opE ((db, eqS (.pointer (some ⟨b, 0, none⟩))) :: (da, sv' N) :: gAt (l.take N) sv g N) (.tmp db) = some (eqS (.pointer (some ⟨b, 0, none⟩))) := by simp [opE, look]
            have hL := l_store (P := P) (G := G) (e := t') (k := 0) (cs := zs'.map eqS) (hsz := hsz') (hf := hfl') hDop hxx hyy hm' (by rw [Nat.zero_add, List.length_map, hzl']; exact Nat.le_refl _)
            refine ⟨[], [⟨some b, t', zs'.map eqS, 0⟩], pA ++ h, _, by simp, hL, fun s1 H' ⟨h1, h2⟩ => ⟨fun j j1 => by rw [upd_ne (by omega)]; exact hsv j j1, H', pA, by simp, phA.other (by omega) (by omega) (upd_ne (by omega)), .inr (.inr ⟨.inr hLN, .inl rfl, b, by rw [upd_ne (by omega)]; exact hb1, by rw [h2]⟩)⟩⟩
          · have hkN2 : k < N := by omega
            obtain ⟨g1, g2⟩ := hst k o (by rw [take_get hkN2]; exact hk)
            refine ⟨g1, fun L sv' hc hR hn hpre hcl => .inl ⟨?_, hR.1, ?_⟩⟩
            · rw [e1 sv' k hR.1 (by omega), hR.1 k hkN2]
              rcases g2 with ⟨⟨h1, h2⟩ | h1, h3⟩ | h1
              · cases h2
              · refine .inl ⟨?_, h3⟩
                obtain ⟨_, pB, pA, rfl, _, _⟩ := hR
                exact HoldsH.sub_ok (List.sublist_append_right _ _) h1
              · exact .inr h1
            · obtain ⟨_, pB, pA, hh, phA, phB⟩ := hR
              exact ⟨pB, pA, hh, phA.other (by omega) (by omega) rfl, phB.other (by omega) (by omega) rfl⟩
  · obtain ⟨hsv, pB, pA, rfl, phA, phB⟩ := hR
    obtain ⟨b, hb1, rfl⟩ := phA.full (hall N (by omega)) (hall (N + 2) (by omega))
    obtain ⟨b', hb2, rfl⟩ := phB.full (hall (N + 1) (by omega)) (hall (N + 3) (by omega))
    have := hK b b'
    simp only [e5 sv' hsv, hb1, hb2]; exact this
  · simp [countOff]
  · unfold Ld; simp only [Array.getD_eq_getD_getElem?, Array.getElem?_replicate]; split <;> simp
  · unfold Ld; simp only [Array.getD_eq_getD_getElem?, Array.getElem?_replicate]; split <;> simp
  · unfold Ld; simp only [Array.getD_eq_getD_getElem?, Array.getElem?_replicate]; split <;> simp
  · unfold Ld; simp only [Array.getD_eq_getD_getElem?, Array.getElem?_replicate]; split <;> simp
  · have hL : ∀ j, ¬ Ld (Array.replicate l.length false) j := fun j => by
      unfold Ld; simp only [Array.getD_eq_getD_getElem?, Array.getElem?_replicate]; split <;> simp
    exact ⟨by simp, ⟨hs'.n, fun t s h => (by cases h), hs'.m, hs'.h, hs'.d, hs'.dn, hs'.dk, hs'.e, hs'.f, hs'.l⟩, fun t s hl _ => hs'.g t s hl, fun j o d _ hj => absurd hj (hL j), fun j hj => absurd hj (hL j), fun j o _ hj => absurd hj (hL j)⟩
  · intro S' I' F' a' W' h1 h2 h3
    exact ⟨S', I', F', h1, h2, (hd.2.own _).trans h3⟩
theorem T_draw2S [Mixed P] (N : Nat) {id : Nat} {l : List Oper} {oA oB oC oD : Oper} {y : Code} {Q : Exit → St → Prop} {n : Nat} {g : List (Nat × SV)} {h : HL} {d : List Nat} {i : Nat × Bool} (hok : drawOk2 l N = true) (hoA : l[N]? = some oA) (hoB : l[N + 1]? = some oB) (hoC : l[N + 2]? = some oC) (hoD : l[N + 3]? = some oD)
    (hr : RunE P G (gdOf l) n h h (fun _ => false) 0 (l.take N) g (fun g' => EffA2 P G E r (gdOf l) n h d i oA oB oC oD (l.drop (N + 4)) g' (fun S' => T P G E r y S' Q))) : T P G E r (.seq (.region id l.toArray true) y) ⟨n, g, h, d, i⟩ Q :=
  T_seq (TA_draw2 N hok hoA hoB hoC hoD hr).T
end
end Go.Sv
