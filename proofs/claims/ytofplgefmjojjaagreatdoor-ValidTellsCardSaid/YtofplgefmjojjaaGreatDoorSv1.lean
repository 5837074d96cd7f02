/- A drawn region with several effects: the general rule; the rule for a new block and what is stored into it. -/
import Derived.Test.YtofplgefmjojjaaGreatDoorSvw
namespace Go.Sv
open Go Go.RowKit
section
variable {P : Program} {G : Imm} {E : Env} {r : Option Nat} {S : St}
theorem draw_soundG {l : List Oper} {N : Nat} (hed : edgesOk l = true) (hnd : nodupDst l = true) (hrd : readsOk l = true) (htail : tailOk l N = true) (hN : N ≤ l.length) {R : (Nat → Prop) → (Nat → SV) → HL → Prop} {K : St → Prop}
    (hst : ∀ i o, l[i]? = some o → i < N → (∀ t, o.dst = some t → t < S.n) ∧ ∀ (L : Nat → Prop) sv hc, R L sv hc → ¬ L i → (∀ e ∈ o.after.toList, Region.binds .any e = true → L e.on) → (∀ j o, l[j]? = some o → L j → ∀ e ∈ o.after.toList, Region.binds .any e = true → L e.on) →
      ((((OpOK P G hc o (gAt (l.take N) sv S.g i) (sv i) ∧ guardAt (gdOf l) (gAt (l.take N) sv S.g i) o true) ∨ (guardAt (gdOf l) (gAt (l.take N) sv S.g i) o false ∧ sv i = eqS undef)) ∧ R (fun j => j = i ∨ L j) sv hc) ∨
       (guardAt (gdOf l) (gAt (l.take N) sv S.g i) o true ∧ ∃ pre Hp suf Kl, hc = pre ++ Hp ++ suf ∧ OpL P G o (gAt (l.take N) sv S.g i) Hp Kl ∧ ∀ s H', Kl s H' → R (fun j => j = i ∨ L j) (upd sv i s) (pre ++ H' ++ suf))))
    (hK : ∀ (L : Nat → Prop) sv hc, R L sv hc → (∀ j, j < N → L j) → Run P G E r (gdOf l) false (l.drop N) { S with h := hc, g := gAt (l.take N) sv S.g (l.take N).length } K) :
    ∀ (fuel : Nat) (L : Array Bool) (hc : HL) (n : Nat) (Q : Exit → Act → World → Prop) (I : Imm) (F : Nat → Prop) (a : Act) (W : World) (sv : Nat → SV), countOff L ≤ fuel → R (Ld L) sv hc → Mid G E r l N sv { S with h := hc } L I F a W →
      (∀ S' I' F' a' W', Sat G E r S' I' F' a' W' → K S' → Fram (own { S with h := hc } F) I W (own S' F') I' W' → Q .normal a' W') → wpAnyIn (Fr r) n P .any l.toArray Q fuel L a W := by
  have hgd : ∀ j, gdOf l j = (l.toArray[j]?).bind (·.dst) := fun j => by simp [gdOf]
  intro fuel
  induction fuel with
  | zero =>
    intro L hc n Q I F a W sv hcf hR hm hk
    have hall : ∀ j, j < l.length → Ld L j := fun j hj => countOff_zero (by omega) (by rw [hm.size]; exact hj)
    exact tail_sound hgd htail hed (hK _ _ _ hR fun j hj => hall j (by omega)) N (Nat.le_refl _) rfl L hm.size (fun j hj => ⟨fun h => hm.low j h, fun _ => hall j hj⟩) 0 n Q I F a W (by
      rcases Nat.lt_or_ge N l.length with h | h
      · have := hm.low N (hall N h); omega
      · omega) (hm.done hN fun j hj => hall j (by omega)) hk
  | succ fuel ih =>
    intro L hc n Q I F a W sv hcf hR hm hk
    by_cases hall : ∀ j, j < N → Ld L j
    · have hcount : l.length ≤ N + countOff L := by
        have h1 : L.toList.count false = (L.toList.take N).count false + (L.toList.drop N).count false := by rw [← List.count_append, List.take_append_drop]
        have h2 : (L.toList.drop N).count false = (L.toList.drop N).length := by
          refine List.count_eq_length.2 fun b hb => ?_
          obtain ⟨k, hk1, hk2⟩ := List.mem_iff_getElem.1 hb
          have hk3 : N + k < L.size := by simp at hk1; omega
          have : ¬ Ld L (N + k) := fun h => by have := hm.low _ h; omega
          unfold Ld at this
          simp only [Array.getD_eq_getD_getElem?, Array.getElem?_eq_getElem hk3, Option.getD_some] at this
          rw [← hk2]; simp only [List.getElem_drop, Array.getElem_toList]; simpa using this
        have := hm.size
        unfold countOff; rw [h1, h2]; simp; omega
      exact tail_sound hgd htail hed (hK _ _ _ hR hall) N (Nat.le_refl _) rfl L hm.size (fun j hj => ⟨fun h => hm.low j h, fun h => hall j h⟩) (fuel + 1) n Q I F a W (by omega) (hm.done hN hall) hk
    · refine ⟨fun hnil => ?_, fun i hi => ?_⟩
      · exfalso
        obtain ⟨j, hj⟩ := Classical.not_forall.1 hall
        obtain ⟨hj1, hj2⟩ := Classical.not_imp.1 hj
        obtain ⟨m, ⟨hm1, hm2⟩, hm3⟩ := exists_least (p := fun j => j < N ∧ ¬ Ld L j) ⟨j, hj1, hj2⟩
        have : m ∈ Region.ready .any l.toArray L := (ready_spec hm.size).2 ⟨l[m]'(by omega), List.getElem?_eq_getElem (by omega), hm2, fun e he hb => by
          have h1 := edgesOk_spec hed (show l[m]? = some (l[m]'(by omega)) from List.getElem?_eq_getElem (by omega)) he hb
          by_cases hx : Ld L e.on
          · exact hx
          · have := hm3 e.on ⟨by omega, hx⟩; omega⟩
        rw [hnil] at this; cases this
      · obtain ⟨o, ho, hn, hpre0⟩ := (ready_spec hm.size).1 hi
        have hiN : i < N := by
          rcases Nat.lt_or_ge i N with h | h
          · exact h
          · exfalso
            refine hall fun j hj => ?_
            exact (tailOk_spec htail (lt_of_get ho) h (show j < i by omega)).listed (L := Ld L) hm.closed fun o' ho' => by rw [ho] at ho'; cases ho'; exact hpre0
        have hilt : i < L.size := by rw [hm.size]; exact lt_of_get ho
        have hcnt := countOff_set hilt hn
        have hset : (fun j => j = i ∨ Ld L j) = Ld (L.setIfInBounds i true) := by funext j; exact propext (Ld_set hilt).symm
        simp only [wpOpIn, List.getElem?_toArray, ho]
        obtain ⟨hdst, hst1⟩ := hst i o ho hiN
        rcases hst1 (Ld L) sv hc hR hn hpre0 hm.closed with ⟨hstep, hR'⟩ | ⟨hgN, pre, Hp, suf, Kl, hsp, heff, hR'⟩
        · rw [hset] at hR'
          rcases hstep with ⟨hop, hg⟩ | ⟨hg, hsv⟩
          · rw [hm.wanted hrd ho hiN hn hpre0 hg, if_pos rfl]
            refine hop n r I W a _ Q hm.sat.m hm.sat.h (hm.reads hrd ho hiN hn hpre0) fun v I' W' he hh hv => ?_
            exact ih _ _ n Q I' F _ W' sv (by omega) hR' (hm.step hnd ho hiN hdst hpre0 he hh hv) fun S'' I'' F'' a'' W'' h1 h2 h3 => hk S'' I'' F'' a'' W'' h1 h2 ((he.own _).trans h3)
          · rw [hm.wanted hrd ho hiN hn hpre0 hg, if_neg (by simp)]
            refine ⟨fun f _ => fn_true r f, ?_⟩
            exact ih _ _ n Q I F _ W sv (by omega) hR' (hm.step hnd ho hiN hdst hpre0 (Fram.refl _ _ _) hm.sat.m (by rw [hsv]; exact rfl)) hk
        · rw [hm.wanted hrd ho hiN hn hpre0 hgN, if_pos rfl]
          have hsub : Hp.Sublist hc := by rw [hsp]; exact (List.sublist_append_right pre Hp).trans (List.sublist_append_left _ _)
          have hpre : pre.Sublist hc := by rw [hsp, List.append_assoc]; exact List.sublist_append_left _ _
          have hsuf : suf.Sublist hc := by rw [hsp]; exact List.sublist_append_right _ _
          have hq0 : HoldsH Hp I W := hm.sat.h.less hsub
          refine heff n r I W a _ Q hm.sat.m hq0 (hm.reads hrd ho hiN hn hpre0) fun v I' W' s H' hkl hf hm' hh' hv => ?_
          have hh2 : HoldsH (pre ++ H' ++ suf) I' W' := HoldsH.frame (Hp := Hp) (by rw [← hsp]; exact hm.sat.h) hh' hf
          have hbq : ∀ b, b ∈ bs Hp → b ∈ bs hc := fun b hb => (bs_sub hsub).subset hb
          obtain ⟨s1, f1⟩ := hm.sat.turn (h' := (pre ++ H' ++ suf)) (O := (· ∈ bs Hp)) (O' := (· ∈ bs H')) hbq hf (fun b hb => by
            rw [bs_append, bs_append] at hb
            rcases List.mem_append.1 hb with hb | hb
            · rcases List.mem_append.1 hb with hb | hb
              · exact .inl ((bs_sub hpre).subset hb)
              · rcases hf.own b hb with h | h
                · exact .inl (hbq b h)
                · exact .inr h
            · exact .inl ((bs_sub hsuf).subset hb)) hm' hh2
          have hle : I.le I' := hf.imm
          have hm1 : Mid G E r l N (upd sv i s) { S with h := (pre ++ H' ++ suf) } L I' F a W' :=
            ⟨hm.size, s1, fun t s hl hno => s.mono _ _ _ hle (hm.old t s hl hno), fun j p d hp hj hd => by
              have hji : j ≠ i := fun e => hn (e ▸ hj)
              rw [upd_ne hji]
              exact (sv j).mono _ _ _ hle (hm.new j p d hp hj hd), hm.low, hm.closed⟩
          have hm2 := hm1.step hnd ho hiN hdst hpre0 (Fram.refl _ _ _) hm' (v := v) (by rw [upd_eq]; exact hv)
          have hR2 := hR' s H' hkl
          rw [hset] at hR2
          exact ih _ _ n Q I' F _ W' (upd sv i s) (by omega) hR2 hm2 fun S'' I'' F'' a'' W'' h1 h2 h3 => hk S'' I'' F'' a'' W'' h1 h2 (f1.trans h3)
def drawOkA (l : List Oper) (N : Nat) : Bool := edgesOk l && (nodupDst l && (readsOk l && tailOk l (N + 2)))
structure EffAA (P : Program) (G : Imm) (E : Env) (r : Option Nat) (gd : Nat → Option Nat) (n : Nat) (h : HL) (d : List Nat) (ix : Nat × Bool) (oA oB : Oper) (rest : List Oper) (g : List (Nat × SV)) (K : St → Prop) : Prop where
  e : ∃ t m zs da x y s ds, IsZero P t zs ∧ HasSize P t m ∧ FlatC s ds ∧ oA.op = .alloc t ∧ oA.dst = some da ∧ oA.guard = none ∧ Nat.blt da n = true ∧ oB.op = .store t x y ∧ oB.dst = none ∧ oB.guard = none ∧ x = .tmp da ∧ y ≠ .tmp da ∧ opE g y = some s ∧ ds.length = m ∧ zs.length = ds.length ∧
    ∀ b, Run P G E r gd false rest ⟨n, (da, eqS (.pointer (some ⟨b, 0, none⟩))) :: g, ⟨some b, t, setAll (zs.map eqS) 0 ds, 0⟩ :: h, d, ix⟩ K
theorem opE_cons {g : List (Nat × SV)} {t : Nat} {s s' : SV} {y : Operand} (hy : y ≠ .tmp t) (h : opE g y = some s) : opE ((t, s') :: g) y = some s := by
  cases y with
  | tmp u =>
    simp only [opE, look] at h ⊢
    have : Nat.beq u t = false := by
      cases hb : Nat.beq u t with
      | false => rfl
      | true => exact absurd (congrArg Operand.tmp (Nat.eq_of_beq_eq_true hb)) hy
    rw [this]; exact h
  | const v => exact h
  | global b => exact h
  | func f => exact h
theorem TA_drawA (N : Nat) {l : List Oper} {oA oB : Oper} {Q : Exit → St → Prop} {n : Nat} {g : List (Nat × SV)} {h : HL} {d : List Nat} {i : Nat × Bool} (hok : drawOkA l N = true) (hoA : l[N]? = some oA) (hoB : l[N + 1]? = some oB)
  (hr : RunE P G (gdOf l) n h h (fun _ => false) 0 (l.take N) g (fun g' => EffAA P G E r (gdOf l) n h d i oA oB (l.drop (N + 2)) g' (fun S' => Q .normal S'))) : TA P G E r l ⟨n, g, h, d, i⟩ Q := by
 intro nn I F a W hs
 simp only [drawOkA, Bool.and_eq_true] at hok
 obtain ⟨hed, hnd, hrd, htail⟩ := hok
 obtain ⟨sv, ⟨t, m, zs, da, x, y, s, ds, hz, hsz, hfl, hAop, hAd, hAg, hdn, hBop, hBd, hBg, hx, hyx, hy, hm, hzl, hK⟩, hst⟩ := runE_parts hr
 have hNB := lt_of_get hoB
 have hd := ext_drawn hs.m (W.drawn + 1)
 have hs' := hs.keep hd.2 hd.1
 have hlen : (l.take N).length = N := by simp; omega
 have hlen2 : (l.take (N + 2)).length = N + 2 := by simp; omega
 rw [hlen] at hy
 simp only [hlen] at hK
 have e1 : ∀ (sv' : Nat → SV) k, (∀ j, j ≠ N → j ≠ N + 1 → sv' j = sv j) → k ≤ N → gAt (l.take (N + 2)) sv' g k = gAt (l.take N) sv g k := fun sv' k hsv hk => by
  rw [gAt_take hk, gAt_take (by omega)]; exact gAt_congr fun j hj => hsv j (by omega) (by omega)
 have e2 : ∀ (sv' : Nat → SV), (∀ j, j ≠ N → j ≠ N + 1 → sv' j = sv j) → gAt (l.take (N + 2)) sv' g (N + 1) = (da, sv' N) :: gAt (l.take N) sv g N := fun sv' hsv => by
  rw [gAt_last (o := oA) (by rw [take_get (by omega)]; exact hoA), hAd, e1 sv' N hsv (Nat.le_refl _)]; rfl
 have e3 : ∀ (sv' : Nat → SV), (∀ j, j ≠ N → j ≠ N + 1 → sv' j = sv j) → gAt (l.take (N + 2)) sv' g (l.take (N + 2)).length = (da, sv' N) :: gAt (l.take N) sv g N := fun sv' hsv => by
  rw [hlen2, gAt_none (o := oB) (by rw [take_get (by omega)]; exact hoB) hBd, e2 sv' hsv]
 have hBA : Reach l (N + 1) N := by
  have := readsOk_spec hrd hoB (t := da) (looksAt_tmp (by rw [hBop, hx]; simp [Op.operands])) hoA hAd
  rcases this with h1 | ⟨_, h1⟩ | ⟨h1, _⟩
  ·omega
  ·exact h1
  ·omega
 refine draw_soundG (P := P) (G := G) (E := E) (r := r) (S := ⟨n, g, h, d, i⟩) (N := N + 2) (K := fun S' => Q .normal S')
  (R := fun L sv' hc => (∀ j, j ≠ N → j ≠ N + 1 → sv' j = sv j) ∧ ((¬ L N ∧ ¬ L (N + 1) ∧ hc = h) ∨ (L N ∧ ¬ L (N + 1) ∧ ∃ b, sv' N = eqS (.pointer (some ⟨b, 0, none⟩)) ∧ hc = ⟨some b, t, zs.map eqS, 0⟩ :: h) ∨ (L N ∧ L (N + 1) ∧ ∃ b, sv' N = eqS (.pointer (some ⟨b, 0, none⟩)) ∧ hc = ⟨some b, t, setAll (zs.map eqS) 0 ds, 0⟩ :: h)))
  hed hnd hrd htail (by omega) (fun k o hk hkN => ?_) (fun L sv' hc hR hall => ?_) _ _ h nn (post G E r Q (own ⟨n, g, h, d, i⟩ F) I W) I F a _ sv ?_ ⟨fun _ _ _ => rfl, .inl ⟨?_, ?_, rfl⟩⟩ ?_ ?_
 ·by_cases hkA : k = N
  ·subst hkA
   rw [hoA] at hk; cases hk
   refine ⟨fun u hu => by rw [hAd] at hu; cases hu; exact Nat.le_of_ble_eq_true hdn, fun L sv' hc hR hn hpre hcl => .inr ⟨by simp [guardAt, hAg], ?_⟩⟩
   obtain ⟨hsv, hph⟩ := hR
   have hh : hc = h ∧ ¬ L (k + 1) := by
    rcases hph with ⟨_, h1, h2⟩ | ⟨h1, _⟩ | ⟨h1, _⟩
    ·exact ⟨h2, h1⟩
    ·exact absurd h1 hn
    ·exact absurd h1 hn
   refine ⟨[], [], h, _, hh.1, l_alloc hAop, fun s' H' ⟨b, h1, h2⟩ => ⟨fun j j1 j2 => by rw [upd_ne j1]; exact hsv j j1 j2, .inr (.inl ⟨.inl rfl, fun h3 => ?_, b, by rw [upd_eq, h1], by rw [h2]; rfl⟩)⟩⟩
   rcases h3 with h3 | h3
   ·omega
   ·exact hh.2 h3
  ·by_cases hkB : k = N + 1
   ·subst hkB
    rw [hoB] at hk; cases hk
    refine ⟨fun u hu => (by rw [hBd] at hu; cases hu), fun L sv' hc hR hn hpre hcl => .inr ⟨by simp [guardAt, hBg], ?_⟩⟩
    obtain ⟨hsv, hph⟩ := hR
    have hLN : L N := hBA.listed (L := L) hcl fun o' ho' => by rw [hoB] at ho'; cases ho'; exact hpre
    obtain ⟨b, hb1, hb2⟩ : ∃ b, sv' N = eqS (.pointer (some ⟨b, 0, none⟩)) ∧ hc = ⟨some b, t, zs.map eqS, 0⟩ :: h := by
     rcases hph with ⟨h1, _⟩ | ⟨_, _, h2⟩ | ⟨_, h1, _⟩
     ·exact absurd hLN h1
     ·exact h2
     ·exact absurd h1 hn
    rw [e2 sv' hsv, hb1]
    have hyy : opE ((da, eqS (.pointer (some ⟨b, 0, none⟩))) :: gAt (l.take N) sv g N) y = some s := opE_cons hyx hy
    have hxx : opE ((da, eqS (.pointer (some ⟨b, 0, none⟩))) :: gAt (l.take N) sv g N) x = some (eqS (.pointer (some ⟨b, 0, none⟩))) := by rw [hx]; simp [opE, look]
    refine ⟨[], [⟨some b, t, zs.map eqS, 0⟩], h, _, hb2, l_store (hsz := hsz) (hf := hfl) hBop hxx hyy hm (by rw [Nat.zero_add, List.length_map, hzl]; exact Nat.le_refl _), fun s' H' ⟨h1, h2⟩ => ⟨fun j j1 j2 => by rw [upd_ne j2]; exact hsv j j1 j2, .inr (.inr ⟨.inr hLN, .inl rfl, b, by rw [upd_ne (by omega)]; exact hb1, by rw [h2]; rfl⟩)⟩⟩
   ·have hkN2 : k < N := by omega
    obtain ⟨g1, g2⟩ := hst k o (by rw [take_get hkN2]; exact hk)
    refine ⟨g1, fun L sv' hc hR hn hpre hcl => .inl ⟨?_, hR.1, ?_⟩⟩
    ·rw [e1 sv' k hR.1 (by omega), hR.1 k hkA hkB]
     rcases g2 with ⟨⟨h1, h2⟩ | h1, h3⟩ | h1
     ·cases h2
     ·refine .inl ⟨?_, h3⟩
      refine HoldsH.sub_ok ?_ h1
      rcases hR.2 with ⟨_, _, h2⟩ | ⟨_, _, _, _, h2⟩ | ⟨_, _, _, _, h2⟩
      ·rw [h2]; exact List.Sublist.refl _
      ·rw [h2]; exact List.sublist_cons_self _ _
      ·rw [h2]; exact List.sublist_cons_self _ _
     ·exact .inr h1
    ·rcases hR.2 with ⟨h1, h2, h3⟩ | ⟨h1, h2, h3⟩ | ⟨h1, h2, h3⟩
     ·exact .inl ⟨fun h => h.elim (fun e => hkA e.symm) h1, fun h => h.elim (fun e => hkB e.symm) h2, h3⟩
     ·exact .inr (.inl ⟨.inr h1, fun h => h.elim (fun e => hkB e.symm) h2, h3⟩)
     ·exact .inr (.inr ⟨.inr h1, .inr h2, h3⟩)
 ·obtain ⟨hsv, hph⟩ := hR
  have hN1 := hall N (by omega)
  have hN2 := hall (N + 1) (by omega)
  rcases hph with ⟨h1, _⟩ | ⟨_, h1, _⟩ | ⟨_, _, b, hb1, hb2⟩
  ·exact absurd hN1 h1
  ·exact absurd hN2 h1
  ·have := hK b
   simp only [e3 sv' hsv, hb1, hb2]; exact this
 ·simp [countOff]
 ·unfold Ld; simp only [Array.getD_eq_getD_getElem?, Array.getElem?_replicate]; split <;> simp
 ·unfold Ld; simp only [Array.getD_eq_getD_getElem?, Array.getElem?_replicate]; split <;> simp
 ·have hL : ∀ j, ¬ Ld (Array.replicate l.length false) j := fun j => by
   unfold Ld; simp only [Array.getD_eq_getD_getElem?, Array.getElem?_replicate]; split <;> simp
  exact ⟨by simp, ⟨hs'.n, fun t s h => (by cases h), hs'.m, hs'.h, hs'.d, hs'.dn, hs'.dk, hs'.e, hs'.f, hs'.l⟩, fun t s hl _ => hs'.g t s hl, fun j o d _ hj => absurd hj (hL j), fun j hj => absurd hj (hL j), fun j o _ hj => absurd hj (hL j)⟩
 ·intro S' I' F' a' W' h1 h2 h3
  exact ⟨S', I', F', h1, h2, (hd.2.own _).trans h3⟩
theorem EffAA.mk1 {gd : Nat → Option Nat} {n : Nat} {h : HL} {d : List Nat} {ix : Nat × Bool} {oA oB : Oper} {rest : List Oper} {g : List (Nat × SV)} {K : St → Prop} {t m : TypeId} {zs : List Value} {da : Nat} {x y : Operand} {s : SV} {ds : List SV} [IsZero P t zs] [HasSize P t m] [FlatC s ds] (h1 : oA.op = .alloc t) (h2 : oA.dst = some da) (h3 : oA.guard = none) (h4 : Nat.blt da n = true) (h5 : oB.op = .store t x y) (h6 : oB.dst = none) (h7 : oB.guard = none) (h8 : x = .tmp da) (h9 : y ≠ .tmp da) (h10 : opE g y = some s) (h11 : ds.length = m) (h12 : zs.length = ds.length)
  (h13 : ∀ b, Run P G E r gd false rest ⟨n, (da, eqS (.pointer (some ⟨b, 0, none⟩))) :: g, ⟨some b, t, setAll (zs.map eqS) 0 ds, 0⟩ :: h, d, ix⟩ K) : EffAA P G E r gd n h d ix oA oB rest g K :=
 ⟨⟨t, m, zs, da, x, y, s, ds, inferInstance, inferInstance, inferInstance, h1, h2, h3, h4, h5, h6, h7, h8, h9, h10, h11, h12, h13⟩⟩
theorem T_drawAS [Mixed P] (N : Nat) {id : Nat} {l : List Oper} {oA oB : Oper} {y : Code} {Q : Exit → St → Prop} {n : Nat} {g : List (Nat × SV)} {h : HL} {d : List Nat} {i : Nat × Bool} (hok : drawOkA l N = true) (hoA : l[N]? = some oA) (hoB : l[N + 1]? = some oB)
  (hr : RunE P G (gdOf l) n h h (fun _ => false) 0 (l.take N) g (fun g' => EffAA P G E r (gdOf l) n h d i oA oB (l.drop (N + 2)) g' (fun S' => T P G E r y S' Q))) : T P G E r (.seq (.region id l.toArray true) y) ⟨n, g, h, d, i⟩ Q :=
 T_seq (TA_drawA N hok hoA hoB hr).T
end
end Go.Sv
/- A field of a struct that is held as a value; a drawn region in which two new blocks are made and filled. -/
namespace Go.Sv
open Go Go.RowKit
section
variable {P : Program} {G : Imm} {E : Env} {r : Option Nat} {S : St} {H : HL} {o : Oper} {g : List (Nat × SV)}
def phase (L : Nat → Prop) (a c : Nat) (v : SV) (t : TypeId) (zs : List Value) (ds : List SV) (p : HL) : Prop :=
 (¬ L a ∧ ¬ L c ∧ p = []) ∨ (L a ∧ ¬ L c ∧ ∃ b, v = eqS (.pointer (some ⟨b, 0, none⟩)) ∧ p = [⟨some b, t, zs.map eqS, 0⟩]) ∨ (L a ∧ L c ∧ ∃ b, v = eqS (.pointer (some ⟨b, 0, none⟩)) ∧ p = [⟨some b, t, setAll (zs.map eqS) 0 ds, 0⟩])
theorem phase.other {L : Nat → Prop} {a c k : Nat} {v v' : SV} {t : TypeId} {zs : List Value} {ds : List SV} {p : HL} (h : phase L a c v t zs ds p) (ha : k ≠ a) (hc : k ≠ c) (hv : v' = v) : phase (fun j => j = k ∨ L j) a c v' t zs ds p := by
 subst hv
 rcases h with ⟨h1, h2, h3⟩ | ⟨h1, h2, h3⟩ | ⟨h1, h2, h3⟩
 ·exact .inl ⟨fun h => h.elim (fun e => ha e.symm) h1, fun h => h.elim (fun e => hc e.symm) h2, h3⟩
 ·exact .inr (.inl ⟨.inr h1, fun h => h.elim (fun e => hc e.symm) h2, h3⟩)
 ·exact .inr (.inr ⟨.inr h1, .inr h2, h3⟩)
theorem phase.before {L : Nat → Prop} {a c : Nat} {v : SV} {t : TypeId} {zs : List Value} {ds : List SV} {p : HL} (h : phase L a c v t zs ds p) (ha : ¬ L a) : p = [] ∧ ¬ L c := by
 rcases h with ⟨_, h1, h2⟩ | ⟨h1, _⟩ | ⟨h1, _⟩
 ·exact ⟨h2, h1⟩
 ·exact absurd h1 ha
 ·exact absurd h1 ha
theorem phase.made {L : Nat → Prop} {a c : Nat} {v : SV} {t : TypeId} {zs : List Value} {ds : List SV} {p : HL} (h : phase L a c v t zs ds p) (ha : L a) (hc : ¬ L c) : ∃ b, v = eqS (.pointer (some ⟨b, 0, none⟩)) ∧ p = [⟨some b, t, zs.map eqS, 0⟩] := by
 rcases h with ⟨h1, _⟩ | ⟨_, _, h2⟩ | ⟨_, h1, _⟩
 ·exact absurd ha h1
 ·exact h2
 ·exact absurd h1 hc
theorem phase.full {L : Nat → Prop} {a c : Nat} {v : SV} {t : TypeId} {zs : List Value} {ds : List SV} {p : HL} (h : phase L a c v t zs ds p) (ha : L a) (hc : L c) : ∃ b, v = eqS (.pointer (some ⟨b, 0, none⟩)) ∧ p = [⟨some b, t, setAll (zs.map eqS) 0 ds, 0⟩] := by
 rcases h with ⟨h1, _⟩ | ⟨_, h1, _⟩ | ⟨_, _, h2⟩
 ·exact absurd ha h1
 ·exact absurd hc h1
 ·exact h2
def drawOk2 (l : List Oper) (N : Nat) : Bool := edgesOk l && (nodupDst l && (readsOk l && tailOk l (N + 4)))
structure NewB (P : Program) (n : Nat) (g : List (Nat × SV)) (oA oC : Oper) (da db : Nat) (t : TypeId) (zs : List Value) (ds : List SV) : Prop where
 e : ∃ m y s, IsZero P t zs ∧ HasSize P t m ∧ FlatC s ds ∧ oA.op = .alloc t ∧ oA.dst = some da ∧ oA.guard = none ∧ Nat.blt da n = true ∧ oC.op = .store t (.tmp da) y ∧ oC.dst = none ∧ oC.guard = none ∧ y ≠ .tmp da ∧ y ≠ .tmp db ∧ opE g y = some s ∧ ds.length = m ∧ zs.length = ds.length
structure EffA2 (P : Program) (G : Imm) (E : Env) (r : Option Nat) (gd : Nat → Option Nat) (n : Nat) (h : HL) (d : List Nat) (ix : Nat × Bool) (oA oB oC oD : Oper) (rest : List Oper) (g : List (Nat × SV)) (K : St → Prop) : Prop where
  e : ∃ da db t t' zs zs' ds ds', da ≠ db ∧ NewB P n g oA oC da db t zs ds ∧ NewB P n g oB oD db da t' zs' ds' ∧
    ∀ b b', Run P G E r gd false rest ⟨n, (db, eqS (.pointer (some ⟨b', 0, none⟩))) :: (da, eqS (.pointer (some ⟨b, 0, none⟩))) :: g, ⟨some b', t', setAll (zs'.map eqS) 0 ds', 0⟩ :: ⟨some b, t, setAll (zs.map eqS) 0 ds, 0⟩ :: h, d, ix⟩ K
theorem NewB.mk1 {n : Nat} {oA oC : Oper} {da db : Nat} {t m : TypeId} {zs : List Value} {y : Operand} {s : SV} {ds : List SV} [IsZero P t zs] [HasSize P t m] [FlatC s ds] (h1 : oA.op = .alloc t) (h2 : oA.dst = some da) (h3 : oA.guard = none) (h4 : Nat.blt da n = true) (h5 : oC.op = .store t (.tmp da) y) (h6 : oC.dst = none) (h7 : oC.guard = none) (h8 : y ≠ .tmp da) (h9 : y ≠ .tmp db) (h10 : opE g y = some s) (h11 : ds.length = m) (h12 : zs.length = ds.length) : NewB P n g oA oC da db t zs ds :=
 ⟨m, y, s, inferInstance, inferInstance, inferInstance, h1, h2, h3, h4, h5, h6, h7, h8, h9, h10, h11, h12⟩
theorem TA_draw2 (N : Nat) {l : List Oper} {oA oB oC oD : Oper} {Q : Exit → St → Prop} {n : Nat} {g : List (Nat × SV)} {h : HL} {d : List Nat} {i : Nat × Bool} (hok : drawOk2 l N = true) (hoA : l[N]? = some oA) (hoB : l[N + 1]? = some oB) (hoC : l[N + 2]? = some oC) (hoD : l[N + 3]? = some oD)
  (hr : RunE P G (gdOf l) n h h (fun _ => false) 0 (l.take N) g (fun g' => EffA2 P G E r (gdOf l) n h d i oA oB oC oD (l.drop (N + 4)) g' (fun S' => Q .normal S'))) : TA P G E r l ⟨n, g, h, d, i⟩ Q := by
 intro nn I F a W hs
 simp only [drawOk2, Bool.and_eq_true] at hok
 obtain ⟨hed, hnd, hrd, htail⟩ := hok
 obtain ⟨sv, ⟨da, db, t, t', zs, zs', ds, ds', hdab, ⟨m, y, s, hz, hsz, hfl, hAop, hAd, hAg, hdn, hCop, hCd, hCg, hya, hyb, hy, hm, hzl⟩, ⟨m', y', s', hz', hsz', hfl', hBop, hBd, hBg, hdn', hDop, hDd, hDg, hya', hyb', hy', hm', hzl'⟩, hK⟩, hst⟩ := runE_parts hr
 have hND := lt_of_get hoD
 have hd := ext_drawn hs.m (W.drawn + 1)
 have hs' := hs.keep hd.2 hd.1
 have hlen : (l.take N).length = N := by simp; omega
 have hlen4 : (l.take (N + 4)).length = N + 4 := by simp; omega
 rw [hlen] at hy hy'
 simp only [hlen] at hK
 have e1 : ∀ (sv' : Nat → SV) k, (∀ j, j < N → sv' j = sv j) → k ≤ N → gAt (l.take (N + 4)) sv' g k = gAt (l.take N) sv g k := fun sv' k hsv hk => by
  rw [gAt_take hk, gAt_take (by omega)]; exact gAt_congr fun j hj => hsv j (by omega)
 have e2 : ∀ (sv' : Nat → SV), (∀ j, j < N → sv' j = sv j) → gAt (l.take (N + 4)) sv' g (N + 1) = (da, sv' N) :: gAt (l.take N) sv g N := fun sv' hsv => by
  rw [gAt_last (o := oA) (by rw [take_get (by omega)]; exact hoA), hAd, e1 sv' N hsv (Nat.le_refl _)]; rfl
 have e3 : ∀ (sv' : Nat → SV), (∀ j, j < N → sv' j = sv j) → gAt (l.take (N + 4)) sv' g (N + 2) = (db, sv' (N + 1)) :: (da, sv' N) :: gAt (l.take N) sv g N := fun sv' hsv => by
  rw [gAt_last (o := oB) (by rw [take_get (by omega)]; exact hoB), hBd, e2 sv' hsv]; rfl
 have e4 : ∀ (sv' : Nat → SV), (∀ j, j < N → sv' j = sv j) → gAt (l.take (N + 4)) sv' g (N + 3) = (db, sv' (N + 1)) :: (da, sv' N) :: gAt (l.take N) sv g N := fun sv' hsv => by
  rw [gAt_none (o := oC) (by rw [take_get (by omega)]; exact hoC) hCd, e3 sv' hsv]
 have e5 : ∀ (sv' : Nat → SV), (∀ j, j < N → sv' j = sv j) → gAt (l.take (N + 4)) sv' g (l.take (N + 4)).length = (db, sv' (N + 1)) :: (da, sv' N) :: gAt (l.take N) sv g N := fun sv' hsv => by
  rw [hlen4, gAt_none (o := oD) (by rw [take_get (by omega)]; exact hoD) hDd, e4 sv' hsv]
 have hCA : Reach l (N + 2) N := by
  rcases readsOk_spec hrd hoC (t := da) (looksAt_tmp (by rw [hCop]; simp [Op.operands])) hoA hAd with h1 | ⟨_, h1⟩ | ⟨h1, _⟩
  ·omega
  ·exact h1
  ·omega
 have hDB : Reach l (N + 3) (N + 1) := by
  rcases readsOk_spec hrd hoD (t := db) (looksAt_tmp (by rw [hDop]; simp [Op.operands])) hoB hBd with h1 | ⟨_, h1⟩ | ⟨h1, _⟩
  ·omega
  ·exact h1
  ·omega
 refine draw_soundG (P := P) (G := G) (E := E) (r := r) (S := ⟨n, g, h, d, i⟩) (N := N + 4) (K := fun S' => Q .normal S')
  (R := fun L sv' hc => (∀ j, j < N → sv' j = sv j) ∧ ∃ pB pA, hc = pB ++ pA ++ h ∧ phase L N (N + 2) (sv' N) t zs ds pA ∧ phase L (N + 1) (N + 3) (sv' (N + 1)) t' zs' ds' pB)
  hed hnd hrd htail (by omega) (fun k o hk hkN => ?_) (fun L sv' hc hR hall => ?_) _ _ h nn (post G E r Q (own ⟨n, g, h, d, i⟩ F) I W) I F a _ sv ?_ ⟨fun _ _ => rfl, [], [], rfl, .inl ⟨?_, ?_, rfl⟩, .inl ⟨?_, ?_, rfl⟩⟩ ?_ ?_
 ·by_cases hkA : k = N
  ·subst hkA
   rw [hoA] at hk; cases hk
   refine ⟨fun u hu => by rw [hAd] at hu; cases hu; exact Nat.le_of_ble_eq_true hdn, fun L sv' hc hR hn hpre hcl => .inr ⟨by simp [guardAt, hAg], ?_⟩⟩
   obtain ⟨hsv, pB, pA, rfl, phA, phB⟩ := hR
   obtain ⟨rfl, hnc⟩ := phA.before hn
   refine ⟨pB, [], h, _, by simp, l_alloc hAop, fun s1 H' ⟨b, h1, h2⟩ => ⟨fun j j1 => by rw [upd_ne (by omega)]; exact hsv j j1, pB, H', rfl, .inr (.inl ⟨.inl rfl, fun h3 => ?_, b, by rw [upd_eq, h1], by rw [h2]⟩), phB.other (by omega) (by omega) (upd_ne (by omega))⟩⟩
   rcases h3 with h3 | h3
   ·omega
   ·exact hnc h3
  ·by_cases hkB : k = N + 1
   ·subst hkB
    rw [hoB] at hk; cases hk
    refine ⟨fun u hu => by rw [hBd] at hu; cases hu; exact Nat.le_of_ble_eq_true hdn', fun L sv' hc hR hn hpre hcl => .inr ⟨by simp [guardAt, hBg], ?_⟩⟩
    obtain ⟨hsv, pB, pA, rfl, phA, phB⟩ := hR
    obtain ⟨rfl, hnc⟩ := phB.before hn
    refine ⟨[], [], pA ++ h, _, by simp, l_alloc hBop, fun s1 H' ⟨b, h1, h2⟩ => ⟨fun j j1 => by rw [upd_ne (by omega)]; exact hsv j j1, H', pA, by simp, phA.other (by omega) (by omega) (upd_ne (by omega)), .inr (.inl ⟨.inl rfl, fun h3 => ?_, b, by rw [upd_eq, h1], by rw [h2]⟩)⟩⟩
    rcases h3 with h3 | h3
    ·omega
    ·exact hnc h3
   ·by_cases hkC : k = N + 2
    ·subst hkC
     rw [hoC] at hk; cases hk
     refine ⟨fun u hu => (by rw [hCd] at hu; cases hu), fun L sv' hc hR hn hpre hcl => .inr ⟨by simp [guardAt, hCg], ?_⟩⟩
     obtain ⟨hsv, pB, pA, rfl, phA, phB⟩ := hR
     have hLN : L N := hCA.listed (L := L) hcl fun o' ho' => by rw [hoC] at ho'; cases ho'; exact hpre
     obtain ⟨b, hb1, rfl⟩ := phA.made hLN hn
     rw [e3 sv' hsv, hb1]
     have hyy : opE ((db, sv' (N + 1)) :: (da, eqS (.pointer (some ⟨b, 0, none⟩))) :: gAt (l.take N) sv g N) y = some s := opE_cons hyb (opE_cons hya hy)
     have hxx : opE ((db, sv' (N + 1)) :: (da, eqS (.pointer (some ⟨b, 0, none⟩))) :: gAt (l.take N) sv g N) (.tmp da) = some (eqS (.pointer (some ⟨b, 0, none⟩))) := opE_cons (fun h => hdab (by cases h; rfl)) (by simp [opE, look])
     have hL := l_store (P := P) (G := G) (e := t) (k := 0) (cs := zs.map eqS) (hsz := hsz) (hf := hfl) hCop hxx hyy hm (by rw [Nat.zero_add, List.length_map, hzl]; exact Nat.le_refl _)
     refine ⟨pB, [⟨some b, t, zs.map eqS, 0⟩], h, _, rfl, hL, fun s1 H' ⟨h1, h2⟩ => ⟨fun j j1 => by rw [upd_ne (by omega)]; exact hsv j j1, pB, H', rfl, .inr (.inr ⟨.inr hLN, .inl rfl, b, by rw [upd_ne (by omega)]; exact hb1, by rw [h2]⟩), phB.other (by omega) (by omega) (upd_ne (by omega))⟩⟩
    ·by_cases hkD : k = N + 3
     ·subst hkD
      rw [hoD] at hk; cases hk
      refine ⟨fun u hu => (by rw [hDd] at hu; cases hu), fun L sv' hc hR hn hpre hcl => .inr ⟨by simp [guardAt, hDg], ?_⟩⟩
      obtain ⟨hsv, pB, pA, rfl, phA, phB⟩ := hR
      have hLN : L (N + 1) := hDB.listed (L := L) hcl fun o' ho' => by rw [hoD] at ho'; cases ho'; exact hpre
      obtain ⟨b, hb1, rfl⟩ := phB.made hLN hn
      rw [e4 sv' hsv, hb1]
      have hyy : opE ((db, eqS (.pointer (some ⟨b, 0, none⟩))) :: (da, sv' N) :: gAt (l.take N) sv g N) y' = some s' := opE_cons hya' (opE_cons hyb' hy')
      have hxx : opE ((db, eqS (.pointer (some ⟨b, 0, none⟩))) :: (da, sv' N) :: gAt (l.take N) sv g N) (.tmp db) = some (eqS (.pointer (some ⟨b, 0, none⟩))) := by simp [opE, look]
      have hL := l_store (P := P) (G := G) (e := t') (k := 0) (cs := zs'.map eqS) (hsz := hsz') (hf := hfl') hDop hxx hyy hm' (by rw [Nat.zero_add, List.length_map, hzl']; exact Nat.le_refl _)
      refine ⟨[], [⟨some b, t', zs'.map eqS, 0⟩], pA ++ h, _, by simp, hL, fun s1 H' ⟨h1, h2⟩ => ⟨fun j j1 => by rw [upd_ne (by omega)]; exact hsv j j1, H', pA, by simp, phA.other (by omega) (by omega) (upd_ne (by omega)), .inr (.inr ⟨.inr hLN, .inl rfl, b, by rw [upd_ne (by omega)]; exact hb1, by rw [h2]⟩)⟩⟩
     ·have hkN2 : k < N := by omega
      obtain ⟨g1, g2⟩ := hst k o (by rw [take_get hkN2]; exact hk)
      refine ⟨g1, fun L sv' hc hR hn hpre hcl => .inl ⟨?_, hR.1, ?_⟩⟩
      ·rw [e1 sv' k hR.1 (by omega), hR.1 k hkN2]
       rcases g2 with ⟨⟨h1, h2⟩ | h1, h3⟩ | h1
       ·cases h2
       ·refine .inl ⟨?_, h3⟩
        obtain ⟨_, pB, pA, rfl, _, _⟩ := hR
        exact HoldsH.sub_ok (List.sublist_append_right _ _) h1
       ·exact .inr h1
      ·obtain ⟨_, pB, pA, hh, phA, phB⟩ := hR
       exact ⟨pB, pA, hh, phA.other (by omega) (by omega) rfl, phB.other (by omega) (by omega) rfl⟩
 ·obtain ⟨hsv, pB, pA, rfl, phA, phB⟩ := hR
  obtain ⟨b, hb1, rfl⟩ := phA.full (hall N (by omega)) (hall (N + 2) (by omega))
  obtain ⟨b', hb2, rfl⟩ := phB.full (hall (N + 1) (by omega)) (hall (N + 3) (by omega))
  have := hK b b'
  simp only [e5 sv' hsv, hb1, hb2]; exact this
 ·simp [countOff]
 ·unfold Ld; simp only [Array.getD_eq_getD_getElem?, Array.getElem?_replicate]; split <;> simp
 ·unfold Ld; simp only [Array.getD_eq_getD_getElem?, Array.getElem?_replicate]; split <;> simp
 ·unfold Ld; simp only [Array.getD_eq_getD_getElem?, Array.getElem?_replicate]; split <;> simp
 ·unfold Ld; simp only [Array.getD_eq_getD_getElem?, Array.getElem?_replicate]; split <;> simp
 ·have hL : ∀ j, ¬ Ld (Array.replicate l.length false) j := fun j => by
   unfold Ld; simp only [Array.getD_eq_getD_getElem?, Array.getElem?_replicate]; split <;> simp
  exact ⟨by simp, ⟨hs'.n, fun t s h => (by cases h), hs'.m, hs'.h, hs'.d, hs'.dn, hs'.dk, hs'.e, hs'.f, hs'.l⟩, fun t s hl _ => hs'.g t s hl, fun j o d _ hj => absurd hj (hL j), fun j hj => absurd hj (hL j), fun j o _ hj => absurd hj (hL j)⟩
 ·intro S' I' F' a' W' h1 h2 h3
  exact ⟨S', I', F', h1, h2, (hd.2.own _).trans h3⟩
theorem T_draw2S [Mixed P] (N : Nat) {id : Nat} {l : List Oper} {oA oB oC oD : Oper} {y : Code} {Q : Exit → St → Prop} {n : Nat} {g : List (Nat × SV)} {h : HL} {d : List Nat} {i : Nat × Bool} (hok : drawOk2 l N = true) (hoA : l[N]? = some oA) (hoB : l[N + 1]? = some oB) (hoC : l[N + 2]? = some oC) (hoD : l[N + 3]? = some oD)
  (hr : RunE P G (gdOf l) n h h (fun _ => false) 0 (l.take N) g (fun g' => EffA2 P G E r (gdOf l) n h d i oA oB oC oD (l.drop (N + 4)) g' (fun S' => T P G E r y S' Q))) : T P G E r (.seq (.region id l.toArray true) y) ⟨n, g, h, d, i⟩ Q :=
 T_seq (TA_draw2 N hok hoA hoB hoC hoD hr).T
end
end Go.Sv
/- A drawn region in which three new blocks are made and filled. Written by mkdraw.py. -/
namespace Go.Sv
open Go Go.RowKit
section
variable {P : Program} {G : Imm} {E : Env} {r : Option Nat} {S : St}
end
end Go.Sv
/- A call that is lent an owned block: it reads it, and hands it back as it was. -/
namespace Go.Sv
open Go Go.RowKit
class Plain (s : SV) : Prop where
 h : ∀ I J v, s.den I v → s.den J v
instance {x : Value} : Plain (eqS x) := ⟨fun _ _ _ h => h⟩
instance : Plain anyBool := ⟨fun _ _ _ h => h⟩
section
variable {P : Program} {G : Imm} {E : Env} {r : Option Nat} {S : St} {gd : Nat → Option Nat} {p : Bool} {o : Oper} {ops : List Oper} {K : St → Prop} {H : HL} {g : List (Nat × SV)}
end
end Go.Sv
/- A drawn region with any number of effects that wait for one another; the pure operations may come ahead of an effect or behind it, as their edges let them. -/
namespace Go.Sv
open Go Go.RowKit
section
variable {P : Program} {G : Imm} {E : Env} {r : Option Nat} {S : St}
theorem Mid.congr {l : List Oper} {N : Nat} {sv sv' : Nat → SV} {L : Array Bool} {I : Imm} {F : Nat → Prop} {a : Act} {W : World} (hm : Mid G E r l N sv S L I F a W) (h : ∀ j, Ld L j → sv' j = sv j) : Mid G E r l N sv' S L I F a W :=
 ⟨hm.size, hm.sat, hm.old, fun j o d hj hL hd => by rw [h j hL]; exact hm.new j o d hj hL hd, hm.low, hm.closed⟩
theorem draw_soundH {l : List Oper} {N : Nat} (hed : edgesOk l = true) (hnd : nodupDst l = true) (hrd : readsOk l = true) (htail : tailOk l N = true) (hN : N ≤ l.length) {R : (Nat → Prop) → (Nat → SV) → HL → Prop} {K : St → Prop}
    (hst : ∀ i o, l[i]? = some o → i < N → ∀ (L : Nat → Prop) sv hc, R L sv hc → ¬ L i → (∀ e ∈ o.after.toList, Region.binds .any e = true → L e.on) → (∀ j o, l[j]? = some o → L j → ∀ e ∈ o.after.toList, Region.binds .any e = true → L e.on) →
      (∀ t, o.dst = some t → t < S.n) ∧ ((((OpOK P G hc o (gAt (l.take N) sv S.g i) (sv i) ∧ guardAt (gdOf l) (gAt (l.take N) sv S.g i) o true) ∨ (guardAt (gdOf l) (gAt (l.take N) sv S.g i) o false ∧ sv i = eqS undef)) ∧ R (fun j => j = i ∨ L j) sv hc) ∨
       (guardAt (gdOf l) (gAt (l.take N) sv S.g i) o true ∧ ∃ pre Hp suf Kl, hc = pre ++ Hp ++ suf ∧ OpL P G o (gAt (l.take N) sv S.g i) Hp Kl ∧ ∀ s H', Kl s H' → ∃ sv2, (∀ j, (j = i ∨ L j) → sv2 j = upd sv i s j) ∧ R (fun j => j = i ∨ L j) sv2 (pre ++ H' ++ suf))))
    (hK : ∀ (L : Nat → Prop) sv hc, R L sv hc → (∀ j, j < N → L j) → Run P G E r (gdOf l) false (l.drop N) { S with h := hc, g := gAt (l.take N) sv S.g (l.take N).length } K) :
    ∀ (fuel : Nat) (L : Array Bool) (hc : HL) (n : Nat) (Q : Exit → Act → World → Prop) (I : Imm) (F : Nat → Prop) (a : Act) (W : World) (sv : Nat → SV), countOff L ≤ fuel → R (Ld L) sv hc → Mid G E r l N sv { S with h := hc } L I F a W →
      (∀ S' I' F' a' W', Sat G E r S' I' F' a' W' → K S' → Fram (own { S with h := hc } F) I W (own S' F') I' W' → Q .normal a' W') → wpAnyIn (Fr r) n P .any l.toArray Q fuel L a W := by
  have hgd : ∀ j, gdOf l j = (l.toArray[j]?).bind (·.dst) := fun j => by simp [gdOf]
  intro fuel
  induction fuel with
  | zero =>
    intro L hc n Q I F a W sv hcf hR hm hk
    have hall : ∀ j, j < l.length → Ld L j := fun j hj => countOff_zero (by omega) (by rw [hm.size]; exact hj)
    exact tail_sound hgd htail hed (hK _ _ _ hR fun j hj => hall j (by omega)) N (Nat.le_refl _) rfl L hm.size (fun j hj => ⟨fun h => hm.low j h, fun _ => hall j hj⟩) 0 n Q I F a W (by
      rcases Nat.lt_or_ge N l.length with h | h
      · have := hm.low N (hall N h); omega
      · omega) (hm.done hN fun j hj => hall j (by omega)) hk
  | succ fuel ih =>
    intro L hc n Q I F a W sv hcf hR hm hk
    by_cases hall : ∀ j, j < N → Ld L j
    · have hcount : l.length ≤ N + countOff L := by
        have h1 : L.toList.count false = (L.toList.take N).count false + (L.toList.drop N).count false := by rw [← List.count_append, List.take_append_drop]
        have h2 : (L.toList.drop N).count false = (L.toList.drop N).length := by
          refine List.count_eq_length.2 fun b hb => ?_
          obtain ⟨k, hk1, hk2⟩ := List.mem_iff_getElem.1 hb
          have hk3 : N + k < L.size := by simp at hk1; omega
          have : ¬ Ld L (N + k) := fun h => by have := hm.low _ h; omega
          unfold Ld at this
          simp only [Array.getD_eq_getD_getElem?, Array.getElem?_eq_getElem hk3, Option.getD_some] at this
          rw [← hk2]; simp only [List.getElem_drop, Array.getElem_toList]; simpa using this
        have := hm.size
        unfold countOff; rw [h1, h2]; simp; omega
      exact tail_sound hgd htail hed (hK _ _ _ hR hall) N (Nat.le_refl _) rfl L hm.size (fun j hj => ⟨fun h => hm.low j h, fun h => hall j h⟩) (fuel + 1) n Q I F a W (by omega) (hm.done hN hall) hk
    · refine ⟨fun hnil => ?_, fun i hi => ?_⟩
      · exfalso
        obtain ⟨j, hj⟩ := Classical.not_forall.1 hall
        obtain ⟨hj1, hj2⟩ := Classical.not_imp.1 hj
        obtain ⟨m, ⟨hm1, hm2⟩, hm3⟩ := exists_least (p := fun j => j < N ∧ ¬ Ld L j) ⟨j, hj1, hj2⟩
        have : m ∈ Region.ready .any l.toArray L := (ready_spec hm.size).2 ⟨l[m]'(by omega), List.getElem?_eq_getElem (by omega), hm2, fun e he hb => by
          have h1 := edgesOk_spec hed (show l[m]? = some (l[m]'(by omega)) from List.getElem?_eq_getElem (by omega)) he hb
          by_cases hx : Ld L e.on
          · exact hx
          · have := hm3 e.on ⟨by omega, hx⟩; omega⟩
        rw [hnil] at this; cases this
      · obtain ⟨o, ho, hn, hpre0⟩ := (ready_spec hm.size).1 hi
        have hiN : i < N := by
          rcases Nat.lt_or_ge i N with h | h
          · exact h
          · exfalso
            refine hall fun j hj => ?_
            exact (tailOk_spec htail (lt_of_get ho) h (show j < i by omega)).listed (L := Ld L) hm.closed fun o' ho' => by rw [ho] at ho'; cases ho'; exact hpre0
        have hilt : i < L.size := by rw [hm.size]; exact lt_of_get ho
        have hcnt := countOff_set hilt hn
        have hset : (fun j => j = i ∨ Ld L j) = Ld (L.setIfInBounds i true) := by funext j; exact propext (Ld_set hilt).symm
        simp only [wpOpIn, List.getElem?_toArray, ho]
        obtain ⟨hdst, hst1⟩ := hst i o ho hiN (Ld L) sv hc hR hn hpre0 hm.closed
        rcases hst1 with ⟨hstep, hR'⟩ | ⟨hgN, pre, Hp, suf, Kl, hsp, heff, hR'⟩
        · rw [hset] at hR'
          rcases hstep with ⟨hop, hg⟩ | ⟨hg, hsv⟩
          · rw [hm.wanted hrd ho hiN hn hpre0 hg, if_pos rfl]
            refine hop n r I W a _ Q hm.sat.m hm.sat.h (hm.reads hrd ho hiN hn hpre0) fun v I' W' he hh hv => ?_
            exact ih _ _ n Q I' F _ W' sv (by omega) hR' (hm.step hnd ho hiN hdst hpre0 he hh hv) fun S'' I'' F'' a'' W'' h1 h2 h3 => hk S'' I'' F'' a'' W'' h1 h2 ((he.own _).trans h3)
          · rw [hm.wanted hrd ho hiN hn hpre0 hg, if_neg (by simp)]
            refine ⟨fun f _ => fn_true r f, ?_⟩
            exact ih _ _ n Q I F _ W sv (by omega) hR' (hm.step hnd ho hiN hdst hpre0 (Fram.refl _ _ _) hm.sat.m (by rw [hsv]; exact rfl)) hk
        · rw [hm.wanted hrd ho hiN hn hpre0 hgN, if_pos rfl]
          have hsub : Hp.Sublist hc := by rw [hsp]; exact (List.sublist_append_right pre Hp).trans (List.sublist_append_left _ _)
          have hpre : pre.Sublist hc := by rw [hsp, List.append_assoc]; exact List.sublist_append_left _ _
          have hsuf : suf.Sublist hc := by rw [hsp]; exact List.sublist_append_right _ _
          have hq0 : HoldsH Hp I W := hm.sat.h.less hsub
          refine heff n r I W a _ Q hm.sat.m hq0 (hm.reads hrd ho hiN hn hpre0) fun v I' W' s H' hkl hf hm' hh' hv => ?_
          have hh2 : HoldsH (pre ++ H' ++ suf) I' W' := HoldsH.frame (Hp := Hp) (by rw [← hsp]; exact hm.sat.h) hh' hf
          have hbq : ∀ b, b ∈ bs Hp → b ∈ bs hc := fun b hb => (bs_sub hsub).subset hb
          obtain ⟨s1, f1⟩ := hm.sat.turn (h' := (pre ++ H' ++ suf)) (O := (· ∈ bs Hp)) (O' := (· ∈ bs H')) hbq hf (fun b hb => by
            rw [bs_append, bs_append] at hb
            rcases List.mem_append.1 hb with hb | hb
            · rcases List.mem_append.1 hb with hb | hb
              · exact .inl ((bs_sub hpre).subset hb)
              · rcases hf.own b hb with h | h
                · exact .inl (hbq b h)
                · exact .inr h
            · exact .inl ((bs_sub hsuf).subset hb)) hm' hh2
          have hle : I.le I' := hf.imm
          have hm1 : Mid G E r l N (upd sv i s) { S with h := (pre ++ H' ++ suf) } L I' F a W' :=
            ⟨hm.size, s1, fun t s hl hno => s.mono _ _ _ hle (hm.old t s hl hno), fun j p d hp hj hd => by
              have hji : j ≠ i := fun e => hn (e ▸ hj)
              rw [upd_ne hji]
              exact (sv j).mono _ _ _ hle (hm.new j p d hp hj hd), hm.low, hm.closed⟩
          have hm2 := hm1.step hnd ho hiN hdst hpre0 (Fram.refl _ _ _) hm' (v := v) (by rw [upd_eq]; exact hv)
          obtain ⟨sv2, hsv2, hR2⟩ := hR' s H' hkl
          rw [hset] at hR2
          have hm3 : Mid G E r l N sv2 { S with h := (pre ++ H' ++ suf) } (L.setIfInBounds i true) I' F (a.put o.dst v) W' := hm2.congr fun j hj => hsv2 j ((Ld_set hilt).1 hj)
          exact ih _ _ n Q I' F _ W' sv2 (by omega) hR2 hm3 fun S'' I'' F'' a'' W'' h1 h2 h3 => hk S'' I'' F'' a'' W'' h1 h2 (f1.trans h3)
def EffM (P : Program) (G : Imm) (gd : Nat → Option Nat) (n : Nat) (Hc : HL) (o : Oper) (g : List (Nat × SV)) (h : HL) (C : List (Nat × SV) → HL → Prop) : Prop :=
 ∃ pre Hp suf Kl, h = pre ++ Hp ++ suf ∧ OpL P G o g Hp Kl ∧ guardAt gd g o true ∧ dstOk o n = true ∧ ∀ s H', Kl s H' → Hc.Sublist (pre ++ H' ++ suf) ∧ C (setG o.dst s g) (pre ++ H' ++ suf)
def RunM (P : Program) (G : Imm) (E : Env) (r : Option Nat) (l : List Oper) (n : Nat) (d : List Nat) (ix : Nat × Bool) (M : Nat) (K : St → Prop) : (Ns : List Nat) → (k : Nat) → (Hc : HL) → List (Nat × SV) → HL → Prop
 | [], k, _, g, h => RunE P G (gdOf l) n h h (fun _ => false) k ((l.take M).drop k) g (fun g' => Run P G E r (gdOf l) false (l.drop M) ⟨n, g', h, d, ix⟩ K)
 | N :: Ns, k, Hc, g, h => RunE P G (gdOf l) n h Hc (earlyOf l N) k ((l.take N).drop k) g (fun g' => ∃ oN, l[N]? = some oN ∧ EffM P G (gdOf l) n Hc oN g' h (fun g2 h2 => RunM P G E r l n d ix M K Ns (N + 1) Hc g2 h2))
def effsOk (l : List Oper) (M : Nat) : Nat → List Nat → Bool
 | k, [] => Nat.ble k M
 | k, N :: Ns => Nat.ble k N && (Nat.blt N M && (((List.range l.length).all fun j => Nat.ble j N || ((masks l).getD j 0).testBit N) && effsOk l M (N + 1) Ns))
def drawOkM (l : List Oper) (M : Nat) (Ns : List Nat) : Bool := edgesOk l && (nodupDst l && (readsOk l && (tailOk l M && (Nat.ble M l.length && effsOk l M 0 Ns))))
theorem gAt_split : ∀ {l1 l2 : List Oper} {sv : Nat → SV} {g : List (Nat × SV)} {i : Nat}, gAt (l1 ++ l2) sv g (l1.length + i) = gAt l2 (fun j => sv (l1.length + j)) (gAt l1 sv g l1.length) i
  | [], l2, sv, g, i => by simp [gAt]
  | o :: l1, l2, sv, g, i => by
    rw [List.cons_append, List.length_cons, show l1.length + 1 + i = (l1.length + i) + 1 by omega, gAt_succ, gAt_succ, gAt_split]
    congr 1
    funext j
    congr 1
    omega
def fact (P : Program) (G : Imm) (l : List Oper) (M n : Nat) (g0 : List (Nat × SV)) (sv : Nat → SV) (h : HL) (j : Nat) (o : Oper) : Prop :=
 (∀ t, o.dst = some t → t < n) ∧ ((OpOK P G h o (gAt (l.take M) sv g0 j) (sv j) ∧ guardAt (gdOf l) (gAt (l.take M) sv g0 j) o true) ∨ (guardAt (gdOf l) (gAt (l.take M) sv g0 j) o false ∧ sv j = eqS undef))
theorem fact.sub {l : List Oper} {M n : Nat} {g0 : List (Nat × SV)} {sv : Nat → SV} {h h' : HL} {j : Nat} {o : Oper} (hs : h.Sublist h') (f : fact P G l M n g0 sv h j o) : fact P G l M n g0 sv h' j o :=
 ⟨f.1, f.2.imp (fun ⟨a, b⟩ => ⟨HoldsH.sub_ok hs a, b⟩) id⟩
theorem fact.congr {l : List Oper} {M n : Nat} {g0 : List (Nat × SV)} {sv sv' : Nat → SV} {h : HL} {j : Nat} {o : Oper} (hs : ∀ i, i ≤ j → sv' i = sv i) (f : fact P G l M n g0 sv h j o) : fact P G l M n g0 sv' h j o := by
 unfold fact at f ⊢
 rw [hs j (Nat.le_refl _), show gAt (l.take M) sv' g0 j = gAt (l.take M) sv g0 j from gAt_congr fun i hi => hs i (by omega)]
 exact f
theorem seg_facts {l : List Oper} {M N k n : Nat} {g0 g : List (Nat × SV)} {h Hc : HL} {early : Nat → Bool} {sv : Nat → SV} {K : List (Nat × SV) → Prop} (hkN : k ≤ N) (hNM : N ≤ M) (hM : M ≤ l.length) (hg : gAt (l.take M) sv g0 k = g)
  (hr : RunE P G (gdOf l) n h Hc early k ((l.take N).drop k) g K) :
  ∃ sv' : Nat → SV, (∀ j, j < k → sv' j = sv j) ∧ K (gAt (l.take M) sv' g0 N) ∧ ∀ j o, k ≤ j → j < N → l[j]? = some o → (fact P G l M n g0 sv' h j o ∧ early j = true) ∨ fact P G l M n g0 sv' Hc j o := by
 obtain ⟨sv1, hK, hst⟩ := runE_parts hr
 let sv' : Nat → SV := fun j => if j < k then sv j else sv1 (j - k)
 have hlt : ∀ j, j < k → sv' j = sv j := fun j hj => by simp only [sv', hj, if_true]
 have hge : ∀ j, sv' (k + j) = sv1 j := fun j => by
  have h1 : ¬ (k + j < k) := by omega
  simp only [sv', h1, if_false]
  congr 1; omega
 have hkl : (l.take k).length = k := by simp; omega
 have hg' : ∀ i, k + i ≤ N → gAt (l.take M) sv' g0 (k + i) = gAt ((l.take N).drop k) sv1 g i := fun i hi => by
  rw [show gAt (l.take M) sv' g0 (k + i) = gAt (l.take N) sv' g0 (k + i) from by rw [gAt_take (by omega), gAt_take (by omega)]]
  have e : l.take N = l.take k ++ (l.take N).drop k := by
   have := (List.take_append_drop k (l.take N)).symm
   rwa [List.take_take, Nat.min_eq_left hkN] at this
  have e2 := gAt_split (l1 := l.take k) (l2 := (l.take N).drop k) (sv := sv') (g := g0) (i := i)
  rw [← e, hkl] at e2
  rw [e2]
  have e3 : gAt (l.take k) sv' g0 k = g := by
   rw [← hg, gAt_take (Nat.le_refl _), gAt_take (by omega)]
   exact gAt_congr hlt
  rw [e3]
  exact gAt_congr fun j _ => hge j
 have hlen : ((l.take N).drop k).length = N - k := by simp; omega
 refine ⟨sv', hlt, ?_, fun j o hkj hjN ho => ?_⟩
 ·have := hg' (N - k) (by omega)
  rw [show k + (N - k) = N by omega] at this
  rw [this, ← hlen]
  exact hK
 ·obtain ⟨i, rfl⟩ : ∃ i, j = k + i := ⟨j - k, by omega⟩
  have hoi : ((l.take N).drop k)[i]? = some o := by
   rw [List.getElem?_drop, take_get (by omega)]; exact ho
  obtain ⟨h1, h2⟩ := hst i o hoi
  unfold fact
  rw [hg' i (by omega), hge]
  rcases h2 with ⟨⟨h3, h4⟩ | h3, h5⟩ | h3
  ·exact .inl ⟨⟨h1, .inl ⟨h3, h5⟩⟩, h4⟩
  ·exact .inr ⟨h1, .inl ⟨h3, h5⟩⟩
  ·exact .inr ⟨h1, .inr h3⟩
def stage (P : Program) (G : Imm) (E : Env) (r : Option Nat) (l : List Oper) (n : Nat) (d : List Nat) (ix : Nat × Bool) (M : Nat) (K : St → Prop) (Hc : HL) (g0 : List (Nat × SV)) (L : Nat → Prop) (sv : Nat → SV) (hc : HL) : Prop :=
  Hc.Sublist hc ∧ (∀ j, L j → j < l.length) ∧
  ((∃ N Ns, effsOk l M N (N :: Ns) = true ∧ ¬ L N ∧ (∀ j o, j < N → l[j]? = some o → ¬ L j → (fact P G l M n g0 sv hc j o ∧ earlyOf l N j = true) ∨ fact P G l M n g0 sv Hc j o) ∧
      ∃ oN, l[N]? = some oN ∧ EffM P G (gdOf l) n Hc oN (gAt (l.take M) sv g0 N) hc (fun g2 h2 => RunM P G E r l n d ix M K Ns (N + 1) Hc g2 h2)) ∨
   ((∀ j o, j < M → l[j]? = some o → ¬ L j → fact P G l M n g0 sv hc j o) ∧ Run P G E r (gdOf l) false (l.drop M) ⟨n, gAt (l.take M) sv g0 M, hc, d, ix⟩ K))
theorem effsOk_here {l : List Oper} {M k N : Nat} {Ns : List Nat} (h : effsOk l M k (N :: Ns) = true) : k ≤ N ∧ N < M ∧ (∀ j, j < l.length → N < j → Reach l j N) ∧ effsOk l M (N + 1) Ns = true ∧ effsOk l M N (N :: Ns) = true := by
 simp only [effsOk, Bool.and_eq_true] at h ⊢
 obtain ⟨h1, h2, h3, h4⟩ := h
 refine ⟨Nat.le_of_ble_eq_true h1, Nat.le_of_ble_eq_true h2, fun j hj hN => ?_, h4, (Nat.ble_eq ▸ Nat.le_refl N : Nat.ble N N = true), h2, h3, h4⟩
 have := List.all_eq_true.1 h3 j (List.mem_range.2 hj)
 simp only [Bool.or_eq_true] at this
 rcases this with h5 | h5
 ·exact absurd (Nat.le_of_ble_eq_true h5) (by omega)
 ·exact masks_reach h5
theorem stage_of {l : List Oper} {n M k : Nat} {d : List Nat} {ix : Nat × Bool} {K : St → Prop} {Hc : HL} {g0 g : List (Nat × SV)} {L : Nat → Prop} {sv : Nat → SV} {h : HL} {Ns : List Nat} (hM : M ≤ l.length) (hok : effsOk l M k Ns = true) (hg : gAt (l.take M) sv g0 k = g) (hHc : Hc.Sublist h)
    (hL : ∀ j, L j → j < k) (hkl : k ≤ l.length) (hlate : ∀ j o, j < k → l[j]? = some o → ¬ L j → fact P G l M n g0 sv Hc j o) (hr : RunM P G E r l n d ix M K Ns k Hc g h) :
    ∃ sv', (∀ j, j < k → sv' j = sv j) ∧ stage P G E r l n d ix M K Hc g0 L sv' h := by
  cases Ns with
  | nil =>
    have hkM : k ≤ M := Nat.le_of_ble_eq_true hok
    obtain ⟨sv', h1, h2, h3⟩ := seg_facts hkM (Nat.le_refl _) hM hg hr
    refine ⟨sv', h1, hHc, fun j hj => Nat.lt_of_lt_of_le (hL j hj) hkl, .inr ⟨fun j o hj ho hn => ?_, h2⟩⟩
    rcases Nat.lt_or_ge j k with hjk | hjk
    · exact ((hlate j o hjk ho hn).congr fun i hi => h1 i (by omega)).sub hHc
    · rcases h3 j o hjk hj ho with ⟨h4, h5⟩ | h4
      · exact h4
      · exact h4
  | cons N Ns =>
    obtain ⟨hkN, hNM, _, _, hok'⟩ := effsOk_here hok
    obtain ⟨sv', h1, h2, h3⟩ := seg_facts hkN (by omega) hM hg hr
    refine ⟨sv', h1, hHc, fun j hj => Nat.lt_of_lt_of_le (hL j hj) hkl, .inl ⟨N, Ns, hok', fun h => ?_, fun j o hj ho hn => ?_, h2⟩⟩
    · have := hL N h; omega
    · rcases Nat.lt_or_ge j k with hjk | hjk
      · exact .inr ((hlate j o hjk ho hn).congr fun i hi => h1 i (by omega))
      · exact h3 j o hjk hj ho
theorem TA_drawM (M : Nat) (Ns : List Nat) (Hc : HL) {l : List Oper} {Q : Exit → St → Prop} {n : Nat} {g : List (Nat × SV)} {h : HL} {d : List Nat} {i : Nat × Bool} (hok : drawOkM l M Ns = true) (hHc : Hc.Sublist h)
  (hr : RunM P G E r l n d i M (fun S' => Q .normal S') Ns 0 Hc g h) : TA P G E r l ⟨n, g, h, d, i⟩ Q := by
 intro nn I F a W hs
 simp only [drawOkM, Bool.and_eq_true] at hok
 obtain ⟨hed, hnd, hrd, htail, hM, hN⟩ := hok
 have hM := Nat.le_of_ble_eq_true hM
 have hd := ext_drawn hs.m (W.drawn + 1)
 have hs' := hs.keep hd.2 hd.1
 have hL : ∀ j, ¬ Ld (Array.replicate l.length false) j := fun j => by
  unfold Ld; simp only [Array.getD_eq_getD_getElem?, Array.getElem?_replicate]; split <;> simp
 obtain ⟨sv, _, hst⟩ := stage_of (sv := fun _ => eqS undef) (L := Ld (Array.replicate l.length false)) hM hN (gAt_zero _ _ _) hHc (fun j hj => absurd hj (hL j)) (Nat.zero_le _) (fun j o hj => absurd hj (by omega)) hr
 refine draw_soundH (P := P) (G := G) (E := E) (r := r) (S := ⟨n, g, h, d, i⟩) (N := M) (K := fun S' => Q .normal S')
  (R := fun L sv' hc => stage P G E r l n d i M (fun S' => Q .normal S') Hc g L sv' hc)
  hed hnd hrd htail hM (fun k o hk hkM => ?_) (fun L sv' hc hR hall => ?_) _ _ h nn (post G E r Q (own ⟨n, g, h, d, i⟩ F) I W) I F a _ sv ?_ hst ?_ ?_
 ·intro L sv' hc hR hn hpre hcl
  have hkl := lt_of_get hk
  have hpre' : ∀ o', l[k]? = some o' → ∀ e ∈ o'.after.toList, Region.binds .any e = true → L e.on := fun o' ho' => by rw [hk] at ho'; cases ho'; exact hpre
  obtain ⟨hHc', hlen, ⟨N, Ns, hok', hLN, hf, oN, hoN, heff⟩ | ⟨hf, hrun⟩⟩ := hR
  ·obtain ⟨_, hNM, haft, hok'', _⟩ := effsOk_here hok'
   rcases Nat.lt_trichotomy k N with hkN | hkN | hkN
   ·have hfact : fact P G l M n g sv' hc k o := by
     rcases hf k o hkN hk hn with ⟨h1, _⟩ | h1
     ·exact h1
     ·exact h1.sub hHc'
    exact ⟨hfact.1, .inl ⟨hfact.2, hHc', fun j hj => hj.elim (fun e => e ▸ hkl) (hlen j), .inl ⟨N, Ns, hok', fun h => h.elim (fun e => by omega) hLN, fun j o hj ho hnL => hf j o hj ho fun h => hnL (.inr h), oN, hoN, heff⟩⟩⟩
   ·subst hkN
    rw [hk] at hoN; cases hoN
    obtain ⟨pre, Hp, suf, Kl, hsp, hop, hg, hdst, hall⟩ := heff
    refine ⟨dstOk_spec hdst, .inr ⟨hg, pre, Hp, suf, Kl, hsp, hop, fun s H' hkl' => ?_⟩⟩
    obtain ⟨hsub, hrun⟩ := hall s H' hkl'
    have hLlt : ∀ j, L j → j < k := fun j hj => by
     rcases Nat.lt_trichotomy j k with h1 | h1 | h1
     ·exact h1
     ·subst h1; exact absurd hj hLN
     ·exact absurd ((haft j (hlen j hj) h1).listed (L := L) hcl fun o' ho' => hcl j o' ho' hj) hLN
    have hge : gAt (l.take M) (upd sv' k s) g (k + 1) = setG o.dst s (gAt (l.take M) sv' g k) := by
     rw [gAt_last (o := o) (by rw [take_get (by omega)]; exact hk), upd_eq]
     congr 1
     exact gAt_congr fun j hj => upd_ne (by omega)
    obtain ⟨sv2, h1, h2⟩ := stage_of (sv := upd sv' k s) (L := fun j => j = k ∨ L j) hM hok'' hge hsub (fun j hj => hj.elim (fun e => by omega) fun h => by have := hLlt j h; omega) (by omega) (fun j o' hj ho' hnL => by
     have hjk : j < k := by
      have : j ≠ k := fun e => hnL (.inl e)
      omega
     rcases hf j o' hjk ho' (fun h => hnL (.inr h)) with ⟨_, h3⟩ | h3
     ·exact absurd ((masks_reach h3).listed (L := L) hcl hpre') (fun h => hnL (.inr h))
     ·exact h3.congr fun i hi => upd_ne (by omega)) hrun
    exact ⟨sv2, fun j hj => h1 j (hj.elim (fun e => by omega) fun h => by have := hLlt j h; omega), h2⟩
   ·exact absurd ((haft k hkl hkN).listed (L := L) hcl hpre') hLN
  ·have hfact := hf k o hkM hk hn
   exact ⟨hfact.1, .inl ⟨hfact.2, hHc', fun j hj => hj.elim (fun e => e ▸ hkl) (hlen j), .inr ⟨fun j o hj ho hnL => hf j o hj ho fun h => hnL (.inr h), hrun⟩⟩⟩
 ·obtain ⟨_, _, ⟨N, Ns, hok', hLN, _⟩ | ⟨_, hrun⟩⟩ := hR
  ·obtain ⟨_, hNM, _⟩ := effsOk_here hok'
   exact absurd (hall N hNM) hLN
  ·rw [show (l.take M).length = M by simp; omega]
   exact hrun
 ·simp [countOff]
 ·exact ⟨by simp, ⟨hs'.n, fun t s h => (by cases h), hs'.m, hs'.h, hs'.d, hs'.dn, hs'.dk, hs'.e, hs'.f, hs'.l⟩, fun t s hl _ => hs'.g t s hl, fun j o d _ hj => absurd hj (hL j), fun j hj => absurd hj (hL j), fun j o _ hj => absurd hj (hL j)⟩
 ·intro S' I' F' a' W' h1 h2 h3
  exact ⟨S', I', F', h1, h2, (hd.2.own _).trans h3⟩
section
variable {gd : Nat → Option Nat} {n : Nat} {g : List (Nat × SV)} {h Hc : HL} {o : Oper} {C : List (Nat × SV) → HL → Prop}
theorem EffM.loc1 (j : Nat) {t : Nat} {q : HE} {Kl : SV → HL → Prop} (ho : OpL P G o g [q] Kl) (hH : h[j]? = some q) (hg : guardAt gd g o true) (ht : o.dst = some t) (hd : Nat.blt t n = true) (hr : ∀ s H', Kl s H' → Hc.Sublist (putAt h j H') ∧ C ((t, s) :: g) (putAt h j H')) : EffM P G gd n Hc o g h C :=
 ⟨h.take j, [q], h.drop (j + 1), Kl, split_at hH, ho, hg, by unfold dstOk; rw [ht]; exact hd, fun s H' hk => by
  have := hr s H' hk
  rw [putAt_eq hH] at this
  rw [ht]; exact this⟩
theorem EffM.loc1n (j : Nat) {q : HE} {Kl : SV → HL → Prop} (ho : OpL P G o g [q] Kl) (hH : h[j]? = some q) (hg : guardAt gd g o true) (ht : o.dst = none) (hr : ∀ s H', Kl s H' → Hc.Sublist (putAt h j H') ∧ C g (putAt h j H')) : EffM P G gd n Hc o g h C :=
 ⟨h.take j, [q], h.drop (j + 1), Kl, split_at hH, ho, hg, by unfold dstOk; rw [ht], fun s H' hk => by
  have := hr s H' hk
  rw [putAt_eq hH] at this
  rw [ht]; exact this⟩
theorem EffM.append (j : Nat) {t0 : Nat} {t e st bytes : Nat} {zs : List Value} [IsSl P t e st] [IsElem P e zs bytes] {x y : Operand} {q : Option (Nat × Nat)} {m : Nat} {cs : List SV} {α : Type} {f : α → List SV} {l : List α}
  (hop : o.op = .call { callee := .builtin .append, args := #[x, y], argTypes := #[t, t] }) (hx : opE g x = some (eqS (rowV q m))) (hy : opE g y = some (slS st f l)) (hH : h[j]? = some (rowE q e st m cs)) (hg : guardAt gd g o true) (ht : o.dst = some t0) (hd : Nat.blt t0 n = true)
  (hq : rowOk q m) (hl : cs.length = m * st) (hf : ∀ z ∈ l, (f z).length = st) (hb : (m + l.length) * bytes ≤ big) (hm : m + l.length ≤ big)
  (hr : ∀ q', rowOk q' (m + l.length) → Hc.Sublist (putAt h j [rowE q' e st (m + l.length) (cs ++ l.flatMap f)]) ∧ C ((t0, eqS (rowV q' (m + l.length))) :: g) (putAt h j [rowE q' e st (m + l.length) (cs ++ l.flatMap f)])) : EffM P G gd n Hc o g h C :=
 .loc1 j (l_append_sl hop hx hy hq hl hf hb hm) hH hg ht hd fun s H' ⟨q', e0, e1, e2⟩ => by subst e1; subst e2; exact hr q' e0
end
theorem T_drawM [Mixed P] (M : Nat) (Ns : List Nat) (Hc : HL) {id : Nat} {l : List Oper} {Q : Exit → St → Prop} {n : Nat} {g : List (Nat × SV)} {h : HL} {d : List Nat} {i : Nat × Bool} (hok : drawOkM l M Ns = true) (hHc : Hc.Sublist h)
 (hr : RunM P G E r l n d i M (fun S' => Q .normal S') Ns 0 Hc g h) : T P G E r (.region id l.toArray true) ⟨n, g, h, d, i⟩ Q := (TA_drawM M Ns Hc hok hHc hr).T
theorem T_drawMS [Mixed P] (M : Nat) (Ns : List Nat) (Hc : HL) {id : Nat} {l : List Oper} {y : Code} {Q : Exit → St → Prop} {n : Nat} {g : List (Nat × SV)} {h : HL} {d : List Nat} {i : Nat × Bool} (hok : drawOkM l M Ns = true) (hHc : Hc.Sublist h)
  (hr : RunM P G E r l n d i M (fun S' => T P G E r y S' Q) Ns 0 Hc g h) : T P G E r (.seq (.region id l.toArray true) y) ⟨n, g, h, d, i⟩ Q :=
 T_seq (TA_drawM M Ns Hc hok hHc hr).T
theorem T_drawMPS [Mixed P] (p : List Nat) (M : Nat) (Ns : List Nat) (Hc : HL) {id : Nat} {l : List Oper} {y : Code} {Q : Exit → St → Prop} {n : Nat} {g : List (Nat × SV)} {h : HL} {d : List Nat} {i : Nat × Bool} (hp : permOk p l = true) (hok : drawOkM (permOps p l) M Ns = true) (hHc : Hc.Sublist h)
  (hr : RunM P G E r (permOps p l) n d i M (fun S' => T P G E r y S' Q) Ns 0 Hc g h) : T P G E r (.seq (.region id l.toArray true) y) ⟨n, g, h, d, i⟩ Q :=
 T_seq (TA_perm p hp (TA_drawM M Ns Hc hok hHc hr)).T
end
end Go.Sv
