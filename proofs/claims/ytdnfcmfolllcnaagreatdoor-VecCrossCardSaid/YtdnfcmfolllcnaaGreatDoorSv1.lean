/- A drawn region with several effects: the general rule; the rule for a new block and what is stored into it. -/
import Derived.Test.YtdnfcmfolllcnaaGreatDoorSvz
namespace Go.Sv
open Go Go.RowKit
section
variable {P : Program} {G : Imm} {E : Env} {r : Option Nat} {S : St}
/-- A region that draws its order, with effects among its first N operations: R says what is known when a part of these has been carried out. -/
theorem draw_soundG {l : List Oper} {N : Nat} (hed : edgesOk l = true) (hnd : nodupDst l = true) (hrd : readsOk l = true) (htail : tailOk l N = true) (hN : N ≤ l.length) {R : (Nat → Prop) → (Nat → SV) → HL → Prop} {K : St → Prop}
    (hst : ∀ i o, l[i]? = some o → i < N → (∀ t, o.dst = some t → t < S.n) ∧ ∀ (L : Nat → Prop) sv hc, R L sv hc → ¬ L i → (∀ e ∈ o.after.toList, Region.binds .any e = true → L e.on) → (∀ j o, l[j]? = some o → L j → ∀ e ∈ o.after.toList, Region.binds .any e = true → L e.on) →
      ((((OpOK P G hc o (gAt (l.take N) sv S.g i) (sv i) ∧ guardAt (gdOf l) (gAt (l.take N) sv S.g i) o true) ∨ (guardAt (gdOf l) (gAt (l.take N) sv S.g i) o false ∧ sv i = eqS undef)) ∧ R (fun j => j = i ∨ L j) sv hc) ∨
       (guardAt (gdOf l) (gAt (l.take N) sv S.g i) o true ∧ ∃ pre Hp suf Kl, hc = pre ++ Hp ++ suf ∧ OpL P G o (gAt (l.take N) sv S.g i) Hp Kl ∧ ∀ s H', Kl s H' → R (fun j => j = i ∨ L j) (upd sv i s) (pre ++ H' ++ suf))))
    (hK : ∀ (L : Nat → Prop) sv hc, R L sv hc → (∀ j, j < N → L j) → Run P G E r (gdOf l) false (l.drop N) { S with h := hc, g := gAt (l.take N) sv S.g (l.take N).length } K) :
    ∀ (fuel : Nat) (L : Array Bool) (hc : HL) (n : Nat) (Q : Exit → Act → World → Prop) (I : Imm) (F : Nat → Prop) (a : Act) (W : World) (sv : Nat → SV), countOff L ≤ fuel → R (Ld L) sv hc → Mid G E r l N sv { S with h := hc } L I F a W →
      (∀ S' I' F' a' W', Sat G E r S' I' F' a' W' → K S' → Fram (own { S with h := hc } F) I W (own S' F') I' W' → Q .normal a' W') → wpAnyIn (Fr r) n P .any l.toArray Q fuel L a W := by
  have hgd : ∀ j, gdOf l j = (l.toArray[j]?).bind (·.dst) := fun j => by simp [gdOf]
  intro fuel
  induction fuel with
  | zero =>
    intro L hc n Q I F a W sv hcf hR hm hk
    have hall : ∀ j, j < l.length → Ld L j := fun j hj => countOff_zero (by omega) (by rw [hm.size]; exact hj)
    exact tail_sound hgd htail hed (hK _ _ _ hR fun j hj => hall j (by omega)) N (Nat.le_refl _) rfl L hm.size (fun j hj => ⟨fun h => hm.low j h, fun _ => hall j hj⟩) 0 n Q I F a W (by
      rcases Nat.lt_or_ge N l.length with h | h
      · have := hm.low N (hall N h); omega
      · omega) (hm.done hN fun j hj => hall j (by omega)) hk
  | succ fuel ih =>
    intro L hc n Q I F a W sv hcf hR hm hk
    by_cases hall : ∀ j, j < N → Ld L j
    · have hcount : l.length ≤ N + countOff L := by
        have h1 : L.toList.count false = (L.toList.take N).count false + (L.toList.drop N).count false := by rw [← List.count_append, List.take_append_drop]
        have h2 : (L.toList.drop N).count false = (L.toList.drop N).length := by
          refine List.count_eq_length.2 fun b hb => ?_
          obtain ⟨k, hk1, hk2⟩ := List.mem_iff_getElem.1 hb
          have hk3 : N + k < L.size := by simp at hk1; omega
          have : ¬ Ld L (N + k) := fun h => by have := hm.low _ h; omega
          unfold Ld at this
          simp only [Array.getD_eq_getD_getElem?, Array.getElem?_eq_getElem hk3, Option.getD_some] at this
          rw [← hk2]; simp only [List.getElem_drop, Array.getElem_toList]; simpa using this
        have := hm.size
        unfold countOff; rw [h1, h2]; simp; omega
      exact tail_sound hgd htail hed (hK _ _ _ hR hall) N (Nat.le_refl _) rfl L hm.size (fun j hj => ⟨fun h => hm.low j h, fun h => hall j h⟩) (fuel + 1) n Q I F a W (by omega) (hm.done hN hall) hk
    · refine ⟨fun hnil => ?_, fun i hi => ?_⟩
      · exfalso
        obtain ⟨j, hj⟩ := Classical.not_forall.1 hall
        obtain ⟨hj1, hj2⟩ := Classical.not_imp.1 hj
        obtain ⟨m, ⟨hm1, hm2⟩, hm3⟩ := exists_least (p := fun j => j < N ∧ ¬ Ld L j) ⟨j, hj1, hj2⟩
        have : m ∈ Region.ready .any l.toArray L := (ready_spec hm.size).2 ⟨l[m]'(by omega), List.getElem?_eq_getElem (by omega), hm2, fun e he hb => by
          have h1 := edgesOk_spec hed (show l[m]? = some (l[m]'(by omega)) from List.getElem?_eq_getElem (by omega)) he hb
          by_cases hx : Ld L e.on
          · exact hx
          · have := hm3 e.on ⟨by omega, hx⟩; omega⟩
        rw [hnil] at this; cases this
      · obtain ⟨o, ho, hn, hpre0⟩ := (ready_spec hm.size).1 hi
        have hiN : i < N := by
          rcases Nat.lt_or_ge i N with h | h
          · exact h
          · exfalso
            refine hall fun j hj => ?_
            exact (tailOk_spec htail (lt_of_get ho) h (show j < i by omega)).listed (L := Ld L) hm.closed fun o' ho' => by rw [ho] at ho'; cases ho'; exact hpre0
        have hilt : i < L.size := by rw [hm.size]; exact lt_of_get ho
        have hcnt := countOff_set hilt hn
        have hset : (fun j => j = i ∨ Ld L j) = Ld (L.setIfInBounds i true) := by funext j; exact propext (Ld_set hilt).symm
        simp only [wpOpIn, List.getElem?_toArray, ho]
        obtain ⟨hdst, hst1⟩ := hst i o ho hiN
        rcases hst1 (Ld L) sv hc hR hn hpre0 hm.closed with ⟨hstep, hR'⟩ | ⟨hgN, pre, Hp, suf, Kl, hsp, heff, hR'⟩
        · rw [hset] at hR'
          rcases hstep with ⟨hop, hg⟩ | ⟨hg, hsv⟩
          · rw [hm.wanted hrd ho hiN hn hpre0 hg, if_pos rfl]
            refine hop n r I W a _ Q hm.sat.m hm.sat.h (hm.reads hrd ho hiN hn hpre0) fun v I' W' he hh hv => ?_
            exact ih _ _ n Q I' F _ W' sv (by omega) hR' (hm.step hnd ho hiN hdst hpre0 he hh hv) fun S'' I'' F'' a'' W'' h1 h2 h3 => hk S'' I'' F'' a'' W'' h1 h2 ((he.own _).trans h3)
          · rw [hm.wanted hrd ho hiN hn hpre0 hg, if_neg (by simp)]
            refine ⟨fun f _ => fn_true r f, ?_⟩
            exact ih _ _ n Q I F _ W sv (by omega) hR' (hm.step hnd ho hiN hdst hpre0 (Fram.refl _ _ _) hm.sat.m (by rw [hsv]; exact rfl)) hk
        · rw [hm.wanted hrd ho hiN hn hpre0 hgN, if_pos rfl]
          have hsub : Hp.Sublist hc := by rw [hsp]; exact (List.sublist_append_right pre Hp).trans (List.sublist_append_left _ _)
          have hpre : pre.Sublist hc := by rw [hsp, List.append_assoc]; exact List.sublist_append_left _ _
          have hsuf : suf.Sublist hc := by rw [hsp]; exact List.sublist_append_right _ _
          have hq0 : HoldsH Hp I W := hm.sat.h.less hsub
          refine heff n r I W a _ Q hm.sat.m hq0 (hm.reads hrd ho hiN hn hpre0) fun v I' W' s H' hkl hf hm' hh' hv => ?_
          have hh2 : HoldsH (pre ++ H' ++ suf) I' W' := HoldsH.frame (Hp := Hp) (by rw [← hsp]; exact hm.sat.h) hh' hf
          have hbq : ∀ b, b ∈ bs Hp → b ∈ bs hc := fun b hb => (bs_sub hsub).subset hb
          obtain ⟨s1, f1⟩ := hm.sat.turn (h' := (pre ++ H' ++ suf)) (O := (· ∈ bs Hp)) (O' := (· ∈ bs H')) hbq hf (fun b hb => by
            rw [bs_append, bs_append] at hb
            rcases List.mem_append.1 hb with hb | hb
            · rcases List.mem_append.1 hb with hb | hb
              · exact .inl ((bs_sub hpre).subset hb)
              · rcases hf.own b hb with h | h
                · exact .inl (hbq b h)
                · exact .inr h
            · exact .inl ((bs_sub hsuf).subset hb)) hm' hh2
          have hle : I.le I' := hf.imm
          have hm1 : Mid G E r l N (upd sv i s) { S with h := (pre ++ H' ++ suf) } L I' F a W' :=
            ⟨hm.size, s1, fun t s hl hno => s.mono _ _ _ hle (hm.old t s hl hno), fun j p d hp hj hd => by
              have hji : j ≠ i := fun e => hn (e ▸ hj)
              rw [upd_ne hji]
              exact (sv j).mono _ _ _ hle (hm.new j p d hp hj hd), hm.low, hm.closed⟩
          have hm2 := hm1.step hnd ho hiN hdst hpre0 (Fram.refl _ _ _) hm' (v := v) (by rw [upd_eq]; exact hv)
          have hR2 := hR' s H' hkl
          rw [hset] at hR2
          exact ih _ _ n Q I' F _ W' (upd sv i s) (by omega) hR2 hm2 fun S'' I'' F'' a'' W'' h1 h2 h3 => hk S'' I'' F'' a'' W'' h1 h2 (f1.trans h3)
def drawOkA (l : List Oper) (N : Nat) : Bool := edgesOk l && (nodupDst l && (readsOk l && tailOk l (N + 2)))
/-- the last two effects: a new block, and what is stored into it -/
structure EffAA (P : Program) (G : Imm) (E : Env) (r : Option Nat) (gd : Nat → Option Nat) (n : Nat) (h : HL) (d : List Nat) (ix : Nat × Bool) (oA oB : Oper) (rest : List Oper) (g : List (Nat × SV)) (K : St → Prop) : Prop where
  e : ∃ t m zs da x y s ds, IsZero P t zs ∧ HasSize P t m ∧ FlatC s ds ∧ oA.op = .alloc t ∧ oA.dst = some da ∧ oA.guard = none ∧ Nat.blt da n = true ∧ oB.op = .store t x y ∧ oB.dst = none ∧ oB.guard = none ∧ x = .tmp da ∧ y ≠ .tmp da ∧ opE g y = some s ∧ ds.length = m ∧ zs.length = ds.length ∧
    ∀ b, Run P G E r gd false rest ⟨n, (da, eqS (.pointer (some ⟨b, 0, none⟩))) :: g, ⟨some b, t, setAll (zs.map eqS) 0 ds, 0⟩ :: h, d, ix⟩ K
theorem opE_cons {g : List (Nat × SV)} {t : Nat} {s s' : SV} {y : Operand} (hy : y ≠ .tmp t) (h : opE g y = some s) : opE ((t, s') :: g) y = some s := by
  cases y with
  | tmp u =>
    simp only [opE, look] at h ⊢
    have : Nat.beq u t = false := by
      cases hb : Nat.beq u t with
      | false => rfl
      | true => exact absurd (congrArg Operand.tmp (Nat.eq_of_beq_eq_true hb)) hy
    rw [this]; exact h
  | const v => exact h
  | global b => exact h
  | func f => exact h
theorem TA_drawA (N : Nat) {l : List Oper} {oA oB : Oper} {Q : Exit → St → Prop} {n : Nat} {g : List (Nat × SV)} {h : HL} {d : List Nat} {i : Nat × Bool} (hok : drawOkA l N = true) (hoA : l[N]? = some oA) (hoB : l[N + 1]? = some oB)
    (hr : RunE P G (gdOf l) n h h (fun _ => false) 0 (l.take N) g (fun g' => EffAA P G E r (gdOf l) n h d i oA oB (l.drop (N + 2)) g' (fun S' => Q .normal S'))) : TA P G E r l ⟨n, g, h, d, i⟩ Q := by
  intro nn I F a W hs
  simp only [drawOkA, Bool.and_eq_true] at hok
  obtain ⟨hed, hnd, hrd, htail⟩ := hok
  obtain ⟨sv, ⟨t, m, zs, da, x, y, s, ds, hz, hsz, hfl, hAop, hAd, hAg, hdn, hBop, hBd, hBg, hx, hyx, hy, hm, hzl, hK⟩, hst⟩ := runE_parts hr
  have hNB := lt_of_get hoB
  have hd := ext_drawn hs.m (W.drawn + 1)
  have hs' := hs.keep hd.2 hd.1
  have hlen : (l.take N).length = N := by simp; omega
  have hlen2 : (l.take (N + 2)).length = N + 2 := by simp; omega
  rw [hlen] at hy
  simp only [hlen] at hK
  have e1 : ∀ (sv' : Nat → SV) k, (∀ j, j ≠ N → j ≠ N + 1 → sv' j = sv j) → k ≤ N → gAt (l.take (N + 2)) sv' g k = gAt (l.take N) sv g k := fun sv' k hsv hk => by
    rw [gAt_take hk, gAt_take (by omega)]; exact gAt_congr fun j hj => hsv j (by omega) (by omega)
  have e2 : ∀ (sv' : Nat → SV), (∀ j, j ≠ N → j ≠ N + 1 → sv' j = sv j) → gAt (l.take (N + 2)) sv' g (N + 1) = (da, sv' N) :: gAt (l.take N) sv g N := fun sv' hsv => by
    rw [gAt_last (o := oA) (by rw [take_get (by omega)]; exact hoA), hAd, e1 sv' N hsv (Nat.le_refl _)]; rfl
  have e3 : ∀ (sv' : Nat → SV), (∀ j, j ≠ N → j ≠ N + 1 → sv' j = sv j) → gAt (l.take (N + 2)) sv' g (l.take (N + 2)).length = (da, sv' N) :: gAt (l.take N) sv g N := fun sv' hsv => by
    rw [hlen2, gAt_none (o := oB) (by rw [take_get (by omega)]; exact hoB) hBd, e2 sv' hsv]
  have hBA : Reach l (N + 1) N := by
    have := readsOk_spec hrd hoB (t := da) (looksAt_tmp (by rw [hBop, hx]; simp [Op.operands])) hoA hAd
    rcases this with h1 | ⟨_, h1⟩ | ⟨h1, _⟩
    · omega
    · exact h1
    · omega
  refine draw_soundG (P := P) (G := G) (E := E) (r := r) (S := ⟨n, g, h, d, i⟩) (N := N + 2) (K := fun S' => Q .normal S')
    (R := fun L sv' hc => (∀ j, j ≠ N → j ≠ N + 1 → sv' j = sv j) ∧ ((¬ L N ∧ ¬ L (N + 1) ∧ hc = h) ∨ (L N ∧ ¬ L (N + 1) ∧ ∃ b, sv' N = eqS (.pointer (some ⟨b, 0, none⟩)) ∧ hc = ⟨some b, t, zs.map eqS, 0⟩ :: h) ∨ (L N ∧ L (N + 1) ∧ ∃ b, sv' N = eqS (.pointer (some ⟨b, 0, none⟩)) ∧ hc = ⟨some b, t, setAll (zs.map eqS) 0 ds, 0⟩ :: h)))
    hed hnd hrd htail (by omega) (fun k o hk hkN => ?_) (fun L sv' hc hR hall => ?_) _ _ h nn (post G E r Q (own ⟨n, g, h, d, i⟩ F) I W) I F a _ sv ?_ ⟨fun _ _ _ => rfl, .inl ⟨?_, ?_, rfl⟩⟩ ?_ ?_
  · by_cases hkA : k = N
    · subst hkA
      rw [hoA] at hk; cases hk
      refine ⟨fun u hu => by rw [hAd] at hu; cases hu; exact Nat.le_of_ble_eq_true hdn, fun L sv' hc hR hn hpre hcl => .inr ⟨by simp [guardAt, hAg], ?_⟩⟩
      obtain ⟨hsv, hph⟩ := hR
      have hh : hc = h ∧ ¬ L (k + 1) := by
        rcases hph with ⟨_, h1, h2⟩ | ⟨h1, _⟩ | ⟨h1, _⟩
        · exact ⟨h2, h1⟩
        · exact absurd h1 hn
        · exact absurd h1 hn
      refine ⟨[], [], h, _, hh.1, l_alloc hAop, fun s' H' ⟨b, h1, h2⟩ => ⟨fun j j1 j2 => by rw [upd_ne j1]; exact hsv j j1 j2, .inr (.inl ⟨.inl rfl, fun h3 => ?_, b, by rw [upd_eq, h1], by rw [h2]; rfl⟩)⟩⟩
      rcases h3 with h3 | h3
      · omega
      · exact hh.2 h3
    · by_cases hkB : k = N + 1
      · subst hkB
        rw [hoB] at hk; cases hk
        refine ⟨fun u hu => (by rw [hBd] at hu; cases hu), fun L sv' hc hR hn hpre hcl => .inr ⟨by simp [guardAt, hBg], ?_⟩⟩
        obtain ⟨hsv, hph⟩ := hR
        have hLN : L N := hBA.listed (L := L) hcl fun o' ho' => by rw [hoB] at ho'; cases ho'; exact hpre
        obtain ⟨b, hb1, hb2⟩ : ∃ b, sv' N = eqS (.pointer (some ⟨b, 0, none⟩)) ∧ hc = ⟨some b, t, zs.map eqS, 0⟩ :: h := by
          rcases hph with ⟨h1, _⟩ | ⟨_, _, h2⟩ | ⟨_, h1, _⟩
          · exact absurd hLN h1
          · exact h2
          · exact absurd h1 hn
        rw [e2 sv' hsv, hb1]
        have hyy : opE ((da, eqS (.pointer (some ⟨b, 0, none⟩))) :: gAt (l.take N) sv g N) y = some s := opE_cons hyx hy
        have hxx : opE ((da, eqS (.pointer (some ⟨b, 0, none⟩))) :: gAt (l.take N) sv g N) x = some (eqS (.pointer (some ⟨b, 0, none⟩))) := by rw [hx]; simp [opE, look]
        refine ⟨[], [⟨some b, t, zs.map eqS, 0⟩], h, _, hb2, l_store (hsz := hsz) (hf := hfl) hBop hxx hyy hm (by rw [Nat.zero_add, List.length_map, hzl]; exact Nat.le_refl _), fun s' H' ⟨h1, h2⟩ => ⟨fun j j1 j2 => by rw [upd_ne j2]; exact hsv j j1 j2, .inr (.inr ⟨.inr hLN, .inl rfl, b, by rw [upd_ne (by omega)]; exact hb1, by rw [h2]; rfl⟩)⟩⟩
      · have hkN2 : k < N := by omega
        obtain ⟨g1, g2⟩ := hst k o (by rw [take_get hkN2]; exact hk)
        refine ⟨g1, fun L sv' hc hR hn hpre hcl => .inl ⟨?_, hR.1, ?_⟩⟩
        · rw [e1 sv' k hR.1 (by omega), hR.1 k hkA hkB]
          rcases g2 with ⟨⟨h1, h2⟩ | h1, h3⟩ | h1
          · cases h2
          · refine .inl ⟨?_, h3⟩
            refine HoldsH.sub_ok ?_ h1
            rcases hR.2 with ⟨_, _, h2⟩ | ⟨_, _, _, _, h2⟩ | ⟨_, _, _, _, h2⟩
            · rw [h2]; exact List.Sublist.refl _
            · rw [h2]; exact List.sublist_cons_self _ _
            · rw [h2]; exact List.sublist_cons_self _ _
          · exact .inr h1
        · rcases hR.2 with ⟨h1, h2, h3⟩ | ⟨h1, h2, h3⟩ | ⟨h1, h2, h3⟩
          · exact .inl ⟨fun h => h.elim (fun e => hkA e.symm) h1, fun h => h.elim (fun e => hkB e.symm) h2, h3⟩
          · exact .inr (.inl ⟨.inr h1, fun h => h.elim (fun e => hkB e.symm) h2, h3⟩)
          · exact .inr (.inr ⟨.inr h1, .inr h2, h3⟩)
  · obtain ⟨hsv, hph⟩ := hR
    have hN1 := hall N (by omega)
    have hN2 := hall (N + 1) (by omega)
    rcases hph with ⟨h1, _⟩ | ⟨_, h1, _⟩ | ⟨_, _, b, hb1, hb2⟩
    · exact absurd hN1 h1
    · exact absurd hN2 h1
    · have := hK b
      simp only [e3 sv' hsv, hb1, hb2]; exact this
  · simp [countOff]
  · unfold Ld; simp only [Array.getD_eq_getD_getElem?, Array.getElem?_replicate]; split <;> simp
  · unfold Ld; simp only [Array.getD_eq_getD_getElem?, Array.getElem?_replicate]; split <;> simp
  · have hL : ∀ j, ¬ Ld (Array.replicate l.length false) j := fun j => by
      unfold Ld; simp only [Array.getD_eq_getD_getElem?, Array.getElem?_replicate]; split <;> simp
    exact ⟨by simp, ⟨hs'.n, fun t s h => (by cases h), hs'.m, hs'.h, hs'.d, hs'.dn, hs'.dk, hs'.e, hs'.f, hs'.l⟩, fun t s hl _ => hs'.g t s hl, fun j o d _ hj => absurd hj (hL j), fun j hj => absurd hj (hL j), fun j o _ hj => absurd hj (hL j)⟩
  · intro S' I' F' a' W' h1 h2 h3
    exact ⟨S', I', F', h1, h2, (hd.2.own _).trans h3⟩
theorem EffAA.mk1 {gd : Nat → Option Nat} {n : Nat} {h : HL} {d : List Nat} {ix : Nat × Bool} {oA oB : Oper} {rest : List Oper} {g : List (Nat × SV)} {K : St → Prop} {t m : TypeId} {zs : List Value} {da : Nat} {x y : Operand} {s : SV} {ds : List SV} [IsZero P t zs] [HasSize P t m] [FlatC s ds] (h1 : oA.op = .alloc t) (h2 : oA.dst = some da) (h3 : oA.guard = none) (h4 : Nat.blt da n = true) (h5 : oB.op = .store t x y) (h6 : oB.dst = none) (h7 : oB.guard = none) (h8 : x = .tmp da) (h9 : y ≠ .tmp da) (h10 : opE g y = some s) (h11 : ds.length = m) (h12 : zs.length = ds.length)
    (h13 : ∀ b, Run P G E r gd false rest ⟨n, (da, eqS (.pointer (some ⟨b, 0, none⟩))) :: g, ⟨some b, t, setAll (zs.map eqS) 0 ds, 0⟩ :: h, d, ix⟩ K) : EffAA P G E r gd n h d ix oA oB rest g K :=
  ⟨⟨t, m, zs, da, x, y, s, ds, inferInstance, inferInstance, inferInstance, h1, h2, h3, h4, h5, h6, h7, h8, h9, h10, h11, h12, h13⟩⟩
theorem T_drawAS [Mixed P] (N : Nat) {id : Nat} {l : List Oper} {oA oB : Oper} {y : Code} {Q : Exit → St → Prop} {n : Nat} {g : List (Nat × SV)} {h : HL} {d : List Nat} {i : Nat × Bool} (hok : drawOkA l N = true) (hoA : l[N]? = some oA) (hoB : l[N + 1]? = some oB)
    (hr : RunE P G (gdOf l) n h h (fun _ => false) 0 (l.take N) g (fun g' => EffAA P G E r (gdOf l) n h d i oA oB (l.drop (N + 2)) g' (fun S' => T P G E r y S' Q))) : T P G E r (.seq (.region id l.toArray true) y) ⟨n, g, h, d, i⟩ Q :=
  T_seq (TA_drawA N hok hoA hoB hr).T
theorem T_drawAPS [Mixed P] (p : List Nat) (N : Nat) {id : Nat} {l : List Oper} {oA oB : Oper} {y : Code} {Q : Exit → St → Prop} {n : Nat} {g : List (Nat × SV)} {h : HL} {d : List Nat} {i : Nat × Bool} (hp : permOk p l = true) (hok : drawOkA (permOps p l) N = true) (hoA : (permOps p l)[N]? = some oA) (hoB : (permOps p l)[N + 1]? = some oB)
    (hr : RunE P G (gdOf (permOps p l)) n h h (fun _ => false) 0 ((permOps p l).take N) g (fun g' => EffAA P G E r (gdOf (permOps p l)) n h d i oA oB ((permOps p l).drop (N + 2)) g' (fun S' => T P G E r y S' Q))) : T P G E r (.seq (.region id l.toArray true) y) ⟨n, g, h, d, i⟩ Q :=
  T_seq (TA_perm p hp (TA_drawA N hok hoA hoB hr)).T
end
end Go.Sv
