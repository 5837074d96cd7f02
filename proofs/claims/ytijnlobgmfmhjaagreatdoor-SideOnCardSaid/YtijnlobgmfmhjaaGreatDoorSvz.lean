/- A drawn region with one effect that yields a value and does not wait for all pure operations ahead of it; append of so many noughts; calls that are handed several owned blocks; slices of owned rows. -/
import Derived.Test.YtijnlobgmfmhjaaGreatDoorSvw
import Derived.Lib.AppendZerosOnto
namespace Go.Sv
open Go Go.RowKit
section
variable {P : Program} {G : Imm} {E : Env} {r : Option Nat} {S : St}
def upd (sv : Nat → SV) (N : Nat) (s : SV) : Nat → SV := fun i => if i = N then s else sv i
theorem upd_eq {sv : Nat → SV} {N : Nat} {s : SV} : upd sv N s N = s := by simp [upd]
theorem upd_ne {sv : Nat → SV} {N i : Nat} {s : SV} (h : i ≠ N) : upd sv N s i = sv i := by simp [upd, h]
theorem upd_self {sv sv' : Nat → SV} {N : Nat} (h : ∀ i, i ≠ N → sv' i = sv i) : upd sv N (sv' N) = sv' := by
  funext i; by_cases e : i = N
  · subst e; rw [upd_eq]
  · rw [upd_ne e, h i e]
theorem gAt_congr : ∀ {l : List Oper} {k : Nat} {sv sv' : Nat → SV} {g : List (Nat × SV)}, (∀ j, j < k → sv j = sv' j) → gAt l sv g k = gAt l sv' g k
  | [], _, _, _, _, _ => by simp [gAt]
  | _ :: _, 0, _, _, _, _ => by rw [gAt_zero, gAt_zero]
  | o :: l, k + 1, sv, sv', g, h => by
    rw [gAt_succ, gAt_succ, h 0 (by omega)]
    exact gAt_congr fun j hj => h (j + 1) (by omega)
theorem gAt_last : ∀ {l : List Oper} {i : Nat} {o : Oper} {sv : Nat → SV} {g : List (Nat × SV)}, l[i]? = some o → gAt l sv g (i + 1) = setG o.dst (sv i) (gAt l sv g i)
  | [], i, o, sv, g, h => by simp at h
  | p :: l, 0, o, sv, g, h => by
    simp at h; subst h
    rw [gAt_succ, gAt_zero, gAt_zero]
  | p :: l, i + 1, o, sv, g, h => by
    rw [gAt_succ, gAt_succ]
    exact gAt_last (by simpa using h)
/-- the effect, its value, and what comes behind it -/
def EffAtD (P : Program) (G : Imm) (E : Env) (r : Option Nat) (gd : Nat → Option Nat) (o : Oper) (rest : List Oper) (Hc : HL) (S1 : St) (K : St → Prop) : Prop :=
  ∃ pre Hp suf Kl, S1.h = pre ++ Hp ++ suf ∧ OpL P G o S1.g Hp Kl ∧ guardAt gd S1.g o true ∧ dstOk o S1.n = true ∧ ∀ s H', Kl s H' → Hc.Sublist (pre ++ H' ++ suf) ∧ Run P G E r gd false rest { S1 with h := pre ++ H' ++ suf, g := setG o.dst s S1.g } K
theorem draw_soundF {l : List Oper} {N : Nat} (hok : drawOkE l N = true) {oN : Oper} (hoN : l[N]? = some oN) {sv : Nat → SV} {K : St → Prop} {Hc : HL} (hHc : Hc.Sublist S.h) {pre Hp suf : HL} {Kl : SV → HL → Prop} (hsp : S.h = pre ++ Hp ++ suf)
    (hst : ∀ i o, l[i]? = some o → i < N → (∀ t, o.dst = some t → t < S.n) ∧ ((((OpOK P G S.h o (gAt (l.take (N + 1)) sv S.g i) (sv i) ∧ earlyOf l N i = true) ∨ OpOK P G Hc o (gAt (l.take (N + 1)) sv S.g i) (sv i)) ∧ guardAt (gdOf l) (gAt (l.take (N + 1)) sv S.g i) o true) ∨ (guardAt (gdOf l) (gAt (l.take (N + 1)) sv S.g i) o false ∧ sv i = eqS undef)))
    (heff : OpL P G oN (gAt (l.take (N + 1)) sv S.g N) Hp Kl) (hgN : guardAt (gdOf l) (gAt (l.take (N + 1)) sv S.g N) oN true) (hdN : ∀ t, oN.dst = some t → t < S.n)
    (hK : ∀ s H', Kl s H' → Hc.Sublist ((pre ++ H' ++ suf)) ∧ Run P G E r (gdOf l) false (l.drop (N + 1)) { S with h := (pre ++ H' ++ suf), g := gAt (l.take (N + 1)) (upd sv N s) S.g (l.take (N + 1)).length } K) :
    ∀ (fuel : Nat) (L : Array Bool) (hc : HL) (n : Nat) (Q : Exit → Act → World → Prop) (I : Imm) (F : Nat → Prop) (a : Act) (W : World), countOff L ≤ fuel → (sv' : Nat → SV) → (∀ i, i ≠ N → sv' i = sv i) → Mid G E r l (N + 1) sv' { S with h := hc } L I F a W →
      ((¬ Ld L N ∧ hc = S.h) ∨ (Ld L N ∧ ∃ H', Kl (sv' N) H' ∧ hc = (pre ++ H' ++ suf))) →
      (∀ S' I' F' a' W', Sat G E r S' I' F' a' W' → K S' → Fram (own { S with h := hc } F) I W (own S' F') I' W' → Q .normal a' W') → wpAnyIn (Fr r) n P .any l.toArray Q fuel L a W := by
  simp only [drawOkE, Bool.and_eq_true] at hok
  obtain ⟨hed, hnd, hrd, htail⟩ := hok
  have hgd : ∀ j, gdOf l j = (l.toArray[j]?).bind (·.dst) := fun j => by simp [gdOf]
  have hN : N + 1 ≤ l.length := lt_of_get hoN
  intro fuel
  induction fuel with
  | zero =>
    intro L hc n Q I F a W hcf sv' hsv' hm hph hk
    have hup : upd sv N (sv' N) = sv' := upd_self hsv'
    have hga : ∀ k, k ≤ N → gAt (l.take (N + 1)) sv S.g k = gAt (l.take (N + 1)) sv' S.g k := fun k hk => gAt_congr fun j hj => (hsv' j (by omega)).symm
    have hall : ∀ j, j < l.length → Ld L j := fun j hj => countOff_zero (by omega) (by rw [hm.size]; exact hj)
    have hNl : N + 1 = l.length := by
      rcases Nat.lt_or_ge (N + 1) l.length with h | h
      · have := hm.low (N + 1) (hall (N + 1) h); omega
      · omega
    rcases hph with ⟨h1, _⟩ | ⟨_, H', hkl, rfl⟩
    · exact absurd (hall N (by omega)) h1
    exact tail_sound hgd htail hed (by have h1 := (hK _ H' hkl).2; rw [hup] at h1; exact h1) (N + 1) (Nat.le_refl _) rfl L hm.size (fun j hj => ⟨fun h => hm.low j h, fun _ => hall j hj⟩) 0 n Q I F a W (by omega) (hm.done hN fun j hj => hall j (by omega)) hk
  | succ fuel ih =>
    intro L hc n Q I F a W hcf sv' hsv' hm hph hk
    have hup : upd sv N (sv' N) = sv' := upd_self hsv'
    have hga : ∀ k, k ≤ N → gAt (l.take (N + 1)) sv S.g k = gAt (l.take (N + 1)) sv' S.g k := fun k hk => gAt_congr fun j hj => (hsv' j (by omega)).symm
    by_cases hall : ∀ j, j < N + 1 → Ld L j
    · have hcount : l.length ≤ (N + 1) + countOff L := by
        have h1 : L.toList.count false = (L.toList.take (N + 1)).count false + (L.toList.drop (N + 1)).count false := by rw [← List.count_append, List.take_append_drop]
        have h2 : (L.toList.drop (N + 1)).count false = (L.toList.drop (N + 1)).length := by
          refine List.count_eq_length.2 fun b hb => ?_
          obtain ⟨k, hk1, hk2⟩ := List.mem_iff_getElem.1 hb
          have hk3 : N + 1 + k < L.size := by simp at hk1; omega
          have : ¬ Ld L (N + 1 + k) := fun h => by have := hm.low _ h; omega
          unfold Ld at this
          simp only [Array.getD_eq_getD_getElem?, Array.getElem?_eq_getElem hk3, Option.getD_some] at this
          rw [← hk2]; simp only [List.getElem_drop, Array.getElem_toList]; simpa using this
        have := hm.size
        unfold countOff; rw [h1, h2]; simp; omega
      rcases hph with ⟨h1, _⟩ | ⟨_, H', hkl, rfl⟩
      · exact absurd (hall N (by omega)) h1
      exact tail_sound hgd htail hed (by have h1 := (hK _ H' hkl).2; rw [hup] at h1; exact h1) (N + 1) (Nat.le_refl _) rfl L hm.size (fun j hj => ⟨fun h => hm.low j h, fun h => hall j h⟩) (fuel + 1) n Q I F a W (by omega) (hm.done hN hall) hk
    · refine ⟨fun hnil => ?_, fun i hi => ?_⟩
      · exfalso
        obtain ⟨j, hj⟩ := Classical.not_forall.1 hall
        obtain ⟨hj1, hj2⟩ := Classical.not_imp.1 hj
        obtain ⟨m, ⟨hm1, hm2⟩, hm3⟩ := exists_least (p := fun j => j < N + 1 ∧ ¬ Ld L j) ⟨j, hj1, hj2⟩
        have : m ∈ Region.ready .any l.toArray L := (ready_spec hm.size).2 ⟨l[m]'(by omega), List.getElem?_eq_getElem (by omega), hm2, fun e he hb => by
          have h1 := edgesOk_spec hed (show l[m]? = some (l[m]'(by omega)) from List.getElem?_eq_getElem (by omega)) he hb
          by_cases hx : Ld L e.on
          · exact hx
          · have := hm3 e.on ⟨by omega, hx⟩; omega⟩
        rw [hnil] at this; cases this
      · obtain ⟨o, ho, hn, hpre0⟩ := (ready_spec hm.size).1 hi
        have hiN : i < N + 1 := by
          rcases Nat.lt_or_ge i (N + 1) with h | h
          · exact h
          · exfalso
            refine hall fun j hj => ?_
            exact (tailOk_spec htail (lt_of_get ho) h (show j < i by omega)).listed (L := Ld L) hm.closed fun o' ho' => by rw [ho] at ho'; cases ho'; exact hpre0
        have hilt : i < L.size := by rw [hm.size]; exact lt_of_get ho
        have hcnt := countOff_set hilt hn
        simp only [wpOpIn, List.getElem?_toArray, ho]
        by_cases hiE : i = N
        · subst hiE
          rw [hoN] at ho; cases ho
          rw [hga i (Nat.le_refl _)] at hgN heff
          rw [hm.wanted hrd hoN hiN hn hpre0 hgN, if_pos rfl]
          obtain ⟨_, rfl⟩ : ¬ Ld L i ∧ hc = S.h := by
            rcases hph with h | ⟨h, _⟩
            · exact h
            · exact absurd h hn
          have hsub : Hp.Sublist S.h := by rw [hsp]; exact (List.sublist_append_right pre Hp).trans (List.sublist_append_left _ _)
          have hpre : pre.Sublist S.h := by rw [hsp, List.append_assoc]; exact List.sublist_append_left _ _
          have hsuf : suf.Sublist S.h := by rw [hsp]; exact List.sublist_append_right _ _
          have hq0 : HoldsH Hp I W := hm.sat.h.less hsub
          refine heff n r I W a _ Q hm.sat.m hq0 (hm.reads hrd hoN hiN hn hpre0) fun v I' W' s H' hkl hf hm' hh' hv => ?_
          have hh2 : HoldsH ((pre ++ H' ++ suf)) I' W' := by
            exact HoldsH.frame (Hp := Hp) (by rw [← hsp]; exact hm.sat.h) hh' hf
          have hbq : ∀ b, b ∈ bs Hp → b ∈ bs S.h := fun b hb => (bs_sub hsub).subset hb
          obtain ⟨s1, f1⟩ := hm.sat.turn (h' := (pre ++ H' ++ suf)) (O := (· ∈ bs Hp)) (O' := (· ∈ bs H')) hbq hf (fun b hb => by
            rw [bs_append, bs_append] at hb
            rcases List.mem_append.1 hb with hb | hb
            · rcases List.mem_append.1 hb with hb | hb
              · exact .inl ((bs_sub hpre).subset hb)
              · rcases hf.own b hb with h | h
                · exact .inl (hbq b h)
                · exact .inr h
            · exact .inl ((bs_sub hsuf).subset hb)) hm' hh2
          have hle : I.le I' := hf.imm
          have hm1 : Mid G E r l (i + 1) (upd sv' i s) { S with h := (pre ++ H' ++ suf) } L I' F a W' :=
            ⟨hm.size, s1, fun t s hl hno => s.mono _ _ _ hle (hm.old t s hl hno), fun j p d hp hj hd => by
              have hji : j ≠ i := fun e => hn (e ▸ hj)
              rw [upd_ne hji]
              exact (sv' j).mono _ _ _ hle (hm.new j p d hp hj hd), hm.low, hm.closed⟩
          have hm2 := hm1.step hnd hoN hiN hdN hpre0 (Fram.refl _ _ _) hm' (v := v) (by rw [upd_eq]; exact hv)
          exact ih _ _ n Q I' F _ W' (by omega) (upd sv' i s) (fun k hk => by rw [upd_ne hk]; exact hsv' k hk) hm2 (.inr ⟨(Ld_set hilt).2 (.inl rfl), H', by rw [upd_eq]; exact hkl, rfl⟩) fun S'' I'' F'' a'' W'' h1 h2 h3 => hk S'' I'' F'' a'' W'' h1 h2 (f1.trans h3)
        · obtain ⟨hdst, hstep⟩ := hst i o ho (by omega)
          have hph' : (¬ Ld (L.setIfInBounds i true) N ∧ hc = S.h) ∨ (Ld (L.setIfInBounds i true) N ∧ ∃ H', Kl (sv' N) H' ∧ hc = (pre ++ H' ++ suf)) := by
            rcases hph with ⟨h1, h2⟩ | ⟨h1, h2⟩
            · refine .inl ⟨fun h => ?_, h2⟩
              rcases (Ld_set hilt).1 h with e | h
              · exact hiE e.symm
              · exact h1 h
            · exact .inr ⟨(Ld_set hilt).2 (.inr h1), h2⟩
          rw [hga i (by omega), ← hsv' i hiE] at hstep
          rcases hstep with ⟨hop, hg⟩ | ⟨hg, hsv⟩
          · rw [hm.wanted hrd ho hiN hn hpre0 hg, if_pos rfl]
            have hop' : OpOK P G hc o (gAt (l.take (N + 1)) sv' S.g i) (sv' i) := by
              rcases hop with ⟨hop, hea⟩ | hop
              · rcases hph with ⟨_, rfl⟩ | ⟨hl, _⟩
                · exact hop
                · exact absurd ((masks_reach hea).listed (L := Ld L) hm.closed fun o' ho' => by rw [hoN] at ho'; cases ho'; exact hm.closed N oN hoN hl) hn
              · rcases hph with ⟨_, rfl⟩ | ⟨_, H', hkl, rfl⟩
                · exact HoldsH.sub_ok hHc hop
                · exact HoldsH.sub_ok (hK _ H' hkl).1 hop
            refine hop' n r I W a _ Q hm.sat.m hm.sat.h (hm.reads hrd ho hiN hn hpre0) fun v I' W' he hh hv => ?_
            exact ih _ _ n Q I' F _ W' (by omega) sv' hsv' (hm.step hnd ho hiN hdst hpre0 he hh hv) hph' fun S'' I'' F'' a'' W'' h1 h2 h3 => hk S'' I'' F'' a'' W'' h1 h2 ((he.own _).trans h3)
          · rw [hm.wanted hrd ho hiN hn hpre0 hg, if_neg (by simp)]
            refine ⟨fun f _ => fn_true r f, ?_⟩
            exact ih _ _ n Q I F _ W (by omega) sv' hsv' (hm.step hnd ho hiN hdst hpre0 (Fram.refl _ _ _) hm.sat.m (by rw [hsv]; exact rfl)) hph' hk
theorem TA_drawF (N : Nat) (Hc : HL) {l : List Oper} {oN : Oper} {Q : Exit → St → Prop} {n : Nat} {g : List (Nat × SV)} {h : HL} {d : List Nat} {i : Nat × Bool} (hok : drawOkE l N = true) (hoN : l[N]? = some oN) (hHc : Hc.Sublist h)
    (hr : RunE P G (gdOf l) n h Hc (earlyOf l N) 0 (l.take N) g (fun g' => EffAtD P G E r (gdOf l) oN (l.drop (N + 1)) Hc ⟨n, g', h, d, i⟩ (fun S' => Q .normal S'))) : TA P G E r l ⟨n, g, h, d, i⟩ Q := by
  intro nn I F a W hs
  obtain ⟨sv, ⟨pre, Hp, suf, Kl, hq, heff, hgN, hdN, hK⟩, hst⟩ := runE_parts hr
  simp only at hq heff hgN hK hdN
  have hN := lt_of_get hoN
  have hd := ext_drawn hs.m (W.drawn + 1)
  have hs' := hs.keep hd.2 hd.1
  have hlen : (l.take N).length = N := by simp; omega
  have hlen1 : (l.take (N + 1)).length = N + 1 := by simp; omega
  have e1 : ∀ k, k ≤ N → gAt (l.take N) sv g k = gAt (l.take (N + 1)) sv g k := fun k hk => by rw [gAt_take hk, gAt_take (by omega)]
  rw [hlen, e1 N (Nat.le_refl _)] at heff hgN hK
  have e2 : ∀ s, gAt (l.take (N + 1)) (upd sv N s) g (l.take (N + 1)).length = setG oN.dst s (gAt (l.take (N + 1)) sv g N) := fun s => by
    rw [hlen1, gAt_last (o := oN) (by rw [take_get (by omega)]; exact hoN), upd_eq, gAt_congr fun j hj => upd_ne (show j ≠ N by omega)]
  refine draw_soundF (P := P) (G := G) (E := E) (r := r) (S := ⟨n, g, h, d, i⟩) (K := fun S' => Q .normal S') hok hoN hHc hq (fun k o hk hkN => ?_) heff hgN (dstOk_spec hdN) (fun s H' hkl => ?_) _ _ h nn (post G E r Q (own ⟨n, g, h, d, i⟩ F) I W) I F a _ ?_ sv (fun _ _ => rfl) ?_ (.inl ⟨?_, rfl⟩) ?_
  · have h1 := hst k o (by rw [take_get hkN]; exact hk)
    rw [e1 k (by omega), Nat.zero_add] at h1
    exact h1
  · have h1 := hK s H' hkl
    refine ⟨h1.1, ?_⟩
    simp only [e2]; exact h1.2
  · simp [countOff]
  · have hL : ∀ j, ¬ Ld (Array.replicate l.length false) j := fun j => by
      unfold Ld; simp only [Array.getD_eq_getD_getElem?, Array.getElem?_replicate]; split <;> simp
    exact ⟨by simp, ⟨hs'.n, fun t s h => (by cases h), hs'.m, hs'.h, hs'.d, hs'.dn, hs'.dk, hs'.e, hs'.f, hs'.l⟩, fun t s hl _ => hs'.g t s hl, fun j o d _ hj => absurd hj (hL j), fun j hj => absurd hj (hL j), fun j o _ hj => absurd hj (hL j)⟩
  · unfold Ld; simp only [Array.getD_eq_getD_getElem?, Array.getElem?_replicate]; split <;> simp
  · intro S' I' F' a' W' h1 h2 h3
    exact ⟨S', I', F', h1, h2, (hd.2.own _).trans h3⟩
theorem T_drawF [hmx : Mixed P] (N : Nat) (Hc : HL) {id : Nat} {l : List Oper} {oN : Oper} {Q : Exit → St → Prop} {n : Nat} {g : List (Nat × SV)} {h : HL} {d : List Nat} {i : Nat × Bool} (hok : drawOkE l N = true) (hoN : l[N]? = some oN) (hHc : Hc.Sublist h)
    (hr : RunE P G (gdOf l) n h Hc (earlyOf l N) 0 (l.take N) g (fun g' => EffAtD P G E r (gdOf l) oN (l.drop (N + 1)) Hc ⟨n, g', h, d, i⟩ (fun S' => Q .normal S'))) : T P G E r (.region id l.toArray true) ⟨n, g, h, d, i⟩ Q := (TA_drawF N Hc hok hoN hHc hr).T
theorem T_drawFS [Mixed P] (N : Nat) (Hc : HL) {id : Nat} {l : List Oper} {oN : Oper} {y : Code} {Q : Exit → St → Prop} {n : Nat} {g : List (Nat × SV)} {h : HL} {d : List Nat} {i : Nat × Bool} (hok : drawOkE l N = true) (hoN : l[N]? = some oN) (hHc : Hc.Sublist h)
    (hr : RunE P G (gdOf l) n h Hc (earlyOf l N) 0 (l.take N) g (fun g' => EffAtD P G E r (gdOf l) oN (l.drop (N + 1)) Hc ⟨n, g', h, d, i⟩ (fun S' => T P G E r y S' Q))) : T P G E r (.seq (.region id l.toArray true) y) ⟨n, g, h, d, i⟩ Q := T_seq (T_drawF N Hc hok hoN hHc hr)
theorem T_drawFPS [Mixed P] (p : List Nat) (N : Nat) (Hc : HL) {id : Nat} {l : List Oper} {oN : Oper} {y : Code} {Q : Exit → St → Prop} {n : Nat} {g : List (Nat × SV)} {h : HL} {d : List Nat} {i : Nat × Bool} (hp : permOk p l = true) (hok : drawOkE (permOps p l) N = true) (hoN : (permOps p l)[N]? = some oN) (hHc : Hc.Sublist h)
    (hr : RunE P G (gdOf (permOps p l)) n h Hc (earlyOf (permOps p l) N) 0 ((permOps p l).take N) g (fun g' => EffAtD P G E r (gdOf (permOps p l)) oN ((permOps p l).drop (N + 1)) Hc ⟨n, g', h, d, i⟩ (fun S' => T P G E r y S' Q))) : T P G E r (.seq (.region id l.toArray true) y) ⟨n, g, h, d, i⟩ Q :=
  T_seq (TA_perm p hp (TA_drawF N Hc hok hoN hHc hr)).T
end
section
variable {P : Program} {G : Imm} {E : Env} {r : Option Nat} {S : St} {gd : Nat → Option Nat} {p : Bool} {o : Oper} {ops : List Oper} {K : St → Prop}
theorem zeroCells_row (zs : List Value) (n : Nat) : (Builtin.zeroCells zs.toArray n).toList = zeroRow zs (n * zs.length) := by
  have : Builtin.zeroCells zs.toArray n = madeCells zs.toArray (n * zs.length) := by simp [Builtin.zeroCells, madeCells]
  rw [this, madeCells_zeroRow]
theorem run_append_own_zeros {t tn ty e st bytes : Nat} {kq kn : IntKind} {zs : List Value} [IsSl P t e st] [hti : IsInt P tn kn] [he : IsElem P e zs bytes] {W : World} {b cp n m : Nat} {xs : List Value} (hown : W.ownsRow 0 e st (.slice (some ⟨b, 0, none⟩) n cp) n xs)
    (h63 : n + m ≤ maxLen) (hbytes : (n + m) * bytes ≤ 140737488355328) :
    ∃ v' W', (Builtin.append_ #[t, tn] ty #[.slice (some ⟨b, 0, none⟩) n cp, .int kq m]).run P W = .ok v' W' ∧ W'.ownsRow 0 e st v' (n + m) (xs ++ zeroRow zs (m * st)) ∧ W.grownBy W' (some b) ∧ (v'.ownBlock = some b ∨ v'.ownBlock = some W.heap.size) := by
  obtain ⟨i, hi, his⟩ := IsSl.i (P := P) (t := t) (e := e) (st := st)
  obtain ⟨i', z, hi', hz1, hz2, hz3, hz4⟩ := he.i
  rw [hi] at hi'; cases hi'
  have hu := IsSl.u (P := P) (t := t) (e := e) (st := st)
  have htn := hti.h
  have hst : 0 < st := by rw [← his, hz3]; exact List.length_pos_iff.2 he.pos
  have hzl : zs.length = st := by omega
  have hsmall : n + m ≤ 9223372036854775807 := by simp only [maxLen] at h63; omega
  have hnl : (zeroRow zs (m * st)).length = m * st := zeroRow_length _ _
  have hlen : (xs ++ zeroRow zs (m * st)).length = (n + m) * st := by rw [List.length_append, hown.1, hnl, Nat.add_mul]
  have hzc : ∀ k, Builtin.zeroCells z.cells k = (zeroRow zs (k * st)).toArray := fun k => by apply Array.ext'; rw [hz2, zeroCells_row, hzl]
  have hone : ∀ u ∈ zeroRow zs (m * st), u.oneCell' = true := zeroRow_one (allOne_of he.one) _ (.inr he.pos)
  have hw : IntKind.i64.wrap (m : Int) = m := by rw [IntKind.wrap_i64]; omega
  have hneg : ¬ ((m : Int) < 0) := by omega
  have h48i : ¬ (281474976710656 < (m : Int) * (i.bytes : Int)) := by
    have : m * bytes ≤ (n + m) * bytes := Nat.mul_le_mul_right _ (by omega)
    rw [hz4, ← Int.natCast_mul]; omega
  rcases hown.2 with ⟨h, _⟩ | ⟨g, cap, cur, h, hbg, hg, hnc, hcm, hcs, htake⟩
  · cases h
  cases h
  by_cases hroom : n + m ≤ cp
  · have hfit : n * st + (zeroRow zs (m * st)).length ≤ cur.size := by rw [hnl, hcs, ← Nat.add_mul]; exact Nat.mul_le_mul_right _ hroom
    have hstc := run_storeCells_at P b (n * st) e (zeroRow zs (m * st)) 0 cur W hg (by simpa using hfit) hone
    simp only [Nat.add_zero] at hstc
    have hrun : (Builtin.append_ #[t, tn] ty #[.slice (some ⟨b, 0, none⟩) n cp, .int kq m]).run P W = .ok (.slice (some ⟨b, 0, none⟩) (n + m) cp) (W.setRow b (cur.toList.take (n * st) ++ zeroRow zs (m * st) ++ cur.toList.drop (n * st + (zeroRow zs (m * st)).length)).toArray) := by
      by_cases h0 : m = 0
      · subst h0
        have h00 : zeroRow zs (0 * st) = [] := List.eq_nil_of_length_eq_zero (by rw [zeroRow_length, Nat.zero_mul])
        rw [h00] at hstc ⊢
        have hw0 : IntKind.i64.wrap 0 = 0 := by decide
        have hroom' : n ≤ cp := hroom
        simp [Builtin.append_, run_underlying hu, run_underlying htn, sizeOf, typeInfo, hi, asInt, asIntOf, hw0, hroom', his, Addr.add_lit, hstc]
      · have hst0 : st ≠ 0 := by omega
        simp [Builtin.append_, run_underlying hu, run_underlying htn, sizeOf, typeInfo, zeroValue, hi, hz1, asInt, asIntOf, hw, hneg, h48i, hroom, Addr.add_lit, hzc, his, hstc]
        intro hx; exact absurd hx (Nat.mul_ne_zero h0 hst0)
    refine ⟨_, _, hrun, ⟨hlen, .inr ⟨b, cp, _, rfl, hbg, setRow_heap W b cur _ e _ hg, hroom, hcm, ?_, ?_⟩⟩, ⟨rfl, rfl, rfl, by simp, fun k _ hk => setRow_other W b k _ (fun e => hk (by simp [e]))⟩, .inl rfl⟩
    · simp only [List.size_toArray, List.length_append, List.length_take, List.length_drop, Array.length_toList]
      omega
    · rw [htake, ← hlen]
      exact List.take_left
  · have hold : (Builtin.firstCells i.size n (.slice (some ⟨b, 0, none⟩) n cp)).run P W.drew = .ok xs.toArray W.drew :=
      run_firstCells_some (P := P) W.drew i.size n ⟨b, 0, none⟩ n cp xs (by rw [his]; exact hown.1) (by simpa using hown.cells (g := b) rfl)
    have hr := Lib.run_append_grow_zeros (P := P) W t tn ty e i z kq kn hu htn hi hz1 (some ⟨b, 0, none⟩) n cp xs hold m (by omega) (by omega) (by omega) (by omega) (by
      have : m * bytes ≤ (n + m) * bytes := Nat.mul_le_mul_right _ (by omega)
      rw [hz4]; omega) (by rw [hz4]; exact growslice_fits (by omega) hbytes)
    have hge := grownCap_ge W (n + m) cp e
    have hcm' : grownCap W (n + m) cp e ≤ maxLen := grownCap_le_maxLen W (n + m) cp e h63
    refine ⟨_, _, hr, ⟨hlen, .inr ⟨W.heap.size, _, _, rfl, Nat.zero_le _, heap_alloc_new W.drew _, hge, hcm', ?_, ?_⟩⟩, ⟨rfl, rfl, rfl, by simp, fun k hk _ => alloc_heap_old W.drew _ hk⟩, .inr rfl⟩
    · simp only [Array.size_append, List.size_toArray, size_zeroCells, hown.1, hz2, hzl, ← Nat.add_mul]
      congr 1
      omega
    · rw [hzc m]
      simp only [Array.toList_append, List.append_assoc]
      rw [← List.append_assoc, ← hlen]
      exact List.take_left
theorem l_append_zeros {t tn e st bytes : Nat} {kn : IntKind} {zs : List Value} [IsSl P t e st] [IsInt P tn kn] [he : IsElem P e zs bytes] {x y : Operand} {k : IntKind} {b cp n m : Nat} {cs : List SV} {g : List (Nat × SV)}
    (hop : o.op = .call { callee := .builtin .append, args := #[x, y], argTypes := #[t, tn] }) (hx : opE g x = some (eqS (rowV (some (b, cp)) n))) (hy : opE g y = some (intS k m)) (hq : rowOk (some (b, cp)) n) (hl : cs.length = n * st) (hb : (n + m) * bytes ≤ big) (hm : n + m ≤ big) :
    OpL P G o g [rowE (some (b, cp)) e st n cs] (fun s H' => ∃ q', rowOk (some q') (n + m) ∧ s = eqS (rowV (some q') (n + m)) ∧ H' = [rowE (some q') e st (n + m) (cs ++ (zeroRow zs (m * st)).map eqS)]) := by
  intro nn r I W a next Q hm' hh hr kk
  have hvx : a.eval x = rowV (some (b, cp)) n := hr.get (by simp [hop, Op.operands, Call.operands]) hx
  have hvy : a.eval y = .int k m := hr.get (by simp [hop, Op.operands, Call.operands]) hy
  obtain ⟨xs, hown, hd, h1⟩ := owns_of_entry hq hl hh
  have hIb : I b = none := (hh.lt (b := b) (by simp [bs, rowE])).2
  obtain ⟨v', W', e1, e2, e3, e4⟩ := run_append_own_zeros (P := P) (t := t) (tn := tn) (ty := o.type) (kq := k) (zs := zs) (m := m) hown (by unfold maxLen; unfold big at hm; omega) (by simpa [big] using hb)
  have hI' : ∀ c, v'.ownBlock = some c → I c = none := by
    intro c hc
    rcases e4 with h | h
    · rw [h] at hc; cases hc; exact hIb
    · rw [h] at hc; cases hc; exact hm'.none_new
  obtain ⟨q', hq', rfl, hh', hqb⟩ := entry_of_owns e2 (hd.append (dens_eqS (I := I) (zeroRow zs (m * st)))) (by intro u hu; rcases List.mem_append.1 hu with h | h; exact h1 u h; exact zeroRow_one (allOne_of he.one) _ (.inr he.pos) u h) hI'
  cases q' with
  | none => rcases e4 with h | h <;> simp [rowV, Value.ownBlock] at h
  | some q' =>
  have hm2 : Holds G I W' := ⟨hm'.glob, fun c d hc => by
    obtain ⟨ee, fr, hw⟩ := hm'.mem c d hc
    exact ⟨ee, fr, (e3.block c (lt_of_some hw) fun h => by cases h; rw [hc] at hIb; cases hIb).trans hw⟩⟩
  have hrun2 : (execOp a.eval o).run P W = .ok (.value (rowV (some q') (n + m))) W' := by
    simp only [execOp, hop, resolve, Sem.run_bind, Sem.run_pure, Result.andThen_ok, invoke, builtin]
    have : Array.map a.eval #[x, y] = #[rowV (some (b, cp)) n, .int k m] := by simp [hvx, hvy]
    rw [this]; show ((Builtin.append_ #[t, tn] o.type #[.slice (some ⟨b, 0, none⟩) n cp, .int k m]).run P W).andThen _ = _
    rw [e1]; rfl
  refine wp_of_run (by simp [hop]) hrun2 ?_
  refine kk _ I W' _ _ ⟨q', hq', rfl, rfl⟩ ?_ hm2 hh' rfl
  refine ⟨e3.os, e3.tape, e3.output, Imm.le_refl _, e3.size, fun c hc hn => e3.block c hc fun h => hn (by cases h; simp [bs, rowE]), fun b h h' => absurd h h', fun c hc => ?_⟩
  have hc' : c = q'.1 := by simpa [bs, rowE] using hc
  subst hc'
  rcases e4 with h | h
  · have h0 : q'.1 = b := by simpa [rowV, Value.ownBlock] using h
    rw [h0]; exact .inl (by simp [bs, rowE])
  · have h0 : q'.1 = W.heap.size := by simpa [rowV, Value.ownBlock] using h
    rw [h0]; exact .inr (Nat.le_refl _)
theorem EffAtD.appendZeros (j : Nat) {n0 d0 : Nat} {g : List (Nat × SV)} {h Hc : HL} {d : List Nat} {i : Nat × Bool} {t tn e st bytes : Nat} {kn : IntKind} {zs : List Value} [IsSl P t e st] [IsInt P tn kn] [IsElem P e zs bytes] {x y : Operand} {k : IntKind} {b cp n m : Nat} {cs : List SV}
    (hop : o.op = .call { callee := .builtin .append, args := #[x, y], argTypes := #[t, tn] }) (hx : opE g x = some (eqS (rowV (some (b, cp)) n))) (hy : opE g y = some (intS k m)) (hH : h[j]? = some (rowE (some (b, cp)) e st n cs)) (ht : o.dst = some d0) (hd : Nat.blt d0 n0 = true) (hg : guardAt gd g o true)
    (hq : rowOk (some (b, cp)) n) (hl : cs.length = n * st) (hb : (n + m) * bytes ≤ big) (hm : n + m ≤ big)
    (hr : ∀ q', rowOk (some q') (n + m) → Hc.Sublist (putAt h j [rowE (some q') e st (n + m) (cs ++ (zeroRow zs (m * st)).map eqS)]) ∧ Run P G E r gd false ops ⟨n0, (d0, eqS (rowV (some q') (n + m))) :: g, putAt h j [rowE (some q') e st (n + m) (cs ++ (zeroRow zs (m * st)).map eqS)], d, i⟩ K) : EffAtD P G E r gd o ops Hc ⟨n0, g, h, d, i⟩ K :=
  ⟨h.take j, [_], h.drop (j + 1), _, split_at hH, l_append_zeros hop hx hy hq hl hb hm, hg, by simp only [dstOk, ht]; exact hd, fun s H' ⟨q', e0, e1, e2⟩ => by subst e1; subst e2; rw [ht]; have := hr q' e0; rw [putAt_eq hH] at this; exact this⟩
theorem EffAtD.alloc {n0 d0 : Nat} {g : List (Nat × SV)} {h Hc : HL} {d : List Nat} {i : Nat × Bool} {t : TypeId} {zs : List Value} [IsZero P t zs] (hop : o.op = .alloc t) (ht : o.dst = some d0) (hd : Nat.blt d0 n0 = true) (hg : guardAt gd g o true)
    (hr : ∀ b, Hc.Sublist (⟨some b, t, zs.map eqS, 0⟩ :: h) ∧ Run P G E r gd false ops ⟨n0, (d0, eqS (.pointer (some ⟨b, 0, none⟩))) :: g, ⟨some b, t, zs.map eqS, 0⟩ :: h, d, i⟩ K) : EffAtD P G E r gd o ops Hc ⟨n0, g, h, d, i⟩ K :=
  ⟨[], [], h, _, rfl, l_alloc hop, hg, by simp only [dstOk, ht]; exact hd, fun s H' ⟨b, e1, e2⟩ => by subst e1; subst e2; rw [ht]; exact hr b⟩
/-- a slice of an owned row -/
theorem ok_sliceRow {H : HL} {g : List (Nat × SV)} {t e : Nat} [IsSl P t e 1] {x : Operand} {low high : Option Operand} {b cp n lo hi : Nat} {y z : Operand} {k k' : IntKind} (hop : o.op = .slice t x low high none) (hx : opE g x = some (eqS (rowV (some (b, cp)) n))) (hq : rowOk (some (b, cp)) n)
    (hlow : low = some y) (hy : opE g y = some (intS k lo)) (hhigh : high = some z) (hz : opE g z = some (intS k' hi)) (h1 : lo < hi) (h2 : hi ≤ n) : OpOK P G H o g (eqS (.slice (some ⟨b, lo, none⟩) (hi - lo) (cp - lo))) := by
  subst hlow; subst hhigh
  refine ok_pure (by simp [hop]) fun I W a hm hh hr => ?_
  have hvx : a.eval x = rowV (some (b, cp)) n := hr.get (by simp [hop, Op.operands]) hx
  have hvy : a.eval y = .int k lo := hr.get (by simp [hop, Op.operands]) hy
  have hvz : a.eval z = .int k' hi := hr.get (by simp [hop, Op.operands]) hz
  have hcp : n ≤ cp := hq.1
  have hbd := run_sliceBounds (P := P) (W := W) (len := n) (cap := cp) (lo := lo) (hi := hi) (m := cp) (low := some (.int k lo)) (high := some (.int k' hi)) (mx := none) (.inr ⟨k, rfl⟩) (.inr ⟨k', rfl⟩) (.inl ⟨rfl, rfl⟩) (by omega) (by omega) (Nat.le_refl _)
  obtain ⟨i, hi', his⟩ := IsSl.i (P := P) (t := t) (e := e) (st := 1)
  have hu := IsSl.u (P := P) (t := t) (e := e) (st := 1)
  refine ⟨_, ?_, rfl⟩
  simp [execOp, hop, hvx, hvy, hvz, rowV, Instr.sliceAt, Instr.slice, run_underlying hu, hbd, sizeOf, typeInfo, hi', his, show ¬ cp = lo by omega, Addr.add_lit, add_spot]
theorem Run.callH (pre Hp suf : HL) {n0 d0 : Nat} {g : List (Nat × SV)} {h : HL} {d : List Nat} {i : Nat × Bool} {xs : Array Operand} {ts : Array TypeId} {f : FuncId} {args : List SV} {Q : SV → HL → Prop} (hp : p = false) (hop : o.op = .call { callee := .value (.func f), args := xs, argTypes := ts })
    (ha : argsE g xs.toList = some args) (hH : h = pre ++ Hp ++ suf) (hs : CallSpec P G f args Hp Q) (hg : guardAt gd g o true) (ht : o.dst = some d0) (hd : Nat.blt d0 n0 = true)
    (hr : ∀ s H', Q s H' → Run P G E r gd p ops ⟨n0, (d0, s) :: g, pre ++ H' ++ suf, d, i⟩ K) : Run P G E r gd p (o :: ops) ⟨n0, g, h, d, i⟩ K := by
  refine Run.loc (S := ⟨n0, g, h, d, i⟩) (pre := pre) (Hp := Hp) (suf := suf) hp hH (l_callF hop ha hs) hg (by simp only [dstOk, ht]; exact hd) fun s H' hq => ?_
  rw [ht]; exact hr s H' hq
end
section
variable {P : Program} {G : Imm} {E : Env} {r : Option Nat} {S : St}
theorem put_split {h : HL} {i : Nat} {q q' : HE} (hC : h[i]? = some q) : ∃ pre post, h = pre ++ q :: post ∧ putAt h i [q'] = pre ++ q' :: post :=
  ⟨h.take i, h.drop (i + 1), by have := split_at hC; simpa using this, by rw [putAt_eq hC]; simp⟩
/-- the facts on an owned block's cells, said otherwise -/
theorem Sat.entry {n : Nat} {g : List (Nat × SV)} {h : HL} {d : List Nat} {ix : Nat × Bool} {j b e k : Nat} {cs cs' : List SV} {I : Imm} {F : Nat → Prop} {a : Act} {W : World} (hs : Sat G E r ⟨n, g, h, d, ix⟩ I F a W) (hC : h[j]? = some ⟨some b, e, cs, k⟩) (hlen : cs'.length = cs.length) (hd : ∀ xs, dens I cs xs → dens I cs' xs) :
    Sat G E r ⟨n, g, putAt h j [⟨some b, e, cs', k⟩], d, ix⟩ I F a W ∧ own ⟨n, g, putAt h j [⟨some b, e, cs', k⟩], d, ix⟩ F = own ⟨n, g, h, d, ix⟩ F := by
  obtain ⟨pre, post, rfl, h2⟩ := put_split (q' := ⟨some b, e, cs', k⟩) hC
  rw [h2]
  have hb : bs (pre ++ ⟨some b, e, cs', k⟩ :: post) = bs (pre ++ ⟨some b, e, cs, k⟩ :: post) := by simp [bs, List.filterMap_append, List.filterMap_cons]
  have ho : own ⟨n, g, pre ++ ⟨some b, e, cs', k⟩ :: post, d, ix⟩ F = own ⟨n, g, pre ++ ⟨some b, e, cs, k⟩ :: post, d, ix⟩ F := by funext c; simp only [own]; rw [hb]
  refine ⟨{ hs with
    h := ⟨by rw [hb]; exact hs.h.nodup, fun p hp => ?_⟩
    f := fun c hc => ⟨(hs.f c hc).1, (hs.f c hc).2.1, fun x => (hs.f c hc).2.2.1 (hb ▸ x), (hs.f c hc).2.2.2⟩
    l := fun j hj => ⟨(hs.l j hj).1, fun x => (hs.l j hj).2 (ho ▸ x)⟩ }, ho⟩
  rcases List.mem_append.1 hp with h1 | h1
  · exact hs.h.mem p (List.mem_append.2 (.inl h1))
  · rcases List.mem_cons.1 h1 with h1 | h1
    · subst h1
      obtain ⟨g1, c, g2, g3, g4, g5⟩ := (hs.h.mem ⟨some b, e, cs, k⟩ (by simp)).some rfl
      simp only at g3 g4 g5
      exact .of_some rfl ⟨g1, c, g2, by simp only; omega, by simp only; rw [hlen]; exact g4, by simp only; rw [hlen]; exact hd _ g5⟩
    · exact hs.h.mem p (by simp [h1])
theorem dens_set1 {I : Imm} {cs : List SV} {xs : List Value} {off : Nat} {s s' : SV} (h : dens I cs xs) (ho : cs[off]? = some s) (hs : ∀ v, s.den I v → s'.den I v) : dens I (cs.set off s') xs := by
  refine ⟨by rw [List.length_set]; exact h.1, fun i t x hi hx => ?_⟩
  by_cases e : off = i
  · subst e
    have hlt : off < cs.length := lt_of_get ho
    rw [List.getElem?_set_self hlt] at hi; cases hi
    exact hs x (h.2 off s x ho hx)
  · rw [List.getElem?_set_ne e] at hi
    exact h.2 i t x hi hx
theorem row_given {I : Imm} {b m cap st : Nat} {α : Type} {f : α → List SV} {l : List α} (hc : cellsAt I b 0 (l.flatMap f)) (hq : rowOk (some (b, cap)) m) (hl : l.length = m) (hf : ∀ x ∈ l, (f x).length = st) (hb : m ≤ big) : (slS st f l).den I (rowV (some (b, cap)) m) := by
  obtain ⟨c, hc1, hc2⟩ := hc
  refine ⟨some ⟨b, 0, none⟩, cap, by rw [hl]; rfl, by rw [hl]; exact hq.1, by rw [hl]; exact hb, .inr ⟨b, 0, rfl, fun i x hx => ⟨c, hc1, fun k s hk => ?_⟩⟩⟩
  have : (l.flatMap f)[i * st + k]? = some s := by
    rw [List.flatMap_def]
    exact flatten_at (by intro d hd; obtain ⟨y, hy, rfl⟩ := List.mem_map.1 hd; exact hf y hy) (by rw [List.getElem?_map, hx]; rfl) hk
  have := hc2 _ s this
  simpa [Nat.add_assoc] using this
/-- a row of one's own that a cell of a block of one's own leads to, given up -/
theorem ghost_in (j i off : Nat) {n : Nat} {g : List (Nat × SV)} {h : HL} {d : List Nat} {ix : Nat × Bool} {b cap e st m b0 e0 k0 : Nat} {cs cs0 : List SV} {α : Type} {f : α → List SV} {l : List α} (hH : h[j]? = some (rowE (some (b, cap)) e st m cs)) (hC : (putAt h j [])[i]? = some ⟨some b0, e0, cs0, k0⟩) (ho : cs0[off]? = some (eqS (rowV (some (b, cap)) m))) (hq : rowOk (some (b, cap)) m) (hl : l.length = m) (hcs : cs = l.flatMap f) (hf : ∀ x ∈ l, (f x).length = st) (hb : m ≤ big) :
    Ghost G E r ⟨n, g, h, d, ix⟩ ⟨n, g, putAt (putAt h j []) i [⟨some b0, e0, cs0.set off (slS st f l), k0⟩], d, ix⟩ := by
  intro I F a W hs
  subst hcs
  obtain ⟨I', s1, s2, hle, hc⟩ := freeze_at (j := j) (b := b) (e := e) (k := cap * st - m * st) (cs := l.flatMap f) hH hs
  have ee : h.take j ++ h.drop (j + 1) = putAt h j [] := by rw [putAt_eq hH]; simp
  simp only [ee] at s1 s2
  obtain ⟨s3, o3⟩ := s1.entry hC (cs' := cs0.set off (slS st f l)) (by rw [List.length_set]) fun xs hx => dens_set1 hx ho fun v hv => by
    have hv2 : v = rowV (some (b, cap)) m := hv
    exact hv2 ▸ row_given hc hq hl hf hb
  exact ⟨I', s3, by rw [o3]; exact s2⟩
end
end Go.Sv
