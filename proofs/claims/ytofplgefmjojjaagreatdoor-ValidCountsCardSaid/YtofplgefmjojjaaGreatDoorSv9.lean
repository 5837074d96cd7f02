/- A drawn region of chained effects, the first of which waits for nothing that looks at what the later ones turn. -/
import Derived.Test.YtofplgefmjojjaaGreatDoorSv1
namespace Go.Sv
open Go Go.RowKit
section
variable {P : Program} {G : Imm} {E : Env} {r : Option Nat} {S : St}
theorem stage_of2 {l : List Oper} {n M k N : Nat} {d : List Nat} {ix : Nat × Bool} {K : St → Prop} {Hc : HL} {g0 g : List (Nat × SV)} {L : Nat → Prop} {sv : Nat → SV} {h : HL} {Ns : List Nat} (hM : M ≤ l.length) (hok : effsOk l M k (N :: Ns) = true) (hg : gAt (l.take M) sv g0 k = g) (hHc : Hc.Sublist h)
    (hL : ∀ j, L j → j < k) (hkl : k ≤ l.length) (hlate : ∀ j o, j < k → l[j]? = some o → ¬ L j → (fact P G l M n g0 sv h j o ∧ earlyOf l N j = true) ∨ fact P G l M n g0 sv Hc j o) (hr : RunM P G E r l n d ix M K (N :: Ns) k Hc g h) :
    ∃ sv', (∀ j, j < k → sv' j = sv j) ∧ stage P G E r l n d ix M K Hc g0 L sv' h := by
  obtain ⟨hkN, hNM, _, _, hok'⟩ := effsOk_here hok
  obtain ⟨sv', h1, h2, h3⟩ := seg_facts hkN (by omega) hM hg hr
  refine ⟨sv', h1, hHc, fun j hj => Nat.lt_of_lt_of_le (hL j hj) hkl, .inl ⟨N, Ns, hok', fun h => ?_, fun j o hj ho hn => ?_, h2⟩⟩
  · have := hL N h; omega
  · rcases Nat.lt_or_ge j k with hjk | hjk
    · rcases hlate j o hjk ho hn with ⟨h4, h5⟩ | h4
      · exact .inl ⟨h4.congr fun i hi => h1 i (by omega), h5⟩
      · exact .inr (h4.congr fun i hi => h1 i (by omega))
    · exact h3 j o hjk hj ho
def RunZ (P : Program) (G : Imm) (E : Env) (r : Option Nat) (l : List Oper) (n : Nat) (d : List Nat) (ix : Nat × Bool) (M : Nat) (K : St → Prop) (N0 N1 : Nat) (Ns : List Nat) (H1 Hc : HL) (g : List (Nat × SV)) (h : HL) : Prop :=
  RunE P G (gdOf l) n H1 Hc (earlyOf l N1) 0 ((l.take N0).drop 0) g (fun g' => ∃ oN, l[N0]? = some oN ∧ EffM P G (gdOf l) n H1 oN g' h (fun g2 h2 => RunM P G E r l n d ix M K (N1 :: Ns) (N0 + 1) Hc g2 h2))
def stageZ (P : Program) (G : Imm) (E : Env) (r : Option Nat) (l : List Oper) (n : Nat) (d : List Nat) (ix : Nat × Bool) (M : Nat) (K : St → Prop) (N0 N1 : Nat) (Ns : List Nat) (H1 Hc : HL) (g0 : List (Nat × SV)) (L : Nat → Prop) (sv : Nat → SV) (hc : HL) : Prop :=
  (H1.Sublist hc ∧ (∀ j, L j → j < l.length) ∧ ¬ L N0 ∧ (∀ j o, j < N0 → l[j]? = some o → ¬ L j → (fact P G l M n g0 sv H1 j o ∧ earlyOf l N1 j = true) ∨ fact P G l M n g0 sv Hc j o) ∧
    ∃ oN, l[N0]? = some oN ∧ EffM P G (gdOf l) n H1 oN (gAt (l.take M) sv g0 N0) hc (fun g2 h2 => RunM P G E r l n d ix M K (N1 :: Ns) (N0 + 1) Hc g2 h2)) ∨
  stage P G E r l n d ix M K Hc g0 L sv hc
theorem stage_step {l : List Oper} {n M : Nat} {d : List Nat} {ix : Nat × Bool} {K : St → Prop} {Hc : HL} {g0 : List (Nat × SV)} (hM : M ≤ l.length) {k : Nat} {o : Oper} (hk : l[k]? = some o) (hkM : k < M) {L : Nat → Prop} {sv' : Nat → SV} {hc : HL} (hR : stage P G E r l n d ix M K Hc g0 L sv' hc) (hn : ¬ L k)
    (hpre : ∀ e ∈ o.after.toList, Region.binds .any e = true → L e.on) (hcl : ∀ j o', l[j]? = some o' → L j → ∀ e ∈ o'.after.toList, Region.binds .any e = true → L e.on) :
    (∀ t, o.dst = some t → t < n) ∧ ((((OpOK P G hc o (gAt (l.take M) sv' g0 k) (sv' k) ∧ guardAt (gdOf l) (gAt (l.take M) sv' g0 k) o true) ∨ (guardAt (gdOf l) (gAt (l.take M) sv' g0 k) o false ∧ sv' k = eqS undef)) ∧ stage P G E r l n d ix M K Hc g0 (fun j => j = k ∨ L j) sv' hc) ∨
      (guardAt (gdOf l) (gAt (l.take M) sv' g0 k) o true ∧ ∃ pre Hp suf Kl, hc = pre ++ Hp ++ suf ∧ OpL P G o (gAt (l.take M) sv' g0 k) Hp Kl ∧ ∀ s H', Kl s H' → ∃ sv2, (∀ j, (j = k ∨ L j) → sv2 j = upd sv' k s j) ∧ stage P G E r l n d ix M K Hc g0 (fun j => j = k ∨ L j) sv2 (pre ++ H' ++ suf))) := by
  have hkl := lt_of_get hk
  have hpre' : ∀ o', l[k]? = some o' → ∀ e ∈ o'.after.toList, Region.binds .any e = true → L e.on := fun o' ho' => by rw [hk] at ho'; cases ho'; exact hpre
  obtain ⟨hHc', hlen, ⟨N, Ns, hok', hLN, hf, oN, hoN, heff⟩ | ⟨hf, hrun⟩⟩ := hR
  · obtain ⟨_, hNM, haft, hok'', _⟩ := effsOk_here hok'
    rcases Nat.lt_trichotomy k N with hkN | hkN | hkN
    · have hfact : fact P G l M n g0 sv' hc k o := by
        rcases hf k o hkN hk hn with ⟨h1, _⟩ | h1
        · exact h1
        · exact h1.sub hHc'
      exact ⟨hfact.1, .inl ⟨hfact.2, hHc', fun j hj => hj.elim (fun e => e ▸ hkl) (hlen j), .inl ⟨N, Ns, hok', fun h => h.elim (fun e => by omega) hLN, fun j o hj ho hnL => hf j o hj ho fun h => hnL (.inr h), oN, hoN, heff⟩⟩⟩
    · subst hkN
      rw [hk] at hoN; cases hoN
      obtain ⟨pre, Hp, suf, Kl, hsp, hop, hg, hdst, hall⟩ := heff
      refine ⟨dstOk_spec hdst, .inr ⟨hg, pre, Hp, suf, Kl, hsp, hop, fun s H' hkl' => ?_⟩⟩
      obtain ⟨hsub, hrun⟩ := hall s H' hkl'
      have hLlt : ∀ j, L j → j < k := fun j hj => by
        rcases Nat.lt_trichotomy j k with h1 | h1 | h1
        · exact h1
        · subst h1; exact absurd hj hLN
        · exact absurd ((haft j (hlen j hj) h1).listed (L := L) hcl fun o' ho' => hcl j o' ho' hj) hLN
      have hge : gAt (l.take M) (upd sv' k s) g0 (k + 1) = setG o.dst s (gAt (l.take M) sv' g0 k) := by
        rw [gAt_last (o := o) (by rw [take_get (by omega)]; exact hk), upd_eq]
        congr 1
        exact gAt_congr fun j hj => upd_ne (by omega)
      obtain ⟨sv2, h1, h2⟩ := stage_of (sv := upd sv' k s) (L := fun j => j = k ∨ L j) hM hok'' hge hsub (fun j hj => hj.elim (fun e => by omega) fun h => by have := hLlt j h; omega) (by omega) (fun j o' hj ho' hnL => by
        have hjk : j < k := by
          have : j ≠ k := fun e => hnL (.inl e)
          omega
        rcases hf j o' hjk ho' (fun h => hnL (.inr h)) with ⟨_, h3⟩ | h3
        · exact absurd ((masks_reach h3).listed (L := L) hcl hpre') (fun h => hnL (.inr h))
        · exact h3.congr fun i hi => upd_ne (by omega)) hrun
      exact ⟨sv2, fun j hj => h1 j (hj.elim (fun e => by omega) fun h => by have := hLlt j h; omega), h2⟩
    · exact absurd ((haft k hkl hkN).listed (L := L) hcl hpre') hLN
  · have hfact := hf k o hkM hk hn
    exact ⟨hfact.1, .inl ⟨hfact.2, hHc', fun j hj => hj.elim (fun e => e ▸ hkl) (hlen j), .inr ⟨fun j o hj ho hnL => hf j o hj ho fun h => hnL (.inr h), hrun⟩⟩⟩
theorem TA_drawZ (M N0 N1 : Nat) (Ns : List Nat) (H1 Hc : HL) {l : List Oper} {Q : Exit → St → Prop} {n : Nat} {g : List (Nat × SV)} {h : HL} {d : List Nat} {i : Nat × Bool} (hok : drawOkM l M (N0 :: N1 :: Ns) = true) (hH1 : H1.Sublist h) (hHc : Hc.Sublist H1)
    (hr : RunZ P G E r l n d i M (fun S' => Q .normal S') N0 N1 Ns H1 Hc g h) : TA P G E r l ⟨n, g, h, d, i⟩ Q := by
  intro nn I F a W hs
  simp only [drawOkM, Bool.and_eq_true] at hok
  obtain ⟨hed, hnd, hrd, htail, hM, hN⟩ := hok
  have hM := Nat.le_of_ble_eq_true hM
  obtain ⟨_, hN0M, haft0, hok1, _⟩ := effsOk_here hN
  have hd := ext_drawn hs.m (W.drawn + 1)
  have hs' := hs.keep hd.2 hd.1
  have hL : ∀ j, ¬ Ld (Array.replicate l.length false) j := fun j => by
    unfold Ld; simp only [Array.getD_eq_getD_getElem?, Array.getElem?_replicate]; split <;> simp
  obtain ⟨sv, _, hst1, hst2⟩ := seg_facts (sv := fun _ => eqS undef) (g0 := g) (Nat.zero_le _) (Nat.le_of_lt hN0M) hM (gAt_zero _ _ _) hr
  have hst : stageZ P G E r l n d i M (fun S' => Q .normal S') N0 N1 Ns H1 Hc g (Ld (Array.replicate l.length false)) sv h :=
    .inl ⟨hH1, fun j hj => absurd hj (hL j), hL N0, fun j o hj ho _ => hst2 j o (Nat.zero_le _) hj ho, hst1⟩
  refine draw_soundH (P := P) (G := G) (E := E) (r := r) (S := ⟨n, g, h, d, i⟩) (N := M) (K := fun S' => Q .normal S')
    (R := fun L sv' hc => stageZ P G E r l n d i M (fun S' => Q .normal S') N0 N1 Ns H1 Hc g L sv' hc)
    hed hnd hrd htail hM (fun k o hk hkM => ?_) (fun L sv' hc hR hall => ?_) _ _ h nn (post G E r Q (own ⟨n, g, h, d, i⟩ F) I W) I F a _ sv ?_ hst ?_ ?_
  · intro L sv' hc hR hn hpre hcl
    have hkl := lt_of_get hk
    have hpre' : ∀ o', l[k]? = some o' → ∀ e ∈ o'.after.toList, Region.binds .any e = true → L e.on := fun o' ho' => by rw [hk] at ho'; cases ho'; exact hpre
    rcases hR with ⟨hH1c, hlen, hLN, hf, oN, hoN, heff⟩ | hR
    · rcases Nat.lt_trichotomy k N0 with hkN | hkN | hkN
      · have hfact : fact P G l M n g sv' hc k o := by
          rcases hf k o hkN hk hn with ⟨h1, _⟩ | h1
          · exact h1.sub hH1c
          · exact h1.sub (hHc.trans hH1c)
        exact ⟨hfact.1, .inl ⟨hfact.2, .inl ⟨hH1c, fun j hj => hj.elim (fun e => e ▸ hkl) (hlen j), fun h => h.elim (fun e => by omega) hLN, fun j o hj ho hnL => hf j o hj ho fun h => hnL (.inr h), oN, hoN, heff⟩⟩⟩
      · subst hkN
        rw [hk] at hoN; cases hoN
        obtain ⟨pre, Hp, suf, Kl, hsp, hop, hg, hdst, hall⟩ := heff
        refine ⟨dstOk_spec hdst, .inr ⟨hg, pre, Hp, suf, Kl, hsp, hop, fun s H' hkl' => ?_⟩⟩
        obtain ⟨hsub, hrun⟩ := hall s H' hkl'
        have hLlt : ∀ j, L j → j < k := fun j hj => by
          rcases Nat.lt_trichotomy j k with h1 | h1 | h1
          · exact h1
          · subst h1; exact absurd hj hLN
          · exact absurd ((haft0 j (hlen j hj) h1).listed (L := L) hcl fun o' ho' => hcl j o' ho' hj) hLN
        have hge : gAt (l.take M) (upd sv' k s) g (k + 1) = setG o.dst s (gAt (l.take M) sv' g k) := by
          rw [gAt_last (o := o) (by rw [take_get (by omega)]; exact hk), upd_eq]
          congr 1
          exact gAt_congr fun j hj => upd_ne (by omega)
        obtain ⟨sv2, h1, h2⟩ := stage_of2 (sv := upd sv' k s) (L := fun j => j = k ∨ L j) hM hok1 hge (hHc.trans hsub) (fun j hj => hj.elim (fun e => by omega) fun h => by have := hLlt j h; omega) (by omega) (fun j o' hj ho' hnL => by
          have hjk : j < k := by
            have : j ≠ k := fun e => hnL (.inl e)
            omega
          rcases hf j o' hjk ho' (fun h => hnL (.inr h)) with ⟨h3, h4⟩ | h3
          · exact .inl ⟨(h3.congr fun i hi => upd_ne (by omega)).sub hsub, h4⟩
          · exact .inr (h3.congr fun i hi => upd_ne (by omega))) hrun
        exact ⟨sv2, fun j hj => h1 j (hj.elim (fun e => by omega) fun h => by have := hLlt j h; omega), .inr h2⟩
      · exact absurd ((haft0 k hkl hkN).listed (L := L) hcl hpre') hLN
    · obtain ⟨h1, h2⟩ := stage_step hM hk hkM hR hn hpre hcl
      refine ⟨h1, ?_⟩
      rcases h2 with ⟨h3, h4⟩ | ⟨h3, pre, Hp, suf, Kl, h4, h5, h6⟩
      · exact .inl ⟨h3, .inr h4⟩
      · refine .inr ⟨h3, pre, Hp, suf, Kl, h4, h5, fun s H' hk' => ?_⟩
        obtain ⟨sv2, h7, h8⟩ := h6 s H' hk'
        exact ⟨sv2, h7, .inr h8⟩
  · rcases hR with ⟨_, _, hLN, _⟩ | ⟨_, _, ⟨N, Ns, hok', hLN, _⟩ | ⟨_, hrun⟩⟩
    · exact absurd (hall N0 hN0M) hLN
    · obtain ⟨_, hNM, _⟩ := effsOk_here hok'
      exact absurd (hall N hNM) hLN
    · rw [show (l.take M).length = M by simp; omega]
      exact hrun
  · simp [countOff]
  · exact ⟨by simp, ⟨hs'.n, fun t s h => (by cases h), hs'.m, hs'.h, hs'.d, hs'.dn, hs'.dk, hs'.e, hs'.f, hs'.l⟩, fun t s hl _ => hs'.g t s hl, fun j o d _ hj => absurd hj (hL j), fun j hj => absurd hj (hL j), fun j o _ hj => absurd hj (hL j)⟩
  · intro S' I' F' a' W' h1 h2 h3
    exact ⟨S', I', F', h1, h2, (hd.2.own _).trans h3⟩
theorem T_drawZ [Mixed P] (p : List Nat) (M N0 N1 : Nat) (Ns : List Nat) (Hc : HL) {id : Nat} {l : List Oper} {Q : Exit → St → Prop} {n : Nat} {g : List (Nat × SV)} {h : HL} {d : List Nat} {i : Nat × Bool} (hp : permOk p l = true) (hok : drawOkM (permOps p l) M (N0 :: N1 :: Ns) = true) (hHc : Hc.Sublist h)
    (hr : RunZ P G E r (permOps p l) n d i M (fun S' => Q .normal S') N0 N1 Ns h Hc g h) : T P G E r (.region id l.toArray true) ⟨n, g, h, d, i⟩ Q := (TA_perm p hp (TA_drawZ M N0 N1 Ns h Hc hok (List.Sublist.refl _) hHc hr)).T
end
end Go.Sv
