/- Ranges over functions whose iterator owns memory that it turns. -/
import Derived.Test.YtdnfcmfolllcnaaGreatDoorSvv
namespace Go.Sv
open Go Go.RowKit
section
variable {P : Program} {G : Imm} {E : Env} {r : Option Nat} {S : St} {Q : Exit → St → Prop}
/-- the contract of an iterator that owns H0 ahead, and what QH says behind -/
structure IterSpecH (P : Program) (G : Imm) (f : FuncId) (caps : List SV) (xs : List (List SV)) (H0 : HL) (QH : Nat × Bool → HL → Prop) : Prop where
  enters : ∀ args w, (callFunc f args).run P w = .ok (.enter f args) w
  main : ∀ (l : Nat) (E : Env) (I : Imm) (F : Nat → Prop) (W : World) (cv : List Value), YieldOK P G E l xs → E.ok (0, false) I F W → apart F I W → (∀ b, F b → b ∉ bs H0) → Holds G I W → HoldsH H0 I W → dens I caps cv →
    Calls P f (Value.func (.yield l) #[] #[] :: cv).toArray W fun e W' => ∃ v I' F' i H', e = .returned v ∧ (i = (xs.length, false) ∨ i.2 = true) ∧ QH i H' ∧ E.ok i I' F' W' ∧ apart F' I' W' ∧ (∀ b, F' b → b ∉ bs H') ∧ Holds G I' W' ∧ HoldsH H' I' W' ∧ Fram (fun b => b ∈ bs H0 ∨ F b) I W (fun b => b ∈ bs H' ∨ F' b) I' W'
theorem iter_specH {f : FuncId} {fn : Func} {c : Code} {caps : List SV} {xs : List (List SV)} {H0 : HL} {QH : Nat × Bool → HL → Prop} (hf : P.funcs[f]? = some fn) (hname : (fn.name == "runtime.NumGoroutine") = false) (hb : fn.body = some c) (hn : Nat.ble (caps.length + 1) fn.ntmps = true) (hres : fn.results = #[])
    (hT : ∀ (l : Nat) (E : Env), YieldOK P G E l xs → T P G E none c { n := fn.ntmps, g := params 0 (yieldS l :: caps), h := H0, d := [], i := (0, false) } (fun e S => (e = .ret ∨ e = .normal) ∧ ∃ H', H'.Sublist S.h ∧ QH S.i H' ∧ (S.i = (xs.length, false) ∨ S.i.2 = true))) : IterSpecH P G f caps xs H0 QH := by
  refine ⟨fun args w => ?_, fun l E I F W cv hy he hF hFH hm hh hd => ?_⟩
  · have h1 : fn.name ≠ "runtime.NumGoroutine" := by simpa using hname
    simp [callFunc, hf, h1, hb]
  · have h := fn_gen (E := E) (i0 := (0, false)) (H := H0) (args := yieldS l :: caps) (vs := Value.func (.yield l) #[] #[] :: cv) (I := I) (F := F) (W := W) (Q := fun _ H' i => QH i H' ∧ (i = (xs.length, false) ∨ i.2 = true)) hf hb (by simpa using hn)
      (T_mono (hT l E hy) fun e S ⟨h1, H', h2, h3, h4⟩ => ⟨h1, _, H', by rw [hres]; exact .none, h2, h3, h4⟩) hm hh (dens_cons rfl hd) he (fun b hb => ⟨(hF b hb).1, (hF b hb).2, hFH b hb⟩)
    refine h.mono ?_
    rintro e W' ⟨v, I', F', s, H', i', h1, ⟨h2, h2'⟩, _, h4, h5, h6, h7, h8⟩
    exact ⟨v, I', F', i', H', h1, h2', h2, h6, fun b hb => ⟨(h7 b hb).1, (h7 b hb).2.1⟩, fun b hb => (h7 b hb).2.2, h4, h5, h8⟩
theorem T_rangeH {H0 h1 : HL} {QH : Nat × Bool → HL → Prop} {x : Operand} {t : Nat} {ps : Array Tmp} {assign body : Code} {f : FuncId} {caps : List SV} {xs : List (List SV)} (hx : x = .tmp t) (hg : look t S.g = some (fnS f caps)) (hit : IterSpecH P G f caps xs H0 QH) (hsp : List.Perm S.h (H0 ++ h1)) (hps : ∀ ss ∈ xs, ss.length = ps.size) (hnd : ps.toList.Nodup) (hpn : ∀ p ∈ ps.toList, p < S.n)
    (Inv : Nat → HL → Nat × Bool → Prop) (InvX : Exit → HL → Nat × Bool → Prop) (h0 : Inv 0 h1 S.i)
    (hbody : ∀ (l k : Nat) (ss : List SV) (h : HL) (i : Nat × Bool), xs[k]? = some ss → Inv k h i → T P G E (some l) assign ⟨S.n, zipPs ps.toList ss ++ S.g, h, [], i⟩ (fun e S' => e = .normal ∧ T P G E (some l) body S' (roundQ Inv InvX k)))
    (hdone : ∀ (h H' : HL) (i : Nat × Bool) (D : List Nat), Inv xs.length h i → QH (xs.length, false) H' → Q .normal ⟨S.n, S.g, H' ++ h, D ++ S.d, i⟩)
    (hleave : ∀ (h H' : HL) (i : Nat × Bool) (j : Nat) (D : List Nat) (e : Exit) (c : Code), codeOf e = some c → InvX e h i → QH (j, true) H' → Q e ⟨S.n, S.g, H' ++ h, D ++ S.d, i⟩) : T P G E r (.rangeFunc x ps assign body) S Q := by
  intro n I F a W hs
  subst hx
  obtain ⟨cv, hav, hcd⟩ := hs.g t _ hg
  refine wpIn_rangeFunc fun fnid _ => ?_
  obtain ⟨l, D, W1, db, hrun, hl1, hlge, hD, hDnd, e1, e2, e3, e4, e5⟩ := enter_spec (P := P) hs fnid ps assign body
  have hm1 : Holds G I W1 := ⟨hs.m.glob, fun b c hc => by obtain ⟨e, fz, h⟩ := hs.m.mem b c hc; exact ⟨e, fz, (e5 b (lt_of_some h)).trans h⟩⟩
  have hnew : ∀ b, I b ≠ none → b < W.heap.size := fun b hb => by
    cases hI : I b with
    | none => exact absurd hI hb
    | some c => obtain ⟨e, fz, h⟩ := hs.m.mem b c hI; exact lt_of_some h
  have hIn : ∀ b, W.heap.size ≤ b → I b = none := fun b hb => by
    cases hI : I b with
    | none => rfl
    | some c => have := hnew b (by simp [hI]); omega
  have hbsl : ∀ b ∈ bs S.h, b < W.heap.size := fun b hb => (hs.h.lt hb).1
  have hdl : ∀ b ∈ S.d, b < W.heap.size := fun b hb => lt_of_some (hs.dk b hb)
  have hbp : ∀ b, b ∈ bs S.h ↔ b ∈ bs H0 ∨ b ∈ bs h1 := fun b => by have := (hsp.filterMap (·.b)).mem_iff (a := b); simp only [List.filterMap_append, List.mem_append] at this; exact this
  have hnd0 : (bs H0 ++ bs h1).Nodup := by have h9 : (bs S.h).Perm (bs (H0 ++ h1)) := hsp.filterMap _; rw [bs_append] at h9; exact h9.nodup_iff.1 hs.h.nodup
  have hdis : ∀ b, b ∈ bs H0 → b ∉ bs h1 := fun b h1' h2' => (List.nodup_append.1 hnd0).2.2 b h1' b h2' rfl
  have hhS : HoldsH S.h I W1 := ⟨hs.h.nodup, fun p hp => by
    cases hb : p.b with
    | none => exact .of_none hb ((hs.h.mem p hp).none hb)
    | some b => have h := (hs.h.mem p hp).some hb; exact .of_some hb (h.keep (Imm.le_refl _) h.1 (e5 b h.lt))⟩
  have hh1 : HoldsH h1 I W1 := ⟨(List.nodup_append.1 hnd0).2.1, fun p hp => hhS.mem p (hsp.mem_iff.2 (List.mem_append.2 (.inr hp)))⟩
  have hhH : HoldsH H0 I W1 := ⟨(List.nodup_append.1 hnd0).1, fun p hp => hhS.mem p (hsp.mem_iff.2 (List.mem_append.2 (.inl hp)))⟩
  have hE1 : E.ok S.i I F W1 := E.stab _ _ _ _ _ _ hs.e (Imm.le_refl _) e1 e2 e3 e4 (fun b hb => e5 b (hs.f b hb).1) fun b hb => (hs.f b hb).2.1
  obtain ⟨ro, hro⟩ : ∃ ro : Loop, ∀ k, r = some k → W.heap[k]? = some (.loop ro) := by
    cases hr : r with
    | none => exact ⟨{ state := .ready, pending := none, fn := fnid, tmps := a.tmps, params := ps, assign := assign, body := body, defers := db }, fun k hk => by cases hk⟩
    | some k0 => obtain ⟨⟨rec, h⟩, _⟩ := hs.l k0 hr; exact ⟨rec, fun k hk => by cases hk; exact h⟩
  have hlD : l ∉ D := fun h => by have := (hD l h).2; rw [hl1] at this; cases this
  have hok : (itEnv E r ro (D ++ S.d) I l (fun st pe => { state := st, pending := pe, fn := fnid, tmps := a.tmps, params := ps, assign := assign, body := body, defers := db }) Inv InvX).ok (0, false) I (fun b => b ∈ bs h1 ∨ b ∈ D ++ S.d ∨ b = l ∨ F b ∨ r = some b) W1 := by
    refine ⟨h1, S.i, F, fun b => Iff.rfl, Imm.le_refl _, hh1, hE1, fun b hb => ?_, fun b hb => ?_, fun k hk => ?_, .inl ⟨rfl, hl1, h0⟩⟩
    · obtain ⟨g1, g2, g3, g4⟩ := hs.f b hb
      refine ⟨by omega, g2, fun h => g3 ((hbp b).2 (.inr h)), fun h => ?_, by omega, fun h => (hs.l b h).2 (.inr (.inr hb))⟩
      rcases List.mem_append.1 h with h | h
      · have := (hD b h).1; omega
      · exact g4 h
    · rcases List.mem_append.1 hb with h | h
      · exact (hD b h).2
      · exact (e5 b (hdl b h)).trans (hs.dk b h)
    · have h := hro k hk
      exact ⟨by have := lt_of_some h; omega, (e5 k (lt_of_some h)).trans h⟩
  have hap : apart (fun b => b ∈ bs h1 ∨ b ∈ D ++ S.d ∨ b = l ∨ F b ∨ r = some b) I W1 := by
    intro b hb
    rcases hb with h | h | h | h | h
    · exact ⟨by have := hbsl b ((hbp b).2 (.inr h)); omega, (hs.h.lt ((hbp b).2 (.inr h))).2⟩
    · rcases List.mem_append.1 h with h | h
      · exact ⟨lt_of_some (hD b h).2, hIn b (hD b h).1⟩
      · exact ⟨by have := hdl b h; omega, none_of_obj hs.m (hs.dk b h) (by intros; simp)⟩
    · subst h; exact ⟨lt_of_some hl1, hIn b hlge⟩
    · exact ⟨by have := (hs.f b h).1; omega, (hs.f b h).2.1⟩
    · obtain ⟨⟨rec, h'⟩, _⟩ := hs.l b h; exact ⟨by have := lt_of_some h'; omega, none_of_obj hs.m h' (by intros; simp)⟩
  have hFH : ∀ b, (b ∈ bs h1 ∨ b ∈ D ++ S.d ∨ b = l ∨ F b ∨ r = some b) → b ∉ bs H0 := by
    intro b hb hH
    have hS := (hbp b).2 (.inl hH)
    rcases hb with h | h | h | h | h
    · exact hdis b hH h
    · rcases List.mem_append.1 h with h | h
      · have := (hD b h).1; have := hbsl b hS; omega
      · have h' := hs.dk b h; exact not_bs hs.h h' (by intros; simp) hS
    · subst h; have := hbsl b hS; omega
    · exact (hs.f b h).2.2.1 hS
    · obtain ⟨⟨rec, h'⟩, _⟩ := hs.l b h; exact not_bs hs.h h' (by intros; simp) hS
  have hy := yield_it (P := P) (G := G) (E := E) (r := r) (n0 := S.n) (g := S.g) (d := D ++ S.d) (I0 := I) (l := l) (fnid := fnid) (ps := ps) (assign := assign) (body := body) (tmps := a.tmps) (db := db) (ro := ro) (xs := xs) (Inv := Inv) (InvX := InvX) hps hnd hpn hs.n hs.g (hbody l)
  refine ⟨l, D.map mark, W1, { target := .fn (.func f) cv.toArray, args := #[.func (.yield l) #[] #[]] }, W1, f, (Value.func (.yield l) #[] #[] :: cv).toArray, W1, hrun, ?_, fun f' _ => fn_true r f', ?_, fun h => by simp [Fr, Fence.wide] at h, ?_⟩
  · simp only [resolve]
    have : a.eval (.tmp t) = .func (.func f) #[] cv.toArray := hav
    simp only [this, Deferred.ofValue, Sem.run_pure, Array.empty_append]
    simp [Act.eval]
  · have : (#[Value.func (.yield l) #[] #[]] ++ cv.toArray) = (Value.func (.yield l) #[] #[] :: cv).toArray := by apply Array.ext'; simp
    simp only [invoke, this, hit.enters]
  · refine callsIn_fr r ((hit.main l _ I _ W1 cv hy hok hap hFH hm1 hhH hcd).mono ?_)
    rintro e W' ⟨v, I', F', i, H', rfl, hi, hQH, ⟨h, ie, Fc, hF', h0', hh', hE', hc', hd', hk', hl'⟩, hap', hFH', hm', hhH', hfr⟩
    have hbs' : ∀ b, b ∈ bs (H' ++ h) ↔ b ∈ bs H' ∨ b ∈ bs h := fun b => by simp [bs]
    have hhA : HoldsH (H' ++ h) I' W' := ⟨by simp only [bs, List.filterMap_append]; exact List.nodup_append.2 ⟨hhH'.nodup, hh'.nodup, fun x hx y hy e => by subst e; exact hFH' x ((hF' x).2 (.inl hy)) hx⟩, fun p hp => (List.mem_append.1 hp).elim (hhH'.mem p) (hh'.mem p)⟩
    -- the record, whatever it says, is not busy
    have fin : ∀ (st : LoopState) (pe : Option Code), st ≠ .busy → W'.heap[l]? = some (.loop { state := st, pending := pe, fn := fnid, tmps := a.tmps, params := ps, assign := assign, body := body, defers := db }) →
        ∃ W2, (Instr.endLoop l).run P W' = .ok pe W2 ∧ Sat G E r ⟨S.n, S.g, H' ++ h, D ++ S.d, ie⟩ I' Fc { a with defers := D.map mark ++ a.defers } W2 ∧ Fram (own S F) I W (own ⟨S.n, S.g, H' ++ h, D ++ S.d, ie⟩ Fc) I' W2 := by
      intro st pe hst hlw
      have hend := run_endLoop (P := P) hlw hst
      refine ⟨_, hend, ?_, ?_⟩
      · have other : ∀ k, k ≠ l → (W'.putObj l (.loop { state := .exhausted, pending := pe, fn := fnid, tmps := a.tmps, params := ps, assign := assign, body := body, defers := db })).heap[k]? = W'.heap[k]? := fun k hk => World.putObj_heap_other hk
        have hlI : I' l = none := none_of_obj hm' hlw (by intros; simp)
        obtain ⟨hm2, hf2⟩ := fram_put (W' := W'.putObj l (.loop { state := .exhausted, pending := pe, fn := fnid, tmps := a.tmps, params := ps, assign := assign, body := body, defers := db })) hm' hlI rfl rfl rfl (by simp) other
        have hlb : l ∉ bs (H' ++ h) := not_bs hhA hlw (by intros; simp)
        refine ⟨hs.n, fun t s ht => s.mono _ _ _ h0' (hs.g t s ht), hm2, hhA.keep hf2 fun b hb e => hlb (by rw [← e]; exact hb), by simp [hs.d], ?_, fun b hb => (other b fun e => ?_).trans (hd' b hb), ?_, fun b hb => ?_, fun k hk => ?_⟩
        · refine List.nodup_append.2 ⟨hDnd, hs.dn, fun x hx y hy e => ?_⟩
          subst e; have := (hD x hx).1; have := hdl x hy; omega
        · subst e; have := hd' b hb; rw [hlw] at this; cases this
        · exact E.stab _ _ _ _ _ _ hE' (Imm.le_refl _) rfl rfl rfl (by simp) (fun b hb => other b (hc' b hb).2.2.2.2.1) fun b hb => (hc' b hb).2.1
        · obtain ⟨g1, g2, g3, g4, _⟩ := hc' b hb; exact ⟨by simpa using g1, g2, fun h' => ((hbs' b).1 h').elim (hFH' b ((hF' b).2 (.inr (.inr (.inr (.inl hb)))))) g3, g4⟩
        · obtain ⟨h1, h2⟩ := hk' k hk
          refine ⟨⟨ro, (other k h1).trans h2⟩, fun ho => ?_⟩
          rcases ho with ho | ho | ho
          · exact not_bs hhA h2 (by intros; simp) ho
          · have := hd' k ho; rw [h2] at this; cases this
          · exact (hc' k ho).2.2.2.2.2 hk
      · have sub0 : ∀ b, (b ∈ bs H0 ∨ b ∈ bs h1 ∨ b ∈ D ++ S.d ∨ b = l ∨ F b ∨ r = some b) → b < W.heap.size → r ≠ some b → own S F b := fun b hb hlt hr => by
          rcases hb with h | h | h | h | h | h
          · exact .inl ((hbp b).2 (.inl h))
          · exact .inl ((hbp b).2 (.inr h))
          · rcases List.mem_append.1 h with h | h
            · have := (hD b h).1; omega
            · exact .inr (.inl h)
          · omega
          · exact .inr (.inr h)
          · exact absurd h hr
        refine ⟨hfr.os.trans e1, hfr.tape.trans e2, hfr.output.trans e3, hfr.imm, by have := hfr.size; simp; omega, fun b hb hn => ?_, fun b hb hb' => ?_, fun b hb => ?_⟩
        · rw [World.putObj_heap_other (by omega)]
          by_cases hr : r = some b
          · rw [(hk' b hr).2, hro b hr]
          · rw [hfr.old b (by omega) fun h => hn (sub0 b h hb hr), e5 b hb]
        · by_cases hlt : b < W.heap.size
          · rcases hfr.new b hb hb' with h | h
            · by_cases hr : r = some b
              · have h2 := (hk' b hr).2
                exact absurd (none_of_obj hm' h2 (by intros; simp)) hb'
              · exact .inl (sub0 b h hlt hr)
            · omega
          · exact .inr (by omega)
        · by_cases hlt : b < W.heap.size
          · left
            have hF : b ∈ bs H' ∨ F' b := by
              rcases hb with h | h | h
              · exact ((hbs' b).1 h).imp id fun h => (hF' b).2 (.inl h)
              · exact .inr ((hF' b).2 (.inr (.inl h)))
              · exact .inr ((hF' b).2 (.inr (.inr (.inr (.inl h)))))
            rcases hfr.own b hF with h | h
            · refine sub0 b h hlt fun hr => ?_
              have h2 := (hk' b hr).2
              rcases hb with h | h | h
              · exact not_bs hhA h2 (by intros; simp) h
              · have := hd' b h; rw [h2] at this; cases this
              · exact (hc' b h).2.2.2.2.2 hr
            · omega
          · exact .inr (by omega)
    rcases hl' with ⟨a1, a2, a3⟩ | ⟨a1, e, c, a2, a3, a4⟩
    · obtain ⟨W2, f1, f2, f3⟩ := fin _ _ (by simp) a2
      have hie : i = (xs.length, false) := by
        rcases hi with h | h
        · exact h
        · rw [a1] at h; cases h
      rw [hie] at a3 hQH
      exact ⟨none, W2, f1, ⟨_, I', Fc, f2, hdone h H' ie D a3 hQH, f3⟩⟩
    · obtain ⟨W2, f1, f2, f3⟩ := fin _ _ (by simp) a3
      refine ⟨some c, W2, f1, ?_⟩
      have hQH2 : QH (i.1, true) H' := by have : i = (i.1, true) := Prod.ext rfl a1; rw [← this]; exact hQH
      cases e with
      | ret => cases a2; exact wpIn_ret ⟨_, I', Fc, f2, hleave h H' ie i.1 D .ret _ rfl a4 hQH2, f3⟩
      | exit id => cases a2; exact wpIn_exit ⟨_, I', Fc, f2, hleave h H' ie i.1 D (.exit id) _ rfl a4 hQH2, f3⟩
      | _ => cases a2
theorem T_rngH {H0 h1 : HL} {QH : Nat × Bool → HL → Prop} {n : Nat} {g : List (Nat × SV)} {h : HL} {d : List Nat} {i : Nat × Bool} {x : Operand} {t : Nat} {ps : Array Tmp} {assign body : Code} {f : FuncId} {caps : List SV} {xs : List (List SV)} (hx : x = .tmp t) (hg : look t g = some (fnS f caps)) (hit : IterSpecH P G f caps xs H0 QH) (hsp : List.Perm h (H0 ++ h1)) (hps : ∀ ss ∈ xs, ss.length = ps.size) (hnd : ps.toList.Nodup) (hpn : (ps.toList.all fun p => Nat.blt p n) = true)
    (Inv : Nat → HL → Nat × Bool → Prop) (InvX : Exit → HL → Nat × Bool → Prop) (h0 : Inv 0 h1 i)
    (hbody : ∀ (l k : Nat) (ss : List SV) (h : HL) (i : Nat × Bool), xs[k]? = some ss → Inv k h i → T P G E (some l) assign ⟨n, zipPs ps.toList ss ++ g, h, [], i⟩ (fun e S' => e = .normal ∧ T P G E (some l) body S' (roundQ Inv InvX k)))
    (hdone : ∀ (h H' : HL) (i : Nat × Bool) (D : List Nat), Inv xs.length h i → QH (xs.length, false) H' → Q .normal ⟨n, g, H' ++ h, D ++ d, i⟩)
    (hleave : ∀ (h H' : HL) (i : Nat × Bool) (j : Nat) (D : List Nat) (e : Exit) (c : Code), codeOf e = some c → InvX e h i → QH (j, true) H' → Q e ⟨n, g, H' ++ h, D ++ d, i⟩) : T P G E r (.rangeFunc x ps assign body) ⟨n, g, h, d, i⟩ Q :=
  T_rangeH hx hg hit hsp hps hnd (fun p hp => Nat.blt_eq ▸ (List.all_eq_true.1 hpn p hp)) Inv InvX h0 hbody hdone hleave
theorem ghost_heap {n : Nat} {g : List (Nat × SV)} {h h' : HL} {d : List Nat} {i : Nat × Bool} (hs : subH h h') : Ghost G E r ⟨n, g, h, d, i⟩ ⟨n, g, h', d, i⟩ := fun I F _ _ s =>
  have hb : bs h' = bs h := hs.bs
  have ho : ∀ b, own ⟨n, g, h', d, i⟩ F b ↔ own ⟨n, g, h, d, i⟩ F b := fun b => by simp only [own]; rw [hb]
  ⟨I, { s with
    h := hs.holds s.h
    f := fun b hF => ⟨(s.f b hF).1, (s.f b hF).2.1, fun x => (s.f b hF).2.2.1 (hb ▸ x), (s.f b hF).2.2.2⟩
    l := fun k hk => ⟨(s.l k hk).1, fun x => (s.l k hk).2 ((ho k).1 x)⟩ }, (Fram.refl _ _ _).weaken (fun _ h => h) fun b h => .inr ((ho b).1 h)⟩
theorem Sat.cell {n : Nat} {g : List (Nat × SV)} {pre post : HL} {b : Option Nat} {e k : Nat} {s s' : SV} {d : List Nat} {i : Nat × Bool} {I : Imm} {F : Nat → Prop} {a : Act} {W : World} (hs : Sat G E r ⟨n, g, pre ++ ⟨b, e, [s], k⟩ :: post, d, i⟩ I F a W) (h : ∀ v, s.den I v → s'.den I v) :
    Sat G E r ⟨n, g, pre ++ ⟨b, e, [s'], k⟩ :: post, d, i⟩ I F a W ∧ own ⟨n, g, pre ++ ⟨b, e, [s'], k⟩ :: post, d, i⟩ F = own ⟨n, g, pre ++ ⟨b, e, [s], k⟩ :: post, d, i⟩ F := by
  have hb : bs (pre ++ ⟨b, e, [s'], k⟩ :: post) = bs (pre ++ ⟨b, e, [s], k⟩ :: post) := by simp [bs, List.filterMap_append, List.filterMap_cons]
  have ho : own ⟨n, g, pre ++ ⟨b, e, [s'], k⟩ :: post, d, i⟩ F = own ⟨n, g, pre ++ ⟨b, e, [s], k⟩ :: post, d, i⟩ F := by funext c; simp only [own]; rw [hb]
  refine ⟨{ hs with
    h := ⟨by rw [hb]; exact hs.h.nodup, fun p hp => ?_⟩
    f := fun c hc => ⟨(hs.f c hc).1, (hs.f c hc).2.1, fun x => (hs.f c hc).2.2.1 (hb ▸ x), (hs.f c hc).2.2.2⟩
    l := fun j hj => ⟨(hs.l j hj).1, fun x => (hs.l j hj).2 (ho ▸ x)⟩ }, ho⟩
  rcases List.mem_append.1 hp with h1 | h1
  · exact hs.h.mem p (List.mem_append.2 (.inl h1))
  · rcases List.mem_cons.1 h1 with h1 | h1
    · subst h1
      have h2 := hs.h.mem ⟨b, e, [s], k⟩ (by simp)
      cases b with
      | none => exact absurd (h2.none rfl) (by simp)
      | some b =>
        obtain ⟨g1, c, g2, g3, g4, g5⟩ := h2.some rfl
        refine .of_some rfl ⟨g1, c, g2, g3, g4, ?_⟩
        obtain ⟨x, rr, hx, hxs, hr⟩ := dens_cons_inv g5
        cases dens_nil_inv hr
        show dens I [s'] (c.toList.take 1)
        rw [show c.toList.take 1 = [x] from hx]
        exact dens_cons (h x hxs) dens_nil
    · exact hs.h.mem p (by simp [h1])
/-- a row of one's own that a cell of one's own leads to, given up -/
theorem ghost_slc (pre mid post : HL) {n : Nat} {g : List (Nat × SV)} {d : List Nat} {i : Nat × Bool} {b0 : Option Nat} {e0 k0 : Nat} {q : Option (Nat × Nat)} {e st m : Nat} {cs : List SV} {α : Type} {f : α → List SV} {l : List α} (hq : rowOk q m) (hl : l.length = m) (hcs : cs = l.flatMap f) (hf : ∀ x ∈ l, (f x).length = st) (hb : m ≤ big) :
    Ghost G E r ⟨n, g, pre ++ rowE q e st m cs :: (mid ++ ⟨b0, e0, [eqS (rowV q m)], k0⟩ :: post), d, i⟩ ⟨n, g, pre ++ (mid ++ ⟨b0, e0, [slS st f l], k0⟩ :: post), d, i⟩ := by
  intro I F a W hs
  rw [← List.append_assoc]
  subst hcs
  cases q with
  | none =>
    have hq : m = 0 := hq
    subst hq
    have hl0 : l = [] := List.eq_nil_of_length_eq_zero hl
    subst hl0
    obtain ⟨I', s1, f1⟩ := ghost_drop (G := G) (E := E) (r := r) (n := n) (g := g) (d := d) (i := i) (h := pre ++ rowE none e st 0 ([].flatMap f) :: (mid ++ ⟨b0, e0, [eqS (rowV none 0)], k0⟩ :: post)) (h' := (pre ++ mid) ++ ⟨b0, e0, [eqS (rowV none 0)], k0⟩ :: post) (by rw [List.append_assoc]; exact List.Sublist.append_left (List.sublist_cons_self _ _) _) I F a W hs
    obtain ⟨s2, o2⟩ := s1.cell (s' := slS st f []) fun v hv => ⟨none, 0, hv, Nat.le_refl _, Nat.zero_le _, .inl rfl⟩
    exact ⟨I', s2, by rw [o2]; exact f1⟩
  | some q =>
    obtain ⟨b, cap⟩ := q
    obtain ⟨I', s1, s2, hle, hc⟩ := freeze_at (j := pre.length) (b := b) (e := e) (k := cap * st - m * st) (cs := l.flatMap f) (by simp [rowE]) hs
    have ee : (pre ++ rowE (some (b, cap)) e st m (l.flatMap f) :: (mid ++ ⟨b0, e0, [eqS (rowV (some (b, cap)) m)], k0⟩ :: post)).take pre.length ++ (pre ++ rowE (some (b, cap)) e st m (l.flatMap f) :: (mid ++ ⟨b0, e0, [eqS (rowV (some (b, cap)) m)], k0⟩ :: post)).drop (pre.length + 1) = (pre ++ mid) ++ ⟨b0, e0, [eqS (rowV (some (b, cap)) m)], k0⟩ :: post := by simp [List.drop_append]
    simp only [ee] at s1 s2
    obtain ⟨s3, o3⟩ := s1.cell (s' := slS st f l) fun v hv => by
      obtain ⟨c, hc1, hc2⟩ := hc
      refine ⟨some ⟨b, 0, none⟩, cap, by rw [hl]; exact hv, by rw [hl]; exact hq.1, by rw [hl]; exact hb, .inr ⟨b, 0, rfl, fun i x hx => ⟨c, hc1, fun k s hk => ?_⟩⟩⟩
      have : (l.flatMap f)[i * st + k]? = some s := by
        rw [List.flatMap_def]
        exact flatten_at (by intro d hd; obtain ⟨y, hy, rfl⟩ := List.mem_map.1 hd; exact hf y hy) (by rw [List.getElem?_map, hx]; rfl) hk
      have := hc2 _ s this
      simpa [Nat.add_assoc] using this
    exact ⟨I', s3, by rw [o3]; exact s2⟩
theorem ghost_cell {n : Nat} {g : List (Nat × SV)} {b : Option Nat} {e k : Nat} {s s' : SV} {h : HL} {d : List Nat} {i : Nat × Bool} (hs : ∀ I v, s.den I v → s'.den I v) : Ghost G E r ⟨n, g, ⟨b, e, [s], k⟩ :: h, d, i⟩ ⟨n, g, ⟨b, e, [s'], k⟩ :: h, d, i⟩ :=
  ghost_heap ⟨rfl, rfl, rfl, rfl, fun I xs hd => by obtain ⟨x, rr, rfl, hx, hr⟩ := dens_cons_inv hd; cases dens_nil_inv hr; exact dens_cons (hs I x hx) dens_nil, subH_refl h⟩
end
end Go.Sv
