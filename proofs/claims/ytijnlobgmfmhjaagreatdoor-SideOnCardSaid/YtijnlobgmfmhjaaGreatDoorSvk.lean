/- A function's contract out of its body; ranges over functions. -/
import Derived.Test.YtijnlobgmfmhjaaGreatDoorSvj
namespace Go.Sv
open Go Go.RowKit Go.Shelf

section
variable {P : Program} {G : Imm}

def noEnv : Env := ⟨fun _ _ F _ => ∀ b, ¬ F b, fun _ _ _ _ _ _ h _ _ _ _ _ _ _ => h⟩
inductive Res1 (P : Program) (g : List (Nat × SV)) (h : HL) : ResultVar → SV → Prop
  | tmp {t : Nat} {s : SV} (hg : look t g = some s) : Res1 P g h (.tmp t) s
  | own (j : Nat) {a t off b e k : Nat} {cs : List SV} {s : SV} (it : IsScalar P t) (ha : look a g = some (eqS (.pointer (some ⟨b, off, none⟩)))) (hH : h[j]? = some ⟨some b, e, cs, k⟩) (hs : cs[off]? = some s) : Res1 P g h (.cell a t) s
  | agg (j : Nat) {a t n off b e k : Nat} {cs ds : List SV} (it : IsAgg P t n) (ha : look a g = some (eqS (.pointer (some ⟨b, off, none⟩)))) (hH : h[j]? = some ⟨some b, e, cs, k⟩) (hd : (cs.drop off).take n = ds) (hn : ds.length = n) : Res1 P g h (.cell a t) (aggS ds)
inductive ResL (P : Program) (g : List (Nat × SV)) (h : HL) : List ResultVar → List SV → Prop
  | nil : ResL P g h [] []
  | cons {x : ResultVar} {s : SV} {l : List ResultVar} {cs : List SV} (h1 : Res1 P g h x s) (h2 : ResL P g h l cs) : ResL P g h (x :: l) (s :: cs)
inductive Res (P : Program) (g : List (Nat × SV)) (h : HL) : List ResultVar → SV → Prop
  | one {x : ResultVar} {s : SV} (h1 : Res1 P g h x s) : Res P g h [x] s
  | none : Res P g h [] (tupS [])
  | many {x y : ResultVar} {l : List ResultVar} {cs : List SV} (h1 : ResL P g h (x :: y :: l) cs) : Res P g h (x :: y :: l) (tupS cs)
def resM (tmps : Array Value) : ResultVar → Sem Value
  | .tmp t => pure (tmps.getD t undef)
  | .cell a t => do loadVar t (← asAddr (tmps.getD a undef))
section res
variable {g : List (Nat × SV)} {h : HL} {I : Imm} {tmps : Array Value} {W : World}
theorem Res1.run {x : ResultVar} {s : SV} (hr : Res1 P g h x s) (hg : ∀ t s, look t g = some s → s.den I (tmps.getD t undef)) (hh : HoldsH h I W) : ∃ v, (resM tmps x).run P W = .ok v W ∧ s.den I v := by
  cases hr with
  | tmp h1 => exact ⟨_, rfl, hg _ _ h1⟩
  | own j it ha hH hs =>
    have hv : tmps.getD _ undef = _ := hg _ _ ha
    obtain ⟨c, hc, hd⟩ := own_cells ((hh.mem _ (List.mem_of_getElem? hH)).some rfl)
    obtain ⟨y, hy, hys, _⟩ := hd _ _ hs
    refine ⟨y, ?_, hys⟩
    simp only [resM, hv, asAddr, Sem.run_bind, Sem.run_pure, Result.andThen_ok]
    exact run_loadVar_scalar (by rw [cell_of_heap hc]; exact hy)
  | @agg j _ _ n off _ _ _ _ _ it ha hH hd hn =>
    have hv : tmps.getD _ undef = _ := hg _ _ ha
    obtain ⟨c, hc, hcs⟩ := own_cells ((hh.mem _ (List.mem_of_getElem? hH)).some rfl)
    obtain ⟨xs, hx1, hx2, hx3, hx4⟩ := dens_of_at (c := c) (off := off) hn (fun i s hi => by
      rw [← hd, List.getElem?_take] at hi
      split at hi
      · rw [List.getElem?_drop] at hi; exact hcs _ s hi
      · cases hi)
    refine ⟨.agg xs.toArray, ?_, xs, rfl, hx3, hx4⟩
    simp only [resM, hv, asAddr, Sem.run_bind, Sem.run_pure, Result.andThen_ok]
    exact run_loadVar_agg hx1 (fun j v hj => by rw [cell_of_heap hc]; exact hx2 j v hj)
theorem ResL.run (hg : ∀ t s, look t g = some s → s.den I (tmps.getD t undef)) (hh : HoldsH h I W) {l : List ResultVar} {cs : List SV} (hr : ResL P g h l cs) : ∃ vs : List Value, (l.mapM (resM tmps)).run P W = .ok vs W ∧ dens I cs vs := by
  induction hr with
  | nil => exact ⟨[], by simp, dens_nil⟩
  | cons h1 _ ih =>
    obtain ⟨v, hv, hs⟩ := h1.run hg hh
    obtain ⟨vs, hvs, hd⟩ := ih
    refine ⟨v :: vs, ?_, dens_cons hs hd⟩
    simp only [List.mapM_cons, Sem.run_bind, Sem.run_pure, Result.andThen_ok, hv, hvs]
theorem run_results {fn : Func} {s : SV} (hg : ∀ t s, look t g = some s → s.den I (tmps.getD t undef)) (hh : HoldsH h I W) (hr : Res P g h fn.results.toList s) :
    ∃ v, (results fn tmps).run P W = .ok v W ∧ s.den I v := by
  have e : results fn tmps = (do let vs ← fn.results.mapM (resM tmps); pure (if h : vs.size = 1 then vs[0] else .tuple vs)) := rfl
  rw [e, Array.mapM_eq_mapM_toList]
  generalize fn.results.toList = l at hr
  cases hr with
  | one h1 =>
    obtain ⟨v, hv, hs⟩ := h1.run hg hh
    refine ⟨v, ?_, hs⟩
    simp [Sem.run_bind, Sem.run_map, hv]
  | none => exact ⟨.tuple #[], by simp [Sem.run_bind, Sem.run_map], [], rfl, dens_nil⟩
  | many h1 =>
    obtain ⟨vs, hv, hd⟩ := h1.run hg hh
    have hl : vs.length ≠ 1 := by rw [hd.1]; cases h1 with | cons a b => cases b; simp
    refine ⟨.tuple vs.toArray, ?_, vs, rfl, hd⟩
    simp only [Sem.run_bind, Sem.run_map, hv, Result.andThen_ok, Sem.run_pure]
    rw [dif_neg (by simpa using hl)]
end res
theorem bs_sub {H' H : HL} (h : H'.Sublist H) : (bs H').Sublist (bs H) := h.filterMap _
theorem HoldsH.less {H' H : HL} (h : H'.Sublist H) {I : Imm} {W : World} (hh : HoldsH H I W) : HoldsH H' I W := ⟨hh.nodup.sublist (bs_sub h), fun p hp => hh.mem p (h.subset hp)⟩
/-- what a function hands back: the results, and of what it owns the part H' -/
def fnQ (P : Program) (l : List ResultVar) (Q : SV → HL → Prop) : Exit → St → Prop
  | .ret, S => ∃ s H', Res P S.g S.h l s ∧ H'.Sublist S.h ∧ Q s H'
  | .normal, S => ∃ s H', Res P S.g S.h l s ∧ H'.Sublist S.h ∧ Q s H'
  | _, _ => False
def params : Nat → List SV → List (Nat × SV)
  | _, [] => []
  | k, s :: l => (k, s) :: params (k + 1) l
theorem look_params {I : Imm} : ∀ {l : List SV} {vs : List Value} {k t : Nat} {s : SV}, dens I l vs → look t (params k l) = some s → k ≤ t ∧ ∃ x, vs[t - k]? = some x ∧ s.den I x
  | [], _, _, _, _, _, h => by simp [params, look] at h
  | a :: l, vs, k, t, s, hd, h => by
    obtain ⟨x, r, rfl, hx, hr⟩ := dens_cons_inv hd
    simp only [params, look] at h
    split at h
    · rename_i e; cases h; have := Nat.eq_of_beq_eq_true e; subst this; exact ⟨Nat.le_refl _, x, by simp, hx⟩
    · obtain ⟨h1, y, h2, h3⟩ := look_params hr h
      refine ⟨by omega, y, ?_, h3⟩
      rw [show t - k = t - (k + 1) + 1 from by omega]; simpa using h2

/-- what holds where the deferred blocks of the loops are shut -/
theorem shut_marks {fn : Func} {tmps : Array Value} {R : Ending → World → Prop} {I : Imm} {H : HL}:
    ∀ (ds : List Nat) (W : World), ds.Nodup → (∀ b ∈ ds, W.heap[b]? = some (.deferred (some []))) → Holds G I W → HoldsH H I W → (∀ W', Holds G I W' → HoldsH H I W' → W'.os = W.os → W'.tape = W.tape → W'.output = W.output → W'.heap.size = W.heap.size → (∀ k, k ∉ ds → W'.heap[k]? = W.heap[k]?) → ∃ v, (results fn tmps).run P W' = .ok v W' ∧ R (.returned v) W') →
    LeavesInM Fence.wide 0 P fn tmps R (ds.map mark) .returning W
  | [], W, _, _, hm, hh, k => k W hm hh rfl rfl rfl rfl fun _ _ => rfl
  | b :: ds, W, hnd, hdk, hm, hh, k => by
    have hb := hdk b (by simp)
    have hnd' := List.nodup_cons.1 hnd
    have other : ∀ j, j ≠ b → (W.putObj b (.deferred none)).heap[j]? = W.heap[j]? := fun j hj => World.putObj_heap_other hj
    refine ⟨by simp, .inl ⟨b, _, rfl, run_takeDeferred hb, ?_⟩⟩
    have hm' : Holds G I (W.putObj b (.deferred none)) := ⟨hm.glob, fun j c hc => by
      obtain ⟨e, f, he⟩ := hm.mem j c hc
      exact ⟨e, f, (other j (fun e' => by subst e'; rw [hb] at he; cases he)).trans he⟩⟩
    have hh' : HoldsH H I (W.putObj b (.deferred none)) := ⟨hh.nodup, fun p hp => by
      cases hpb : p.b with
      | none => exact .of_none hpb ((hh.mem p hp).none hpb)
      | some j =>
        have h1 := (hh.mem p hp).some hpb
        obtain ⟨_, c, hc, _⟩ := h1
        exact .of_some hpb (((hh.mem p hp).some hpb).keep (Imm.le_refl _) ((hh.mem p hp).some hpb).1 (other j fun e' => by subst e'; rw [hb] at hc; cases hc))⟩
    refine shut_marks ds _ hnd'.2 (fun j hj => (other j fun e' => by subst e'; exact hnd'.1 hj).trans (hdk j (by simp [hj]))) hm' hh' fun W' h1 h2 h3 h4 h5 h6 h7 => ?_
    exact k W' h1 h2 h3 h4 h5 (by rw [h6]; simp) fun j hj => (h7 j (by simp at hj; exact hj.2)).trans (other j (by simp at hj; exact hj.1))

/-- beside whatever environment -/
theorem fn_gen {E : Env} {i0 : Nat × Bool} {f : FuncId} {fn : Func} {c : Code} {args : List SV} {H : HL} {Q : SV → HL → Nat × Bool → Prop} (hf : P.funcs[f]? = some fn) (hb : fn.body = some c) (hn : Nat.ble args.length fn.ntmps = true)
    (hT : T P G E none c { n := fn.ntmps, g := params 0 args, h := H, d := [], i := i0 } (fun e S => (e = .ret ∨ e = .normal) ∧ ∃ s H', Res P S.g S.h fn.results.toList s ∧ H'.Sublist S.h ∧ Q s H' S.i))
    {I : Imm} {F : Nat → Prop} {W : World} {vs : List Value} (hm : Holds G I W) (hh : HoldsH H I W) (hd : dens I args vs) (he : E.ok i0 I F W) (hF : ∀ b, F b → b < W.heap.size ∧ I b = none ∧ b ∉ bs H) :
    Calls P f vs.toArray W fun e W' => ∃ v I' F' s H' i', e = .returned v ∧ Q s H' i' ∧ s.den I' v ∧ Holds G I' W' ∧ HoldsH H' I' W' ∧ E.ok i' I' F' W' ∧ (∀ b, F' b → b < W'.heap.size ∧ I' b = none ∧ b ∉ bs H') ∧
      Fram (fun b => b ∈ bs H ∨ F b) I W (fun b => b ∈ bs H' ∨ F' b) I' W' := by
  refine (callsIn_wide (n := 0)).1 (callsIn_of_wp_marks hf hb trivial ?_)
  have hs : Sat G E none { n := fn.ntmps, g := params 0 args, h := H, d := [], i := i0 } I F { tmps := vs.toArray ++ Array.replicate (fn.ntmps - vs.toArray.size) undef, defers := [] } W := by
    refine ⟨?_, fun t s hl => ?_, hm, hh, rfl, List.nodup_nil, fun b hb => (by cases hb), he, fun b hb => ⟨(hF b hb).1, (hF b hb).2.1, (hF b hb).2.2, by simp⟩, fun k hk => (by cases hk)⟩
    · have := hd.1; have := Nat.le_of_ble_eq_true hn; simp; omega
    · obtain ⟨_, x, hx, hsx⟩ := look_params hd hl
      have hlt := lt_of_get hx
      simp only [Nat.sub_zero] at hx hlt
      have : ({ tmps := vs.toArray ++ Array.replicate (fn.ntmps - vs.toArray.size) undef, defers := [] } : Act).tmps.getD t undef = x := by
        simp only [Array.getD_eq_getD_getElem?]
        rw [Array.getElem?_append_left (by simpa using hlt)]
        simp [hx]
      rw [this]; exact hsx
  have hT' := hT 0 I F _ W hs
  rw [fr_none] at hT'
  refine wpIn_mono hT' fun e a' W' hp => ?_
  obtain ⟨S', I', F', h1, ⟨h20, h2⟩, h3⟩ := hp
  have fin : LeavesInM Fence.wide 0 P fn a'.tmps (fun e W' => ∃ v I' F' s H' i', e = Ending.returned v ∧ Q s H' i' ∧ s.den I' v ∧ Holds G I' W' ∧ HoldsH H' I' W' ∧ E.ok i' I' F' W' ∧ (∀ b, F' b → b < W'.heap.size ∧ I' b = none ∧ b ∉ bs H') ∧
      Fram (fun b => b ∈ bs H ∨ F b) I W (fun b => b ∈ bs H' ∨ F' b) I' W') a'.defers .returning W' := by
    obtain ⟨s, H2, hres, hsub, hQ⟩ := h2
    rw [h1.d]
    refine shut_marks (G := G) (I := I') (H := S'.h) S'.d W' h1.dn h1.dk h1.m h1.h fun W'' k1 k2 k3 k4 k5 k6 k7 => ?_
    obtain ⟨v, hv, hsv⟩ := run_results (P := P) (W := W'') (fn := fn) h1.g k2 hres
    have own0 : ∀ b, own { n := fn.ntmps, g := params 0 args, h := H, d := [], i := i0 } F b → b ∈ bs H ∨ F b := by
      intro b hb; rcases hb with h | h | h
      · exact .inl h
      · cases h
      · exact .inr h
    refine ⟨v, hv, v, I', F', s, H2, S'.i, rfl, hQ, hsv, k1, k2.less hsub, ?_, fun b hb => ?_, ?_⟩
    · exact E.stab _ _ _ _ _ _ h1.e (Imm.le_refl _) k3 k4 k5 (by rw [k6]; exact Nat.le_refl _) (fun b hb => k7 b (h1.f b hb).2.2.2) fun b hb => (h1.f b hb).2.1
    · obtain ⟨f1, f2, f3, _⟩ := h1.f b hb; exact ⟨by rw [k6]; exact f1, f2, fun h => f3 ((bs_sub hsub).subset h)⟩
    refine ⟨k3.trans h3.os, k4.trans h3.tape, k5.trans h3.output, h3.imm, by rw [k6]; exact h3.size, fun b hb hn => ?_, fun b hb hb' => (h3.new b hb hb').imp (own0 b) id, fun b hb => ?_⟩
    · have hbd : b ∉ S'.d := fun hbd => by
        rcases h3.own b (.inr (.inl hbd)) with h | h
        · exact hn (own0 b h)
        · omega
      exact (k7 b hbd).trans (h3.old b hb fun h => hn (own0 b h))
    · refine (h3.own b ?_).imp (own0 b) id
      rcases hb with hb | hb
      · exact .inl ((bs_sub hsub).subset hb)
      · exact .inr (.inr hb)
  rcases h20 with rfl | rfl
  · exact fin
  · exact fin
theorem fn_spec {f : FuncId} {fn : Func} {c : Code} {args : List SV} {H : HL} {Q : SV → HL → Prop} (hf : P.funcs[f]? = some fn) (hname : (fn.name == "runtime.NumGoroutine") = false) (hb : fn.body = some c) (hn : Nat.ble args.length fn.ntmps = true)
    (hT : T P G noEnv none c { n := fn.ntmps, g := params 0 args, h := H, d := [], i := (0, false) } (fnQ P fn.results.toList Q)) : CallSpec P G f args H Q := by
  refine ⟨fun args w => ?_, fun I W vs hm hh hd => ?_⟩
  · have h1 : fn.name ≠ "runtime.NumGoroutine" := by simpa using hname
    simp [callFunc, hf, h1, hb]
  · have h := fn_gen (E := noEnv) (i0 := (0, false)) (Q := fun s H' _ => Q s H') hf hb hn (T_mono hT fun e S hq => by
      cases e with
      | ret => exact ⟨.inl rfl, hq⟩
      | normal => exact ⟨.inr rfl, hq⟩
      | _ => exact hq.elim) (F := fun _ => False) hm hh hd (fun b h => h) (fun b h => h.elim)
    refine h.mono ?_
    rintro e W' ⟨v, I', F', s, H', i', h1, h2, h3, h4, h5, h6, h7, h8⟩
    exact ⟨v, I', s, H', h1, h2, h3, h4, h5, h8.weaken (fun b hb => hb.elim id fun h => h.elim) fun b hb => .inl (.inl hb)⟩
end
end Go.Sv
