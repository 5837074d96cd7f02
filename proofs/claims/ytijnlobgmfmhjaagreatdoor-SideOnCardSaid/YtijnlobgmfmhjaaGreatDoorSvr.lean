/- Ranges over functions: the contract of an iterator (IterSpec), the rule by which it is proved (its calls of yield), the rule of the loop. -/
import Derived.Test.YtijnlobgmfmhjaaGreatDoorSvl
namespace Go.Sv
open Go Go.RowKit

section
variable {P : Program} {G : Imm}
def apart (F : Nat → Prop) (I : Imm) (W : World) : Prop := ∀ b, F b → b < W.heap.size ∧ I b = none
/-- a round: yield's call with what the k-th element says takes the environment from k to k + 1 -/
def YieldOK (P : Program) (G : Imm) (E : Env) (l : Nat) (xs : List (List SV)) : Prop :=
  ∀ (k : Nat) (ss : List SV), xs[k]? = some ss → ∀ (n : Nat) (I : Imm) (F : Nat → Prop) (W : World) (vs : List Value), E.ok (k, false) I F W → apart F I W → Holds G I W → dens I ss vs →
    ∃ fn tmps assign body, (Instr.yield l vs.toArray).run P W = .ok (.round l fn tmps assign body) W ∧ RoundIn Fence.wide n P l fn tmps assign body W fun e W' =>
      ∃ b I' F', e = .returned (.bool b) ∧ E.ok (k + 1, !b) I' F' W' ∧ apart F' I' W' ∧ Holds G I' W' ∧ Fram F I W F' I' W'
def yieldS (l : Nat) : SV := eqS (.func (.yield l) #[] #[])
/-- the contract of an iterator: it hands yield the elements of xs in their order, until yield says no -/
structure IterSpec (P : Program) (G : Imm) (f : FuncId) (caps : List SV) (xs : List (List SV)) : Prop where
  enters : ∀ args w, (callFunc f args).run P w = .ok (.enter f args) w
  main : ∀ (l : Nat) (E : Env) (I : Imm) (F : Nat → Prop) (W : World) (cv : List Value), YieldOK P G E l xs → E.ok (0, false) I F W → apart F I W → Holds G I W → dens I caps cv →
    Calls P f (Value.func (.yield l) #[] #[] :: cv).toArray W fun e W' => ∃ v I' F' i, e = .returned v ∧ (i = (xs.length, false) ∨ i.2 = true) ∧ E.ok i I' F' W' ∧ apart F' I' W' ∧ Holds G I' W' ∧ Fram F I W F' I' W'

theorem iter_spec {f : FuncId} {fn : Func} {c : Code} {caps : List SV} {xs : List (List SV)} (hf : P.funcs[f]? = some fn) (hname : (fn.name == "runtime.NumGoroutine") = false) (hb : fn.body = some c) (hn : Nat.ble (caps.length + 1) fn.ntmps = true) (hres : fn.results = #[])
    (hT : ∀ (l : Nat) (E : Env), YieldOK P G E l xs → T P G E none c { n := fn.ntmps, g := params 0 (yieldS l :: caps), h := [], d := [], i := (0, false) } (fun e S => (e = .ret ∨ e = .normal) ∧ (S.i = (xs.length, false) ∨ S.i.2 = true))) : IterSpec P G f caps xs := by
  refine ⟨fun args w => ?_, fun l E I F W cv hy he hF hm hd => ?_⟩
  · have h1 : fn.name ≠ "runtime.NumGoroutine" := by simpa using hname
    simp [callFunc, hf, h1, hb]
  · have h := fn_gen (E := E) (i0 := (0, false)) (H := []) (args := yieldS l :: caps) (vs := Value.func (.yield l) #[] #[] :: cv) (I := I) (F := F) (W := W) (Q := fun _ _ i => i = (xs.length, false) ∨ i.2 = true) hf hb (by simpa using hn)
      (T_mono (hT l E hy) fun e S ⟨h1, h2⟩ => ⟨h1, _, [], by rw [hres]; exact .none, List.nil_sublist _, h2⟩) hm ⟨by simp [bs], by simp⟩ (dens_cons rfl hd) he (fun b hb => ⟨(hF b hb).1, (hF b hb).2, by simp [bs]⟩)
    refine h.mono ?_
    rintro e W' ⟨v, I', F', s, H', i', h1, h2, _, h4, _, h6, h7, h8⟩
    exact ⟨v, I', F', i', h1, h2, h6, fun b hb => ⟨(h7 b hb).1, (h7 b hb).2.1⟩, h4, h8.weaken (fun b hb => hb.elim (fun h => by simp [bs] at h) id) fun b hb => .inl (.inr hb)⟩

variable {E : Env} {r : Option Nat} {gd : Nat → Option Nat} {o : Oper} {ops : List Oper} {K : St → Prop}
/-- a call of yield -/
theorem eff_yield {S : St} {l k : Nat} {xs : List (List SV)} {ss args : List SV} {x : Operand} {xa : Array Operand} {ts : Array TypeId} (hy : YieldOK P G E l xs) (hop : o.op = .call { callee := .value x, args := xa, argTypes := ts }) (hx : opE S.g x = some (yieldS l)) (ha : argsE S.g xa.toList = some args)
    (hi : S.i = (k, false)) (hk : xs[k]? = some ss) (hs : subL args ss) (hd : dstOk o S.n = true) : OpEff P G E r o S (fun S' => ∃ b, S' = ({ S with i := (k + 1, !b) }).set o.dst (boolS b)) := by
  intro n I F a W next Q hsat kk
  have hr := reads_of_sat hsat o
  have hv : a.eval x = .func (.yield l) #[] #[] := hr.get (x := x) (by simp [hop, Op.operands, Call.operands]) hx
  have hda : dens I args (xa.toList.map a.eval) := argsE_dens ha fun y hy' s hs => hr y (by simp [hop, Op.operands, Call.operands]; exact .inr (by simpa using hy')) s hs
  obtain ⟨fn, tmps, assign, body, hrun, hround⟩ := hy k ss hk (n - 1) I F W _ (by rw [← hi]; exact hsat.e) (fun b hb => ⟨(hsat.f b hb).1, (hsat.f b hb).2.1⟩) hsat.m (hs.dens hda)
  have hex : (execOp a.eval o).run P W = .ok (.round l fn tmps assign body) W := by
    have e : Array.map a.eval xa = (xa.toList.map a.eval).toArray := by apply Array.ext'; simp
    simp only [execOp, hop, resolve, hv, Deferred.ofValue, Sem.run_bind, Sem.run_pure, Result.andThen_ok, invoke, Array.empty_append, e, hrun]
  refine wp_of_run (by simp [hop]) hex ?_
  refine ⟨fun h => by simp [Fr, Fence.wide] at h, ?_⟩
  have hround' : RoundIn (Fr r) (n - 1) P l fn tmps assign body W _ := hround
  refine hround'.mono ?_
  rintro e W' ⟨b, I', F', rfl, hE, hF', hm', hf⟩
  have hnd : ∀ c, c ∈ bs S.h → ¬ F c := fun c hc hF => (hsat.f c hF).2.2.1 hc
  have hmd : ∀ c, c ∈ S.d → ¬ F c := fun c hc hF => (hsat.f c hF).2.2.2 hc
  have hs' : Sat G E r { S with i := (k + 1, !b) } I' F' a W' := by
    refine ⟨hsat.n, fun t s hl => s.mono _ _ _ hf.imm (hsat.g t s hl), hm', hsat.h.keep hf hnd, hsat.d, hsat.dn, fun c hc => ?_, hE, fun c hc => ?_, fun j hj => ?_⟩
    · have := hsat.dk c hc; exact (hf.old c (lt_of_some this) (hmd c hc)).trans this
    · refine ⟨(hF' c hc).1, (hF' c hc).2, fun h => ?_, fun h => ?_⟩
      · rcases hf.own c hc with h1 | h1
        · exact hnd c h h1
        · have := (hsat.h.lt h).1; omega
      · rcases hf.own c hc with h1 | h1
        · exact hmd c h h1
        · have := lt_of_some (hsat.dk c h); omega
    · obtain ⟨⟨rec, hrec⟩, ho⟩ := hsat.l j hj
      refine ⟨⟨rec, (hf.old j (lt_of_some hrec) fun h => ho (.inr (.inr h))).trans hrec⟩, fun h => ?_⟩
      rcases h with h | h | h
      · exact ho (.inl h)
      · exact ho (.inr (.inl h))
      · rcases hf.own j h with h1 | h1
        · exact ho (.inr (.inr h1))
        · have := lt_of_some hrec; omega
  refine kk _ I' F' _ W' (hs'.put (s := boolS b) rfl (dstOk_spec hd)) ⟨b, rfl⟩ ?_
  rw [own_set]
  refine hf.weaken (fun c hc => .inr (.inr hc)) fun c hc => ?_
  rcases hc with h | h | h
  · exact .inr (.inl h)
  · exact .inr (.inr (.inl h))
  · exact .inl h
theorem Run.yield {n d0 : Nat} {g : List (Nat × SV)} {h : HL} {d : List Nat} {l k : Nat} {xs : List (List SV)} {ss args : List SV} {x : Operand} {xa : Array Operand} {ts : Array TypeId} {p : Bool} (hp : p = false) (hy : YieldOK P G E l xs) (hop : o.op = .call { callee := .value x, args := xa, argTypes := ts }) (hx : opE g x = some (yieldS l)) (ha : argsE g xa.toList = some args)
    (hk : xs[k]? = some ss) (hs : subL args ss) (hg : guardAt gd g o true) (ht : o.dst = some d0) (hd : Nat.blt d0 n = true)
    (hr : ∀ b, Run P G E r gd p ops ⟨n, (d0, boolS b) :: g, h, d, (k + 1, !b)⟩ K) : Run P G E r gd p (o :: ops) ⟨n, g, h, d, (k, false)⟩ K :=
  .eff _ hp (eff_yield (S := ⟨n, g, h, d, (k, false)⟩) hy hop hx ha rfl hk hs (by simp [dstOk, ht]; simpa [Nat.blt_eq] using hd)) hg fun S' ⟨b, e⟩ => by subst e; have := hr b; simpa only [St.set, ht] using this
end
end Go.Sv
