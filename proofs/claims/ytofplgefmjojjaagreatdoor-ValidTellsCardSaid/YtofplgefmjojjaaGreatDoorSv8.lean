/- A map of texts that is laid and asked within one region; a bound method; what is nil. -/
import Derived.Test.YtofplgefmjojjaaGreatDoorSv7
import Derived.Test.YtofplgefmjojjaaGreatDoorSsa
import Derived.MapKept
import Derived.Carry
namespace Go.Sv
open Go Go.RowKit Go.MapKept
section
variable {P : Program} {G : Imm} {E : Env} {r : Option Nat}
def OpSw (P : Program) (G : Imm) (E : Env) (r : Option Nat) (o : Oper) (S : St) (K : St → Env → Prop) : Prop :=
  ∀ n I F a W (next : Act → World → Prop) (Q : Exit → Act → World → Prop), Sat G E r S I F a W →
    (∀ S' E' I' F' a' W', Sat G E' r S' I' F' a' W' → K S' E' → Fram (own S F) I W (own S' F') I' W' → next a' W') → o.wpIn (Fr r) n P a W next Q
inductive RunV (P : Program) (G : Imm) (r : Option Nat) (gd : Nat → Option Nat) : List Oper → Env → St → (St → Prop) → Prop
 | run {ops : List Oper} {S : St} {K : St → Prop} (h : Run P G noEnv r gd false ops S K) : RunV P G r gd ops noEnv S K
 | ok {o : Oper} {ops : List Oper} {E : Env} {S : St} {K : St → Prop} {s : SV} (ho : OpOK P G S.h o S.g s) (hg : guardAt gd S.g o true) (hd : ∀ t, o.dst = some t → t < S.n) (h : RunV P G r gd ops E (S.set o.dst s) K) : RunV P G r gd (o :: ops) E S K
 | sw {o : Oper} {ops : List Oper} {E : Env} {S : St} {K : St → Prop} (K' : St → Env → Prop) (ho : OpSw P G E r o S K') (hg : guardAt gd S.g o true) (h : ∀ S' E', K' S' E' → RunV P G r gd ops E' S' K) : RunV P G r gd (o :: ops) E S K
theorem runV_sound {gd : Nat → Option Nat} (ops : Array Oper) (hgd : ∀ j, gd j = (ops[j]?).bind (·.dst)) {l : List Oper} {S : St} {K : St → Prop} (h : RunV P G r gd l E S K) :
    ∀ (k : Nat), (∀ i, ops[k + i]? = l[i]?) → ∀ (n : Nat) (Q : Exit → Act → World → Prop) (I : Imm) (F : Nat → Prop) (a : Act) (W : World), Sat G E r S I F a W →
      (∀ S' I' F' a' W', Sat G noEnv r S' I' F' a' W' → K S' → Fram (own S F) I W (own S' F') I' W' → Q .normal a' W') → wpOpsIn (Fr r) n P ops Q ((List.range l.length).map (k + ·)) a W := by
  induction h with
  | run h => exact run_sound ops hgd h
  | @ok o l E S K s ho hg hd _ ih =>
    intro k hl n Q I F a W hs hk
    have h0 : ops[k]? = some o := by simpa using hl 0
    have hl' : ∀ i, ops[k + 1 + i]? = l[i]? := fun i => by have := hl (i + 1); simpa [Nat.add_assoc, Nat.add_comm 1 i] using this
    simp only [List.length_cons, List.range_succ_eq_map, List.map_cons, List.map_map, wpOpsIn, Nat.add_zero, h0]
    rw [wanted_of_guard hgd hs hg, if_pos rfl]
    refine (ho.eff hd (E := E) (r := r)) n I F a W _ Q hs fun S' I' F' a' W' hs' hk' hf => ?_
    subst hk'
    have := ih (k + 1) hl' n Q I' F' a' W' hs' fun S'' I'' F'' a'' W'' h1 h2 h3 => hk S'' I'' F'' a'' W'' h1 h2 (hf.trans h3)
    rwa [show ((fun x => k + x) ∘ Nat.succ) = (fun x => k + 1 + x) from by funext x; simp; omega]
  | @sw o l E S K K' ho hg _ ih =>
    intro k hl n Q I F a W hs hk
    have h0 : ops[k]? = some o := by simpa using hl 0
    have hl' : ∀ i, ops[k + 1 + i]? = l[i]? := fun i => by have := hl (i + 1); simpa [Nat.add_assoc, Nat.add_comm 1 i] using this
    simp only [List.length_cons, List.range_succ_eq_map, List.map_cons, List.map_map, wpOpsIn, Nat.add_zero, h0]
    rw [wanted_of_guard hgd hs hg, if_pos rfl]
    refine ho n I F a W _ Q hs fun S' E' I' F' a' W' hs' hk' hf => ?_
    have := ih S' E' hk' (k + 1) hl' n Q I' F' a' W' hs' fun S'' I'' F'' a'' W'' h1 h2 h3 => hk S'' I'' F'' a'' W'' h1 h2 (hf.trans h3)
    rwa [show ((fun x => k + x) ∘ Nat.succ) = (fun x => k + 1 + x) from by funext x; simp; omega]
theorem T_regionV {id : Nat} {l : List Oper} {S : St} {Q : Exit → St → Prop} (h : RunV P G r (gdOf l) l noEnv S (fun S' => Q .normal S')) : T P G noEnv r (.region id l.toArray false) S Q := by
 intro n I F a W hs
 refine wpIn_region ?_
 have := runV_sound l.toArray (fun j => by simp [gdOf]) h 0 (by intro i; simp) n (post G noEnv r Q (own S F) I W) I F a W hs fun S' I' F' a' W' h1 h2 h3 => ⟨S', I', F', h1, h2, h3⟩
 simpa using this
theorem T_regionVS {id : Nat} {l : List Oper} {y : Code} {S : St} {Q : Exit → St → Prop} (h : RunV P G r (gdOf l) l noEnv S (fun S' => T P G noEnv r y S' Q)) : T P G noEnv r (.seq (.region id l.toArray false) y) S Q :=
 T_seq (T_regionV h)
def mapE (b : Nat) (es : Array MapEntry) (c : Nat) : Env where
 ok := fun _ _ F W => (∀ k, F k ↔ k = b) ∧ W.heap[b]? = some (.map es c)
 stab := fun _ _ F _ _ _ h _ _ _ _ _ hw _ => ⟨h.1, by rw [hw b ((h.1 b).2 rfl)]; exact h.2⟩
variable {o : Oper} {n : Nat} {g : List (Nat × SV)} {h : HL} {d : List Nat} {i : Nat × Bool}
theorem sw_makeMap {t d0 : Nat} (hop : o.op = .makeMap t none) (ht : o.dst = some d0) (hd : Nat.blt d0 n = true) : OpSw P G noEnv r o ⟨n, g, h, d, i⟩ (fun S' E' => ∃ b, S' = ⟨n, (d0, eqS (.map (some b))) :: g, h, d, i⟩ ∧ E' = mapE b #[] 0) := by
 intro n1 I F a W next Q hs k
 have hrun : (execOp a.eval o).run P W = .ok (.value (.map (some W.heap.size))) (W.alloc (.map #[] 0)) := by
  simp [execOp, hop, run_makeMap]
 obtain ⟨hm', hf⟩ := fram_alloc hs.m (.map #[] 0) (fun _ => False)
 obtain ⟨_, hf2⟩ := fram_alloc hs.m (.map #[] 0) (own ⟨n, g, h, d, i⟩ F)
 have hn := hs.m.none_new
 have hF : ∀ b, ¬ F b := hs.e
 have hs' : Sat G (mapE W.heap.size #[] 0) r ⟨n, g, h, d, i⟩ I (fun b => b = W.heap.size) a (W.alloc (.map #[] 0)) := by
  refine ⟨hs.n, hs.g, hm', hs.h.keep hf fun _ _ h => h, hs.d, hs.dn, fun b hb => (alloc_heap_old _ _ (lt_of_some (hs.dk b hb))).trans (hs.dk b hb), ⟨fun _ => Iff.rfl, alloc_heap_at _ _⟩, fun b hb => ?_, fun k hk => ?_⟩
  ·subst hb
   exact ⟨by simp, hn, fun h => absurd (hs.h.lt h).1 (by omega), fun h => absurd (lt_of_some (hs.dk _ h)) (by omega)⟩
  ·obtain ⟨⟨rec, hr⟩, ho⟩ := hs.l k hk
   refine ⟨⟨rec, (alloc_heap_old _ _ (lt_of_some hr)).trans hr⟩, fun hx => ?_⟩
   rcases hx with hx | hx | hx
   ·exact ho (.inl hx)
   ·exact ho (.inr (.inl hx))
   ·have := lt_of_some hr; omega
 suffices hh : next (a.put (some d0) (.map (some W.heap.size))) (W.alloc (.map #[] 0)) from wp_of_run (by simp [hop]) hrun (by rw [← ht] at hh; exact hh)
 refine k ⟨n, (d0, eqS (.map (some W.heap.size))) :: g, h, d, i⟩ _ I (fun b => b = W.heap.size) _ _ (hs'.put (d := some d0) (s := eqS (.map (some W.heap.size))) rfl fun t e => by cases e; simpa [Nat.blt_eq] using hd) ⟨_, rfl, rfl⟩ (hf2.weaken (fun _ h => h) fun b hb => .inl ?_)
 rcases hb with hb | hb | hb
 ·exact .inl (.inl hb)
 ·exact .inl (.inr (.inl hb))
 ·exact .inr hb
theorem sw_insert {t kt et b c : Nat} {es : Array MapEntry} {x y z : Operand} {w : List UInt8} {v : Value} (hop : o.op = .insert t x y z) (hu : P.underlying t = some (.map kt et)) (hk : P.underlying kt = some .string) (hx : opE g x = some (eqS (.map (some b)))) (hy : opE g y = some (strS w)) (hz : opE g z = some (eqS v)) (hf : Instr.findNow .string (.string ⟨w.toArray⟩) es.toList 0 = some none) (ht : o.dst = none) :
  OpSw P G (mapE b es c) r o ⟨n, g, h, d, i⟩ (fun S' E' => S' = ⟨n, g, h, d, i⟩ ∧ E' = mapE b (es.push { key := .string ⟨w.toArray⟩, val := v, born := c }) (c + 1)) := by
 intro n1 I F a W next Q hs k
 obtain ⟨hF, hb⟩ : (∀ k, F k ↔ k = b) ∧ W.heap[b]? = some (.map es c) := hs.e
 have hr := reads_of_sat hs o
 have h1 : a.eval x = .map (some b) := hr.get (by simp [hop, Op.operands]) hx
 have h2 : a.eval y = .string ⟨w.toArray⟩ := hr.get (by simp [hop, Op.operands]) hy
 have h3 : a.eval z = v := hr.get (by simp [hop, Op.operands]) hz
 have hky : IsKey .string (.string ⟨w.toArray⟩) := trivial
 have hrun : (execOp a.eval o).run P W = .ok .skip { W with heap := W.heap.setIfInBounds b (.map (es.push { key := .string ⟨w.toArray⟩, val := v, born := c }) (c + 1)) } := by
  simp [execOp, hop, Instr.mapUpdate, h1, h2, h3, run_underlying hu, MapKept.run_getObj_map hb, MapKept.run_checkKey hk hky, MapKept.run_findKey hk hf, MapKept.run_setObj_map _ hb, Result.andThen]
 obtain ⟨g1, g2⟩ := MapKept.heap_set (o' := .map (es.push { key := .string ⟨w.toArray⟩, val := v, born := c }) (c + 1)) hb
 have hfb := hs.f b ((hF b).2 rfl)
 obtain ⟨hm', hf'⟩ := fram_put (W' := { W with heap := W.heap.setIfInBounds b (.map (es.push { key := .string ⟨w.toArray⟩, val := v, born := c }) (c + 1)) }) hs.m hfb.2.1 rfl rfl rfl (by simp) g2
 suffices hh : next a { W with heap := W.heap.setIfInBounds b (.map (es.push { key := .string ⟨w.toArray⟩, val := v, born := c }) (c + 1)) } from wp_of_run (by simp [hop]) hrun (by show next (a.put o.dst undef) _; rw [ht]; exact hh)
 refine k ⟨n, g, h, d, i⟩ (mapE b (es.push { key := .string ⟨w.toArray⟩, val := v, born := c }) (c + 1)) I F a _ ⟨hs.n, hs.g, hm', hs.h.keep hf' fun k hk e => hfb.2.2.1 (e ▸ hk), hs.d, hs.dn, fun k hk => (g2 k fun e => hfb.2.2.2 (e ▸ hk)).trans (hs.dk k hk), ⟨hF, g1⟩, fun k hk => ?_, fun k hk => ?_⟩ ⟨rfl, rfl⟩ (hf'.weaken (fun k hk => .inr (.inr ((hF k).2 hk))) fun k hk => .inr hk)
 ·have := hs.f k hk; exact ⟨by simpa using this.1, this.2⟩
 ·obtain ⟨⟨rec, hr⟩, ho⟩ := hs.l k hk
  exact ⟨⟨rec, (g2 k fun e => ho (.inr (.inr ((hF k).2 e)))).trans hr⟩, ho⟩
def resV (z : Value) : Option (Nat × Value) → Value
 | some p => p.2
 | none => z
theorem sw_lookup {t kt et b c d0 : Nat} {es : Array MapEntry} {x y : Operand} {w : List UInt8} {z v : Value} {res : Option (Nat × Value)} (hop : o.op = .lookup t x y false) (hu : P.underlying t = some (.map kt et)) (hk : P.underlying kt = some .string) (hx : opE g x = some (eqS (.map (some b)))) (hy : opE g y = some (strS w)) (hz : ∀ W, (zeroValue et).run P W = .ok z W)
  (hf : Instr.findNow .string (.string ⟨w.toArray⟩) es.toList 0 = some res) (hv : v = resV z res) (ht : o.dst = some d0) (hd : Nat.blt d0 n = true) :
  OpSw P G (mapE b es c) r o ⟨n, g, h, d, i⟩ (fun S' E' => S' = ⟨n, (d0, eqS v) :: g, h, d, i⟩ ∧ E' = noEnv) := by
 intro n1 I F a W next Q hs k
 obtain ⟨hF, hb⟩ : (∀ k, F k ↔ k = b) ∧ W.heap[b]? = some (.map es c) := hs.e
 have hr := reads_of_sat hs o
 have h1 : a.eval x = .map (some b) := hr.get (by simp [hop, Op.operands]) hx
 have h2 : a.eval y = .string ⟨w.toArray⟩ := hr.get (by simp [hop, Op.operands]) hy
 have hky : IsKey .string (.string ⟨w.toArray⟩) := trivial
 have hrun : (execOp a.eval o).run P W = .ok (.value v) W := by
  subst hv
  cases res with
  | none => simp [resV, execOp, hop, Instr.lookup, h1, h2, run_underlying hu, MapKept.run_getObj_map hb, MapKept.run_checkKey hk hky, MapKept.run_findKey hk hf, hz, Result.andThen]
  | some p => simp [resV, execOp, hop, Instr.lookup, h1, h2, run_underlying hu, MapKept.run_getObj_map hb, MapKept.run_checkKey hk hky, MapKept.run_findKey hk hf, Result.andThen]
 have hs' : Sat G noEnv r ⟨n, g, h, d, i⟩ I (fun _ => False) a W := ⟨hs.n, hs.g, hs.m, hs.h, hs.d, hs.dn, hs.dk, fun _ h => h, fun _ h => h.elim, fun k hk => by
  obtain ⟨hr, ho⟩ := hs.l k hk
  exact ⟨hr, fun hx => ho (by rcases hx with hx | hx | hx; exact .inl hx; exact .inr (.inl hx); exact hx.elim)⟩⟩
 suffices hh : next (a.put (some d0) v) W from wp_of_run (by simp [hop]) hrun (by rw [← ht] at hh; exact hh)
 refine k ⟨n, (d0, eqS v) :: g, h, d, i⟩ _ I (fun _ => False) _ _ (hs'.put (d := some d0) (s := eqS v) rfl fun t e => by cases e; simpa [Nat.blt_eq] using hd) ⟨rfl, rfl⟩ ((Fram.refl _ _ _).weaken (fun _ h => h) fun b hb => .inr ?_)
 rcases hb with hb | hb | hb
 ·exact .inl hb
 ·exact .inr (.inl hb)
 ·exact hb.elim
end
section
variable {P : Program} {G : Imm} {E : Env} {r : Option Nat} {gd : Nat → Option Nat} {p : Bool} {o : Oper} {ops : List Oper} {K : St → Prop} {H : HL} {g : List (Nat × SV)}
theorem ok_bound {f : FuncId} {x : Operand} {v : Value} (hop : o.op = .makeFunc (.func f) #[x] #[]) (hx : opE g x = some (eqS v)) : OpOK P G H o g (eqS (.func (.func f) #[v] #[])) :=
 ok_pure (by simp [hop]) fun I W a _ _ hr => by
  have h1 : a.eval x = v := hr.get (by simp [hop, Op.operands]) hx
  exact ⟨_, by simp [execOp, hop, Instr.makeFunc, h1], rfl⟩
theorem eq_one {t : TypeId} {a b : Value} {c : Bool} {W : World} (h : ∀ k, (Op.equalIn (k + 1) t a b).run P W = .ok c W) : (Op.equal t a b).run P W = .ok c W := by
 obtain ⟨k, hk⟩ : ∃ k, Op.maxDepth = k + 1 := ⟨_, rfl⟩
 unfold Op.equal
 rw [hk]
 exact h k
theorem ok_neq_fn {t u : TypeId} {x : Operand} {f : Fn} {c e : Array Value} {ps rs : Array TypeId} {vv : Bool} (ht : P.underlying t = some (.func ps rs vv)) (hop : o.op = .binOp .neq t x (.const .nilFunc) u) (hx : opE g x = some (eqS (.func f c e))) : OpOK P G H o g (boolS true) :=
 ok_pure (by simp [hop]) fun I W a _ _ hr => by
  have h1 : a.eval x = .func f c e := hr.get (by simp [hop, Op.operands]) hx
  have h2 : (Op.equal t (.func f c e) .nilFunc).run P W = .ok false W := eq_one fun k => by
   rw [Op.equalIn]; simp only [Sem.run_bind, run_underlying ht, Result.andThen_ok]; rfl
  refine ⟨.bool true, ?_, rfl⟩
  have h3 : (binOp .neq t (.func f c e) .nilFunc).run P W = .ok (.bool true) W := by
   show ((Op.equal t (.func f c e) .nilFunc) >>= fun q => pure (.bool (!q)) : Sem Value).run P W = _
   simp only [Sem.run_bind, h2, Result.andThen_ok, Sem.run_pure]; rfl
  have h4 : a.eval (.const .nilFunc) = .nilFunc := rfl
  simp only [execOp, hop, h1, h4, Sem.run_bind, Sem.run_pure]
  have h5 : (eqGuard .neq t x (.const .nilFunc) (.func f c e) .nilFunc).run P W = .ok () W := rfl
  simp only [h5, h3, Result.andThen_ok]
theorem ok_neq_fn0 {t u : TypeId} {x : Operand} {ps rs : Array TypeId} {vv : Bool} (ht : P.underlying t = some (.func ps rs vv)) (hop : o.op = .binOp .neq t x (.const .nilFunc) u) (hx : opE g x = some (eqS .nilFunc)) : OpOK P G H o g (boolS false) :=
 ok_pure (by simp [hop]) fun I W a _ _ hr => by
  have h1 : a.eval x = .nilFunc := hr.get (by simp [hop, Op.operands]) hx
  have h2 : (Op.equal t .nilFunc .nilFunc).run P W = .ok true W := eq_one fun k => by
   rw [Op.equalIn]; simp only [Sem.run_bind, run_underlying ht, Result.andThen_ok]; rfl
  refine ⟨.bool false, ?_, rfl⟩
  have h3 : (binOp .neq t .nilFunc .nilFunc).run P W = .ok (.bool false) W := by
   show ((Op.equal t .nilFunc .nilFunc) >>= fun q => pure (.bool (!q)) : Sem Value).run P W = _
   simp only [Sem.run_bind, h2, Result.andThen_ok, Sem.run_pure]; rfl
  have h4 : a.eval (.const .nilFunc) = .nilFunc := rfl
  simp only [execOp, hop, h1, h4, Sem.run_bind, Sem.run_pure]
  have h5 : (eqGuard .neq t x (.const .nilFunc) .nilFunc .nilFunc).run P W = .ok () W := rfl
  simp only [h5, h3, Result.andThen_ok]
theorem ok_eq_of {op : BinOp} {t u : TypeId} {x : Operand} {w : Value} {s : SV} {b c : Bool} (hop : o.op = .binOp op t x (.const w) u) (hx : opE g x = some s) (hs : ∀ I v, s.den I v → ∀ W, (Op.equal t v w).run P W = .ok c W ∧ (∀ y, (eqGuard op t x y v w).run P W = .ok () W) ∧
   binOp op t v w = (Op.equal t v w >>= fun q => pure (.bool (q == b)))) : OpOK P G H o g (boolS (c == b)) :=
 ok_pure (by simp [hop]) fun I W a _ _ hr => by
  have hv := hr.get (by simp [hop, Op.operands]) hx
  obtain ⟨h2, h5, h3⟩ := hs I _ hv W
  refine ⟨.bool (c == b), ?_, rfl⟩
  have h4 : a.eval (.const w) = w := rfl
  simp only [execOp, hop, h4, Sem.run_bind, Sem.run_pure, h5, h3, h2, Result.andThen_ok]
theorem sl_nil_eq {t e st : Nat} [IsSl P t e st] {α : Type} {f : α → List SV} {l : List α} {I : Imm} {v : Value} {W : World} (hl : l ≠ []) (hv : (slS st f l).den I v) : ∃ a k cap, v = .slice (some a) k cap ∧ (Op.equal t v (.slice none 0 0)).run P W = .ok false W := by
 obtain ⟨a, cap, rfl, _, _, h⟩ := hv
 obtain ⟨b, o, rfl, _⟩ := h.resolve_left hl
 exact ⟨_, _, _, rfl, eq_one fun k => by rw [Op.equalIn]; simp only [Sem.run_bind, run_underlying (IsSl.u (P := P) (t := t) (e := e) (st := st)), Result.andThen_ok]; rfl⟩
theorem ok_neq_sl {t u e st : Nat} [IsSl P t e st] {x : Operand} {α : Type} {f : α → List SV} {l : List α} (hop : o.op = .binOp .neq t x (.const (.slice none 0 0)) u) (hx : opE g x = some (slS st f l)) (hl : l ≠ []) : OpOK P G H o g (boolS true) :=
 ok_eq_of (c := false) (b := false) hop hx fun I v hv W => by
  obtain ⟨a, k, cap, rfl, h⟩ := sl_nil_eq (P := P) (t := t) (W := W) hl hv
  exact ⟨h, fun _ => rfl, by show (do pure (.bool (!(← Op.equal t (.slice (some a) k cap) (.slice none 0 0)))) : Sem Value) = _; congr 1; funext q; cases q <;> rfl⟩
theorem ok_eql_sl {t u e st : Nat} [IsSl P t e st] {x : Operand} {α : Type} {f : α → List SV} {l : List α} (hop : o.op = .binOp .eql t x (.const (.slice none 0 0)) u) (hx : opE g x = some (slS st f l)) (hl : l ≠ []) : OpOK P G H o g (boolS false) :=
 ok_eq_of (c := false) (b := true) hop hx fun I v hv W => by
  obtain ⟨a, k, cap, rfl, h⟩ := sl_nil_eq (P := P) (t := t) (W := W) hl hv
  exact ⟨h, fun _ => rfl, by show (do pure (.bool (← Op.equal t (.slice (some a) k cap) (.slice none 0 0))) : Sem Value) = _; congr 1; funext q; cases q <;> rfl⟩
theorem sl0_nil_eq {t e st : Nat} [IsSl P t e st] {W : World} : (Op.equal t (.slice none 0 0) (.slice none 0 0)).run P W = .ok true W :=
 eq_one fun k => by rw [Op.equalIn]; simp only [Sem.run_bind, run_underlying (IsSl.u (P := P) (t := t) (e := e) (st := st)), Result.andThen_ok]; rfl
theorem ok_neq_sl0 {t u e st : Nat} [IsSl P t e st] {x : Operand} (hop : o.op = .binOp .neq t x (.const (.slice none 0 0)) u) (hx : opE g x = some (eqS (.slice none 0 0))) : OpOK P G H o g (boolS false) :=
 ok_eq_of (c := true) (b := false) hop hx fun I v hv W => by
  obtain rfl : v = .slice none 0 0 := hv
  exact ⟨sl0_nil_eq (e := e) (st := st), fun _ => rfl, by show (do pure (.bool (!(← Op.equal t (.slice none 0 0) (.slice none 0 0)))) : Sem Value) = _; congr 1; funext q; cases q <;> rfl⟩
theorem ok_eql_sl0 {t u e st : Nat} [IsSl P t e st] {x : Operand} (hop : o.op = .binOp .eql t x (.const (.slice none 0 0)) u) (hx : opE g x = some (eqS (.slice none 0 0))) : OpOK P G H o g (boolS true) :=
 ok_eq_of (c := true) (b := true) hop hx fun I v hv W => by
  obtain rfl : v = .slice none 0 0 := hv
  exact ⟨sl0_nil_eq (e := e) (st := st), fun _ => rfl, by show (do pure (.bool (← Op.equal t (.slice none 0 0) (.slice none 0 0))) : Sem Value) = _; congr 1; funext q; cases q <;> rfl⟩
theorem l_callB {x : Operand} {xs : Array Operand} {ts : Array TypeId} {f : FuncId} {v0 : Value} {args : List SV} {Hp : HL} {Q : SV → HL → Prop} (hop : o.op = .call { callee := .value x, args := xs, argTypes := ts })
  (hf : opE g x = some (eqS (.func (.func f) #[v0] #[]))) (ha : argsE g xs.toList = some args) (hs : CallSpec P G f (eqS v0 :: args) Hp Q) : OpL P G o g Hp Q := by
 intro n r I W a next Qx hm hh hr k
 have hv : a.eval x = .func (.func f) #[v0] #[] := hr.get (x := x) (by simp [hop, Op.operands, Call.operands]) hf
 have hd : dens I args (xs.toList.map a.eval) := argsE_dens ha fun y hy s hs => hr y (by simp [hop, Op.operands, Call.operands]; exact .inr (by simpa using hy)) s hs
 have hrun : (execOp a.eval o).run P W = .ok (.enter f (v0 :: xs.toList.map a.eval).toArray) W := by
  have e : #[v0] ++ Array.map a.eval xs ++ #[] = (v0 :: xs.toList.map a.eval).toArray := by apply Array.ext'; simp
  simp only [execOp, hop, resolve, hv, Deferred.ofValue, Sem.run_bind, Sem.run_pure, Result.andThen_ok, invoke, e, hs.enters]
 refine wp_of_run (by simp [hop]) hrun ?_
 refine ⟨fun h => by simp [Fr, Fence.wide] at h, callsIn_fr r ((hs.main I W _ hm hh (dens_cons rfl hd)).mono ?_)⟩
 rintro e W' ⟨v, I', s, H', rfl, hQ, hsv, hm', hh', hfr⟩
 exact k v I' W' s H' hQ hfr hm' hh' hsv
end
section
variable {P : Program} {G : Imm} {E : Env} {r : Option Nat} {gd : Nat → Option Nat} {o : Oper} {ops : List Oper} {K : St → Prop}
theorem RunV.one {n t : Nat} {g : List (Nat × SV)} {h : HL} {d : List Nat} {i : Nat × Bool} {s : SV} (ho : OpOK P G h o g s) (hg : guardAt gd g o true) (ht : o.dst = some t) (hd : Nat.blt t n = true) (hr : RunV P G r gd ops E ⟨n, (t, s) :: g, h, d, i⟩ K) : RunV P G r gd (o :: ops) E ⟨n, g, h, d, i⟩ K :=
 .ok ho hg (fun t' h' => by rw [ht] at h'; cases h'; simpa [Nat.blt_eq] using hd) (by simpa only [St.set, ht] using hr)
theorem RunV.map {n t d0 : Nat} {g : List (Nat × SV)} {h : HL} {d : List Nat} {i : Nat × Bool} (hop : o.op = .makeMap t none) (hg : guardAt gd g o true) (ht : o.dst = some d0) (hd : Nat.blt d0 n = true) (hr : ∀ b, RunV P G r gd ops (mapE b #[] 0) ⟨n, (d0, eqS (.map (some b))) :: g, h, d, i⟩ K) : RunV P G r gd (o :: ops) noEnv ⟨n, g, h, d, i⟩ K :=
 .sw _ (sw_makeMap hop ht hd) hg fun S' E' ⟨b, e1, e2⟩ => by subst e1; subst e2; exact hr b
theorem RunV.ins {n t kt et b c : Nat} {g : List (Nat × SV)} {h : HL} {d : List Nat} {i : Nat × Bool} {es : Array MapEntry} {x y z : Operand} {w : List UInt8} {v : Value} (hop : o.op = .insert t x y z) (hu : P.underlying t = some (.map kt et)) (hk : P.underlying kt = some .string) (hx : opE g x = some (eqS (.map (some b)))) (hy : opE g y = some (strS w)) (hz : opE g z = some (eqS v)) (hf : Instr.findNow .string (.string ⟨w.toArray⟩) es.toList 0 = some none) (ht : o.dst = none) (hg : guardAt gd g o true)
  (hr : RunV P G r gd ops (mapE b (es.push { key := .string ⟨w.toArray⟩, val := v, born := c }) (c + 1)) ⟨n, g, h, d, i⟩ K) : RunV P G r gd (o :: ops) (mapE b es c) ⟨n, g, h, d, i⟩ K :=
 .sw _ (sw_insert hop hu hk hx hy hz hf ht) hg fun S' E' ⟨e1, e2⟩ => by subst e1; subst e2; exact hr
theorem RunV.look {n t kt et b c d0 : Nat} {g : List (Nat × SV)} {h : HL} {d : List Nat} {i : Nat × Bool} {es : Array MapEntry} {x y : Operand} {w : List UInt8} {z v : Value} {res : Option (Nat × Value)} (hop : o.op = .lookup t x y false) (hu : P.underlying t = some (.map kt et)) (hk : P.underlying kt = some .string) (hx : opE g x = some (eqS (.map (some b)))) (hy : opE g y = some (strS w)) (hz : ∀ W, (zeroValue et).run P W = .ok z W)
  (hf : Instr.findNow .string (.string ⟨w.toArray⟩) es.toList 0 = some res) (hv : v = resV z res) (ht : o.dst = some d0) (hd : Nat.blt d0 n = true) (hg : guardAt gd g o true)
  (hr : Run P G noEnv r gd false ops ⟨n, (d0, eqS v) :: g, h, d, i⟩ K) : RunV P G r gd (o :: ops) (mapE b es c) ⟨n, g, h, d, i⟩ K :=
 .sw _ (sw_lookup hop hu hk hx hy hz hf hv ht hd) hg fun S' E' ⟨e1, e2⟩ => by subst e1; subst e2; exact .run hr
theorem ghost_perm {n : Nat} {g : List (Nat × SV)} {h h' : HL} {d : List Nat} {i : Nat × Bool} (hp : h.Perm h') : Ghost G E r ⟨n, g, h, d, i⟩ ⟨n, g, h', d, i⟩ := fun I F _ _ s => by
 have hb : (bs h).Perm (bs h') := hp.filterMap _
 have ho : ∀ b, own ⟨n, g, h', d, i⟩ F b ↔ own ⟨n, g, h, d, i⟩ F b := fun b => by simp only [own]; rw [hb.mem_iff]
 exact ⟨I, { s with
  h := ⟨hb.nodup_iff.1 s.h.nodup, fun p hp' => s.h.mem p (hp.mem_iff.2 hp')⟩
  f := fun b hF => ⟨(s.f b hF).1, (s.f b hF).2.1, fun x => (s.f b hF).2.2.1 (hb.mem_iff.2 x), (s.f b hF).2.2.2⟩
  l := fun k hk => ⟨(s.l k hk).1, fun x => (s.l k hk).2 ((ho k).1 x)⟩ }, (Fram.refl _ _ _).weaken (fun _ h => h) fun b h => .inr ((ho b).1 h)⟩
theorem CallSpec.frame (pre suf : HL) {f : FuncId} {args : List SV} {Hp : HL} {Q : SV → HL → Prop} (h : CallSpec P G f args Hp Q) : CallSpec P G f args (pre ++ Hp ++ suf) (fun s H' => ∃ H1, Q s H1 ∧ H' = pre ++ H1 ++ suf) :=
 ⟨h.enters, fun I W vs hm hh hd => (h.main I W vs hm (hh.less ((List.sublist_append_right pre Hp).trans (List.sublist_append_left _ suf))) hd).mono fun e W' ⟨v, I', s, H1, he, hQ, hv, hm', hh', hf⟩ => ⟨v, I', s, _, he, ⟨H1, hQ, rfl⟩, hv, hm', hh.frame hh' hf, hf.weaken (fun b hb => by simp only [bs_append, List.mem_append]; exact .inl (.inr hb)) fun b hb => by
  simp only [bs_append, List.mem_append] at hb ⊢
  rcases hb with (hb | hb) | hb
  ·exact .inr (.inl (.inl hb))
  ·exact .inl hb
  ·exact .inr (.inr hb)⟩⟩
theorem CallSpec.weak {f : FuncId} {args : List SV} {H : HL} {Q Q2 : SV → HL → Prop} (h : CallSpec P G f args H Q) (hq : ∀ s H1, Q s H1 → ∃ s2 H2, (∀ I v, s.den I v → s2.den I v) ∧ H2.Sublist H1 ∧ Q2 s2 H2) : CallSpec P G f args H Q2 :=
 ⟨h.enters, fun I W vs hm hh hd => (h.main I W vs hm hh hd).mono fun e W' ⟨v, I', s, H1, he, hQ, hv, hm', hh', hf⟩ => by
  obtain ⟨s2, H2, h2, hs, hQ2⟩ := hq s H1 hQ
  exact ⟨v, I', s2, H2, he, hQ2, h2 _ _ hv, hm', hh'.less hs, hf.weaken (fun _ h => h) fun b hb => .inl ((bs_sub hs).subset hb)⟩⟩
end
end Go.Sv
