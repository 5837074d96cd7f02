/- Rules of the operations that lay a new block which nobody writes, build a struct, or take a part of a slice. -/
import Derived.Test.YtijnlobgmfmhjaaGreatDoorSvf
namespace Go.Sv
open Go Go.RowKit
section
variable {P : Program} {G : Imm} {H : HL} {o : Oper} {g : List (Nat × SV)} {s : SV}

theorem ok_new (hd : ∀ c, o.op ≠ .defer c) (h : ∀ I W a, Holds G I W → HoldsH H I W → reads g I o a → ∃ v c e, (execOp a.eval o).run P W = .ok (.value v) (W.alloc (.cells c e)) ∧ s.den (I.with W.heap.size c) v) : OpOK P G H o g s := by
  intro n r I W a next Q hm hh hr k
  obtain ⟨v, c, e, hv, hs⟩ := h I W a hm hh hr
  have := ext_alloc hm (c := c) (e := e)
  exact wp_of_run hd hv (k v _ _ this.2 this.1 hs)
theorem with_at (I : Imm) (b : Nat) (c : Array Value) : (I.with b c) b = some c := by simp [Imm.with]
theorem cellsAt_new {I : Imm} {W : World} (hm : Holds G I W) {cs : List SV} {c : Array Value} (hd : dens I cs c.toList) (h1 : allOne c.toList) : cellsAt (I.with W.heap.size c) W.heap.size 0 cs := by
  refine ⟨c, with_at _ _ _, fun i s hi => ?_⟩
  obtain ⟨x, hx, hs⟩ := hd.get hi
  exact ⟨x, by simpa using hx, s.mono _ _ _ (Imm.with_le hm.none_new) hs, h1 x (List.mem_of_getElem? hx)⟩
theorem ok_box {t : TypeId} {x : Operand} {cs : List SV} [hf : FlatC s cs] (hop : o.op = .box t x) (hx : opE g x = some s) : OpOK P G H o g (ptrS cs) :=
  ok_new (by simp [hop]) fun I W a hm _ hr => by
    have hv := hr.get (by simp [hop, Op.operands]) hx
    obtain ⟨hd, h1⟩ := hf.h.cells hv
    refine ⟨.pointer (some ⟨W.heap.size, 0, none⟩), (a.eval x).cells, t, ?_, W.heap.size, 0, rfl, cellsAt_new hm hd h1⟩
    simp [execOp, hop, Instr.box, newVar, newRow]

/-! building -/
def setAll (cs : List SV) (off : Nat) : List SV → List SV
  | [] => cs
  | x :: xs => setAll (cs.set off x) (off + 1) xs
def setAllV (cs : Array Value) (off : Nat) : List Value → Array Value
  | [] => cs
  | x :: xs => setAllV (cs.setIfInBounds off x) (off + 1) xs
def fillS (pl : List (Nat × Nat)) : List SV → List (Nat × List SV) → Option (List SV)
  | cs, [] => some cs
  | cs, (i, xs) :: r => match pl[i]? with
    | none => none
    | some (off, size) => match Nat.beq xs.length size && Nat.ble (off + xs.length) cs.length with
      | true => fillS pl (setAll cs off xs) r
      | false => none
theorem setAllV_fold (v : Array Value) (off : Nat) (cs : Array Value) : v.zipIdx.foldl (fun cs (c, j) => cs.setIfInBounds (off + j) c) cs = setAllV cs off v.toList := by
  have : ∀ (l : List Value) (k : Nat) (cs : Array Value), (l.zipIdx k).foldl (fun cs (p : Value × Nat) => cs.setIfInBounds (off + p.2) p.1) cs = setAllV cs (off + k) l := by
    intro l
    induction l with
    | nil => intro k cs; rfl
    | cons x l ih => intro k cs; simp only [List.zipIdx_cons, List.foldl_cons, setAllV]; rw [ih]; rfl
  have h := this v.toList 0 cs
  rw [Nat.add_zero] at h
  rw [← h, ← Array.foldl_toList]
  simp
theorem dens_set {I : Imm} {cs : List SV} {xs : List Value} (h : dens I cs xs) (k : Nat) {s : SV} {x : Value} (hs : s.den I x) : dens I (cs.set k s) (xs.set k x) := by
  refine ⟨by simp [h.1], fun i s' x' hi hx => ?_⟩
  by_cases e : k = i
  · subst e
    rw [List.getElem?_set] at hi hx
    simp only [if_true] at hi hx
    split at hi
    · split at hx
      · cases hi; cases hx; exact hs
      · cases hx
    · cases hi
  · rw [List.getElem?_set_ne e] at hi hx
    exact h.2 i s' x' hi hx
theorem allOne_set {xs : List Value} (h : allOne xs) (k : Nat) {x : Value} (hx : x.oneCell' = true) : allOne (xs.set k x) := by
  intro y hy
  rcases List.mem_or_eq_of_mem_set hy with h1 | h1
  · exact h y h1
  · subst h1; exact hx
theorem setAll_sound {I : Imm} {ys : List SV} : ∀ {zs : List Value} {cs : List SV} {c : Array Value} {off : Nat}, dens I ys zs → allOne zs → dens I cs c.toList → allOne c.toList →
    dens I (setAll cs off ys) (setAllV c off zs).toList ∧ allOne (setAllV c off zs).toList := by
  induction ys with
  | nil => intro zs cs c off hy _ hc h1; cases dens_nil_inv hy; exact ⟨hc, h1⟩
  | cons y ys ih =>
    intro zs cs c off hy h1y hc h1
    obtain ⟨z, zs', rfl, hz, hzs⟩ := dens_cons_inv hy
    refine ih hzs (fun x hx => h1y x (by simp [hx])) (c := c.setIfInBounds off z) ?_ ?_
    · simpa using dens_set hc off hz
    · simpa using allOne_set h1 off (h1y z (by simp))
/-- the parts as they are read -/
def partsS (g : List (Nat × SV)) : List (Nat × Operand) → Option (List (Nat × SV))
  | [] => some []
  | (i, x) :: l => match opE g x, partsS g l with
    | some s, some r => some ((i, s) :: r)
    | _, _ => none
theorem fill_sound {I : Imm} {a : Act} {pl : List (Nat × Nat)} : ∀ {parts : List (Nat × Operand)} {ps : List (Nat × SV)} {qs : List (Nat × List SV)} {cs ds : List SV} {c : Array Value},
    partsS g parts = some ps → FlatL ps qs → (∀ p ∈ parts, ∀ s, opE g p.2 = some s → s.den I (a.eval p.2)) → fillS pl cs qs = some ds → dens I cs c.toList → allOne c.toList →
    ∃ c', Instr.fill (fun i => pl[i]?) c (parts.map fun (i, x) => (i, a.eval x)) = some c' ∧ dens I ds c'.toList ∧ allOne c'.toList
  | [], ps, qs, cs, ds, c, hp, hf, _, hfi, hc, h1 => by
    simp [partsS] at hp; subst hp
    have : qs = [] := List.eq_nil_of_length_eq_zero (by have := hf.h.1; simpa using this.symm)
    subst this
    simp only [fillS] at hfi; cases hfi
    exact ⟨c, rfl, hc, h1⟩
  | (i, x) :: parts, ps, qs, cs, ds, c, hp, hf, hr, hfi, hc, h1 => by
    simp only [partsS] at hp
    split at hp
    · rename_i s r hs hrr
      cases hp
      cases qs with
      | nil => have := hf.h.1; simp at this
      | cons q qs =>
        obtain ⟨j, ys⟩ := q
        have h0 := hf.h.2 0 _ _ rfl rfl
        simp only at h0
        obtain ⟨rfl, hflat⟩ := h0
        have hf' : FlatL r qs := ⟨by have := hf.h.1; simp at this; exact this, fun k p q hk hq => hf.h.2 (k + 1) p q (by simpa using hk) (by simpa using hq)⟩
        simp only [fillS] at hfi
        split at hfi
        · cases hfi
        · rename_i off size hpl
          split at hfi
          · rename_i hcond
            simp only [Bool.and_eq_true] at hcond
            have e1 := Nat.eq_of_beq_eq_true hcond.1
            have e2 := Nat.le_of_ble_eq_true hcond.2
            have hv : s.den I (a.eval x) := hr (i, x) (by simp) s hs
            obtain ⟨hvd, hv1⟩ := hflat.cells hv
            have hsz : (a.eval x).cells.size = ys.length := by have := hvd.1; simpa using this
            have hcs : c.size = cs.length := by have := hc.1; simpa using this
            obtain ⟨hd', h1'⟩ := setAll_sound (off := off) hvd hv1 hc h1
            obtain ⟨c', hc', hd'', h1''⟩ := fill_sound (parts := parts) hrr hf' (fun p hp => hr p (by simp [hp])) hfi hd' h1'
            refine ⟨c', ?_, hd'', h1''⟩
            simp only [List.map_cons, Instr.fill, hpl]
            rw [if_neg (by simp only [hsz, e1, hcs, ne_eq, not_true_eq_false, decide_false, Bool.false_or, decide_eq_true_eq]; omega), setAllV_fold]
            exact hc'
          · cases hfi
    · cases hp

def buildOf (P : Program) (t : TypeId) : Option (List Value × List (Nat × Nat)) :=
  match P.info? t with
  | none => none
  | some i => match i.zero, P.underlying t with
    | some z, some (.struct fs) => match fs.toList.mapM fun f => (P.info? f.type).map fun j => (f.offset, j.size) with
      | some pl => some (z.cells.toList, pl)
      | none => none
    | some z, some (.array n e) => match P.info? e with
      | some j => some (z.cells.toList, (List.range n).map fun i => (i * j.size, j.size))
      | none => none
    | _, _ => none
def oneAll (l : List Value) : Bool := l.all Value.oneCell'
class IsBuild (P : Program) (t : TypeId) (zs : outParam (List Value)) (pl : outParam (List (Nat × Nat))) : Prop where
  h : buildOf P t = some (zs, pl)
  one : oneAll zs = true
theorem run_places {fs : List Field} {pl : List (Nat × Nat)} (h : fs.mapM (fun f => (P.info? f.type).map fun j => (f.offset, j.size)) = some pl) (W : World) :
    (fs.mapM (m := Sem) fun f => do pure (f.offset, ← sizeOf f.type)).run P W = .ok pl W := by
  induction fs generalizing pl with
  | nil => simp at h; subst h; simp
  | cons f fs ih =>
    simp only [List.mapM_cons, Option.bind_eq_bind, Option.bind_eq_some_iff] at h
    obtain ⟨p, hp, r, hr, he⟩ := h
    cases he
    obtain ⟨j, hj, rfl⟩ := Option.map_eq_some_iff.1 hp
    have h1 : (sizeOf f.type).run P W = .ok j.size W := by simp [sizeOf, typeInfo, hj]
    simp only [List.mapM_cons, Sem.run_bind, h1, Result.andThen_ok, Sem.run_pure, ih hr]
theorem fill_mono {p q : Nat → Option (Nat × Nat)} (hpq : ∀ i x, p i = some x → q i = some x) : ∀ {parts : List (Nat × Value)} {c c' : Array Value}, Instr.fill p c parts = some c' → Instr.fill q c parts = some c'
  | [], _, _, h => h
  | (i, v) :: r, c, c', h => by
    simp only [Instr.fill] at h ⊢
    cases hp : p i with
    | none => rw [hp] at h; cases h
    | some x =>
      obtain ⟨off, size⟩ := x
      rw [hp] at h; rw [hpq i _ hp]
      simp only at h ⊢
      split at h
      · cases h
      · rename_i hc; rw [if_neg hc]; exact fill_mono hpq h
theorem run_build {t : TypeId} {zs : List Value} {pl : List (Nat × Nat)} [hb : IsBuild P t zs pl] {W : World} {parts : Array (Nat × Value)} {c' : Array Value} (h : Instr.fill (fun i => pl[i]?) zs.toArray parts.toList = some c') :
    (Instr.build t parts).run P W = .ok (.agg c') W := by
  have h1 := hb.h
  unfold buildOf at h1
  split at h1
  · cases h1
  · rename_i i hi
    split at h1
    · rename_i z fs hz hu
      split at h1
      · rename_i pl' hpl
        cases h1
        have hm : (fs.mapM (m := Sem) fun f => do pure (f.offset, ← sizeOf f.type)).run P W = .ok pl.toArray W := by
          rw [Array.mapM_eq_mapM_toList, Sem.run_map, run_places hpl W]; rfl
        have hz' : (zeroValue t).run P W = .ok z W := by simp [zeroValue, typeInfo, hi, hz]
        have hf : Instr.fill (fun x => pl.toArray[x]?) z.cells parts.toList = some c' := by simpa using h
        simp only [Instr.build, Sem.run_bind, hz', Result.andThen_ok, run_underlying hu, hm, hf, Sem.run_pure]
      · cases h1
    · rename_i z n e hz hu
      split at h1
      · rename_i j hj
        cases h1
        have hz' : (zeroValue t).run P W = .ok z W := by simp [zeroValue, typeInfo, hi, hz]
        have hs : (sizeOf e).run P W = .ok j.size W := by simp [sizeOf, typeInfo, hj]
        have hf : Instr.fill (fun i => some (i * j.size, j.size)) z.cells parts.toList = some c' := by
          refine fill_mono (p := fun i => ((List.range n).map fun i => (i * j.size, j.size))[i]?) (fun i x hx => ?_) (by rw [Array.toArray_toList] at h; exact h)
          rw [List.getElem?_map] at hx
          obtain ⟨y, hy, rfl⟩ := Option.map_eq_some_iff.1 hx
          have := List.getElem?_eq_some_iff.1 hy
          obtain ⟨h1, h2⟩ := this
          simp at h2; subst h2; rfl
        simp only [Instr.build, Sem.run_bind, hz', Result.andThen_ok, run_underlying hu, hs, hf, Sem.run_pure]
      · cases h1
    · cases h1
theorem dens_eqS {I : Imm} (l : List Value) : dens I (l.map eqS) l := ⟨by simp, fun i s x hi hx => by rw [List.getElem?_map, hx] at hi; cases hi; rfl⟩
theorem allOne_of {l : List Value} (h : oneAll l = true) : allOne l := fun x hx => List.all_eq_true.1 h x hx
theorem reads_parts {I : Imm} {a : Act} {parts : Array (Nat × Operand)} (hop : o.op.operands = (parts.toList.map (·.2)).toArray) (hr : reads g I o a) : ∀ p ∈ parts.toList, ∀ s, opE g p.2 = some s → s.den I (a.eval p.2) :=
  fun p hp s hs => hr p.2 (by rw [hop]; simp; exact ⟨p.1, by simpa using hp⟩) s hs
theorem ok_build {t : TypeId} {parts : Array (Nat × Operand)} {ps : List (Nat × SV)} {qs : List (Nat × List SV)} {zs : List Value} {pl : List (Nat × Nat)} {cs : List SV} [IsBuild P t zs pl] (hop : o.op = .build t parts) (hp : partsS g parts.toList = some ps) [hf : FlatL ps qs]
    (hc : fillS pl (zs.map eqS) qs = some cs) : OpOK P G H o g (aggS cs) :=
  ok_pure (by simp [hop]) fun I W a _ _ hr => by
    have h1 := IsBuild.one (P := P) (t := t) (zs := zs) (pl := pl)
    obtain ⟨c', hc', hd, h1'⟩ := fill_sound (a := a) (I := I) (c := zs.toArray) hp hf (reads_parts (by simp [hop, Op.operands]) hr) hc (by simpa using dens_eqS zs) (by simpa using allOne_of h1)
    refine ⟨.agg c', ?_, c'.toList, by simp, hd, h1'⟩
    have := run_build (P := P) (t := t) (zs := zs) (pl := pl) (W := W) (parts := (parts.map fun (i, x) => (i, a.eval x))) (c' := c') (by rw [Array.toList_map]; exact hc')
    simp only [execOp, hop, Sem.run_bind, this, Result.andThen_ok, Sem.run_pure]

/-! a slice written out -/
def zeroRow (zs : List Value) (n : Nat) : List Value := (List.range n).map fun i => zs.getD (i % zs.length) default
theorem zeroRow_one {zs : List Value} (h : allOne zs) (n : Nat) (hz : n = 0 ∨ zs ≠ []) : allOne (zeroRow zs n) := by
  intro x hx
  simp only [zeroRow, List.mem_map, List.mem_range] at hx
  obtain ⟨i, hi, rfl⟩ := hx
  rcases hz with h0 | h0
  · omega
  · have hl : 0 < zs.length := List.length_pos_iff.2 h0
    have : i % zs.length < zs.length := Nat.mod_lt _ hl
    rw [List.getD_eq_getElem?_getD, List.getElem?_eq_getElem this]
    exact h _ (List.getElem_mem _)
theorem flatten_at {α : Type} {st : Nat} : ∀ {css : List (List α)}, (∀ c ∈ css, c.length = st) → ∀ {i j : Nat} {c : List α} {x : α}, css[i]? = some c → c[j]? = some x → css.flatten[i * st + j]? = some x
  | [], _, i, j, c, x, hi, _ => by simp at hi
  | d :: css, h, i, j, c, x, hi, hj => by
    have hd : d.length = st := h d (by simp)
    cases i with
    | zero =>
      simp at hi; subst hi
      rw [List.flatten_cons, List.getElem?_append_left (by have := lt_of_get hj; omega)]
      simpa using hj
    | succ i =>
      have hc : c.length = st := h c (by simp only [List.getElem?_cons_succ] at hi; exact List.mem_cons_of_mem _ (List.mem_of_getElem? hi))
      have := flatten_at (css := css) (fun c hc => h c (by simp [hc])) (by simpa using hi) hj
      rw [List.flatten_cons, List.getElem?_append_right (by rw [hd, Nat.succ_mul]; omega)]
      rw [hd, show (i + 1) * st + j - st = i * st + j from by rw [Nat.succ_mul]; omega]
      exact this
def lensOk (st : Nat) : List (List SV) → Bool
  | [] => true
  | c :: r => Nat.beq c.length st && lensOk st r
theorem lensOk_spec {st : Nat} : ∀ {css : List (List SV)}, lensOk st css = true → ∀ c ∈ css, c.length = st
  | [], _, c, hc => by simp at hc
  | d :: r, h, c, hc => by
    simp only [lensOk, Bool.and_eq_true] at h
    rcases List.mem_cons.1 hc with rfl | h'
    · exact Nat.eq_of_beq_eq_true h.1
    · exact lensOk_spec h.2 c h'
theorem run_buildSlice {t e st n : Nat} {zs : List Value} [IsSl P t e st] [hz : IsZero P e zs] {W : World} {parts : Array (Nat × Value)} {c' : Array Value} (hn : n * st ≤ 16777216)
    (h : Instr.fill (fun i => ((List.range n).map fun i => (i * st, st))[i]?) (zeroRow zs (n * st)).toArray parts.toList = some c') :
    (Instr.buildSlice t n parts).run P W = .ok (.slice (some ⟨W.heap.size, 0, none⟩) n n) (W.alloc (.cells c' e)) := by
  obtain ⟨j, hj, hs⟩ := IsSl.i (P := P) (t := t) (e := e) (st := st)
  obtain ⟨i, z, hi, hz1, hz2, hz3⟩ := hz.i
  rw [hj] at hi; cases hi
  have hf : Instr.fill (fun i => some (i * st, st)) (zeroRow zs (n * st)).toArray parts.toList = some c' := by
    refine fill_mono (fun i x hx => ?_) h
    rw [List.getElem?_map] at hx
    obtain ⟨y, hy, rfl⟩ := Option.map_eq_some_iff.1 hx
    obtain ⟨h1, h2⟩ := List.getElem?_eq_some_iff.1 hy
    simp at h2; subst h2; rfl
  have e0 : ∀ (zero : Array Value), (n * st = 0 ∨ zero = zs.toArray) → (Array.range (n * st)).map (zero[· % zero.size]!) = (zeroRow zs (n * st)).toArray := by
    intro zero h0
    apply Array.ext'
    rcases h0 with h0 | h0
    · simp [h0, zeroRow]
    · subst h0
      simp only [zeroRow, Array.toList_map, Array.toList_range]
      apply List.map_congr_left
      intro k _
      simp [List.getD_eq_getElem?_getD, getElem!_def]
      cases zs[k % zs.length]? <;> rfl
  have hsz : (sizeOf e).run P W = .ok st W := by simp [sizeOf, typeInfo, hj, hs]
  have hzv : (zeroValue e).run P W = .ok z W := by simp [zeroValue, typeInfo, hj, hz1]
  by_cases h0 : n * st = 0
  · have e1 := e0 #[] (.inl h0)
    simp only [Instr.buildSlice, Sem.run_bind, run_underlying (IsSl.u (P := P) (t := t) (e := e) (st := st)), Result.andThen_ok, hsz]
    rw [if_neg (by omega)]
    simp only [h0, if_true, Sem.run_bind, Sem.run_pure, Result.andThen_ok]
    rw [h0] at e1 hf
    rw [e1, hf]
    simp [newRow]
  · have e1 := e0 zs.toArray (.inr rfl)
    simp only [Instr.buildSlice, Sem.run_bind, run_underlying (IsSl.u (P := P) (t := t) (e := e) (st := st)), Result.andThen_ok, hsz]
    rw [if_neg (by omega)]
    simp only [h0, if_false, Sem.run_bind, Sem.run_pure, Result.andThen_ok, hzv, hz2]
    rw [e1, hf]
    simp [newRow]
theorem ok_buildSlice {t e st n : Nat} {zs : List Value} [IsSl P t e st] [hz : IsZero P e zs] {parts : Array (Nat × Operand)} {ps : List (Nat × SV)} {qs : List (Nat × List SV)} (hop : o.op = .buildSlice t n parts) (hp : partsS g parts.toList = some ps) [hf : FlatL ps qs]
    (hn : n * st ≤ 16777216) (hq : qs.length = n) (hne : n = 0 ∨ zs ≠ []) (hl : lensOk st (qs.map (·.2)) = true)
    (hc : fillS ((List.range n).map fun i => (i * st, st)) ((zeroRow zs (n * st)).map eqS) qs = some (qs.map (·.2)).flatten) : OpOK P G H o g (slS st id (qs.map (·.2))) :=
  ok_new (by simp [hop]) fun I W a hm _ hr => by
    have hst : st = zs.length := by
      obtain ⟨j, hj, hs⟩ := IsSl.i (P := P) (t := t) (e := e) (st := st)
      obtain ⟨i, z, hi, _, _, hz3⟩ := hz.i
      rw [hj] at hi; cases hi; omega
    have h1 : allOne (zeroRow zs (n * st)) := zeroRow_one hz.one _ (hne.imp (fun h => by simp [h]) id)
    obtain ⟨c', hc', hd, h1'⟩ := fill_sound (a := a) (I := I) (c := (zeroRow zs (n * st)).toArray) hp hf (reads_parts (by simp [hop, Op.operands]) hr) hc (by simpa using dens_eqS (zeroRow zs (n * st))) (by simpa using h1)
    refine ⟨.slice (some ⟨W.heap.size, 0, none⟩) n n, c', e, ?_, ?_⟩
    · have := run_buildSlice (P := P) (t := t) (e := e) (st := st) (n := n) (W := W) (parts := (parts.map fun (i, x) => (i, a.eval x))) (c' := c') hn (by rw [Array.toList_map]; exact hc')
      simp only [execOp, hop, Sem.run_bind, this, Result.andThen_ok, Sem.run_pure]
    · have hlen : (qs.map (·.2)).length = n := by simpa using hq
      refine ⟨some ⟨W.heap.size, 0, none⟩, n, by rw [hlen], by omega, ?_, .inr ⟨W.heap.size, 0, rfl, fun i x hx => ?_⟩⟩
      · rw [hlen]; unfold big
        rcases Nat.eq_zero_or_pos st with h0 | h0
        · rcases hne with h2 | h2
          · omega
          · exact absurd (List.eq_nil_of_length_eq_zero (by omega)) h2
        · have := Nat.le_mul_of_pos_right n h0; omega
      · obtain ⟨c, hc1, hc2⟩ := cellsAt_new hm hd h1'
        refine ⟨c, hc1, fun j s' hj => ?_⟩
        have := flatten_at (lensOk_spec hl) hx hj
        rw [Nat.zero_add]
        have := hc2 _ _ this
        simpa using this

/-! parts of a slice -/
theorem sl_part {α : Type} {st : Nat} {f : α → List SV} {l : List α} {I : Imm} {ad : Option Addr} {lo hi cap m : Nat} (h3 : l = [] ∨ ∃ b o, ad = some ⟨b, o, none⟩ ∧ ∀ i x, l[i]? = some x → cellsAt I b (o + i * st) (f x)) (h1 : lo ≤ hi) (h2 : hi ≤ l.length) (hm : hi ≤ m) (_hc : m ≤ cap) (hbig : l.length ≤ big) :
    (slS st f ((l.take hi).drop lo)).den I (.slice (if m = lo then ad else ad.map (·.add (lo * st))) (hi - lo) (m - lo)) := by
  have hl : ((l.take hi).drop lo).length = hi - lo := by simp; omega
  refine ⟨_, _, by rw [hl], by rw [hl]; omega, by rw [hl]; omega, ?_⟩
  by_cases he : hi = lo
  · left; apply List.eq_nil_of_length_eq_zero; omega
  · right
    rw [if_neg (by omega)]
    rcases h3 with rfl | ⟨b, o, rfl, h⟩
    · simp at h2; omega
    · refine ⟨b, o + lo * st, by simp [add_spot], fun i x hx => ?_⟩
      rw [List.getElem?_drop, List.getElem?_take] at hx
      split at hx
      · have := h _ _ hx
        rw [Nat.add_assoc, ← Nat.add_mul]; exact this
      · cases hx
theorem run_sliceBounds {len cap lo hi m : Nat} {low high mx : Option Value} {W : World} (hlow : (low = none ∧ lo = 0) ∨ ∃ k, low = some (.int k lo)) (hhigh : (high = none ∧ hi = len ∧ mx = none) ∨ ∃ k, high = some (.int k hi))
    (hmx : (mx = none ∧ m = cap) ∨ ∃ k, mx = some (.int k m)) (h1 : lo ≤ hi) (h2 : hi ≤ m) (h3 : m ≤ cap) : (Instr.sliceBounds true len cap low high mx).run P W = .ok (lo, hi, m) W := by
  rcases hmx with ⟨rfl, rfl⟩ | ⟨km, rfl⟩ <;> rcases hlow with ⟨rfl, rfl⟩ | ⟨kl, rfl⟩ <;> rcases hhigh with ⟨rfl, rfl, hx⟩ | ⟨kh, rfl⟩ <;> first | cases hx | skip
  all_goals simp [Instr.sliceBounds, Instr.sliceBound, asIntOf, h1, h2, h3]
theorem ok_slice {t e st : Nat} [IsSl P t e st] {x : Operand} {low high mx : Option Operand} {α : Type} {f : α → List SV} {l : List α} {lo hi m : Nat} (hop : o.op = .slice t x low high mx) (hx : opE g x = some (slS st f l))
    (hlow : (low = none ∧ lo = 0) ∨ ∃ y k, low = some y ∧ opE g y = some (intS k lo)) (hhigh : (high = none ∧ hi = l.length ∧ mx = none) ∨ ∃ y k, high = some y ∧ opE g y = some (intS k hi)) (hmx : mx = none ∨ ∃ y k, mx = some y ∧ opE g y = some (intS k m) ∧ hi ≤ m ∧ m ≤ l.length)
    (h1 : lo ≤ hi) (h2 : hi ≤ l.length) : OpOK P G H o g (slS st f ((l.take hi).drop lo)) :=
  ok_pure (by simp [hop]) fun I W a _ _ hr => by
    obtain ⟨ad, cap, hv, hc1, hbig, h3⟩ := hr.get (by simp [hop, Op.operands]) hx
    obtain ⟨j, hj, hs⟩ := IsSl.i (P := P) (t := t) (e := e) (st := st)
    have key : ∀ m', (mx.map a.eval = none ∧ m' = cap) ∨ (∃ k, mx.map a.eval = some (.int k m')) → hi ≤ m' → m' ≤ cap → ∃ v, (execOp a.eval o).run P W = .ok (.value v) W ∧ (slS st f ((l.take hi).drop lo)).den I v := by
      intro m' hm' h4 h5
      refine ⟨_, ?_, sl_part (st := st) (cap := cap) h3 h1 h2 h4 h5 hbig⟩
      have hb := run_sliceBounds (P := P) (len := l.length) (cap := cap) (lo := lo) (hi := hi) (m := m') (low := low.map a.eval) (high := high.map a.eval) (mx := mx.map a.eval) (W := W) ?_ ?_ hm' h1 h4 h5
      · simp only [execOp, hop, Instr.sliceAt, Instr.slice, Sem.run_bind, run_underlying (IsSl.u (P := P) (t := t) (e := e) (st := st)), Result.andThen_ok, hv, hb, sizeOf, typeInfo, Sem.run_pure, run_program, hj, hs]
      · rcases hlow with ⟨rfl, rfl⟩ | ⟨y, k, rfl, hy⟩
        · exact .inl ⟨rfl, rfl⟩
        · exact .inr ⟨k, by have : a.eval y = _ := hr.get (by simp [hop, Op.operands]) hy; simp [this]⟩
      · rcases hhigh with ⟨rfl, rfl, rfl⟩ | ⟨y, k, rfl, hy⟩
        · exact .inl ⟨rfl, rfl, rfl⟩
        · exact .inr ⟨k, by have : a.eval y = _ := hr.get (by simp [hop, Op.operands]) hy; simp [this]⟩
    rcases hmx with rfl | ⟨y, k, rfl, hy, h4, h5⟩
    · exact key cap (.inl ⟨rfl, rfl⟩) (by omega) (Nat.le_refl _)
    · exact key m (.inr ⟨k, by have : a.eval y = _ := hr.get (by simp [hop, Op.operands]) hy; simp [this]⟩) h4 (by omega)
end
end Go.Sv
