/- The join, the part that knows no program: an argument that can be read as data is what its fact says of it; what a contract leaves behind is what a row asks for. -/
import Derived.Test.YtofplgefmjojjaaGreatDoorSv1
import Derived.ProofKit
import Derived.LaidMore
import Derived.OpenShut
import Derived.Stop.Joined
import Derived.Carry
import Derived.Handed
import Derived.Deep.Slices
namespace Go.Sv
open Go Go.RowKit Go.ChangeShapes Go.WideShapes Go.Deep
def immOf (W : World) : Imm := fun b => match W.heap[b]? with | some (.cells c _ _) => some c | _ => none
theorem holds_immOf (W : World) : Holds (immOf W) (immOf W) W := by
 refine ⟨Imm.le_refl _, fun b c h => ?_⟩
 unfold immOf at h
 split at h
 ·rename_i c' e f hb
  cases h
  exact ⟨e, f, hb⟩
 ·cases h
theorem immOf_cell {W : World} {b o : Nat} {v : Value} (h : W.cell? ⟨b, o, none⟩ = some v) : ∃ c, immOf W b = some c ∧ c[o]? = some v := by
 unfold World.cell? at h
 unfold immOf
 split at h
 ·rename_i c e f hb
  rw [hb]
  exact ⟨c, rfl, by simpa using h⟩
 ·cases h
theorem immOf_var {P : Program} {W : World} {n : String} {g : Nat} {cs : Array Value} (hg : P.globalNamed n = some g) (h : W.var? P n = some cs) : immOf W g = some cs := by
 simp only [World.var?, hg, Option.bind_some] at h
 unfold immOf
 exact h
theorem list_of {α : Type} {p : Nat → α → Prop} : ∀ n : Nat, (∀ i, i < n → ∃ y, p i y) → ∃ l : List α, l.length = n ∧ ∀ i y, l[i]? = some y → p i y
  | 0, _ => ⟨[], rfl, fun i y h => by simp at h⟩
  | n + 1, h => by
    obtain ⟨l, h1, h2⟩ := list_of n fun i hi => h i (by omega)
    obtain ⟨z, hz⟩ := h n (by omega)
    refine ⟨l ++ [z], by simp [h1], fun i y hy => ?_⟩
    by_cases hi : i < n
    · exact h2 i y (by rwa [List.getElem?_append_left (by omega)] at hy)
    · rw [List.getElem?_append_right (by omega)] at hy
      have hin : i = n := by
        rcases Nat.lt_or_ge (i - l.length) 1 with h3 | h3
        · omega
        · rw [List.getElem?_eq_none (by simpa using h3)] at hy
          cases hy
      subst hin
      rw [h1, Nat.sub_self] at hy
      cases hy
      exact hz
section
variable {H : Type} {enc : TypeId × Value → H} {P : Program} {W : World} {base : Nat} {spare : Nat → Bool} {held : Bool}
abbrev fitsW (P : Program) (t : TypeId) (d : DataW H) : Prop := (d.weights P t).all (· ≤ reachBytes) = true
theorem fits_all {e : TypeId} : ∀ {l : List (DataW H)}, (DataW.weightsAll P e l).all (· ≤ reachBytes) = true → ∀ d ∈ l, fitsW P e d
  | [], _, _, h => by cases h
  | _ :: _, hw, d, h => by
    rw [DataW.weightsAll, List.all_append, Bool.and_eq_true] at hw
    rcases List.mem_cons.1 h with rfl | h
    · exact hw.1
    · exact fits_all hw.2 d h
theorem cellsAt_of {b o st : Nat} {ss : List SV} {cs : List Value} (hc : W.cells? base ⟨b, o, none⟩ st = some cs) (h0 : 0 < st) (hl : ss.length = st) (hd : dens (immOf W) ss cs) (h1 : allOne cs) : cellsAt (immOf W) b o ss := by
 obtain ⟨_, hlen, hcell⟩ := World.cells?_some hc
 have get : ∀ i, i < st → ∃ v, cs[i]? = some v ∧ W.cell? ⟨b, o + i, none⟩ = some v := fun i hi => by
  have := hcell i hi
  rw [add_plain] at this
  exact ⟨cs[i]'(by omega), by simp, by rw [this]; simp⟩
 obtain ⟨v0, _, hv0⟩ := get 0 h0
 obtain ⟨c, hI, _⟩ := immOf_cell hv0
 refine ⟨c, hI, fun i s hs => ?_⟩
 have hi : i < st := by
  rcases Nat.lt_or_ge i ss.length with h | h
  ·omega
  ·rw [List.getElem?_eq_none h] at hs
   cases hs
 obtain ⟨v, hv, hw⟩ := get i hi
 obtain ⟨c', hI', hx⟩ := immOf_cell hw
 rw [hI] at hI'
 cases hI'
 exact ⟨v, hx, hd.2 i s v hs hv, h1 v (List.mem_of_getElem? hv)⟩
theorem open_list {α : Type} {t e st : Nat} {f : α → List SV} {Good : α → Prop} {fuel : Nat} {cs : List Value} {x : DataW H × List MemPlace}
  (ht : P.underlying t = some (.slice e)) (hc : P.cellsOf e = st) (h0 : 0 < st) (hb : 0 < P.bytesOf e) (hst : ∀ y, (f y).length = st)
  (hel : ∀ (n : Nat) (cs : List Value) (x : DataW H × List MemPlace), DataW.trod enc P W base spare held n e cs = some x → fitsW P e x.1 → ∃ y, Good y ∧ dens (immOf W) (f y) cs ∧ allOne cs)
  (h : DataW.trod enc P W base spare held fuel t cs = some x) (hw : fitsW P t x.1) : ∃ v l, cs = [v] ∧ (∀ y ∈ l, Good y) ∧ (slS st f l).den (immOf W) v := by
 rcases open_slice ht h with ⟨rfl, rfl⟩ | ⟨a, len, cap, m, n, D, Pl, rfl, _, hl, _, hm, rfl, hx⟩
 ·exact ⟨_, [], rfl, (fun _ h => by cases h), none, 0, rfl, Nat.le_refl _, Nat.zero_le _, .inl rfl⟩
 ·have hlm : len ≤ m := by rw [hm]; split <;> omega
  simp only [fitsW, DataW.weights, ht, List.all_cons, Bool.and_eq_true, List.all_append, decide_eq_true_eq, List.length_map, List.length_range] at hw
  obtain ⟨hw0, hw1, _⟩ := hw
  have hbig : len ≤ big := by
   have : len * 1 ≤ (len + (m - len)) * P.bytesOf e := Nat.mul_le_mul (by omega) hb
   unfold reachBytes at hw0
   unfold big
   omega
  rcases Nat.eq_zero_or_pos len with rfl | hpos
  ·exact ⟨_, [], rfl, (fun _ h => by cases h), some a, cap, rfl, Nat.zero_le _, Nat.zero_le _, .inl rfl⟩
  ·obtain ⟨b, o, sp⟩ := a
   have hsp : sp = none := by
    obtain ⟨cs', h1, _⟩ := hx 0 (by omega)
    obtain ⟨_, hlen, hcell⟩ := World.cells?_some h1
    have g0 := hcell 0 (by omega)
    rw [show cs'[0]? = some (cs'[0]'(by omega)) by simp] at g0
    simpa [Addr.add] using World.cell?_spot g0
   subst hsp
   obtain ⟨l, hll, hlp⟩ := list_of (p := fun i (y : α) => Good y ∧ cellsAt (immOf W) b (o + i * st) (f y)) len fun i hi => by
    obtain ⟨cs', h1, h2⟩ := hx i (by omega)
    rw [hc, add_plain] at h1
    obtain ⟨y, hg, hd, ho⟩ := hel n cs' (D i, Pl i) h2 (fits_all hw1 _ (List.mem_map.2 ⟨i, by simpa using hi, rfl⟩))
    exact ⟨y, hg, cellsAt_of h1 h0 (hst y) hd ho⟩
   refine ⟨_, l, rfl, fun y hy => ?_, some ⟨b, o, none⟩, cap, by rw [hll], by omega, by omega, .inr ⟨b, o, rfl, fun i y hy => (hlp i y hy).2⟩⟩
   obtain ⟨i, hi⟩ := List.getElem?_of_mem hy
   exact (hlp i y hi).1
theorem open_two {t : TypeId} {f0 f1 : Field} {fuel : Nat} {cs : List Value} {x : DataW H × List MemPlace} (ht : P.underlying t = some (.struct #[f0, f1])) (h0 : f0.offset = 0) (h1 : f1.offset = P.cellsOf f0.type) (hc : P.cellsOf t = P.cellsOf f0.type + P.cellsOf f1.type)
  (h : DataW.trod enc P W base spare held fuel t cs = some x) (hw : fitsW P t x.1) : ∃ c0 c1 y0 y1 n, cs = c0 ++ c1 ∧ DataW.trod enc P W base spare held n f0.type c0 = some y0 ∧ fitsW P f0.type y0.1 ∧ DataW.trod enc P W base spare held n f1.type c1 = some y1 ∧ fitsW P f1.type y1.1 := by
 obtain ⟨y0, y1, n, rfl, hl, k0, k1⟩ := trod_struct2 ht h
 simp only [fitsW, DataW.weights, ht, DataW.weightsEach, List.map_cons, List.map_nil, List.append_nil, List.all_append, Bool.and_eq_true] at hw
 refine ⟨_, _, y0, y1, n, ?_, k0, hw.1, k1, hw.2⟩
 rw [h0, h1, List.drop_zero, List.take_of_length_le (l := cs.drop _) (by rw [List.length_drop]; omega), List.take_append_drop]
end
section
variable {H : Type} {enc : TypeId × Value → H} {P : Program}
theorem arg_agg {α : Type} {f : α → List SV} {Good : α → Prop} {W : World} {b0 : Nat} {t : TypeId} {fs : Array Field} {v : Value} {d : DataW H} {ps : List MemPlace} {base : Nat} {spare : Nat → Bool} {held : Bool} (ht : P.underlying t = some (.struct fs)) (hval : Value.okWide P W .any b0 t v)
  (hd : DataW.Trod enc P W base spare held t v d ps) (hw : fitsW P t d) (hel : ∀ n cs x, DataW.trod enc P W base spare held n t cs = some x → fitsW P t x.1 → ∃ y, Good y ∧ dens (immOf W) (f y) cs ∧ allOne cs) : ∃ y, Good y ∧ (aggS (f y)).den (immOf W) v := by
 obtain ⟨cs, rfl, _⟩ := okWide_struct ht hval
 obtain ⟨n, hn⟩ := hd
 obtain ⟨y, hg, h1, h2⟩ := hel n cs.toList (d, ps) (by simpa [Value.cells] using hn) hw
 exact ⟨y, hg, cs.toList, by simp, h1, h2⟩
theorem arg_row {α : Type} {f : α → List SV} {Good : α → Prop} {st : Nat} {W : World} {b0 : Nat} {t e : TypeId} {v : Value} {d : DataW H} {ps : List MemPlace} {base : Nat} {spare : Nat → Bool} {held : Bool} (ht : P.underlying t = some (.slice e)) (hval : Value.okWide P W .any b0 t v)
  (hd : DataW.Trod enc P W base spare held t v d ps) (hw : fitsW P t d) (hel : ∀ n cs x, DataW.trod enc P W base spare held n t cs = some x → fitsW P t x.1 → ∃ v l, cs = [v] ∧ (∀ y ∈ l, Good y) ∧ (slS st f l).den (immOf W) v) : ∃ l, (∀ y ∈ l, Good y) ∧ (slS st f l).den (immOf W) v := by
 obtain ⟨a, len, cap, rfl⟩ := okWide_slice ht hval
 obtain ⟨n, hn⟩ := hd
 obtain ⟨v, l, hc, hg, hv⟩ := hel n _ (d, ps) hn hw
 simp only [Value.cells, List.cons.injEq, and_true] at hc
 subst hc
 exact ⟨l, hg, hv⟩
theorem open_table {W : World} {t e : TypeId} {k : IntKind} {n fuel base : Nat} {spare : Nat → Bool} {held : Bool} {cs : List Value} {zs : List Int} {ps : List MemPlace} (ht : P.underlying t = some (.array n e)) (he : P.underlying e = some (.int k)) (hc : P.cellsOf e = 1) (hn : P.cellsOf t = n) (hz : zs.length = n)
  (h : DataW.trod enc P W base spare held fuel t cs = some (.agg (zs.map fun z => .lit (.int k z)), ps)) : cs = zs.map (.int k ·) := by
 obtain ⟨xs, m, rfl, hx, hlen, hxn, hel⟩ := DataW.trod_array ht h
 simp only [Prod.mk.injEq, DataW.agg.injEq] at hx
 refine List.ext_getElem (by simp; omega) fun i h1 h2 => ?_
 have hi : i < n := by omega
 have h3 := hel i hi
 rw [hc, Nat.mul_one, List.getElem?_eq_getElem (by omega)] at h3
 obtain ⟨z, e1, e2, _⟩ := DataW.trod_int he h3
 have e3 : (zs.map fun z => (DataW.lit (.int k z) : DataW H))[i]? = (xs.map (·.1))[i]? := by rw [hx.1]
 rw [List.getElem?_map, List.getElem?_map, List.getElem?_eq_getElem (by omega), List.getElem?_eq_getElem (by omega)] at e3
 simp only [Option.map_some, Option.some.injEq, e2, DataW.lit.injEq, Lit.int.injEq, true_and] at e3
 have e4 : (cs.drop i)[0]? = some (.int k z) := by
  have : ((cs.drop i).take 1)[0]? = some (.int k z) := by rw [e1]; rfl
  simpa using this
 rw [List.getElem?_drop, Nat.add_zero, List.getElem?_eq_getElem h1] at e4
 simp only [Option.some.injEq] at e4
 simp [e4, e3]
theorem trodAll_below {W W' : World} (hl : laidOutB P = true) (hb : Below W.heap.size W W') : ∀ {ts : List TypeId} {vs : List Value} {ds : List (DataW H)} {ps : List MemPlace}, (∀ t ∈ ts, P.readableRec t = true ∧ t < P.types.size) →
    DataW.TrodAll enc P W 0 (fun _ => true) true ts vs ds ps → (∀ x ∈ ps, x.block < W.heap.size) → DataW.TrodAll enc P W' 0 (fun b => decide (b < W.heap.size)) true ts vs ds ps
  | [], _, _, _, _, h, _ => by
    obtain ⟨rfl, rfl, rfl⟩ := trodAll_nil h
    exact trodAll_mk0
  | t :: ts, _, _, _, hr, h, hlt => by
    obtain ⟨v, vs, d, ds, p, q, rfl, rfl, rfl, h1, h2⟩ := trodAll_cons h
    exact trodAll_cons_mk (Below.trod hl (hr t (by simp)).1 (hr t (by simp)).2 h1 hb fun x hx => hlt x (by simp [hx])) (trodAll_below hl hb (fun t ht => hr t (by simp [ht])) h2 fun x hx => hlt x (by simp [hx]))
theorem post_bool {f : Func} {s : ChangeSpec} {W W' : World} {args : Array Value} {ds : List (DataW H)} {before : List MemPlace} {tb : TypeId} {b : Bool} (hl : laidOutB P = true) (hres : f.resultTypes = #[tb]) (htb : P.underlying tb = some .bool) (hvars : s.vars = [])
  (hr : ∀ t ∈ f.params.toList, P.readableRec t = true ∧ t < P.types.size) (hfn : s.fn H ds = { results := [.lit (.bool b)], args := ds })
  (hW : DataW.Whole enc P f.params.toList s.vars false W args.toList ds [] before) (hA : DataW.TrodAll enc P W 0 (fun _ => true) true f.params.toList args.toList ds before) (hb : Below W.heap.size W W') :
  s.post enc P f false true false false W args (.bool b) W' := by
 refine ⟨ds, [], before, [], before, [], hW, ?_, ?_, ?_, Below.frame hb _, fun h => by cases h⟩
 ·rw [hres, List.append_nil, hfn]
  exact trodAll_mk1 (shut_bool htb b)
 ·rw [List.append_nil, hfn]
  exact trodAll_below hl hb hr hA fun x hx => by simpa using hW.lt x hx
 ·rw [hvars, List.append_nil, hfn]
  exact rfl
theorem weightsEach_cons {t : TypeId} {ts : List TypeId} {d : DataW H} {ds : List (DataW H)} (h : (DataW.weightsEach P (t :: ts) (d :: ds)).all (· ≤ reachBytes) = true) : fitsW P t d ∧ (DataW.weightsEach P ts ds).all (· ≤ reachBytes) = true := by
 rw [DataW.weightsEach, List.all_append, Bool.and_eq_true] at h
 exact h
def openAll (enc : TypeId × Value → H) (P : Program) (W : World) (Q : List SV → Prop) : List TypeId → List SV → Prop
 | [], ss => Q ss.reverse
 | t :: ts, ss => ∀ (b0 : Nat) (v : Value) (d : DataW H) (ps : List MemPlace), Value.okWide P W .any b0 t v → DataW.Trod enc P W 0 (fun _ => true) true t v d ps → fitsW P t d → ∃ s : SV, s.den (immOf W) v ∧ openAll enc P W Q ts (s :: ss)
section
variable {W : World} {Q : List SV → Prop} {t : TypeId} {ts : List TypeId} {ss : List SV}
theorem openAll_agg {α : Type} {f : α → List SV} {Good : α → Prop} {fs : Array Field} (ht : P.underlying t = some (.struct fs)) (hel : ∀ n cs (x : DataW H × List MemPlace), DataW.trod enc P W 0 (fun _ => true) true n t cs = some x → fitsW P t x.1 → ∃ y, Good y ∧ dens (immOf W) (f y) cs ∧ allOne cs)
  (hn : ∀ y, Good y → openAll enc P W Q ts (aggS (f y) :: ss)) : openAll enc P W Q (t :: ts) ss := fun _ _ _ _ hv hd hw => by
 obtain ⟨y, hg, h⟩ := arg_agg ht hv hd hw hel
 exact ⟨_, h, hn y hg⟩
theorem openAll_row {α : Type} {f : α → List SV} {Good : α → Prop} {st : Nat} {e : TypeId} (ht : P.underlying t = some (.slice e)) (hel : ∀ n cs (x : DataW H × List MemPlace), DataW.trod enc P W 0 (fun _ => true) true n t cs = some x → fitsW P t x.1 → ∃ v l, cs = [v] ∧ (∀ y ∈ l, Good y) ∧ (slS st f l).den (immOf W) v)
  (hn : ∀ l, (∀ y ∈ l, Good y) → openAll enc P W Q ts (slS st f l :: ss)) : openAll enc P W Q (t :: ts) ss := fun _ _ _ _ hv hd hw => by
 obtain ⟨l, hg, h⟩ := arg_row ht hv hd hw hel
 exact ⟨_, h, hn l hg⟩
theorem openAll_nil (h : Q ss.reverse) : openAll enc P W Q [] ss := h
end
theorem openAll_use {W : World} {Q : List SV → Prop} {base : Nat} : ∀ {ts : List TypeId} {vs : List Value} {ds : List (DataW H)} {ps : List MemPlace} {acc : List SV}, openAll enc P W Q ts acc → DataW.TrodAll enc P W 0 (fun _ => true) true ts vs ds ps →
    (∀ (j : Nat) t v, ts[j]? = some t → vs[j]? = some v → Value.okWide P W .any base t v) → (DataW.weightsEach P ts ds).all (· ≤ reachBytes) = true → ds.length = ts.length ∧ ∃ ss, dens (immOf W) ss vs ∧ Q (acc.reverse ++ ss)
  | [], _, _, _, acc, ho, h, _, _ => by
    obtain ⟨rfl, rfl, rfl⟩ := trodAll_nil h
    exact ⟨rfl, [], dens_nil, by simpa [openAll] using ho⟩
  | t :: ts, _, _, _, acc, ho, h, hv, hw => by
    obtain ⟨v, vs, d, ds, p, q, rfl, rfl, rfl, h1, h2⟩ := trodAll_cons h
    obtain ⟨w1, w2⟩ := weightsEach_cons hw
    obtain ⟨s, hs, ho'⟩ := ho base v d p (hv 0 t v rfl rfl) h1 w1
    obtain ⟨hlen, ss, hd, hq⟩ := openAll_use ho' h2 (fun j t' v' a b => hv (j + 1) t' v' (by simpa using a) (by simpa using b)) w2
    exact ⟨by simp [hlen], s :: ss, dens_cons hs hd, by simpa using hq⟩
theorem law_contract {C : Checked} {f : FuncId} {fn : Func} {s : ChangeSpec} {tb : TypeId} {W : World} {base : Nat} {args : Array Value} {ds gs : List (DataW H)} {before : List MemPlace}
  (hl : laidOutB C.prog = true) (hres : fn.resultTypes = #[tb]) (htb : C.prog.underlying tb = some .bool) (hvars : s.vars = []) (hr : ∀ t ∈ fn.params.toList, C.prog.readableRec t = true ∧ t < C.prog.types.size)
  (hsfn : ∀ ds : List (DataW H), ds.length = fn.params.toList.length → s.fn H ds = { results := [.lit (.bool true)], args := ds })
  (hlaw : openAll enc C.prog W (fun ss => PSpec C.prog (immOf W) f ss (boolS true)) fn.params.toList [])
  (hval : ∀ (j : Nat) t v, fn.params[j]? = some t → args[j]? = some v → Value.okWide C.prog W .any base t v) (hW : DataW.Whole enc C.prog fn.params.toList s.vars false W args.toList ds gs before)
  (hw : (DataW.weightsEach C.prog (fn.params.toList ++ s.plain.varTypes C.prog) (ds ++ gs)).all (· ≤ reachBytes) = true) :
  Calls C.prog f args W fun e W' => ∃ v, e = .returned v ∧ s.post enc C.prog fn false true false false W args v W' := by
 have hW' := hW
 obtain ⟨p, q, hA, hV, rfl, _, _⟩ := hW
 rw [hvars] at hV
 obtain ⟨rfl, rfl⟩ := trodVars_none hV
 have hvt : s.plain.varTypes C.prog = [] := by
  simp [ChangeSpec.plain, DataSpec.varTypes, hvars]
 rw [hvt, List.append_nil, List.append_nil] at hw
 rw [List.append_nil] at hW'
 obtain ⟨hlen, ss, hd, hq⟩ := openAll_use hlaw hA (fun j t v a b => hval j t v (by simpa using a) (by simpa using b)) hw
 have hmain := hq.main (immOf W) W args.toList (holds_immOf W) ⟨by simp [bs], fun _ h => by cases h⟩ hd
 rw [show args.toList.toArray = args by simp] at hmain
 refine hmain.mono ?_
 rintro e W' ⟨v, I', s', H', rfl, ⟨rfl, rfl⟩, hv, _, _, hf⟩
 obtain rfl : v = .bool true := hv
 exact ⟨_, rfl, post_bool hl hres htb hvars hr (hsfn ds hlen) hW' hA ⟨hf.os, hf.tape, hf.output, hf.size, fun k hk => hf.old k hk (by simp [bs])⟩⟩
theorem law_liftedS {C : Checked} {os : Os} {f : FuncId} {fn : Func} {s : ChangeSpec} {X : World → Prop} {tb : TypeId} (hX : ∀ w w' : World, w.heap = w'.heap → X w → X w') (own : ownKnob C.prog.godebug = none) (started : os.Started) (noInit : C.prog.inits.idxOf? f = none) (hfn : C.prog.funcs[f]? = some fn)
  (witness : ∃ (w : World) (tape : Tape) (i : Input), w.os = os ∧ (w.forCall tape i).Shaped C.prog ∧ i.vars = [] ∧ Input.okWide C.prog (w.forCall tape i) .any w.heap.size f i ∧
   ((s.pre enc C.prog fn [] false (w.forCall tape i).memory i.args ∧ X (w.forCall tape i).memory) ∧ sizedMet enc C.prog fn (OpenSpec.ofChange s) false (w.forCall tape i).memory i.args) ∧ ({} : Assume).holds C.prog (lone (Frame.enter C.prog f i.args .normal) [] (w.forCall tape i)))
  (hl : laidOutB C.prog = true) (hres : fn.resultTypes = #[tb]) (htb : C.prog.underlying tb = some .bool) (hvars : s.vars = []) (hr : ∀ t ∈ fn.params.toList, C.prog.readableRec t = true ∧ t < C.prog.types.size)
  (hsfn : ∀ ds : List (DataW H), ds.length = fn.params.toList.length → s.fn H ds = { results := [.lit (.bool true)], args := ds })
  (hlaw : ∀ W, W.ShapedOpen C.prog → X W → openAll enc C.prog W (fun ss => PSpec C.prog (immOf W) f ss (boolS true)) fn.params.toList []) :
  ReturnsInHanded {} C os f .any (fun w args => (s.pre enc C.prog fn [] false w args ∧ X w) ∧ sizedMet enc C.prog fn (OpenSpec.ofChange s) false w args) (s.post enc C.prog fn false true false false) := by
 refine returnsInHanded_of_calls own started noInit witness ?_
 intro w tape i _ hsh _ hok hpre _
 obtain ⟨_, _, _, fn', hfn', _, _, _, _, hval⟩ := hok
 obtain rfl : fn' = fn := Option.some.inj (hfn'.symm.trans hfn)
 obtain ⟨⟨⟨ds, gs, before, hw, _⟩, hx⟩, hz⟩ := hpre
 have hw' := DataW.Whole.of_heap (w' := w.forCall tape i) (by rfl) hw
 refine (law_contract hl hres htb hvars hr hsfn (hlaw _ hsh (hX _ _ (by rfl) hx)) hval hw' (hz.weights hw)).mono fun e W' ⟨v, he, hp⟩ => ?_
 subst he
 exact ChangeSpec.post_blind hp
end
end Go.Sv
