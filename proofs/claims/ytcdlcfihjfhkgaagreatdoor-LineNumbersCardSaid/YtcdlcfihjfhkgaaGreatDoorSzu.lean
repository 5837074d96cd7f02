/- A row of texts as an argument; a row whose bulk is bounded, out of a contract: the second form of a law. -/
import Derived.Test.YtcdlcfihjfhkgaaGreatDoorSzs
import Derived.Test.YtcdlcfihjfhkgaaGreatDoorSsl
import Derived.Deep.DeepHandedRow
namespace Go.Sv
open Go Go.RowKit Go.ChangeShapes Go.WideShapes Go.Deep Go.Proofs Go.Proofs.YtcdlcfihjfhkgaaGreatDoor
section
variable {H : Type} {enc : TypeId × Value → H} {P : Program} {W : World} {base : Nat} {spare : Nat → Bool} {held : Bool}
theorem open_text {e : TypeId} (he : P.underlying e = some .string) (n : Nat) (cs : List Value) (x : DataW H × List MemPlace) (h : DataW.trod enc P W base spare held n e cs = some x) (hw : fitsW P e x.1) : ∃ y : List UInt8, (y.length ≤ 140737488355328 ∧ x.1 = .lit (.string y)) ∧ dens (immOf W) (tC y) cs ∧ allOne cs := by
  obtain ⟨s, rfl, rfl, _⟩ := DataW.trod_string he h
  refine ⟨s.data.toList, ⟨?_, rfl⟩, dens_cons rfl dens_nil, fun z hz => by rw [List.mem_singleton.1 hz]; rfl⟩
  simp only [fitsW, DataW.weights, List.all_cons, List.all_nil, Bool.and_true, decide_eq_true_eq] at hw
  unfold reachBytes at hw
  omega
theorem open_strs {t e : TypeId} {fuel : Nat} {cs : List Value} {x : DataW H × List MemPlace} (ht : P.underlying t = some (.slice e)) (he : P.underlying e = some .string) (hc : P.cellsOf e = 1) (hb : 0 < P.bytesOf e)
    (h : DataW.trod enc P W base spare held fuel t cs = some x) (hw : fitsW P t x.1) : ∃ v l, cs = [v] ∧ (∀ y ∈ l, y.length ≤ 140737488355328) ∧ (slS 1 tC l).den (immOf W) v :=
  open_list ht hc (by decide) hb (fun _ => rfl) (fun n cs x h hw => by
    obtain ⟨y, h1, h2⟩ := open_text he n cs x h hw
    exact ⟨y, h1.1, h2⟩) h hw
/-- the texts, and the bulk of the reading -/
theorem open_strsU {t e : TypeId} {fuel : Nat} {cs : List Value} {x : DataW H × List MemPlace} (ht : P.underlying t = some (.slice e)) (he : P.underlying e = some .string) (hc : P.cellsOf e = 1) (hb : 0 < P.bytesOf e)
    (h : DataW.trod enc P W base spare held fuel t cs = some x) (hw : fitsW P t x.1) : ∃ v l, cs = [v] ∧ (l.map List.length).sum ≤ Rows.uptoBulk x.1 ∧ (slS 1 tC l).den (immOf W) v := by
  rcases open_slice ht h with ⟨rfl, rfl⟩ | ⟨a, len, cap, m, n, D, Pl, rfl, _, hl, _, hm, rfl, hx⟩
  · exact ⟨_, [], rfl, Nat.zero_le _, none, 0, rfl, Nat.le_refl _, Nat.zero_le _, .inl rfl⟩
  · have hlm : len ≤ m := by rw [hm]; split <;> omega
    simp only [fitsW, DataW.weights, ht, List.all_cons, Bool.and_eq_true, List.all_append, decide_eq_true_eq, List.length_map, List.length_range] at hw
    obtain ⟨hw0, hw1, _⟩ := hw
    have hbig : len ≤ big := by
      have : len * 1 ≤ (len + (m - len)) * P.bytesOf e := Nat.mul_le_mul (by omega) hb
      unfold reachBytes at hw0
      unfold big
      omega
    rcases Nat.eq_zero_or_pos len with rfl | hpos
    · exact ⟨_, [], rfl, Nat.zero_le _, some a, cap, rfl, Nat.zero_le _, Nat.zero_le _, .inl rfl⟩
    · obtain ⟨b, o, sp⟩ := a
      have hsp : sp = none := by
        obtain ⟨cs', h1, _⟩ := hx 0 (by omega)
        obtain ⟨_, hlen, hcell⟩ := World.cells?_some h1
        have g0 := hcell 0 (by omega)
        rw [show cs'[0]? = some (cs'[0]'(by omega)) by simp] at g0
        simpa [Addr.add] using World.cell?_spot g0
      subst hsp
      obtain ⟨l, hll, hlp⟩ := list_of (p := fun i (y : List UInt8) => D i = .lit (.string y) ∧ cellsAt (immOf W) b (o + i * 1) (tC y)) len fun i hi => by
        obtain ⟨cs', h1, h2⟩ := hx i (by omega)
        rw [hc, add_plain] at h1
        obtain ⟨y, hg, hd, ho⟩ := open_text he n cs' (D i, Pl i) h2 (fits_all hw1 _ (List.mem_map.2 ⟨i, by simpa using hi, rfl⟩))
        exact ⟨y, hg.2, cellsAt_of h1 (by decide) rfl hd ho⟩
      refine ⟨_, l, rfl, ?_, some ⟨b, o, none⟩, cap, by rw [hll], by omega, by omega, .inr ⟨b, o, rfl, fun i y hy => (hlp i y hy).2⟩⟩
      have hmap : (List.range len).map D = l.map fun y => .lit (.string y) := by
        refine List.ext_getElem? fun i => ?_
        rw [List.getElem?_map, List.getElem?_map]
        rcases Nat.lt_or_ge i len with hi | hi
        · rw [List.getElem?_eq_getElem (by simpa using hi), List.getElem?_eq_getElem (by omega), List.getElem_range, Option.map_some, Option.map_some, (hlp i _ (List.getElem?_eq_getElem (by omega))).1]
        · rw [List.getElem?_eq_none (by simpa using hi), List.getElem?_eq_none (by omega)]; rfl
      have hsum : ∀ l : List (List UInt8), (l.map List.length).sum ≤ Rows.uptoBulkAll (l.map fun y => (DataW.lit (.string y) : DataW H)) := fun l => by
        induction l with
        | nil => exact Nat.zero_le _
        | cons y l ih => simp only [List.map_cons, List.sum_cons, Rows.uptoBulkAll, Rows.uptoBulk]; omega
      have := hsum l
      simp only [Rows.uptoBulk, hmap]
      omega
end
section
variable {H : Type} {enc : TypeId × Value → H} {P : Program}
/-- what is asked of the arguments of a row whose bulk is bounded -/
def openAllU (enc : TypeId × Value → H) (P : Program) (W : World) (N : Nat) (Q : List SV → Prop) : List TypeId → List SV → Prop
  | [], ss => Q ss.reverse
  | t :: ts, ss => ∀ (b0 : Nat) (v : Value) (d : DataW H) (ps : List MemPlace), Value.okWide P W .any b0 t v → DataW.Trod enc P W 0 (fun _ => true) true t v d ps → fitsW P t d → Rows.uptoBulk d ≤ N → ∃ s : SV, s.den (immOf W) v ∧ openAllU enc P W N Q ts (s :: ss)
section
variable {W : World} {N : Nat} {Q : List SV → Prop} {t : TypeId} {ts : List TypeId} {ss : List SV}
theorem openAllU_agg {α : Type} {f : α → List SV} {Good : α → Prop} {fs : Array Field} (ht : P.underlying t = some (.struct fs)) (hel : ∀ n cs (x : DataW H × List MemPlace), DataW.trod enc P W 0 (fun _ => true) true n t cs = some x → fitsW P t x.1 → ∃ y, Good y ∧ dens (immOf W) (f y) cs ∧ allOne cs)
    (hn : ∀ y, Good y → openAllU enc P W N Q ts (aggS (f y) :: ss)) : openAllU enc P W N Q (t :: ts) ss := fun _ _ _ _ hv hd hw _ => by
  obtain ⟨y, hg, h⟩ := arg_agg ht hv hd hw hel
  exact ⟨_, h, hn y hg⟩
theorem openAllU_str (ht : P.underlying t = some .string) (hn : ∀ l : List UInt8, l.length ≤ maxLen → openAllU enc P W N Q ts (strS l :: ss)) : openAllU enc P W N Q (t :: ts) ss := fun _ _ _ _ hv hd _ _ => by
  obtain ⟨s, rfl, _, _, hs⟩ := ChangeMaps.open_string ht hv hd
  exact ⟨_, rfl, hn s.data.toList (by rw [Array.length_toList]; exact hs)⟩
theorem openAllU_strs {e : TypeId} (ht : P.underlying t = some (.slice e)) (he : P.underlying e = some .string) (hc : P.cellsOf e = 1) (hb : 0 < P.bytesOf e)
    (hn : ∀ l : List (List UInt8), (l.map List.length).sum ≤ N → openAllU enc P W N Q ts (slS 1 tC l :: ss)) : openAllU enc P W N Q (t :: ts) ss := fun _ _ d ps hv hd hw hk => by
  obtain ⟨a, len, cap, rfl⟩ := okWide_slice ht hv
  obtain ⟨n, hn'⟩ := hd
  obtain ⟨v, l, hc, hg, hv⟩ := open_strsU (x := (d, ps)) ht he hc hb hn' hw
  simp only [Value.cells, List.cons.injEq, and_true] at hc
  subst hc
  exact ⟨_, hv, hn l (Nat.le_trans hg hk)⟩
theorem openAllU_nil (h : Q ss.reverse) : openAllU enc P W N Q [] ss := h
end
theorem openAllU_use {W : World} {N : Nat} {Q : List SV → Prop} {base : Nat} : ∀ {ts : List TypeId} {vs : List Value} {ds : List (DataW H)} {ps : List MemPlace} {acc : List SV}, openAllU enc P W N Q ts acc → DataW.TrodAll enc P W 0 (fun _ => true) true ts vs ds ps →
    (∀ (j : Nat) t v, ts[j]? = some t → vs[j]? = some v → Value.okWide P W .any base t v) → (DataW.weightsEach P ts ds).all (· ≤ reachBytes) = true → Rows.uptoBulkAll ds ≤ N → ds.length = ts.length ∧ ∃ ss, dens (immOf W) ss vs ∧ Q (acc.reverse ++ ss)
  | [], _, _, _, acc, ho, h, _, _, _ => by
    obtain ⟨rfl, rfl, rfl⟩ := trodAll_nil h
    exact ⟨rfl, [], dens_nil, by simpa [openAllU] using ho⟩
  | t :: ts, _, _, _, acc, ho, h, hv, hw, hk => by
    obtain ⟨v, vs, d, ds, p, q, rfl, rfl, rfl, h1, h2⟩ := trodAll_cons h
    obtain ⟨w1, w2⟩ := weightsEach_cons hw
    rw [Rows.uptoBulkAll] at hk
    obtain ⟨s, hs, ho'⟩ := ho base v d p (hv 0 t v rfl rfl) h1 w1 (by omega)
    obtain ⟨hlen, ss, hd, hq⟩ := openAllU_use ho' h2 (fun j t' v' a b => hv (j + 1) t' v' (by simpa using a) (by simpa using b)) w2 (by omega)
    exact ⟨by simp [hlen], s :: ss, dens_cons hs hd, by simpa using hq⟩
theorem law_contractU {C : Checked} {f : FuncId} {fn : Func} {s : ChangeSpec} {tb : TypeId} {W : World} {base N : Nat} {args : Array Value} {ds gs : List (DataW H)} {before : List MemPlace}
    (hl : laidOutB C.prog = true) (hres : fn.resultTypes = #[tb]) (htb : C.prog.underlying tb = some .bool) (hvars : s.vars = []) (hr : ∀ t ∈ fn.params.toList, C.prog.readableRec t = true ∧ t < C.prog.types.size)
    (hsfn : ∀ ds : List (DataW H), ds.length = fn.params.toList.length → s.fn H ds = { results := [.lit (.bool true)], args := ds })
    (hlaw : openAllU enc C.prog W N (fun ss => PSpec C.prog (immOf W) f ss (boolS true)) fn.params.toList [])
    (hval : ∀ (j : Nat) t v, fn.params[j]? = some t → args[j]? = some v → Value.okWide C.prog W .any base t v) (hW : DataW.Whole enc C.prog fn.params.toList s.vars false W args.toList ds gs before)
    (hw : (DataW.weightsEach C.prog (fn.params.toList ++ s.plain.varTypes C.prog) (ds ++ gs)).all (· ≤ reachBytes) = true) (hk : Rows.uptoBulkAll (ds ++ gs) ≤ N) :
    Calls C.prog f args W fun e W' => ∃ v, e = .returned v ∧ s.post enc C.prog fn false true false false W args v W' := by
  have hW' := hW
  obtain ⟨p, q, hA, hV, rfl, _, _⟩ := hW
  rw [hvars] at hV
  obtain ⟨rfl, rfl⟩ := trodVars_none hV
  have hvt : s.plain.varTypes C.prog = [] := by
    simp [ChangeSpec.plain, DataSpec.varTypes, hvars]
  rw [hvt, List.append_nil, List.append_nil] at hw
  rw [List.append_nil] at hW' hk
  obtain ⟨hlen, ss, hd, hq⟩ := openAllU_use hlaw hA (fun j t v a b => hval j t v (by simpa using a) (by simpa using b)) hw hk
  have hmain := hq.main (immOf W) W args.toList (holds_immOf W) ⟨by simp [bs], fun _ h => by cases h⟩ hd
  rw [show args.toList.toArray = args by simp] at hmain
  refine hmain.mono ?_
  rintro e W' ⟨v, I', s', H', rfl, ⟨rfl, rfl⟩, hv, _, _, hf⟩
  obtain rfl : v = .bool true := hv
  exact ⟨_, rfl, post_bool hl hres htb hvars hr (hsfn ds hlen) hW' hA ⟨hf.os, hf.tape, hf.output, hf.size, fun k hk => hf.old k hk (by simp [bs])⟩⟩
/-- THE SECOND FORM's ROW, out of its contract: whatever the arguments of bounded bulk, the call answers true. -/
theorem law_liftedU {C : Checked} {os : Os} {f : FuncId} {fn : Func} {s : ChangeSpec} {laid : List (String × DataW Unit)} {tb : TypeId} {F : Stop.Interp} (own : ownKnob C.prog.godebug = none) (started : os.Started) (noInit : C.prog.inits.idxOf? f = none) (hfn : C.prog.funcs[f]? = some fn)
    (witness : ∃ (w : World) (tape : Tape) (i : Input), w.os = os ∧ (w.forCall tape i).Shaped C.prog ∧ i.vars = [] ∧ Input.okWide C.prog (w.forCall tape i) .any w.heap.size f i ∧
      (Rows.OpenSpec.upto s).preRow enc C.prog fn [] false laid (w.forCall tape i).memory i.args ∧ ({} : Assume).holds C.prog (lone (Frame.enter C.prog f i.args .normal) [] (w.forCall tape i)))
    (hl : laidOutB C.prog = true) (hres : fn.resultTypes = #[tb]) (htb : C.prog.underlying tb = some .bool) (hvars : s.vars = []) (hr : ∀ t ∈ fn.params.toList, C.prog.readableRec t = true ∧ t < C.prog.types.size)
    (hsfn : ∀ ds : List (DataW H), ds.length = fn.params.toList.length → s.fn H ds = { results := [.lit (.bool true)], args := ds })
    (hlaw : ∀ W, W.ShapedOpen C.prog → laidMetH C.prog laid W → openAllU enc C.prog W 1048576 (fun ss => PSpec C.prog (immOf W) f ss (boolS true)) fn.params.toList []) :
    ReturnsInHanded {} C os f .any ((Rows.OpenSpec.upto s).preRow enc C.prog fn [] false laid) (((Rows.OpenSpec.upto s).at F).post enc C.prog fn false true false false) := by
  refine returnsInHanded_of_row (C := C) (s := Rows.OpenSpec.upto s) own started noInit hfn witness ?_
  intro W base args ds gs before hval hW _ hk hw hL hsh _
  exact law_contractU hl hres htb hvars hr hsfn (hlaw W hsh hL) hval hW hw (of_decide_eq_true (hk _ rfl))
end
end Go.Sv
