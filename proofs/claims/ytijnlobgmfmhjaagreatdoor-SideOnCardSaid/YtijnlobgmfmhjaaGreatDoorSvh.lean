/- Operations that turn owned blocks, or lay them; calls by contract; a function's contract from its body. -/
import Derived.Test.YtijnlobgmfmhjaaGreatDoorSvg
import Derived.Maps.AppendAt
import Derived.Shelf.Abstract
namespace Go.Sv
open Go Go.RowKit

section turn
variable {P : Program} {G : Imm} {E : Env} {r : Option Nat} {S : St}
theorem Sat.turn {h' : HL} {I I' : Imm} {F : Nat → Prop} {a : Act} {W W' : World} {O O' : Nat → Prop} (hs : Sat G E r S I F a W) (hO : ∀ b, O b → b ∈ bs S.h) (f : Fram O I W O' I' W') (hO' : ∀ b, b ∈ bs h' → b ∈ bs S.h ∨ W.heap.size ≤ b) (hm : Holds G I' W') (hh : HoldsH h' I' W') :
    Sat G E r { S with h := h' } I' F a W' ∧ Fram (own S F) I W (own { S with h := h' } F) I' W' := by
  have hFO : ∀ b, F b → ¬ O b := fun b hb ho => (hs.f b hb).2.2.1 (hO b ho)
  have hFn : ∀ b, F b → I' b = none := fun b hb => by
    obtain ⟨h1, h2, h3, h4⟩ := hs.f b hb
    cases hI : I' b with
    | none => rfl
    | some c => rcases f.new b h2 (by simp [hI]) with h5 | h5
                · exact absurd h5 (hFO b hb)
                · omega
  refine ⟨⟨hs.n, fun t s hl => s.mono _ _ _ f.imm (hs.g t s hl), hm, hh, hs.d, hs.dn, fun b hb => ?_, ?_, fun b hb => ?_, fun k hk => ?_⟩, ?_⟩
  · have h1 := hs.dk b hb
    refine (f.old b (lt_of_some h1) fun ho => ?_).trans h1
    obtain ⟨p, hp, he⟩ := of_mem_bs (hO b ho)
    obtain ⟨_, c, hc, _⟩ := (hs.h.mem p hp).some he
    rw [hc] at h1; cases h1
  · exact E.stab _ _ _ _ _ _ hs.e f.imm f.os f.tape f.output f.size (fun b hb => f.old b (hs.f b hb).1 (hFO b hb)) hFn
  · obtain ⟨h1, h2, h3, h4⟩ := hs.f b hb
    refine ⟨Nat.lt_of_lt_of_le h1 f.size, hFn b hb, fun hb' => ?_, h4⟩
    · rcases hO' b hb' with h5 | h5
      · exact h3 h5
      · omega
  · obtain ⟨⟨rec, hr⟩, ho⟩ := hs.l k hk
    refine ⟨⟨rec, (f.old k (lt_of_some hr) fun hk' => ho (.inl (hO k hk'))).trans hr⟩, fun ho' => ?_⟩
    rcases ho' with h1 | h1 | h1
    · rcases hO' k h1 with h2 | h2
      · exact ho (.inl h2)
      · have := lt_of_some hr; omega
    · exact ho (.inr (.inl h1))
    · exact ho (.inr (.inr h1))
  · refine ⟨f.os, f.tape, f.output, f.imm, f.size, fun b hb hn => f.old b hb fun ho => hn (.inl (hO b ho)), fun b hn hn' => (f.new b hn hn').imp (fun ho => .inl (hO b ho)) id, fun b hb => ?_⟩
    rcases hb with h1 | h1 | h1
    · exact (hO' b h1).imp .inl id
    · exact .inl (.inr (.inl h1))
    · exact .inl (.inr (.inr h1))
theorem bs_append (h k : HL) : bs (h ++ k) = bs h ++ bs k := by simp [bs]
theorem HoldsH.frame {pre Hp Hq suf : HL} {I I' : Imm} {W W' : World} (h : HoldsH (pre ++ Hp ++ suf) I W) (k : HoldsH Hq I' W') (f : Fram (· ∈ bs Hp) I W (· ∈ bs Hq) I' W') : HoldsH (pre ++ Hq ++ suf) I' W' := by
  have hnd := h.nodup
  simp only [bs_append, List.nodup_append, List.mem_append] at hnd
  obtain ⟨⟨n1, n2, n3⟩, n4, n5⟩ := hnd
  have hpre : ∀ p ∈ pre, p ∈ pre ++ Hp ++ suf := fun p hp => by simp [hp]
  have hsuf : ∀ p ∈ suf, p ∈ pre ++ Hp ++ suf := fun p hp => by simp [hp]
  have old : ∀ (H : HL), (∀ p ∈ H, p ∈ pre ++ Hp ++ suf) → (∀ b ∈ bs H, b ∉ bs Hp) → (bs H).Nodup → HoldsH H I' W' := fun H hH hn hnd =>
    HoldsH.keep ⟨hnd, fun p hp => h.mem p (hH p hp)⟩ f hn
  have k1 := old pre hpre (fun b hb hb' => n3 b hb b hb' rfl) n1
  have k2 := old suf hsuf (fun b hb hb' => n5 b (.inr hb') b hb rfl) n4
  have new : ∀ b, b ∈ bs Hq → b ∈ bs Hp ∨ W.heap.size ≤ b := f.own
  have lt1 : ∀ b ∈ bs pre, b < W.heap.size := fun b hb => (h.lt (b := b) (by simp [bs_append, hb])).1
  have lt2 : ∀ b ∈ bs suf, b < W.heap.size := fun b hb => (h.lt (b := b) (by simp [bs_append, hb])).1
  refine ⟨?_, fun p hp => ?_⟩
  · simp only [bs_append, List.nodup_append, List.mem_append]
    refine ⟨⟨n1, k.nodup, fun a ha b hb e => ?_⟩, n4, fun a ha b hb e => ?_⟩
    · subst e
      rcases new a hb with h1 | h1
      · exact n3 a ha a h1 rfl
      · have := lt1 a ha; omega
    · subst e
      rcases ha with ha | ha
      · exact n5 a (.inl ha) a hb rfl
      · rcases new a ha with h1 | h1
        · exact n5 a (.inr h1) a hb rfl
        · have := lt2 a hb; omega
  · simp only [List.mem_append] at hp
    rcases hp with (hp | hp) | hp
    · exact k1.mem p hp
    · exact k.mem p hp
    · exact k2.mem p hp

/-- an operation that turns the blocks Hp alone, into those of K -/
def OpL (P : Program) (G : Imm) (o : Oper) (g : List (Nat × SV)) (Hp : HL) (K : SV → HL → Prop) : Prop :=
  ∀ n r I W a (next : Act → World → Prop) (Q : Exit → Act → World → Prop), Holds G I W → HoldsH Hp I W → reads g I o a →
    (∀ v I' W' s H', K s H' → Fram (· ∈ bs Hp) I W (· ∈ bs H') I' W' → Holds G I' W' → HoldsH H' I' W' → s.den I' v → next (a.put o.dst v) W') → o.wpIn (Fr r) n P a W next Q
def dstOk (o : Oper) (n : Nat) : Bool := match o.dst with
  | none => true
  | some t => Nat.blt t n
theorem dstOk_spec {o : Oper} {n : Nat} (h : dstOk o n = true) : ∀ t, o.dst = some t → t < n := by
  intro t ht; unfold dstOk at h; rw [ht] at h; exact by simpa [Nat.blt_eq] using h
theorem OpL.eff {o : Oper} {pre Hp suf : HL} {K : SV → HL → Prop} (h : OpL P G o S.g Hp K) (hh : S.h = pre ++ Hp ++ suf) (hd : dstOk o S.n = true) :
    OpEff P G E r o S (fun S' => ∃ s H', K s H' ∧ S' = { S with h := pre ++ H' ++ suf }.set o.dst s) := by
  intro n I F a W next Q hs k
  have hHp : HoldsH Hp I W := by
    have := hs.h; rw [hh] at this
    refine ⟨?_, fun p hp => this.mem p (by simp [hp])⟩
    have hnd := this.nodup
    simp only [bs_append, List.nodup_append] at hnd
    exact hnd.1.2.1
  refine h n r I W a next Q hs.m hHp (reads_of_sat hs o) fun v I' W' s H' hK hf hm' hh' hv => ?_
  have hfr := HoldsH.frame (by rw [← hh]; exact hs.h) hh' hf
  obtain ⟨s1, s2⟩ := hs.turn (h' := pre ++ H' ++ suf) (fun b hb => by rw [hh]; simp [bs_append, hb]) hf (fun b hb => by
    simp only [bs_append, List.mem_append] at hb
    rw [hh]; simp only [bs_append, List.mem_append]
    rcases hb with (hb | hb) | hb
    · exact .inl (.inl (.inl hb))
    · exact (hf.own b hb).imp (fun h => .inl (.inr h)) id
    · exact .inl (.inr hb)) hm' hfr
  exact k _ I' F _ W' (s1.put hv (dstOk_spec hd)) ⟨s, H', hK, rfl⟩ (by rw [own_set]; exact s2)

/-! the steps -/
variable {gd : Nat → Option Nat} {p : Bool} {o : Oper} {ops : List Oper} {K : St → Prop}
theorem Run.ok' {s : SV} (ho : OpOK P G S.h o S.g s) (hg : guardAt gd S.g o true) (hd : dstOk o S.n = true) (h : Run P G E r gd p ops (S.set o.dst s) K) : Run P G E r gd p (o :: ops) S K := .ok ho hg (dstOk_spec hd) h
theorem Run.skip' (hg : guardAt gd S.g o false) (hd : dstOk o S.n = true) (h : Run P G E r gd p ops (S.set o.dst (eqS undef)) K) : Run P G E r gd p (o :: ops) S K := .skip hg (dstOk_spec hd) h
/-- the same, the state written out -/
theorem Run.one {n t : Nat} {g : List (Nat × SV)} {h : HL} {d : List Nat} {i : Nat × Bool} {s : SV} (ho : OpOK P G h o g s) (hg : guardAt gd g o true) (ht : o.dst = some t) (hd : Nat.blt t n = true) (hr : Run P G E r gd p ops ⟨n, (t, s) :: g, h, d, i⟩ K) : Run P G E r gd p (o :: ops) ⟨n, g, h, d, i⟩ K :=
  .ok ho hg (fun t' h' => by rw [ht] at h'; cases h'; simpa [Nat.blt_eq] using hd) (by simpa only [St.set, ht] using hr)
theorem Run.no {n t : Nat} {g : List (Nat × SV)} {h : HL} {d : List Nat} {i : Nat × Bool} (hg : guardAt gd g o false) (ht : o.dst = some t) (hd : Nat.blt t n = true) (hr : Run P G E r gd p ops ⟨n, (t, eqS undef) :: g, h, d, i⟩ K) : Run P G E r gd p (o :: ops) ⟨n, g, h, d, i⟩ K :=
  .skip hg (fun t' h' => by rw [ht] at h'; cases h'; simpa [Nat.blt_eq] using hd) (by simpa only [St.set, ht] using hr)
theorem Run.loc {pre Hp suf : HL} {Kl : SV → HL → Prop} (hp : p = false) (hh : S.h = pre ++ Hp ++ suf) (ho : OpL P G o S.g Hp Kl) (hg : guardAt gd S.g o true) (hd : dstOk o S.n = true)
    (h : ∀ s H', Kl s H' → Run P G E r gd p ops ({ S with h := pre ++ H' ++ suf }.set o.dst s) K) : Run P G E r gd p (o :: ops) S K :=
  .eff _ hp (ho.eff hh hd) hg fun S' ⟨s, H', hK, e⟩ => by subst e; exact h s H' hK
theorem split_at {H : HL} {j : Nat} {q : HE} (h : H[j]? = some q) : H = H.take j ++ [q] ++ H.drop (j + 1) := by
  have hlt := lt_of_get h
  rw [List.append_assoc, List.singleton_append]
  have : q = H[j] := by rw [List.getElem?_eq_getElem hlt] at h; exact (Option.some.inj h).symm
  rw [this, ← List.drop_eq_getElem_cons hlt, List.take_append_drop]

/-! a new owned block -/
theorem l_new {q : Nat → HE} {g : List (Nat × SV)} (hd : ∀ c, o.op ≠ .defer c) (h : ∀ I W a, Holds G I W → reads g I o a → ∃ v c e cs k, (execOp a.eval o).run P W = .ok (.value v) (W.alloc (.cells c e)) ∧ v = .pointer (some ⟨W.heap.size, 0, none⟩) ∧
      q W.heap.size = ⟨some W.heap.size, e, cs, k⟩ ∧ c.size = cs.length + k ∧ allOne (c.toList.take cs.length) ∧ dens I cs (c.toList.take cs.length)) :
    OpL P G o g [] (fun s H' => ∃ b, s = eqS (.pointer (some ⟨b, 0, none⟩)) ∧ H' = [q b]) := by
  intro n r I W a next Q hm _ hr k
  obtain ⟨v, c, e, cs, kk, hv, rfl, hq, hsz, h1, hdn⟩ := h I W a hm hr
  obtain ⟨hm', hf⟩ := fram_alloc hm (.cells c e) (fun b => b ∈ bs [])
  have hn := hm.none_new
  refine wp_of_run hd hv (k _ I _ _ [q W.heap.size] ⟨_, rfl, rfl⟩ ?_ hm' ?_ rfl)
  · refine hf.weaken (fun _ h => h) fun b hb => .inl (.inr ?_)
    simp [bs, hq] at hb; exact hb
  · refine ⟨by simp [bs, hq], fun p hp => ?_⟩
    simp at hp; subst hp
    rw [hq]
    exact .of_some rfl ⟨hn, c, alloc_heap_at _ _, hsz, h1, hdn⟩
theorem l_alloc {t : TypeId} {zs : List Value} {g : List (Nat × SV)} [hz : IsZero P t zs] (hop : o.op = .alloc t) : OpL P G o g [] (fun s H' => ∃ b, s = eqS (.pointer (some ⟨b, 0, none⟩)) ∧ H' = [⟨some b, t, zs.map eqS, 0⟩]) :=
  l_new (q := fun b => ⟨some b, t, zs.map eqS, 0⟩) (by simp [hop]) fun I W a _ _ => by
    obtain ⟨i, z, hi, hz1, hz2, hz3⟩ := hz.i
    refine ⟨_, zs.toArray, t, zs.map eqS, 0, ?_, rfl, rfl, by simp, ?_, ?_⟩
    · have hzv : (zeroValue t).run P W = .ok z W := by simp [zeroValue, typeInfo, hi, hz1]
      simp [execOp, hop, Instr.alloc, hzv, newVar, newRow, hz2]
    · rw [List.take_of_length_le (by simp)]; exact hz.one
    · rw [List.take_of_length_le (by simp)]; exact dens_eqS zs
theorem l_box {t : TypeId} {x : Operand} {s : SV} {cs : List SV} {g : List (Nat × SV)} [hf : FlatC s cs] (hop : o.op = .box t x) (hx : opE g x = some s) : OpL P G o g [] (fun s H' => ∃ b, s = eqS (.pointer (some ⟨b, 0, none⟩)) ∧ H' = [⟨some b, t, cs, 0⟩]) :=
  l_new (q := fun b => ⟨some b, t, cs, 0⟩) (by simp [hop]) fun I W a _ hr => by
    have hv := hr.get (by simp [hop, Op.operands]) hx
    obtain ⟨hd, h1⟩ := hf.h.cells hv
    have hl : (a.eval x).cells.toList.length = cs.length := hd.1
    refine ⟨_, (a.eval x).cells, t, cs, 0, ?_, rfl, rfl, by simpa using hl, ?_, ?_⟩
    · simp [execOp, hop, Instr.box, newVar, newRow]
    · rw [List.take_of_length_le (by omega)]; exact h1
    · rw [List.take_of_length_le (by omega)]; exact hd

/-! a store -/
class HasSize (P : Program) (t : TypeId) (n : outParam Nat) : Prop where
  i : ∃ i, P.info? t = some i ∧ i.size = n
theorem setAll_length (cs : List SV) (off : Nat) (ds : List SV) : (setAll cs off ds).length = cs.length := by
  induction ds generalizing cs off with
  | nil => rfl
  | cons d ds ih => simp only [setAll]; rw [ih]; simp
theorem setAllV_toList (c : Array Value) (off : Nat) (vs : List Value) (h : off + vs.length ≤ c.size) : (setAllV c off vs).toList = c.toList.take off ++ vs ++ c.toList.drop (off + vs.length) := by
  induction vs generalizing c off with
  | nil => simp [setAllV]
  | cons v vs ih =>
    simp only [setAllV]
    simp only [List.length_cons] at h
    rw [ih _ _ (by simp; omega)]
    have := list_seg_step c.toList off v vs (by simp; omega)
    simpa [Array.toList_setIfInBounds, Nat.add_assoc, Nat.add_comm 1] using this
theorem setAllV_size (c : Array Value) (off : Nat) (vs : List Value) : (setAllV c off vs).size = c.size := by
  induction vs generalizing c off with
  | nil => rfl
  | cons v vs ih => simp only [setAllV]; rw [ih]; simp
theorem setAllV_take (c : Array Value) (off : Nat) (vs : List Value) (n : Nat) (h : off + vs.length ≤ n) (hn : n ≤ c.size) : (setAllV c off vs).toList.take n = (setAllV (c.toList.take n).toArray off vs).toList := by
  rw [setAllV_toList _ _ _ (by omega), setAllV_toList _ _ _ (by simp; omega)]
  simp only [List.take_append, List.take_take, List.length_take, Array.length_toList, List.length_append]
  rw [show min n off = off from by omega, show min off n = off from by omega, show min off c.size = off from by omega]
  rw [List.take_of_length_le (l := vs) (by omega)]
  congr 1
  rw [List.drop_take]
theorem l_store {t m : TypeId} [hsz : HasSize P t m] {x y : Operand} {b off e k : Nat} {cs ds : List SV} {s : SV} {g : List (Nat × SV)} [hf : FlatC s ds] (hop : o.op = .store t x y) (hx : opE g x = some (eqS (.pointer (some ⟨b, off, none⟩)))) (hy : opE g y = some s) (hm : ds.length = m) (hoff : off + ds.length ≤ cs.length) :
    OpL P G o g [⟨some b, e, cs, k⟩] (fun s H' => s = eqS undef ∧ H' = [⟨some b, e, setAll cs off ds, k⟩]) := by
  intro n r I W a next Q hm' hh hr kk
  have hv : a.eval x = _ := hr.get (by simp [hop, Op.operands]) hx
  have hvy := hr.get (by simp [hop, Op.operands]) hy
  obtain ⟨hd, h1⟩ := hf.h.cells hvy
  obtain ⟨hn, c, hc, hcs, ho, hdc⟩ := (hh.mem ⟨some b, e, cs, k⟩ (by simp)).some rfl
  simp only at hcs ho hdc hc
  have hlen : (a.eval y).cells.toList.length = ds.length := hd.1
  obtain ⟨i, hi, his⟩ := hsz.i
  have hrun : (execOp a.eval o).run P W = .ok .skip (W.setRow b (setAllV c off (a.eval y).cells.toList)) := by
    have h2 := run_storeCells_at P b off e (a.eval y).cells.toList 0 c W hc (by simp only [hlen]; omega) h1
    simp only [Nat.add_zero] at h2
    have h3 : (storeVar t ⟨b, off, none⟩ (a.eval y)).run P W = .ok () (W.setRow b (setAllV c off (a.eval y).cells.toList)) := by
      have : (a.eval y).cells.size = i.size := by have := hlen; simp at this; omega
      simp only [storeVar, Sem.run_bind, sizeOf, typeInfo, run_program, Result.andThen_ok, hi, Sem.run_pure, this, ne_eq, not_true_eq_false, if_false, h2]
      rw [← setAllV_toList c off _ (by rw [hlen]; omega)]
    simp only [execOp, hop, Instr.storeAt, hv, Instr.sureAddr, Sem.run_bind, Sem.run_pure, Result.andThen_ok, h3]
  have hsz' : cs.length ≤ c.size := by omega
  obtain ⟨hm2, hf2⟩ := fram_put (W' := W.setRow b (setAllV c off (a.eval y).cells.toList)) hm' hn rfl rfl rfl (by simp) (fun k hk => setRow_other _ _ _ _ hk)
  refine wp_of_run (by simp [hop]) hrun ?_
  refine kk undef I _ _ _ ⟨rfl, rfl⟩ ?_ hm2 ?_ rfl
  · refine hf2.weaken (fun k hk => by subst hk; simp [bs]) fun k hk => .inl ?_
    simp [bs] at hk; exact hk
  · refine ⟨by simp [bs], fun p hp => ?_⟩
    simp at hp; subst hp
    have hs := setAll_sound (off := off) hd h1 (c := (c.toList.take cs.length).toArray) (by simpa using hdc) (by simpa using ho)
    refine .of_some rfl ⟨hn, _, setRow_heap _ _ _ _ _ _ hc, by rw [setAllV_size, setAll_length]; exact hcs, ?_, ?_⟩
    · rw [setAll_length, setAllV_take _ _ _ _ (by rw [hlen]; omega) hsz']; exact hs.2
    · rw [setAll_length, setAllV_take _ _ _ _ (by rw [hlen]; omega) hsz']; exact hs.1
/-- the j-th entry replaced -/
def putAt : HL → Nat → HL → HL
  | [], _, _ => []
  | _ :: h, 0, k => cat k h
  | q :: h, j + 1, k => q :: putAt h j k
where cat : HL → HL → HL
  | [], h => h
  | q :: k, h => q :: cat k h
theorem cat_eq (k h : HL) : putAt.cat k h = k ++ h := by
  induction k with
  | nil => rfl
  | cons q k ih => simp only [putAt.cat, ih]; rfl
theorem putAt_eq {H : HL} {j : Nat} {q : HE} (h : H[j]? = some q) (k : HL) : putAt H j k = H.take j ++ k ++ H.drop (j + 1) := by
  induction H generalizing j with
  | nil => simp at h
  | cons p H ih => cases j with
    | zero => simp [putAt, cat_eq]
    | succ j => simp only [putAt]; rw [ih (by simpa using h)]; simp
theorem Run.loc1 (j : Nat) {n t : Nat} {g : List (Nat × SV)} {h : HL} {d : List Nat} {i : Nat × Bool} {q : HE} {Kl : SV → HL → Prop} (hp : p = false) (hH : h[j]? = some q) (ho : OpL P G o g [q] Kl) (hg : guardAt gd g o true) (ht : o.dst = some t) (hd : Nat.blt t n = true)
    (hr : ∀ s H', Kl s H' → Run P G E r gd p ops ⟨n, (t, s) :: g, putAt h j H', d, i⟩ K) : Run P G E r gd p (o :: ops) ⟨n, g, h, d, i⟩ K :=
  .loc (S := ⟨n, g, h, d, i⟩) hp (split_at hH) ho hg (by simp [dstOk, ht]; simpa [Nat.blt_eq] using hd) fun s H' hk => by
    have := hr s H' hk
    rw [putAt_eq hH] at this
    simpa only [St.set, ht] using this
theorem Run.loc0 {n t : Nat} {g : List (Nat × SV)} {h : HL} {d : List Nat} {i : Nat × Bool} {Kl : SV → HL → Prop} (hp : p = false) (ho : OpL P G o g [] Kl) (hg : guardAt gd g o true) (ht : o.dst = some t) (hd : Nat.blt t n = true)
    (hr : ∀ s H', Kl s H' → Run P G E r gd p ops ⟨n, (t, s) :: g, putAt.cat H' h, d, i⟩ K) : Run P G E r gd p (o :: ops) ⟨n, g, h, d, i⟩ K :=
  .loc (S := ⟨n, g, h, d, i⟩) (pre := []) (Hp := []) (suf := h) hp rfl ho hg (by simp [dstOk, ht]; simpa [Nat.blt_eq] using hd) fun s H' hk => by
    have := hr s H' hk
    rw [cat_eq] at this
    simpa only [St.set, ht, List.nil_append] using this
theorem Run.store (j : Nat) {n : Nat} {g : List (Nat × SV)} {h : HL} {d : List Nat} {i : Nat × Bool} {t m : TypeId} [HasSize P t m] {x y : Operand} {b off e k : Nat} {cs ds : List SV} {s : SV} [FlatC s ds] (hp : p = false) (hop : o.op = .store t x y) (hx : opE g x = some (eqS (.pointer (some ⟨b, off, none⟩)))) (hy : opE g y = some s)
    (hH : h[j]? = some ⟨some b, e, cs, k⟩) (hm : ds.length = m) (hoff : Nat.ble (off + ds.length) cs.length = true) (hd : o.dst = none) (hg : guardAt gd g o true)
    (hr : Run P G E r gd p ops ⟨n, g, putAt h j [⟨some b, e, setAll cs off ds, k⟩], d, i⟩ K) : Run P G E r gd p (o :: ops) ⟨n, g, h, d, i⟩ K :=
  .loc (S := ⟨n, g, h, d, i⟩) hp (split_at hH) (l_store hop hx hy hm (Nat.le_of_ble_eq_true hoff)) hg (by simp [dstOk, hd]) fun s H' ⟨_, e2⟩ => by
    subst e2; rw [hd]; rw [putAt_eq hH] at hr; exact hr
theorem Run.alloc {n d0 : Nat} {g : List (Nat × SV)} {h : HL} {d : List Nat} {i : Nat × Bool} {t : TypeId} {zs : List Value} [IsZero P t zs] (hp : p = false) (hop : o.op = .alloc t) (hg : guardAt gd g o true) (ht : o.dst = some d0) (hd : Nat.blt d0 n = true)
    (hr : ∀ b, Run P G E r gd p ops ⟨n, (d0, eqS (.pointer (some ⟨b, 0, none⟩))) :: g, ⟨some b, t, zs.map eqS, 0⟩ :: h, d, i⟩ K) : Run P G E r gd p (o :: ops) ⟨n, g, h, d, i⟩ K :=
  .loc0 hp (l_alloc (t := t) (zs := zs) hop) hg ht hd fun s H' ⟨b, e1, e2⟩ => by subst e1; subst e2; exact hr b
theorem Run.box {n d0 : Nat} {g : List (Nat × SV)} {h : HL} {d : List Nat} {i : Nat × Bool} {t : TypeId} {x : Operand} {s : SV} {cs : List SV} [FlatC s cs] (hp : p = false) (hop : o.op = .box t x) (hx : opE g x = some s) (hg : guardAt gd g o true) (ht : o.dst = some d0) (hd : Nat.blt d0 n = true)
    (hr : ∀ b, Run P G E r gd p ops ⟨n, (d0, eqS (.pointer (some ⟨b, 0, none⟩))) :: g, ⟨some b, t, cs, 0⟩ :: h, d, i⟩ K) : Run P G E r gd p (o :: ops) ⟨n, g, h, d, i⟩ K :=
  .loc0 hp (l_box hop hx) hg ht hd fun s H' ⟨b, e1, e2⟩ => by subst e1; subst e2; exact hr b
end turn
end Go.Sv
