/- make; calls by contract; an owned block given up for an immutable one; a function's contract out of its body. -/
import Derived.Test.YtijnlobgmfmhjaaGreatDoorSvi
namespace Go.Sv
open Go Go.RowKit Go.Shelf

section
variable {P : Program} {G : Imm} {E : Env} {r : Option Nat} {S : St} {gd : Nat → Option Nat} {p : Bool} {o : Oper} {ops : List Oper} {K : St → Prop}

/-! make -/
theorem madeCells_zeroRow (zs : List Value) (n : Nat) : (madeCells zs.toArray n).toList = zeroRow zs n := by
  unfold madeCells zeroRow
  simp only [Array.toList_map, Array.toList_range]
  apply List.map_congr_left
  intro k _
  simp [List.getD_eq_getElem?_getD, getElem!_def]
  cases zs[k % zs.length]? <;> rfl
theorem zeroRow_take (zs : List Value) {m n : Nat} (h : m ≤ n) : (zeroRow zs n).take m = zeroRow zs m := by
  unfold zeroRow
  rw [← List.map_take, List.take_range, Nat.min_eq_left h]
theorem zeroRow_length (zs : List Value) (n : Nat) : (zeroRow zs n).length = n := by simp [zeroRow]
theorem zeroRow_single (z : Value) (n : Nat) : zeroRow [z] n = List.replicate n z := by
  unfold zeroRow
  rw [List.eq_replicate_iff]
  refine ⟨by simp, fun x hx => ?_⟩
  simp only [List.mem_map] at hx
  obtain ⟨i, _, rfl⟩ := hx
  simp [Nat.mod_one]
theorem l_make {t e st bytes : Nat} {zs : List Value} [IsSl P t e st] [he : IsElem P e zs bytes] {x y : Operand} {k k' : IntKind} {n c : Nat} {g : List (Nat × SV)}
    (hop : o.op = .makeSlice t x y) (hx : opE g x = some (intS k n)) (hy : opE g y = some (intS k' c)) (hnc : n ≤ c) (hb : bytes * c ≤ 281474976710656) (hc : c ≤ big) :
    OpL P G o g [] (fun s H' => ∃ b, rowOk (some (b, c)) n ∧ s = eqS (rowV (some (b, c)) n) ∧ H' = [rowE (some (b, c)) e st n ((zeroRow zs (n * st)).map eqS)]) := by
  intro nn r I W a next Q hm' _ hr kk
  have hvx : a.eval x = .int k n := hr.get (by simp [hop, Op.operands]) hx
  have hvy : a.eval y = .int k' c := hr.get (by simp [hop, Op.operands]) hy
  obtain ⟨i, hi, his⟩ := IsSl.i (P := P) (t := t) (e := e) (st := st)
  obtain ⟨i', z, hi', hz1, hz2, hz3, hz4⟩ := he.i
  rw [hi] at hi'; cases hi'
  have hu := IsSl.u (P := P) (t := t) (e := e) (st := st)
  unfold big at hc
  have h1 := run_make (P := P) W t e i z hu hi hz1 k k' (n : Int) (c : Int) (by omega) (by omega) (by rw [hz4, ← Int.natCast_mul]; omega) (by omega)
  simp only [Int.toNat_natCast] at h1
  have hrun : (execOp a.eval o).run P W = .ok (.value (.slice (some ⟨W.heap.size, 0, none⟩) n c)) (W.alloc (.cells (madeCells z.cells (c * i.size)) e)) := by
    simp only [execOp, hop, hvx, hvy, Sem.run_bind, h1, Result.andThen_ok, Sem.run_pure]
  obtain ⟨hm2, hf⟩ := fram_alloc hm' (.cells (madeCells z.cells (c * i.size)) e) (fun b => b ∈ bs [])
  have hle : n * st ≤ c * st := Nat.mul_le_mul_right _ hnc
  refine wp_of_run (by simp [hop]) hrun ?_
  refine kk _ I _ _ _ ⟨W.heap.size, ⟨hnc, by unfold maxLen; omega⟩, rfl, rfl⟩ ?_ hm2 ?_ rfl
  · refine hf.weaken (fun _ h => h) fun b hb => .inl (.inr ?_)
    simp [bs, rowE] at hb; exact hb
  · refine ⟨by simp [bs, rowE], fun p hp => ?_⟩
    simp at hp; subst hp
    refine .of_some rfl ⟨hm'.none_new, _, alloc_heap_at _ _, ?_, ?_, ?_⟩
    · simp only [rowE, size_madeCells, List.length_map, zeroRow_length]; rw [his]; omega
    · simp only [rowE, List.length_map, zeroRow_length, hz2, madeCells_zeroRow]
      rw [zeroRow_take _ (by rw [his]; exact hle)]
      exact zeroRow_one (allOne_of he.one) _ (.inr he.pos)
    · simp only [rowE, List.length_map, zeroRow_length, hz2, madeCells_zeroRow]
      rw [zeroRow_take _ (by rw [his]; exact hle)]
      exact dens_eqS _
theorem Run.make {n0 d0 : Nat} {g : List (Nat × SV)} {h : HL} {d : List Nat} {i : Nat × Bool} {t e st bytes : Nat} {zs : List Value} [IsSl P t e st] [IsElem P e zs bytes] {x y : Operand} {k k' : IntKind} {n c : Nat} (hp : p = false) (hop : o.op = .makeSlice t x y) (hx : opE g x = some (intS k n)) (hy : opE g y = some (intS k' c)) (hg : guardAt gd g o true) (ht : o.dst = some d0) (hd : Nat.blt d0 n0 = true)
    (hnc : n ≤ c) (hb : bytes * c ≤ 281474976710656) (hc : c ≤ big)
    (hr : ∀ b, rowOk (some (b, c)) n → Run P G E r gd p ops ⟨n0, (d0, eqS (rowV (some (b, c)) n)) :: g, rowE (some (b, c)) e st n ((zeroRow zs (n * st)).map eqS) :: h, d, i⟩ K) : Run P G E r gd p (o :: ops) ⟨n0, g, h, d, i⟩ K :=
  .loc0 hp (l_make hop hx hy hnc hb hc) hg ht hd fun s H' ⟨b, e0, e1, e2⟩ => by subst e1; subst e2; exact hr b e0
theorem Run.append (j : Nat) {n0 d0 : Nat} {g : List (Nat × SV)} {h : HL} {d : List Nat} {i : Nat × Bool} {t e st bytes : Nat} {zs : List Value} [IsSl P t e st] [IsElem P e zs bytes] {x y : Operand} {q : Option (Nat × Nat)} {n : Nat} {cs : List SV} {α : Type} {f : α → List SV} {l : List α} (hp : p = false)
    (hop : o.op = .call { callee := .builtin .append, args := #[x, y], argTypes := #[t, t] }) (hx : opE g x = some (eqS (rowV q n))) (hy : opE g y = some (slS st f l)) (hH : h[j]? = some (rowE q e st n cs)) (hg : guardAt gd g o true) (ht : o.dst = some d0) (hd : Nat.blt d0 n0 = true)
    (hq : rowOk q n) (hl : cs.length = n * st) (hf : ∀ z ∈ l, (f z).length = st) (hb : (n + l.length) * bytes ≤ big) (hm : n + l.length ≤ big)
    (hr : ∀ q', rowOk q' (n + l.length) → Run P G E r gd p ops ⟨n0, (d0, eqS (rowV q' (n + l.length))) :: g, putAt h j [rowE q' e st (n + l.length) (cs ++ l.flatMap f)], d, i⟩ K) : Run P G E r gd p (o :: ops) ⟨n0, g, h, d, i⟩ K :=
  .loc1 j hp hH (l_append_sl hop hx hy hq hl hf hb hm) hg ht hd fun s H' ⟨q', e0, e1, e2⟩ => by subst e1; subst e2; exact hr q' e0
theorem ghost_row {n0 : Nat} {g : List (Nat × SV)} {h : HL} {d : List Nat} {i : Nat × Bool} (e st : Nat) : Ghost G E r ⟨n0, g, h, d, i⟩ ⟨n0, g, rowE none e st 0 [] :: h, d, i⟩ := by
  intro I F a W hs
  exact ⟨I, ⟨hs.n, hs.g, hs.m, ⟨by simpa [bs, rowE] using hs.h.nodup, fun p hp => by
      rcases List.mem_cons.1 hp with rfl | hp
      · exact .of_none rfl rfl
      · exact hs.h.mem p hp⟩, hs.d, hs.dn, hs.dk, hs.e, by simpa [bs, rowE] using hs.f, fun k hk => by simpa [own, bs, rowE] using hs.l k hk⟩, by
      have : own ⟨n0, g, rowE none e st 0 [] :: h, d, i⟩ F = own ⟨n0, g, h, d, i⟩ F := by funext b; simp [own, bs, rowE]
      rw [this]; exact Fram.refl _ _ _⟩
/-- of a slice that is nil as yet -/
theorem Run.append0 {n0 d0 : Nat} {g : List (Nat × SV)} {h : HL} {d : List Nat} {i : Nat × Bool} {t e st bytes : Nat} {zs : List Value} [IsSl P t e st] [IsElem P e zs bytes] {x y : Operand} {α : Type} {f : α → List SV} {l : List α} (hp : p = false)
    (hop : o.op = .call { callee := .builtin .append, args := #[x, y], argTypes := #[t, t] }) (hx : opE g x = some (eqS (.slice none 0 0))) (hy : opE g y = some (slS st f l)) (hg : guardAt gd g o true) (ht : o.dst = some d0) (hd : Nat.blt d0 n0 = true)
    (hf : ∀ z ∈ l, (f z).length = st) (hb : l.length * bytes ≤ big) (hm : l.length ≤ big)
    (hr : ∀ q', rowOk q' l.length → Run P G E r gd p ops ⟨n0, (d0, eqS (rowV q' l.length)) :: g, rowE q' e st l.length (l.flatMap f) :: h, d, i⟩ K) : Run P G E r gd p (o :: ops) ⟨n0, g, h, d, i⟩ K := by
  refine .ghost _ hp (ghost_row e st) ?_
  refine Run.append 0 (q := none) (n := 0) (cs := []) hp hop hx hy rfl hg ht hd rfl (by simp) hf (by simpa using hb) (by simpa using hm) fun q' hq' => ?_
  simp only [Nat.zero_add, List.nil_append] at hq' ⊢
  exact hr q' hq'

/-! calls -/
structure CallSpec (P : Program) (G : Imm) (f : FuncId) (args : List SV) (H : HL) (Q : SV → HL → Prop) : Prop where
  enters : ∀ args w, (callFunc f args).run P w = .ok (.enter f args) w
  main : ∀ I W (vs : List Value), Holds G I W → HoldsH H I W → dens I args vs → Calls P f vs.toArray W fun e W' =>
    ∃ v I' s H', e = .returned v ∧ Q s H' ∧ s.den I' v ∧ Holds G I' W' ∧ HoldsH H' I' W' ∧ Fram (· ∈ bs H) I W (· ∈ bs H') I' W'
/-- a call that turns nothing that was there, and hands back what s says -/
abbrev PSpec (P : Program) (G : Imm) (f : FuncId) (args : List SV) (s : SV) : Prop := CallSpec P G f args [] (fun s' H' => s' = s ∧ H' = [])
theorem CallSpec.mono {f : FuncId} {args : List SV} {H : HL} {Q Q' : SV → HL → Prop} (h : CallSpec P G f args H Q) (hq : ∀ s H', Q s H' → Q' s H') : CallSpec P G f args H Q' :=
  ⟨h.enters, fun I W vs h1 h2 h3 => (h.main I W vs h1 h2 h3).mono fun _ _ ⟨v, I', s, H', e, hQ, rest⟩ => ⟨v, I', s, H', e, hq _ _ hQ, rest⟩⟩
def subL : List SV → List SV → Prop
  | [], [] => True
  | s :: l, t :: m => (∀ I v, s.den I v → t.den I v) ∧ subL l m
  | _, _ => False
theorem subL_refl : ∀ l, subL l l
  | [] => trivial
  | _ :: l => ⟨fun _ _ h => h, subL_refl l⟩
theorem subL.dens : ∀ {l m : List SV} {I : Imm} {vs : List Value}, subL l m → dens I l vs → dens I m vs
  | [], [], _, _, _, h => h
  | _ :: _, _ :: _, _, _, hs, h => by obtain ⟨x, r, rfl, h1, h2⟩ := dens_cons_inv h; exact dens_cons (hs.1 _ _ h1) (hs.2.dens h2)
  | [], _ :: _, _, _, hs, _ => hs.elim
  | _ :: _, [], _, _, hs, _ => hs.elim
theorem CallSpec.args {f : FuncId} {args args' : List SV} {H : HL} {Q : SV → HL → Prop} (h : CallSpec P G f args H Q) (hs : subL args' args) : CallSpec P G f args' H Q :=
  ⟨h.enters, fun I W vs h1 h2 h3 => h.main I W vs h1 h2 (hs.dens h3)⟩
theorem callsIn_fr {n : Nat} {f : FuncId} {args : Array Value} {w : World} {R : Ending → World → Prop} (r : Option Nat) (h : Calls P f args w R) : CallsIn (Fr r) n P f args w R := (callsIn_wide (n := n)).2 h

theorem l_call {x : Operand} {cal : Callee} {xs : Array Operand} {ts : Array TypeId} {f : FuncId} {args : List SV} {Hp : HL} {Q : SV → HL → Prop} {g : List (Nat × SV)} {caps : List SV} (hop : o.op = .call { callee := cal, args := xs, argTypes := ts }) (hcal : cal = .value x)
    (hf : opE g x = some (fnS f caps)) (ha : argsE g xs.toList = some args) (hs : CallSpec P G f (args ++ caps) Hp Q) : OpL P G o g Hp Q := by
  intro n r I W a next Qx hm hh hr k
  subst hcal
  have hv := hr.get (x := x) (by simp [hop, Op.operands, Call.operands]) hf
  obtain ⟨cv, hv, hcd⟩ := hv
  have hd : dens I args (xs.toList.map a.eval) := argsE_dens ha fun y hy s hs => hr y (by simp [hop, Op.operands, Call.operands]; exact .inr (by simpa using hy)) s hs
  have hrun : (execOp a.eval o).run P W = .ok (.enter f (xs.toList.map a.eval ++ cv).toArray) W := by
    have e : Array.map a.eval xs ++ cv.toArray = (xs.toList.map a.eval ++ cv).toArray := by apply Array.ext'; simp
    simp only [execOp, hop, resolve, hv, Deferred.ofValue, Sem.run_bind, Sem.run_pure, Result.andThen_ok, invoke, Array.empty_append, e, hs.enters]
  refine wp_of_run (by simp [hop]) hrun ?_
  refine ⟨fun h => by simp [Fr, Fence.wide] at h, callsIn_fr r ((hs.main I W _ hm hh (hd.append hcd)).mono ?_)⟩
  rintro e W' ⟨v, I', s, H', rfl, hQ, hsv, hm', hh', hfr⟩
  exact k v I' W' s H' hQ hfr hm' hh' hsv
theorem l_callF {xs : Array Operand} {ts : Array TypeId} {f : FuncId} {args : List SV} {Hp : HL} {Q : SV → HL → Prop} {g : List (Nat × SV)} (hop : o.op = .call { callee := .value (.func f), args := xs, argTypes := ts })
    (ha : argsE g xs.toList = some args) (hs : CallSpec P G f args Hp Q) : OpL P G o g Hp Q := by
  intro n r I W a next Qx hm hh hr k
  have hd : dens I args (xs.toList.map a.eval) := argsE_dens ha fun y hy s hs => hr y (by simp [hop, Op.operands, Call.operands]; exact .inr (by simpa using hy)) s hs
  have hrun : (execOp a.eval o).run P W = .ok (.enter f (xs.toList.map a.eval).toArray) W := by
    have e : Array.map a.eval xs ++ #[] = (xs.toList.map a.eval).toArray := by apply Array.ext'; simp
    have hv : a.eval (.func f) = .func (.func f) #[] #[] := rfl
    simp only [execOp, hop, resolve, hv, Deferred.ofValue, Sem.run_bind, Sem.run_pure, Result.andThen_ok, invoke, Array.empty_append, e, hs.enters]
  refine wp_of_run (by simp [hop]) hrun ?_
  refine ⟨fun h => by simp [Fr, Fence.wide] at h, callsIn_fr r ((hs.main I W _ hm hh hd).mono ?_)⟩
  rintro e W' ⟨v, I', s, H', rfl, hQ, hsv, hm', hh', hfr⟩
  exact k v I' W' s H' hQ hfr hm' hh' hsv
theorem ok_of_l {H : HL} {g : List (Nat × SV)} {s : SV} (h : OpL P G o g [] (fun s' H' => s' = s ∧ H' = [])) : OpOK P G H o g s := by
  intro n r I W a next Q hm hh hr k
  refine h n r I W a next Q hm ⟨by simp [bs], by simp⟩ hr ?_
  rintro v I' W' _ _ ⟨rfl, rfl⟩ hf hm' _ hv
  exact k v I' W' (hf.weaken (fun b hb => by simp [bs] at hb) fun b hb => hb.elim) hm' hv
/-- a call by contract that turns nothing that was there -/
theorem ok_call {H : HL} {xs : Array Operand} {ts : Array TypeId} {f : FuncId} {args : List SV} {s : SV} {g : List (Nat × SV)} (hop : o.op = .call { callee := .value (.func f), args := xs, argTypes := ts })
    (ha : argsE g xs.toList = some args) (hs : PSpec P G f args s) : OpOK P G H o g s := ok_of_l (l_callF hop ha hs)
theorem ok_callV {H : HL} {x : Operand} {xs : Array Operand} {ts : Array TypeId} {f : FuncId} {args caps : List SV} {s : SV} {g : List (Nat × SV)} (hop : o.op = .call { callee := .value x, args := xs, argTypes := ts })
    (hf : opE g x = some (fnS f caps)) (ha : argsE g xs.toList = some args) (hs : PSpec P G f (args ++ caps) s) : OpOK P G H o g s := ok_of_l (l_call hop rfl hf ha hs)
/-- a call to which one's own block j is handed -/
theorem Run.call1 (j : Nat) {n0 d0 : Nat} {g : List (Nat × SV)} {h : HL} {d : List Nat} {i : Nat × Bool} {xs : Array Operand} {ts : Array TypeId} {f : FuncId} {args : List SV} {q : HE} {Q : SV → HL → Prop} (hp : p = false) (hop : o.op = .call { callee := .value (.func f), args := xs, argTypes := ts })
    (ha : argsE g xs.toList = some args) (hH : h[j]? = some q) (hs : CallSpec P G f args [q] Q) (hg : guardAt gd g o true) (ht : o.dst = some d0) (hd : Nat.blt d0 n0 = true)
    (hr : ∀ s H', Q s H' → Run P G E r gd p ops ⟨n0, (d0, s) :: g, putAt h j H', d, i⟩ K) : Run P G E r gd p (o :: ops) ⟨n0, g, h, d, i⟩ K :=
  .loc1 j hp hH (l_callF hop ha hs) hg ht hd hr
theorem Run.call0 {n0 d0 : Nat} {g : List (Nat × SV)} {h : HL} {d : List Nat} {i : Nat × Bool} {xs : Array Operand} {ts : Array TypeId} {f : FuncId} {args : List SV} {Q : SV → HL → Prop} (hp : p = false) (hop : o.op = .call { callee := .value (.func f), args := xs, argTypes := ts })
    (ha : argsE g xs.toList = some args) (hs : CallSpec P G f args [] Q) (hg : guardAt gd g o true) (ht : o.dst = some d0) (hd : Nat.blt d0 n0 = true)
    (hr : ∀ s H', Q s H' → Run P G E r gd p ops ⟨n0, (d0, s) :: g, putAt.cat H' h, d, i⟩ K) : Run P G E r gd p (o :: ops) ⟨n0, g, h, d, i⟩ K :=
  .loc0 hp (l_callF hop ha hs) hg ht hd hr

/-! giving up an owned block -/
theorem bs_erase {H : HL} {j : Nat} {q : HE} (h : H[j]? = some q) : bs H = bs (H.take j) ++ bs [q] ++ bs (H.drop (j + 1)) := by
  rw [← bs_append, ← bs_append, ← split_at h]
theorem freeze_at {j : Nat} {b e k : Nat} {cs : List SV} {I : Imm} {F : Nat → Prop} {a : Act} {W : World} (hH : S.h[j]? = some ⟨some b, e, cs, k⟩) (hs : Sat G E r S I F a W) :
    ∃ I', Sat G E r { S with h := S.h.take j ++ S.h.drop (j + 1) } I' F a W ∧ Fram (own S F) I W (own { S with h := S.h.take j ++ S.h.drop (j + 1) } F) I' W ∧ I.le I' ∧ cellsAt I' b 0 cs := by
  obtain ⟨hn, c, hc, hsz, h1, hd⟩ := (hs.h.mem _ (List.mem_of_getElem? hH)).some rfl
  simp only at hc hsz h1 hd
  have hle : I.le (I.with b c) := Imm.with_le hn
  have hmem : b ∈ bs S.h := mem_bs (List.mem_of_getElem? hH) rfl
  have hf : Fram (· ∈ bs S.h) I W (· ∈ bs S.h) (I.with b c) W := ⟨rfl, rfl, rfl, hle, Nat.le_refl _, fun _ _ _ => rfl, fun k hk hk' => by
    unfold Imm.with at hk'
    split at hk'
    · rename_i e'; subst e'; exact .inl hmem
    · exact absurd hk hk', fun b hb => .inl hb⟩
  have hm : Holds G (I.with b c) W := ⟨Imm.le_trans hs.m.glob hle, fun k d hk => by
    unfold Imm.with at hk
    split at hk
    · rename_i e'; subst e'; cases hk; exact ⟨e, _, hc⟩
    · exact hs.m.mem k d hk⟩
  have hsub : ∀ q ∈ S.h.take j ++ S.h.drop (j + 1), q ∈ S.h := fun q hq => by
    rcases List.mem_append.1 hq with h | h
    · exact List.mem_of_mem_take h
    · exact List.mem_of_mem_drop h
  have hnd := hs.h.nodup
  rw [bs_erase hH] at hnd
  simp only [List.nodup_append, List.mem_append] at hnd
  obtain ⟨⟨n1, n2, n3⟩, n4, n5⟩ := hnd
  have hbb : b ∈ bs [(⟨some b, e, cs, k⟩ : HE)] := by simp [bs]
  have hne : ∀ k' ∈ bs (S.h.take j ++ S.h.drop (j + 1)), k' ≠ b := fun k' hk' e' => by
    subst e'
    rw [bs_append] at hk'
    rcases List.mem_append.1 hk' with h | h
    · exact n3 _ h _ hbb rfl
    · exact n5 _ (.inr hbb) _ h rfl
  have hh : HoldsH (S.h.take j ++ S.h.drop (j + 1)) (I.with b c) W := by
    refine ⟨?_, fun q hq => ?_⟩
    · rw [bs_append, List.nodup_append]
      exact ⟨n1, n4, fun x hx y hy e' => n5 x (.inl hx) y hy e'⟩
    · have h2 := hs.h.mem q (hsub q hq)
      cases hb : q.b with
      | none => exact .of_none hb (h2.none hb)
      | some b' =>
        have h3 := h2.some hb
        refine .of_some hb (h3.keep hle ?_ rfl)
        have : b' ≠ b := hne b' (mem_bs hq hb)
        unfold Imm.with; rw [if_neg this]; exact h3.1
  obtain ⟨s1, s2⟩ := hs.turn (h' := S.h.take j ++ S.h.drop (j + 1)) (fun b hb => hb) hf (fun b hb => .inl (by
    rw [bs_erase hH]; rw [bs_append] at hb
    rcases List.mem_append.1 hb with h | h
    · simp [h]
    · simp [h])) hm hh
  refine ⟨I.with b c, s1, s2, hle, c, with_at _ _ _, fun i s hi => ?_⟩
  obtain ⟨x, hx, hsx⟩ := (hd.mono hle).get hi
  refine ⟨x, ?_, hsx, h1 x (List.mem_of_getElem? hx)⟩
  rw [List.getElem?_take] at hx
  rw [Nat.zero_add]
  split at hx
  · simpa using hx
  · cases hx
theorem Sat.retype {I : Imm} {F : Nat → Prop} {a : Act} {W : World} (hs : Sat G E r S I F a W) {t : Nat} {s s0 : SV} (h0 : look t S.g = some s0) (h : ∀ v, s0.den I v → s.den I v) : Sat G E r { S with g := (t, s) :: S.g } I F a W :=
  ⟨hs.n, fun t' s' hl => by
      simp only [look] at hl
      split at hl
      · rename_i e; cases hl; rw [Nat.eq_of_beq_eq_true e]; exact h _ (hs.g t s0 h0)
      · exact hs.g t' s' hl, hs.m, hs.h, hs.d, hs.dn, hs.dk, hs.e, hs.f, hs.l⟩
/-- a pointer to one's own block becomes a pointer to an immutable one -/
theorem ghost_ptr (j t : Nat) {b e k off : Nat} {cs : List SV} (hH : S.h[j]? = some ⟨some b, e, cs, k⟩) (ht : look t S.g = some (eqS (.pointer (some ⟨b, off, none⟩)))) :
    Ghost G E r S ⟨S.n, (t, ptrS (cs.drop off)) :: S.g, putAt S.h j [], S.d, S.i⟩ := by
  rw [putAt_eq hH, List.append_nil]
  intro I F a W hs
  obtain ⟨I', s1, s2, hle, hc⟩ := freeze_at hH hs
  refine ⟨I', s1.retype ht fun v hv => ?_, s2⟩
  obtain ⟨c, hc1, hc2⟩ := hc
  exact ⟨b, off, hv, c, hc1, fun i s hi => by rw [List.getElem?_drop] at hi; have := hc2 _ s hi; simpa using this⟩
theorem ghost_sl (j t : Nat) {q : Option (Nat × Nat)} {e st n : Nat} {cs : List SV} {α : Type} {f : α → List SV} {l : List α} (hH : S.h[j]? = some (rowE q e st n cs)) (ht : look t S.g = some (eqS (rowV q n))) (hq : rowOk q n) (hl : l.length = n) (hcs : cs = l.flatMap f) (hf : ∀ x ∈ l, (f x).length = st) (hb : n ≤ big) :
    Ghost G E r S ⟨S.n, (t, slS st f l) :: S.g, putAt S.h j [], S.d, S.i⟩ := by
  rw [putAt_eq hH, List.append_nil]
  intro I F a W hs
  subst hcs
  cases q with
  | none =>
    have hq : n = 0 := hq
    subst hq
    have hl0 : l = [] := List.eq_nil_of_length_eq_zero hl
    subst hl0
    have hbs : bs (S.h.take j ++ S.h.drop (j + 1)) = bs S.h := by rw [bs_erase hH, bs_append]; simp [bs, rowE]
    have hown : own { S with h := S.h.take j ++ S.h.drop (j + 1) } F = own S F := by funext b; simp only [own, hbs]
    have s1 : Sat G E r { S with h := S.h.take j ++ S.h.drop (j + 1) } I F a W :=
      { hs with
        h := ⟨by rw [hbs]; exact hs.h.nodup, fun p hp => hs.h.mem p (by rcases List.mem_append.1 hp with h | h; exact List.mem_of_mem_take h; exact List.mem_of_mem_drop h)⟩
        f := by rw [hbs]; exact hs.f
        l := fun k hk => by rw [hown]; exact hs.l k hk }
    refine ⟨I, s1.retype ht fun v hv => ?_, ?_⟩
    · exact ⟨none, 0, hv, Nat.le_refl _, Nat.zero_le _, .inl rfl⟩
    · have : own { S with h := S.h.take j ++ S.h.drop (j + 1), g := (t, slS st f []) :: S.g } F = own S F := by funext b; simp only [own, hbs]
      rw [this]; exact Fram.refl _ _ _
  | some q =>
    obtain ⟨b, cap⟩ := q
    obtain ⟨I', s1, s2, hle, hc⟩ := freeze_at hH hs
    refine ⟨I', s1.retype ht fun v hv => ?_, s2⟩
    obtain ⟨c, hc1, hc2⟩ := hc
    refine ⟨some ⟨b, 0, none⟩, cap, by rw [hl]; exact hv, by rw [hl]; exact hq.1, by rw [hl]; exact hb, .inr ⟨b, 0, rfl, fun i x hx => ⟨c, hc1, fun k s hk => ?_⟩⟩⟩
    have : (l.flatMap f)[i * st + k]? = some s := by
      rw [List.flatMap_def]
      exact flatten_at (by intro d hd; obtain ⟨y, hy, rfl⟩ := List.mem_map.1 hd; exact hf y hy) (by rw [List.getElem?_map, hx]; rfl) hk
    have := hc2 _ s this
    simpa [Nat.add_assoc] using this
end
end Go.Sv
