/- Rows of limbs of one's own: made, read at a place, written at a place. -/
import Derived.Test.YtijnlobgmfmhjaaGreatDoorSne
namespace Go.Proofs
open Go Go.Sv Num
theorem flat_u32_map (l : List Nat) : l.flatMap u32S = l.map fun x => intS .u32 (x : Nat) := by
  induction l with
  | nil => rfl
  | cons x l ih => simp only [List.flatMap_cons, List.map_cons, ih]; rfl
theorem flat_u32_get {l : List Nat} {i : Nat} (h : i < l.length) : (l.flatMap u32S)[i]? = some (intS .u32 (limb l i : Nat)) := by
  rw [flat_u32_map, List.getElem?_map, limb_get h]; rfl
theorem flat_u32_set (l : List Nat) (i z : Nat) : (l.flatMap u32S).set i (intS .u32 (z : Nat)) = (l.set i z).flatMap u32S := by
  rw [flat_u32_map, flat_u32_map, List.map_set]
theorem zero_row (n : Nat) : (zeroRow [.int .u32 0] (n * 1)).map eqS = (List.replicate n 0).flatMap u32S := by
  rw [flat_u32_map, Nat.mul_one, zeroRow_single, List.map_replicate, List.map_replicate]; rfl
section
variable {P : Program} {G : Imm} {E : Env} {r : Option Nat} {gd : Nat → Option Nat} {p : Bool} {o : Oper} {ops : List Oper} {K : St → Prop}
theorem ok_indexRow {H : HL} {g : List (Nat × SV)} {t e : Nat} [IsSl P t e 1] {x ix : Operand} {b c n : Nat} {k : IntKind} {i : Nat} (hop : o.op = .indexAddr t x ix) (hx : opE g x = some (eqS (rowV (some (b, c)) n))) (hi : opE g ix = some (intS k i)) (h1 : i < n) :
    OpOK P G H o g (eqS (.pointer (some ⟨b, i, none⟩))) :=
  ok_indexAddr_eq hop hx hi (by omega) (by omega) (by simp)
theorem ok_loadRow (j : Nat) {H : HL} {g : List (Nat × SV)} {t : TypeId} [IsScalar P t] {x : Operand} {b i e c n : Nat} {l : List Nat} (hop : o.op = .load t x) (hx : opE g x = some (eqS (.pointer (some ⟨b, i, none⟩)))) (hH : H[j]? = some (rowE (some (b, c)) e 1 n (l.flatMap u32S))) (h : i < l.length) : OpOK P G H o g (intS .u32 (limb l i : Nat)) :=
  ok_load_own j hop hx hH (flat_u32_get h)
theorem Run.storeRow (j : Nat) {n0 : Nat} {g : List (Nat × SV)} {h : HL} {d : List Nat} {i0 : Nat × Bool} {t : TypeId} [HasSize P t 1] {x y : Operand} {b i e c n : Nat} {l : List Nat} {z : Nat} (hp : p = false) (hop : o.op = .store t x y) (hx : opE g x = some (eqS (.pointer (some ⟨b, i, none⟩)))) (hy : opE g y = some (intS .u32 z))
    (hH : h[j]? = some (rowE (some (b, c)) e 1 n (l.flatMap u32S))) (hi : i < l.length) (hd : o.dst = none) (hg : guardAt gd g o true)
    (hr : Run P G E r gd p ops ⟨n0, g, putAt h j [rowE (some (b, c)) e 1 n ((l.set i z).flatMap u32S)], d, i0⟩ K) : Run P G E r gd p (o :: ops) ⟨n0, g, h, d, i0⟩ K := by
  have hlen : i + 1 ≤ (l.flatMap u32S).length := by rw [flat_u32_length]; omega
  have hble : Nat.ble (i + [intS .u32 (z : Nat)].length) (l.flatMap u32S).length = true := by rw [Nat.ble_eq]; exact hlen
  refine Run.store j hp hop hx hy hH rfl hble hd hg ?_
  show Run P G E r gd p ops ⟨n0, g, putAt h j [⟨some b, e, (l.flatMap u32S).set i (intS .u32 z), c * 1 - n * 1⟩], d, i0⟩ K
  rw [flat_u32_set]; exact hr
theorem Run.makeNat {n0 d0 : Nat} {g : List (Nat × SV)} {h : HL} {d : List Nat} {i : Nat × Bool} {t e bytes : Nat} [IsSl P t e 1] [IsElem P e [.int .u32 0] bytes] {x y : Operand} {k k' : IntKind} {n c : Nat} (hp : p = false) (hop : o.op = .makeSlice t x y) (hx : opE g x = some (intS k n)) (hy : opE g y = some (intS k' c)) (hg : guardAt gd g o true) (ht : o.dst = some d0) (hd : Nat.blt d0 n0 = true)
    (hnc : n ≤ c) (hb : bytes * c ≤ 281474976710656) (hc : c ≤ cap)
    (hr : ∀ b, rowOk (some (b, c)) n → Run P G E r gd p ops ⟨n0, (d0, eqS (rowV (some (b, c)) n)) :: g, rowE (some (b, c)) e 1 n ((List.replicate n 0).flatMap u32S) :: h, d, i⟩ K) : Run P G E r gd p (o :: ops) ⟨n0, g, h, d, i⟩ K :=
  Run.make hp hop hx hy hg ht hd hnc hb (by unfold cap at hc; unfold big; omega) fun b hb => by rw [zero_row]; exact hr b hb
end
theorem val_set : ∀ {l : List Nat} {j : Nat} (z : Nat), j < l.length → val (l.set j z) + 4294967296 ^ j * limb l j = val l + 4294967296 ^ j * z
  | [], j, z, h => by simp at h
  | x :: l, 0, z, h => by simp only [List.set_cons_zero, val, limb_zero, Nat.pow_zero, Nat.one_mul]; omega
  | x :: l, j + 1, z, h => by
    have ih := val_set (l := l) (j := j) z (by simpa using h)
    simp only [List.set_cons_succ, val, limb_succ]
    rw [Nat.pow_succ, Nat.mul_comm (4294967296 ^ j), Nat.mul_assoc, Nat.mul_assoc]
    generalize 4294967296 ^ j * limb l j = u at *
    generalize 4294967296 ^ j * z = v at *
    omega
theorem limb_set_ne {l : List Nat} {i j z : Nat} (h : i ≠ j) : limb (l.set i z) j = limb l j := by
  simp only [limb, List.getD_eq_getElem?_getD, List.getElem?_set_ne h]
theorem limb_set_eq {l : List Nat} {i z : Nat} (h : i < l.length) : limb (l.set i z) i = z := by
  simp [limb, List.getD_eq_getElem?_getD, h]
theorem lim_set {l : List Nat} {i z : Nat} (h : Lim l) (hz : z < 4294967296) : Lim (l.set i z) := fun x hx => by
  rcases List.mem_or_eq_of_mem_set hx with h1 | h1
  · exact h x h1
  · omega
theorem lim_replicate (n : Nat) : Lim (List.replicate n 0) := fun x hx => by rw [List.eq_of_mem_replicate hx]; omega
theorem limb_replicate (n j : Nat) : limb (List.replicate n 0) j = 0 := by
  simp only [limb, List.getD_eq_getElem?_getD, List.getElem?_replicate]; split <;> rfl
theorem mul_lt64 {x y o c : Nat} (hx : x < 4294967296) (hy : y < 4294967296) (ho : o < 4294967296) (hc : c < 4294967296) : x * y + o + c < 18446744073709551616 := by
  have := Nat.mul_le_mul (show x ≤ 4294967295 by omega) (show y ≤ 4294967295 by omega)
  omega
/-- one step of a product: p = B^(i+k), q = B^i; x, y: the factors' limbs, o: what lies there, c: carried -/
theorem mul_step {v w c o x y q bk p s t : Nat} (hp : p = q * bk) (h : v + p * c = w + q * (x * t)) (hs : s + p * o = v + p * ((x * y + o + c) % 4294967296)) : s + p * 4294967296 * ((x * y + o + c) / 4294967296) = w + q * (x * (t + bk * y)) := by
  have e : p * ((x * y + o + c) % 4294967296) + p * 4294967296 * ((x * y + o + c) / 4294967296) = p * (x * y) + p * o + p * c := by
    rw [Nat.mul_assoc, ← Nat.mul_add, Nat.mod_add_div, Nat.mul_add, Nat.mul_add]
  have e2 : q * (x * (t + bk * y)) = q * (x * t) + p * (x * y) := by subst hp; grind
  omega
end Go.Proofs
