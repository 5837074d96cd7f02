/- Natural numbers as the program holds them: what a slice of limbs says, classes that carry bounds. -/
import Derived.Test.YtijnlobgmfmhjaaGreatDoorSvu
import Derived.Test.YtijnlobgmfmhjaaGreatDoorSma
namespace Go.Proofs
open Go Go.Sv Num

abbrev u32S (x : Nat) : List SV := [intS .u32 x]
/-- a slice of limbs -/
abbrev natS (l : List Nat) : SV := slS 1 u32S l
/-- what a list of limbs says -/
class IsNat (l : List Nat) (n : outParam Nat) : Prop where
  lim : Lim l
  val : Num.val l = n
instance isNat_dig {n : Nat} : IsNat (dig n) n := ⟨lim_dig n, val_dig n⟩
instance isNat_nil : IsNat [] 0 := ⟨lim_nil, rfl⟩
theorem isNat_of {l : List Nat} (h : Lim l) : IsNat l (val l) := ⟨h, rfl⟩
instance isNat_one : IsNat [1] 1 := ⟨lim_cons (by omega) lim_nil, rfl⟩
theorem IsNat.dig_eq {l : List Nat} {n : Nat} (h : IsNat l n) : dig (Num.val l) = dig n := by rw [h.val]

/-- no more limbs than so many -/
class Sz (l : List Nat) (k : outParam Nat) : Prop where
  h : l.length ≤ k
/-- a number of at most so many limbs -/
class Bd (n : Nat) (k : outParam Nat) : Prop where
  h : n < 4294967296 ^ k
instance {n k : Nat} [h : Bd n k] : Sz (dig n) k := ⟨dig_length_le h.h⟩
instance : Sz [] 0 := ⟨Nat.le_refl _⟩
instance {x : Nat} : Sz [x] 1 := ⟨Nat.le_refl _⟩
theorem bd_le {m n k l : Nat} (h : n < 4294967296 ^ k) (hm : m ≤ n) (hk : k ≤ l) : m < 4294967296 ^ l :=
  Nat.lt_of_le_of_lt hm (Nat.lt_of_lt_of_le h (Nat.pow_le_pow_right (by omega) hk))
theorem Bd.of_val {l : List Nat} {n k : Nat} (h : IsNat l n) (hk : Sz l k) : Bd n k := ⟨by rw [← h.val]; exact bd_le (val_lt h.lim) (Nat.le_refl _) hk.h⟩
instance bd_zero : Bd 0 0 := ⟨by simp⟩
instance bd_one : Bd 1 1 := ⟨by simp⟩
instance bd_two : Bd 2 1 := ⟨by simp⟩
instance bd_mul {m n k l : Nat} [h : Bd m k] [h' : Bd n l] : Bd (m * n) (k + l) := ⟨by
  rw [Nat.pow_add]; exact Nat.mul_lt_mul_of_lt_of_lt h.h h'.h⟩
instance bd_add {m n k l : Nat} [h : Bd m k] [h' : Bd n l] : Bd (m + n) (k + l + 1) := ⟨by
  have h1 := bd_le (l := k + l) h.h (Nat.le_refl _) (by omega)
  have h2 := bd_le (l := k + l) h'.h (Nat.le_refl _) (by omega)
  rw [pow_split]; omega⟩
instance bd_sub {m n k : Nat} [h : Bd m k] : Bd (m - n) k := ⟨bd_le h.h (by omega) (Nat.le_refl _)⟩
instance bd_div {m n k : Nat} [h : Bd m k] : Bd (m / n) k := ⟨bd_le h.h (Nat.div_le_self _ _) (Nat.le_refl _)⟩
instance bd_mod {m n k : Nat} [h : Bd m k] : Bd (m % n) k := ⟨bd_le h.h (Nat.mod_le _ _) (Nat.le_refl _)⟩
instance bd_gcd {m n k l : Nat} [h : Bd m k] [h' : Bd n l] : Bd (Nat.gcd m n) (k + l) := ⟨by
  by_cases hm : m = 0
  · subst hm; rw [Nat.gcd_zero_left]; exact bd_le h'.h (Nat.le_refl _) (by omega)
  · exact bd_le h.h (Nat.gcd_le_left n (by omega)) (by omega)⟩
instance bd_ite {c : Prop} [Decidable c] {m n k l : Nat} [h : Bd m k] [h' : Bd n l] : Bd (if c then m else n) (k + l) := ⟨by
  split
  · exact bd_le h.h (Nat.le_refl _) (by omega)
  · exact bd_le h'.h (Nat.le_refl _) (by omega)⟩
/-- how many limbs are reckoned with at most -/
def cap : Nat := 1073741824
theorem cap_eq : cap = 1073741824 := rfl
theorem Sz.le {l : List Nat} {k : Nat} [h : Sz l k] (hk : k ≤ cap) : l.length ≤ cap := Nat.le_trans h.h hk
theorem Sz.le2 {a b : List Nat} {k l : Nat} [h : Sz a k] [h' : Sz b l] (hk : max k l ≤ cap) : max a.length b.length ≤ cap := by have := h.h; have := h'.h; omega
theorem Sz.le3 {a b : List Nat} {k l : Nat} [h : Sz a k] [h' : Sz b l] (hk : k + l + 2 ≤ cap) : a.length + b.length + 2 ≤ cap := by have := h.h; have := h'.h; omega
/-- a slice that lies as a list of parts of one cell each -/
theorem natS_of_id {l : List Nat} {I : Imm} {v : Value} (h : (slS 1 id (l.map u32S)).den I v) : (natS l).den I v := by
  obtain ⟨a, cap, hv, h1, h2, h3⟩ := h
  rw [List.length_map] at hv h1 h2
  refine ⟨a, cap, hv, h1, h2, ?_⟩
  rcases h3 with h | ⟨b, o, ha, h⟩
  · exact .inl (by simpa using h)
  · refine .inr ⟨b, o, ha, fun i x hx => ?_⟩
    have := h i (u32S x) (by rw [List.getElem?_map, hx]; rfl)
    exact this
theorem id_of_natS {l : List Nat} {I : Imm} {v : Value} (h : (natS l).den I v) : (slS 1 id (l.map u32S)).den I v := by
  obtain ⟨a, cap, hv, h1, h2, h3⟩ := h
  refine ⟨a, cap, by rw [List.length_map]; exact hv, by rw [List.length_map]; exact h1, by rw [List.length_map]; exact h2, ?_⟩
  rcases h3 with h | ⟨b, o, ha, h⟩
  · exact .inl (by simpa using h)
  · refine .inr ⟨b, o, ha, fun i x hx => ?_⟩
    rw [List.getElem?_map] at hx
    cases hl : l[i]? with
    | none => rw [hl] at hx; cases hx
    | some y => rw [hl] at hx; cases hx; exact h i y hl
/-- a nil slice -/
theorem nil_sl {α : Type} {st : Nat} {f : α → List SV} {I : Imm} : (slS st f []).den I (.slice none 0 0) := ⟨none, 0, rfl, Nat.le_refl _, Nat.zero_le _, .inl rfl⟩
theorem nil_nat {l : List Nat} (h : l = []) (I : Imm) (v : Value) (hv : (eqS (.slice none 0 0)).den I v) : (natS l).den I v := by
  subst h; cases hv; exact nil_sl
theorem ok_buildNat {P : Program} {G : Imm} {H : HL} {o : Oper} {g : List (Nat × SV)} {t e n : Nat} {zs : List Value} [IsSl P t e 1] [IsZero P e zs] {parts : Array (Nat × Operand)} {ps : List (Nat × SV)} {qs : List (Nat × List SV)} (l : List Nat) (hop : o.op = .buildSlice t n parts) (hp : partsS g parts.toList = some ps) [FlatL ps qs]
    (hn : n * 1 ≤ 16777216) (hq : qs.length = n) (hne : n = 0 ∨ zs ≠ []) (hl : lensOk 1 (qs.map (·.2)) = true)
    (hc : fillS ((List.range n).map fun i => (i * 1, 1)) ((zeroRow zs (n * 1)).map eqS) qs = some (qs.map (·.2)).flatten) (he : qs.map (·.2) = l.map u32S) : OpOK P G H o g (natS l) :=
  (ok_buildSlice hop hp hn hq hne hl hc).sub fun _ _ h => natS_of_id (he ▸ h)
/-- three ways to compare -/
def tri {α : Type} [LT α] [DecidableLT α] (a b : α) : Int := if a < b then -1 else if b < a then 1 else 0
theorem bitI_or {x y : Nat} (hx : x < 18446744073709551616) (hy : y < 18446744073709551616) : bitI .or .u64 x y = ((x ||| y : Nat) : Int) := by
  have h : x ||| y < 2 ^ 64 := Nat.or_lt_two_pow (by simpa using hx) (by simpa using hy)
  have e1 : (BitVec.ofInt 64 (x : Int)).toNat = x := by simp; omega
  have e2 : (BitVec.ofInt 64 (y : Int)).toNat = y := by simp; omega
  show IntKind.u64.wrap ((BitVec.ofInt 64 (x : Int) ||| BitVec.ofInt 64 (y : Int)).toNat : Nat) = _
  rw [BitVec.toNat_or, e1, e2, wrap_u64 (by omega) (by simp at h; omega)]
theorem bitI_and {x y : Nat} (hx : x < 18446744073709551616) (hy : y < 18446744073709551616) : bitI .and .u64 x y = ((x &&& y : Nat) : Int) := by
  have h : x &&& y < 2 ^ 64 := Nat.lt_of_le_of_lt Nat.and_le_left (by simpa using hx)
  have e1 : (BitVec.ofInt 64 (x : Int)).toNat = x := by simp; omega
  have e2 : (BitVec.ofInt 64 (y : Int)).toNat = y := by simp; omega
  show IntKind.u64.wrap ((BitVec.ofInt 64 (x : Int) &&& BitVec.ofInt 64 (y : Int)).toNat : Nat) = _
  rw [BitVec.toNat_and, e1, e2, wrap_u64 (by omega) (by simp at h; omega)]
theorem or_high {x y : Nat} (hy : y < 4294967296) : 4294967296 * x ||| y = 4294967296 * x + y := by
  have := Nat.shiftLeft_add_eq_or_of_lt (i := 32) (b := y) (by simpa using hy) x
  rw [Nat.shiftLeft_eq] at this; rw [Nat.mul_comm]; simpa using this.symm
end Go.Proofs
