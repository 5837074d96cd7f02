/- Natural numbers as the program holds them: what a slice of limbs says, classes that carry bounds. -/
import Derived.Test.YtofplgefmjojjaaGreatDoorSvs
import Derived.Test.YtofplgefmjojjaaGreatDoorSma
import Derived.Test.YtofplgefmjojjaaGreatDoorSvt
namespace Go.Proofs
open Go Go.Sv Num
abbrev u32S (x : Nat) : List SV := [intS .u32 x]
abbrev natS (l : List Nat) : SV := slS 1 u32S l
class IsNat (l : List Nat) (n : outParam Nat) : Prop where
 lim : Lim l
 val : Num.val l = n
instance isNat_dig {n : Nat} : IsNat (dig n) n := ⟨lim_dig n, val_dig n⟩
instance isNat_nil : IsNat [] 0 := ⟨lim_nil, rfl⟩
theorem isNat_of {l : List Nat} (h : Lim l) : IsNat l (val l) := ⟨h, rfl⟩
instance isNat_one : IsNat [1] 1 := ⟨lim_cons (by omega) lim_nil, rfl⟩
class Sz (l : List Nat) (k : outParam Nat) : Prop where
 h : l.length ≤ k
class Bd (n : Nat) (k : outParam Nat) : Prop where
 h : n < 4294967296 ^ k
instance {n k : Nat} [h : Bd n k] : Sz (dig n) k := ⟨dig_length_le h.h⟩
instance : Sz [] 0 := ⟨Nat.le_refl _⟩
instance {x : Nat} : Sz [x] 1 := ⟨Nat.le_refl _⟩
theorem bd_le {m n k l : Nat} (h : n < 4294967296 ^ k) (hm : m ≤ n) (hk : k ≤ l) : m < 4294967296 ^ l :=
 Nat.lt_of_le_of_lt hm (Nat.lt_of_lt_of_le h (Nat.pow_le_pow_right (by omega) hk))
theorem Bd.of_val {l : List Nat} {n k : Nat} (h : IsNat l n) (hk : Sz l k) : Bd n k := ⟨by rw [← h.val]; exact bd_le (val_lt h.lim) (Nat.le_refl _) hk.h⟩
instance bd_zero : Bd 0 0 := ⟨by simp⟩
instance bd_one : Bd 1 1 := ⟨by simp⟩
instance bd_two : Bd 2 1 := ⟨by simp⟩
instance bd_mul {m n k l : Nat} [h : Bd m k] [h' : Bd n l] : Bd (m * n) (k + l) := ⟨by
 rw [Nat.pow_add]; exact Nat.mul_lt_mul_of_lt_of_lt h.h h'.h⟩
instance bd_add {m n k l : Nat} [h : Bd m k] [h' : Bd n l] : Bd (m + n) (k + l + 1) := ⟨by
 have h1 := bd_le (l := k + l) h.h (Nat.le_refl _) (by omega)
 have h2 := bd_le (l := k + l) h'.h (Nat.le_refl _) (by omega)
 rw [pow_split]; omega⟩
instance bd_sub {m n k : Nat} [h : Bd m k] : Bd (m - n) k := ⟨bd_le h.h (by omega) (Nat.le_refl _)⟩
instance bd_div {m n k : Nat} [h : Bd m k] : Bd (m / n) k := ⟨bd_le h.h (Nat.div_le_self _ _) (Nat.le_refl _)⟩
instance bd_mod {m n k : Nat} [h : Bd m k] : Bd (m % n) k := ⟨bd_le h.h (Nat.mod_le _ _) (Nat.le_refl _)⟩
instance bd_gcd {m n k l : Nat} [h : Bd m k] [h' : Bd n l] : Bd (Nat.gcd m n) (k + l) := ⟨by
 by_cases hm : m = 0
 ·subst hm; rw [Nat.gcd_zero_left]; exact bd_le h'.h (Nat.le_refl _) (by omega)
 ·exact bd_le h.h (Nat.gcd_le_left n (by omega)) (by omega)⟩
instance bd_ite {c : Prop} [Decidable c] {m n k l : Nat} [h : Bd m k] [h' : Bd n l] : Bd (if c then m else n) (k + l) := ⟨by
 split
 ·exact bd_le h.h (Nat.le_refl _) (by omega)
 ·exact bd_le h'.h (Nat.le_refl _) (by omega)⟩
def cap : Nat := 1073741824
theorem Sz.le {l : List Nat} {k : Nat} [h : Sz l k] (hk : k ≤ cap) : l.length ≤ cap := Nat.le_trans h.h hk
theorem Sz.le2 {a b : List Nat} {k l : Nat} [h : Sz a k] [h' : Sz b l] (hk : max k l ≤ cap) : max a.length b.length ≤ cap := by have := h.h; have := h'.h; omega
theorem Sz.le3 {a b : List Nat} {k l : Nat} [h : Sz a k] [h' : Sz b l] (hk : k + l + 2 ≤ cap) : a.length + b.length + 2 ≤ cap := by have := h.h; have := h'.h; omega
theorem natS_of_id {l : List Nat} {I : Imm} {v : Value} (h : (slS 1 id (l.map u32S)).den I v) : (natS l).den I v := by
 obtain ⟨a, cap, hv, h1, h2, h3⟩ := h
 rw [List.length_map] at hv h1 h2
 refine ⟨a, cap, hv, h1, h2, ?_⟩
 rcases h3 with h | ⟨b, o, ha, h⟩
 ·exact .inl (by simpa using h)
 ·refine .inr ⟨b, o, ha, fun i x hx => ?_⟩
  have := h i (u32S x) (by rw [List.getElem?_map, hx]; rfl)
  exact this
theorem nil_sl {α : Type} {st : Nat} {f : α → List SV} {I : Imm} : (slS st f []).den I (.slice none 0 0) := ⟨none, 0, rfl, Nat.le_refl _, Nat.zero_le _, .inl rfl⟩
theorem nil_nat {l : List Nat} (h : l = []) (I : Imm) (v : Value) (hv : (eqS (.slice none 0 0)).den I v) : (natS l).den I v := by
 subst h; cases hv; exact nil_sl
theorem ok_buildNat {P : Program} {G : Imm} {H : HL} {o : Oper} {g : List (Nat × SV)} {t e n : Nat} {zs : List Value} [IsSl P t e 1] [IsZero P e zs] {parts : Array (Nat × Operand)} {ps : List (Nat × SV)} {qs : List (Nat × List SV)} (l : List Nat) (hop : o.op = .buildSlice t n parts) (hp : partsS g parts.toList = some ps) [FlatL ps qs]
  (hn : n * 1 ≤ 16777216) (hq : qs.length = n) (hne : n = 0 ∨ zs ≠ []) (hl : lensOk 1 (qs.map (·.2)) = true)
  (hc : fillS ((List.range n).map fun i => (i * 1, 1)) ((zeroRow zs (n * 1)).map eqS) qs = some (qs.map (·.2)).flatten) (he : qs.map (·.2) = l.map u32S) : OpOK P G H o g (natS l) :=
 (ok_buildSlice hop hp hn hq hne hl hc).sub fun _ _ h => natS_of_id (he ▸ h)
def tri {α : Type} [LT α] [DecidableLT α] (a b : α) : Int := if a < b then -1 else if b < a then 1 else 0
theorem bitI_or {x y : Nat} (hx : x < 18446744073709551616) (hy : y < 18446744073709551616) : bitI .or .u64 x y = ((x ||| y : Nat) : Int) := by
 have h : x ||| y < 2 ^ 64 := Nat.or_lt_two_pow (by simpa using hx) (by simpa using hy)
 have e1 : (BitVec.ofInt 64 (x : Int)).toNat = x := by simp; omega
 have e2 : (BitVec.ofInt 64 (y : Int)).toNat = y := by simp; omega
 show IntKind.u64.wrap ((BitVec.ofInt 64 (x : Int) ||| BitVec.ofInt 64 (y : Int)).toNat : Nat) = _
 rw [BitVec.toNat_or, e1, e2, wrap_u64 (by omega) (by simp at h; omega)]
theorem bitI_and {x y : Nat} (hx : x < 18446744073709551616) (hy : y < 18446744073709551616) : bitI .and .u64 x y = ((x &&& y : Nat) : Int) := by
 have h : x &&& y < 2 ^ 64 := Nat.lt_of_le_of_lt Nat.and_le_left (by simpa using hx)
 have e1 : (BitVec.ofInt 64 (x : Int)).toNat = x := by simp; omega
 have e2 : (BitVec.ofInt 64 (y : Int)).toNat = y := by simp; omega
 show IntKind.u64.wrap ((BitVec.ofInt 64 (x : Int) &&& BitVec.ofInt 64 (y : Int)).toNat : Nat) = _
 rw [BitVec.toNat_and, e1, e2, wrap_u64 (by omega) (by simp at h; omega)]
theorem or_high {x y : Nat} (hy : y < 4294967296) : 4294967296 * x ||| y = 4294967296 * x + y := by
 have := Nat.shiftLeft_add_eq_or_of_lt (i := 32) (b := y) (by simpa using hy) x
 rw [Nat.shiftLeft_eq] at this; rw [Nat.mul_comm]; simpa using this.symm
end Go.Proofs
/- Contracts of the functions of nat. -/
namespace Go.Proofs
open Go Go.Sv Num
variable {G : Imm}
theorem flat_u32 {l : List Nat} : ∀ x ∈ l, (u32S x).length = 1 := fun _ _ => rfl
theorem clone_spec {l : List Nat} (hl : l.length ≤ cap) : PSpec Tryz.prog G 214 [natS l] (natS l) := by
 unfold cap at hl
 refine zs Tryz.func214 ?_;refine zr ?_;refine zz ?_;refine zzn ?_;refine T_seq ?_;refine zr ?_;refine zz ?_;refine zo (ok_eql_nil_if rfl rfl rfl) ?_;refine zzn ?_;refine T_cond_if rfl rfl (fun hc1 => ?_) ?_
 ·refine zr ?_;refine zo ((ok_assign rfl rfl).sub (nil_nat hc1)) ?_;refine zzn ?_;refine T_ret ?_
  exact ⟨_, [], .one (.tmp rfl), List.nil_sublist _, rfl, rfl⟩
 ·refine T_skip ?_;refine zr ?_;refine Run.buildRow rfl rfl rfl rfl rfl rfl (by decide) rfl (.inl rfl) rfl rfl fun b5 hb5 => ?_;refine zz ?_;refine Run.append 0 rfl rfl rfl rfl rfl rfl rfl rfl hb5 rfl flat_u32 (by unfold big; omega) (by unfold big; omega) fun q7 hq7 => ?_;refine Run.ghost _ rfl (ghost_sl 0 7 rfl rfl hq7 (l := l) (f := u32S) (by omega) rfl flat_u32 (by unfold big; omega)) ?_;refine zz ?_;refine zzn ?_;refine T_ret ?_
  exact ⟨_, [], .one (.tmp rfl), List.nil_sublist _, rfl, rfl⟩
theorem limb_spec {l : List Nat} {i : Nat} : PSpec Tryz.prog G 234 [natS l, intS .i64 i] (intS .u32 (limb l i)) := by
 refine zs Tryz.func234 ?_;refine zr ?_;refine zz ?_;refine zzn ?_
 refine T_seq (T_regionS ?_)
 (iterate 4 refine zz ?_);refine zzn ?_;refine zzc (fun hb => ?_) fun hb => ?_
 ·have := of_decide_eq_true hb
  refine zr ?_;(iterate 2 refine zz ?_);refine zo (ok_indexAddr rfl rfl rfl (by omega) (y := limb l i) (limb_get (by omega))) ?_;(iterate 2 refine zz ?_);refine zzn ?_;refine T_ret ?_
  exact ⟨_, [], .one (.tmp rfl), List.nil_sublist _, rfl, rfl⟩
 ·have := of_decide_eq_false hb
  refine T_skip ?_;refine zr ?_;refine zz ?_;refine zzn ?_;refine T_ret ?_
  exact ⟨_, [], .one (.tmp rfl), List.nil_sublist _, by rw [limb_out (by omega)]; rfl, rfl⟩
theorem trim_spec {l : List Nat} {n : Nat} [hn : IsNat l n] (hk : l.length ≤ cap := by exact Sz.le (by decide)) : PSpec Tryz.prog G 180 [natS l] (natS (dig n)) := by
 have hk' := hk
 unfold cap at hk'
 refine zs Tryz.func180 ?_;refine zr ?_;refine zz ?_;refine zx ?_;(iterate 3 refine zz ?_);refine zzn ?_;refine T_seq ?_;refine T_block ?_;refine T_loop (γ := Nat) (fun g => ⟨_, [(3, intS .i64 g), (0, natS l)], [], [], (0, false)⟩) (fun g => g ≤ l.length ∧ ∀ i, g ≤ i → limb l i = 0) (fun g => g) l.length ⟨Nat.le_refl _, fun i h => limb_out h⟩ (ent_g zk) ?_
 rintro g ⟨hg, hz⟩
 have fin : (g = 0 ∨ limb l (g - 1) ≠ 0) → l.take g = dig n := fun h => by rw [← hn.val]; exact trim_take hn.lim hg hz h
 refine T_seq ?_;refine zr ?_;refine zz ?_
 refine Run.oneB (ok_cmp rfl rfl rfl rfl) rfl rfl rfl (fun hb1 => ?_) (fun hb1 => ?_)
 ·have h0 := of_decide_eq_true hb1
  (iterate 3 refine zz ?_);refine za ((g - 1 : Nat) : Int) ?_;refine zo (ok_indexAddr rfl rfl rfl (by omega) (y := limb l (g - 1)) (limb_get (by omega))) ?_;(iterate 3 refine zz ?_);refine zzn ?_;refine zzc (fun hc2 => ?_) fun hc2 => ?_
  ·have h1 : limb l (g - 1) = 0 := by simpa using hc2
   refine T_skip ?_;refine T_block ?_;refine T_region ?_;refine zz ?_;refine za ((g - 1 : Nat) : Int) ?_;refine zz ?_;refine zzn ?_
   exact ⟨g - 1, ⟨by omega, fun i hi => by by_cases h : g ≤ i; exact hz i h; rw [show i = g - 1 by omega]; exact h1⟩, by omega, ent_g (subG_cons rfl (subG_cons rfl trivial))⟩
  ·have h1 : limb l (g - 1) ≠ 0 := by simpa using hc2
   refine T_exit ?_;refine zr ?_;(iterate 3 refine zz ?_);refine zo (ok_slice (lo := 0) (hi := g) (m := g) rfl rfl (.inl ⟨rfl, rfl⟩) (.inr ⟨_, _, rfl, rfl⟩) (.inr ⟨_, _, rfl, rfl, Nat.le_refl _, hg⟩) (by omega) hg) ?_;refine zo (ok_call rfl rfl (clone_spec (l := l.take g) (by simp; omega))) ?_;refine zz ?_;refine zzn ?_;refine T_ret ?_
   exact ⟨_, [], .one (.tmp rfl), List.nil_sublist _, congrArg natS (fin (.inr h1)), rfl⟩
 ·have h0 := of_decide_eq_false hb1
  refine zz ?_;(iterate 6 refine zq ?_);refine zz ?_;refine zzn ?_;refine T_condF rfl rfl ?_;refine T_exit ?_;refine zr ?_;(iterate 3 refine zz ?_);refine zo (ok_slice (lo := 0) (hi := g) (m := g) rfl rfl (.inl ⟨rfl, rfl⟩) (.inr ⟨_, _, rfl, rfl⟩) (.inr ⟨_, _, rfl, rfl, Nat.le_refl _, hg⟩) (by omega) hg) ?_;refine zo (ok_call rfl rfl (clone_spec (l := l.take g) (by simp; omega))) ?_;refine zz ?_;refine zzn ?_;refine T_ret ?_
  exact ⟨_, [], .one (.tmp rfl), List.nil_sublist _, congrArg natS (fin (.inl (by omega))), rfl⟩
end Go.Proofs
/- Contracts of the functions of nat, on. -/
namespace Go.Proofs
open Go Go.Sv Num
variable {G : Imm}
def pairsX (a b : List Nat) : List (List SV) := (List.range (max a.length b.length)).map fun i => [intS .u64 (limb a i), intS .u64 (limb b i)]
theorem pairsX_length {a b : List Nat} : (pairsX a b).length = max a.length b.length := by simp [pairsX]
theorem pairsX_get {a b : List Nat} {i : Nat} (h : i < max a.length b.length) : (pairsX a b)[i]? = some [intS .u64 (limb a i), intS .u64 (limb b i)] := by
 simp only [pairsX, List.getElem?_map, List.getElem?_range h, Option.map_some]
theorem pairsX_inv {a b : List Nat} {i : Nat} {ss : List SV} (h : (pairsX a b)[i]? = some ss) : i < max a.length b.length ∧ ss = [intS .u64 (limb a i), intS .u64 (limb b i)] := by
 have h1 : i < max a.length b.length := by have := lt_of_get h; rwa [pairsX_length] at this
 refine ⟨h1, ?_⟩
 rw [pairsX_get h1] at h; exact (Option.some.inj h).symm
theorem pairsX_ss {a b : List Nat} {ss : List SV} (h : ss ∈ pairsX a b) : ss.length = 2 := by
 obtain ⟨i, _, rfl⟩ := List.mem_map.1 h; rfl
theorem small_is {l : List Nat} {n : Nat} (hl : Lim l) (hv : val l = n) (hz : ∀ j, 1 < j → limb l j = 0) : n = limb l 0 + 4294967296 * limb l 1 ∧ n < 18446744073709551616 := by
 have h0 := limb_lt hl 0
 have h1 := limb_lt hl 1
 have : val l = val [limb l 0, limb l 1] := val_congr fun j => by
  match j with
  | 0 => rfl
  | 1 => rfl
  | j + 2 => rw [hz _ (by omega)]; rfl
 simp [val] at this
 omega
theorem small_not {l : List Nat} {n : Nat} (_ : Lim l) (hv : val l = n) {j : Nat} (hj : 1 < j) (h : limb l j ≠ 0) : ¬ n < 18446744073709551616 := by
 intro hn
 have h1 : j < l.length := by
  by_cases h1 : j < l.length
  ·exact h1
  ·exact absurd (limb_out (by omega)) h
 have e := val_take_drop l j (by omega)
 have hp : val (l.drop j) ≠ 0 := by
  rw [List.drop_eq_getElem_cons h1]
  have : limb l j = l[j] := by simp [limb, List.getD_eq_getElem?_getD, h1]
  simp only [val]; omega
 have : 4294967296 ^ 2 ≤ 4294967296 ^ j := Nat.pow_le_pow_right (by omega) (by omega)
 have h3 : 4294967296 ^ j * 1 ≤ 4294967296 ^ j * val (l.drop j) := Nat.mul_le_mul_left _ (by omega)
 omega
theorem cmp_spec {a b : List Nat} {m n : Nat} [hm : IsNat a m] [hn : IsNat b n] : PSpec Tryz.prog G 231 [natS a, natS b] (intS .i64 (tri m n)) := by
 refine zs Tryz.func231 ?_;refine T_len 0 rfl fun ha => T_len 1 rfl fun hb => ?_
 unfold big at ha hb
 refine zr ?_;refine zz ?_;refine zzn ?_;refine T_scope ?_;refine T_seq ?_;refine T_label ?_;refine T_seq ?_;refine zr ?_;(iterate 5 refine zz ?_);refine zo (ok_ari (z := ((max a.length b.length : Nat) : Int) - 1) rfl rfl rfl (congrArg some (by omega)) (wrap_i64 (by omega) (by omega))) ?_;refine zz ?_;refine zzn ?_;refine T_block ?_
 refine T_loop (γ := Nat) (fun g => ⟨_, [(5, intS .i64 ((g : Int) - 1)), (4, intS .i64 0), (0, natS a), (1, natS b)], [], [], (0, false)⟩) (fun g => g ≤ max a.length b.length ∧ ∀ j, g ≤ j → j < max a.length b.length → limb a j = limb b j) (fun g => g) (max a.length b.length) ⟨Nat.le_refl _, fun j h1 h2 => by omega⟩ (ent_g zk) ?_
 rintro g ⟨hg, hz⟩
 refine T_seq ?_;refine zr ?_;(iterate 2 refine zz ?_);refine zzn ?_;refine zzc (fun h15 => ?_) fun h15 => ?_
 ·have k15 := of_decide_eq_true h15
  refine T_skip ?_;refine T_seq ?_;refine T_block ?_;refine zr ?_;refine zz ?_;refine zo ((ok_move rfl rfl).sub (int_eq (show (g : Int) - 1 = ((g - 1 : Nat) : Int) by omega))) ?_;refine zf limb_spec ?_;refine zz ?_;refine zo ((ok_move rfl rfl).sub (int_eq (show (g : Int) - 1 = ((g - 1 : Nat) : Int) by omega))) ?_;refine zf limb_spec ?_;(iterate 2 refine zz ?_);refine zzn ?_;refine T_block ?_;refine zr ?_;(iterate 4 refine zz ?_);refine zzn ?_;refine zzc (fun h24 => ?_) fun h24 => ?_
  ·have k24 := of_decide_eq_true h24
   refine zr ?_;refine zz ?_;refine zzn ?_;refine T_exit ?_;refine zr ?_;(iterate 2 refine zz ?_);refine zzn ?_;refine T_ret ?_
   exact ⟨_, [], .one (.tmp rfl), List.nil_sublist _, by
    have := cmp_at hm.lim (i := g - 1) (n := max a.length b.length) (by omega) (by omega) (by omega) (fun j h1 h2 => hz j (by omega) h2) (by omega)
    rw [hm.val, hn.val] at this
    unfold tri; rw [if_pos this], rfl⟩
  ·have k24 := of_decide_eq_false h24
   refine zr ?_;(iterate 4 refine zz ?_);refine zzn ?_;refine zzc (fun h28 => ?_) fun h28 => ?_
   ·have k28 := of_decide_eq_true h28
    refine zr ?_;refine zz ?_;refine zzn ?_;refine T_exit ?_;refine zr ?_;(iterate 2 refine zz ?_);refine zzn ?_;refine T_ret ?_
    exact ⟨_, [], .one (.tmp rfl), List.nil_sublist _, by
     have := cmp_at hn.lim (a := b) (b := a) (i := g - 1) (n := max a.length b.length) (by omega) (by omega) (by omega) (fun j h1 h2 => (hz j (by omega) h2).symm) (by omega)
     rw [hm.val, hn.val] at this
     unfold tri; rw [if_neg (by omega), if_pos this], rfl⟩
   ·have k28 := of_decide_eq_false h28
    refine T_skip ?_;refine T_region ?_;(iterate 3 refine zz ?_);refine zzn ?_
    exact ⟨g - 1, ⟨by omega, fun j h1 h2 => by by_cases h : g ≤ j; exact hz j h h2; rw [show j = g - 1 by omega]; omega⟩, by omega, ent_g (subG_as rfl (congrArg (intS .i64) (by omega)) (subG_cons rfl (subG_cons rfl (subG_cons rfl trivial))))⟩
 ·have k15 := of_decide_eq_false h15
  refine T_exit ?_;refine zr ?_;(iterate 2 refine zz ?_);refine zzn ?_;refine T_ret ?_
  exact ⟨_, [], .one (.tmp rfl), List.nil_sublist _, by
   have := val_eq_of (a := a) (b := b) (n := max a.length b.length) (by omega) (by omega) (fun j h => hz j (by omega) h)
   rw [hm.val, hn.val] at this
   unfold tri; rw [if_neg (by omega), if_neg (by omega)], rfl⟩
theorem of_spec {n : Nat} (h : n < 18446744073709551616) : PSpec Tryz.prog G 138 [intS .u64 n] (natS (dig n)) := by
 refine zs Tryz.func138 ?_;refine zr ?_;refine zz ?_;refine zx ?_;refine zz ?_;refine zo (ok_conv (z := ((n % 4294967296 : Nat) : Int)) rfl rfl wrap_u32_mod) ?_;refine zz ?_;refine zo (ok_shr rfl rfl rfl (by omega) (by simp [IntKind.bits])) ?_;refine zo (ok_conv (z := ((n / 4294967296 : Nat) : Int)) rfl rfl ((wrap_u32 (by simp; omega) (by simp; omega)).trans (by simp))) ?_;refine zo (ok_buildNat [n % 4294967296, n / 4294967296] rfl rfl (by decide) rfl (by simp) rfl rfl rfl) ?_
 have : IsNat [n % 4294967296, n / 4294967296] n := ⟨lim_cons (by omega) (lim_cons (by omega) lim_nil), by simp [val]; omega⟩
 refine zo (ok_call rfl rfl (trim_spec (by simp [cap]))) ?_;refine zz ?_;refine zzn ?_;refine T_ret ?_
 exact ⟨_, [], .one (.tmp rfl), List.nil_sublist _, rfl, rfl⟩
theorem small_spec {l : List Nat} {n : Nat} [hn : IsNat l n] : PSpec Tryz.prog G 235 [natS l] (tupS [intS .u64 (if n < 18446744073709551616 then (n : Int) else 0), boolS (decide (n < 18446744073709551616))]) := by
 refine zs Tryz.func235 ?_;refine T_len 0 rfl fun hl => ?_
 unfold big at hl
 refine zr ?_;(iterate 2 refine zz ?_);refine zzn ?_;refine T_seq ?_;refine zr ?_;(iterate 3 refine zz ?_);refine zzn ?_;refine T_block ?_
 refine T_loop (γ := Nat) (fun g => ⟨_, [(8, intS .i64 g), (7, intS .i64 l.length), (6, natS l), (0, natS l)], [], [], (0, false)⟩) (fun g => g ≤ l.length ∧ ∀ j, 1 < j → j < g → limb l j = 0) (fun g => l.length - g) 0 ⟨Nat.zero_le _, fun j h1 h2 => by omega⟩ (ent_g zk) ?_
 rintro g ⟨hg, hz⟩
 refine zr ?_;refine zz ?_;refine zzn ?_;refine T_seq ?_;refine zzc (fun h9 => ?_) fun h9 => ?_
 ·have k9 := of_decide_eq_true h9
  refine T_skip ?_;refine T_seq ?_;refine T_block ?_;refine zr ?_;refine zz ?_;refine zo (ok_indexAddr rfl rfl rfl (by omega) (y := limb l g) (limb_get (by omega))) ?_;(iterate 3 refine zz ?_);refine zx ?_;refine zz ?_
  refine Run.oneB (ok_cmp rfl rfl rfl rfl) rfl rfl rfl (fun h4_1 => ?_) (fun h4_1 => ?_)
  ·have k4_1 := of_decide_eq_true h4_1
   (iterate 4 refine zz ?_);refine zzn ?_;refine zzc (fun h18 => ?_) fun h18 => ?_
   ·have k18 := bne_iff_ne.1 h18
    refine zr ?_;(iterate 2 refine zz ?_);refine zzn ?_;refine T_ret ?_
    exact ⟨_, [], .many (.cons (.tmp rfl) (.cons (.tmp rfl) (.nil))), List.nil_sublist _, by rw [if_neg (small_not hn.lim hn.val (j := g) (by omega) (by omega)), decide_eq_false (small_not hn.lim hn.val (j := g) (by omega) (by omega))], rfl⟩
   ·have k18 := bne_eq_false_iff_eq.1 h18
    refine T_skip ?_;refine T_region ?_;(iterate 2 refine zz ?_);refine zzn ?_
    exact ⟨g + 1, ⟨by omega, fun j h1 h2 => by by_cases h : j < g; exact hz j h1 h; rw [show j = g by omega]; omega⟩, by omega, ent_g (subG_cons rfl (subG_cons rfl (subG_cons rfl (subG_cons rfl trivial))))⟩
  ·have k4_1 := of_decide_eq_false h4_1
   refine zz ?_;(iterate 2 refine zq ?_);refine zz ?_;refine zzn ?_;refine T_condF rfl rfl ?_;refine T_skip ?_;refine T_region ?_;(iterate 2 refine zz ?_);refine zzn ?_
   exact ⟨g + 1, ⟨by omega, fun j h1 h2 => by by_cases h : j < g; exact hz j h1 h; omega⟩, by omega, ent_g (subG_cons rfl (subG_cons rfl (subG_cons rfl (subG_cons rfl trivial))))⟩
 ·have k9 := of_decide_eq_false h9
  have hs := small_is hn.lim hn.val (fun j h1 => by by_cases h : j < g; exact hz j h1 h; exact limb_out (by omega))
  have h1 := limb_lt hn.lim 1
  have h0 := limb_lt hn.lim 0
  refine T_exit ?_;refine zr ?_;refine zz ?_;refine zf (limb_spec (i := 1)) ?_;refine zz ?_;refine zo ((ok_shl rfl rfl rfl (by omega) (by simp [IntKind.bits])).sub (int_eq (n := ((4294967296 * limb l 1 : Nat) : Int)) ((wrap_u64 (by simp; omega) (by simp; omega)).trans (by simp; omega)))) ?_;refine zz ?_;refine zf (limb_spec (i := 0)) ?_;refine zz ?_;refine zo ((ok_bits rfl (by simp) rfl rfl).sub (int_eq (n := (n : Int)) (by rw [bitI_or (by omega) (by omega), or_high h0]; omega))) ?_;(iterate 2 refine zz ?_);refine zzn ?_;refine T_ret ?_
  exact ⟨_, [], .many (.cons (.tmp rfl) (.cons (.tmp rfl) (.nil))), List.nil_sublist _, by rw [if_pos hs.2, decide_eq_true hs.2], rfl⟩
theorem pairs1_spec {a b : List Nat} (ha : Lim a) (hb : Lim b) : IterSpec Tryz.prog G 233 [ptrS [natS a], ptrS [natS b]] (pairsX a b) := by
 refine iter_spec Tryz.func233 rfl rfl rfl rfl fun l E hy => ?_;refine zr ?_;(iterate 6 refine zz ?_);refine zzn ?_;refine T_block ?_;refine T_len 5 rfl fun la => T_len 7 rfl fun lb => ?_
 unfold big at la lb
 refine T_loop (γ := Nat) (fun g => ⟨_, [(10, intS .i64 g), (9, intS .i64 ((max a.length b.length : Nat) : Int)), (0, yieldS l), (1, ptrS [natS a]), (2, ptrS [natS b])], [], [], (g, false)⟩) (fun g => g ≤ max a.length b.length) (fun g => max a.length b.length - g) 0 (Nat.zero_le _) (ent_g (subG_cons rfl (subG_as rfl (congrArg (intS .i64) (by omega)) zk))) ?_
 intro g hg
 refine zr ?_;refine zz ?_;refine zzn ?_;refine T_seq ?_;refine zzc (fun h11 => ?_) fun h11 => ?_
 ·have k11 := of_decide_eq_true h11
  have h1 := limb_lt ha g
  have h2 := limb_lt hb g
  refine T_skip ?_;refine T_seq ?_;refine T_block ?_;refine zr ?_;(iterate 2 refine zz ?_);refine zzn ?_;refine T_drawS 9 (by kernel_rfl) ?_;(iterate 3 refine zz ?_);refine zf limb_spec ?_;(iterate 3 refine zz ?_);refine zf limb_spec ?_;refine zz ?_;refine zzn ?_;refine Run.yield rfl hy rfl rfl rfl (pairsX_get (by omega)) (subL_refl _) rfl rfl rfl fun y => ?_;refine zz ?_;refine zzn ?_;refine zzc (fun h23 => ?_) fun h23 => ?_
  ·refine T_ret ?_
   exact ⟨.inl rfl, .inr h23⟩
  ·refine T_skip ?_;refine T_region ?_;(iterate 2 refine zz ?_);refine zzn ?_
   exact ⟨g + 1, (by omega : g + 1 ≤ max a.length b.length), by omega, rfl, subG_cons rfl (subG_cons rfl (subG_cons rfl (subG_cons rfl (subG_cons rfl trivial)))), subH_refl _, rfl, by rw [h23]⟩
 ·have k11 := of_decide_eq_false h11
  refine T_exit ?_
  exact ⟨.inr rfl, .inl (by rw [pairsX_length, show g = max a.length b.length by omega])⟩
theorem pairs_spec {a b : List Nat} : PSpec Tryz.prog G 218 [natS a, natS b] (fnS 233 [ptrS [natS a], ptrS [natS b]]) := by
 refine zs Tryz.func218 ?_;refine zr ?_;(iterate 3 refine zz ?_);refine zx ?_;(iterate 2 refine zz ?_);refine zzn ?_;refine T_ret ?_
 exact ⟨_, [], .one (.tmp rfl), List.nil_sublist _, rfl, rfl⟩
end Go.Proofs
/- Contracts of the sum and the difference of nat. -/
namespace Go.Proofs
open Go Go.Sv Num
variable {G : Imm}
theorem flat_u32_length (l : List Nat) : (l.flatMap u32S).length = l.length * 1 := by
 induction l with
 | nil => rfl
 | cons x l ih => simp only [List.flatMap_cons, List.length_append, ih, List.length_cons, List.length_nil]; omega
theorem shr32 (m : Nat) : (m : Int) / 2 ^ (32 : Int).toNat = ((m / 4294967296 : Nat) : Int) := by simp
theorem shr63 (m : Nat) : (m : Int) / 2 ^ (63 : Int).toNat = ((m / 9223372036854775808 : Nat) : Int) := by simp
theorem carry_step {p v o t x y z o' a b : Nat} (h : v + p * o = a + b) (ht : t = o + (x + y)) (hz : z = t % 4294967296) (ho : o' = t / 4294967296) : v + p * z + p * 4294967296 * o' = a + p * x + (b + p * y) := by
 have e : p * (t % 4294967296) + p * 4294967296 * (t / 4294967296) = p * t := by rw [Nat.mul_assoc, ← Nat.mul_add, Nat.mod_add_div]
 subst hz; subst ho
 rw [ht, Nat.mul_add, Nat.mul_add] at e
 rw [ht]; omega
def sb (x y u : Nat) : Nat := if y + u ≤ x then x - y - u else 18446744073709551616 + x - y - u
theorem borrow_step {p v o x y a b : Nat} (hx : x < 4294967296) (hy : y < 4294967296) (ho : o ≤ 1) (h : a + p * o = v + b) :
  a + p * x + p * 4294967296 * (sb x y o / 9223372036854775808) = v + p * (sb x y o % 4294967296) + (b + p * y) := by
 have e : x + 4294967296 * (sb x y o / 9223372036854775808) = sb x y o % 4294967296 + y + o := by unfold sb; split <;> omega
 have e2 := congrArg (p * ·) e
 simp only [Nat.mul_add, ← Nat.mul_assoc] at e2
 omega
theorem sum_take {α : Type} (f : α → Nat) {l : List α} {g : Nat} {a : α} (h : l[g]? = some a) : ((l.take (g + 1)).map f).sum = ((l.take g).map f).sum + f a := by
 rw [List.take_add_one, h]; simp
theorem sum_take_le {α : Type} (f : α → Nat) (l : List α) (g : Nat) : ((l.take g).map f).sum ≤ (l.map f).sum := by
 have : (l.map f).sum = ((l.take g).map f).sum + ((l.drop g).map f).sum := by rw [← List.sum_append, ← List.map_append, List.take_append_drop]
 omega
def chunkN (ll : List (List Nat)) : List (List SV) := ll.map fun l => [natS l]
theorem add_spec {ll : List (List Nat)} (hl : ∀ l ∈ ll, Lim l) (hs : (ll.map List.length).sum + ll.length ≤ cap) : PSpec Tryz.prog G 187 [slS 1 id (chunkN ll)] (natS (dig (ll.map val).sum)) := by
 unfold cap at hs
 have hcl : (chunkN ll).length = ll.length := by simp [chunkN]
 refine zs Tryz.func187 ?_;refine zr ?_;refine zz ?_;refine zzn ?_;refine T_seq ?_;refine zr ?_;(iterate 3 refine zz ?_);refine zzn ?_;refine T_block ?_
 refine T_loop3 (fun g s d => ⟨_, [(11, intS .i64 (g : Nat)), (10, intS .i64 ll.length), (9, slS 1 id (chunkN ll)), (2, natS s)], [], d, (0, false)⟩)
   (fun g s d => g ≤ ll.length ∧ Lim s ∧ val s = ((ll.take g).map val).sum ∧ s.length ≤ ((ll.take g).map List.length).sum + g) (fun g s d => ll.length - g) 0 [] [] ⟨Nat.zero_le _, lim_nil, rfl, Nat.le_refl _⟩
   (ent_g (subG_cons rfl (subG_as rfl (congrArg (intS .i64) (by rw [hcl])) (subG_cons rfl ⟨⟨_, rfl, nil_nat rfl⟩, trivial⟩)))) ?_
 rintro g s d ⟨hg, hls, hvs, hns⟩
 refine zr ?_;refine zz ?_;refine zzn ?_;refine T_seq ?_;refine zzc (fun h12 => ?_) fun h12 => ?_
 ·have k12 := of_decide_eq_true h12
  obtain ⟨a, ha⟩ : ∃ a, ll[g]? = some a := ⟨_, List.getElem?_eq_getElem (by omega)⟩
  have hla := hl a (List.mem_of_getElem? ha)
  have hsl := sum_take List.length ha
  have hsv := sum_take val ha
  have hle := sum_take_le List.length ll (g + 1)
  refine T_skip ?_;refine T_seq ?_;refine T_block ?_;refine zr ?_;refine zo (ok_indexAddr rfl rfl rfl (by omega) (y := [natS a]) (by show (chunkN ll)[g]? = _; simp [chunkN, ha])) ?_;(iterate 2 refine zz ?_);refine zx ?_;refine zzv fun b5 => ?_;refine zw ?_;refine zx ?_;(iterate 5 refine zz ?_);refine za ((max a.length s.length + 1 : Nat) : Int) ?_;refine Run.make (n := 0) (c := max a.length s.length + 1) rfl rfl rfl rfl rfl rfl rfl (by omega) (by omega) (by unfold big; omega) fun b21 hb21 => ?_;refine zzv fun b6 => ?_;refine zw ?_;refine zzn ?_;refine T_seq ?_;refine zr ?_;(iterate 2 refine zz ?_);refine zf pairs_spec ?_;refine zzn ?_;refine T_block ?_
  refine T_rng rfl rfl (pairs1_spec (a := s) (b := a) hls hla) (fun ss h => pairsX_ss h) (by decide) rfl
    (fun k h i => i = (0, false) ∧ ∃ q over out, rowOk q k ∧ over ≤ 1 ∧ Lim out ∧ out.length = k ∧ val out + 4294967296 ^ k * over = low s k + low a k ∧
     h = [⟨some b6, 24, [eqS (rowV q k)], 0⟩, rowE q 93 1 k (out.flatMap u32S), ⟨some b5, 145, [intS .u64 (over : Nat)], 0⟩])
    (fun _ _ _ => False) ⟨rfl, _, 0, [], hb21, by omega, lim_nil, rfl, rfl, rfl⟩ ?_ ?_ ?_
  ·rintro l k ss h i hk ⟨rfl, q, over, out, hq, ho, hlo, hln, hval, rfl⟩
   obtain ⟨hk1, rfl⟩ := pairsX_inv hk
   have hx := limb_lt hls k
   have hy := limb_lt hla k
   refine zr ?_;refine zz ?_;refine zzn ?_;refine T_region ?_;refine zz ?_;refine zzn ?_
   refine ⟨rfl, ?_⟩
   refine T_block ?_;refine zr ?_;(iterate 3 refine zz ?_);refine zo (ok_ari rfl rfl rfl rfl (wrap_u64 (by omega) (by omega))) ?_;refine za ((over + (limb s k + limb a k) : Nat) : Int) ?_;refine zw ?_;refine zx ?_;(iterate 2 refine zz ?_);refine zo (ok_conv (z := (((over + (limb s k + limb a k)) % 4294967296 : Nat) : Int)) rfl rfl wrap_u32_mod) ?_;refine zo (ok_buildNat [(over + (limb s k + limb a k)) % 4294967296] rfl rfl (by decide) rfl (by simp) rfl rfl rfl) ?_;refine Run.append 1 rfl rfl rfl rfl rfl rfl rfl rfl hq (by rw [flat_u32_length, hln]) flat_u32 (by unfold big; simp; omega) (by unfold big; simp; omega) fun q36 hq36 => ?_;refine zw ?_;refine zzn ?_;refine T_region ?_;refine zz ?_;refine zo ((ok_shr rfl rfl rfl (by omega) (by simp [IntKind.bits])).sub (int_eq (shr32 _))) ?_;refine zw ?_;refine zzn ?_
   refine ⟨rfl, q36, (over + (limb s k + limb a k)) / 4294967296, out ++ [(over + (limb s k + limb a k)) % 4294967296], hq36, by omega, lim_snoc hlo (by omega), by simp [hln], ?_, by rw [List.flatMap_append]; rfl⟩
   rw [val_snoc, hln, low_succ, low_succ, pow_split]; exact carry_step hval rfl rfl rfl
  ·rintro h i D ⟨rfl, q, over, out, hq, ho, hlo, hln, hval, rfl⟩
   rw [pairsX_length] at hln hval hq
   rw [low_all (by omega), low_all (by omega)] at hval
   refine T_region ?_;refine zo (ok_load_own 0 rfl rfl (by rw [pairsX_length]; rfl) rfl) ?_;(iterate 2 refine zz ?_);refine zo (ok_buildNat [over] rfl rfl (by decide) rfl (by simp) rfl rfl rfl) ?_;refine Run.append 1 rfl rfl rfl rfl (by rw [pairsX_length]; rfl) rfl rfl rfl hq (by rw [flat_u32_length, hln]) flat_u32 (by unfold big; simp; omega) (by unfold big; simp; omega) fun q43 hq43 => ?_;refine zz ?_;refine Run.ghost _ rfl (ghost_sl 1 2 rfl rfl hq43 (l := out ++ [over]) (f := u32S) (by simp [hln]) List.flatMap_append.symm flat_u32 (by unfold big; simp; omega)) ?_;refine Run.ghost _ rfl (ghost_drop (List.nil_sublist _)) ?_;refine zzn ?_;refine T_region ?_;(iterate 2 refine zz ?_);refine zzn ?_
   refine ⟨g + 1, out ++ [over], D ++ d, ⟨by omega, lim_snoc hlo (by omega), ?_, ?_⟩, by omega, ent_g zk⟩
   ·rw [val_snoc, hln, hsv]; omega
   ·simp only [List.length_append, List.length_cons, List.length_nil, hln]; omega
  ·intro h i D e c hc hInv; exact hInv.elim
 ·have k12 := of_decide_eq_false h12
  have hgl : g = ll.length := by omega
  subst hgl
  rw [List.take_length] at hvs hns
  haveI := isNat_of hls
  refine T_exit ?_;refine zr ?_;refine zz ?_;refine zo (ok_call rfl rfl (trim_spec (by unfold cap; omega))) ?_;refine zz ?_;refine zzn ?_;refine T_ret ?_
  exact ⟨_, [], .one (.tmp rfl), List.nil_sublist _, congrArg natS (congrArg dig hvs), rfl⟩
theorem add2_spec {a b : List Nat} {m n k l : Nat} [ha : IsNat a m] [hb : IsNat b n] [hk : Sz a k] [hl : Sz b l] (h : k + l + 2 ≤ cap := by decide) : PSpec Tryz.prog G 187 [slS 1 id [[natS a], [natS b]]] (natS (dig (m + n))) := by
 have := add_spec (G := G) (ll := [a, b]) (fun l h => by simp at h; rcases h with rfl | rfl; exact ha.lim; exact hb.lim) (by have := hk.h; have := hl.h; simp; omega)
 simp only [List.map_cons, List.map_nil, List.sum_cons, List.sum_nil, ha.val, hb.val, Nat.add_zero] at this
 exact this
theorem sub_spec {a b : List Nat} {m n : Nat} [hm : IsNat a m] [hn : IsNat b n] (hs : max a.length b.length ≤ cap := by exact Sz.le2 (by decide)) : PSpec Tryz.prog G 216 [natS a, natS b] (tupS [natS (dig (m - n)), intS .i64 (if m < n then 10 else 0)]) := by
 unfold cap at hs
 refine zs Tryz.func216 ?_;refine zr ?_;(iterate 2 refine zz ?_);refine zzn ?_;refine T_seq ?_;refine zr ?_;(iterate 2 refine zz ?_);refine zf cmp_spec ?_;refine zz ?_;refine zzn ?_;refine zzc (fun h14 => ?_) fun h14 => ?_
 ·have k14 := of_decide_eq_true h14
  have hlt : m < n := by unfold tri at k14; split at k14; assumption; split at k14 <;> omega
  refine zr ?_;refine zo ((ok_assign rfl rfl).sub (nil_nat (l := dig (m - n)) (dig_eq_nil.2 (by omega)))) ?_;refine zz ?_;refine zzn ?_;refine T_ret ?_
  exact ⟨_, [], .many (.cons (.tmp rfl) (.cons (.tmp rfl) (.nil))), List.nil_sublist _, by rw [if_pos hlt], rfl⟩
 ·have k14 := of_decide_eq_false h14
  have hge : n ≤ m := by unfold tri at k14; split at k14 <;> omega
  refine T_skip ?_;refine zr ?_;refine Run.ghost _ rfl (ghost_row 93 1) ?_;refine zzv fun b6 => ?_;refine zx ?_;refine zzv fun b7 => ?_;refine zw ?_;refine zzn ?_;refine T_seq ?_;refine zr ?_;(iterate 2 refine zz ?_);refine zf pairs_spec ?_;refine zzn ?_;refine T_block ?_
  refine T_rng rfl rfl (pairs1_spec (a := a) (b := b) hm.lim hn.lim) (fun ss h => pairsX_ss h) (by decide) rfl
    (fun k h i => i = (0, false) ∧ ∃ q under out, rowOk q k ∧ under ≤ 1 ∧ Lim out ∧ out.length = k ∧ low a k + 4294967296 ^ k * under = val out + low b k ∧
     h = [⟨some b7, 145, [intS .u64 (under : Nat)], 0⟩, ⟨some b6, 24, [eqS (rowV q k)], 0⟩, rowE q 93 1 k (out.flatMap u32S)])
    (fun _ _ _ => False) ⟨rfl, none, 0, [], rfl, by omega, lim_nil, rfl, rfl, rfl⟩ ?_ ?_ ?_
  ·rintro l k ss h i hk ⟨rfl, q, under, out, hq, ho, hlo, hln, hval, rfl⟩
   obtain ⟨hk1, rfl⟩ := pairsX_inv hk
   have hx := limb_lt hm.lim k
   have hy := limb_lt hn.lim k
   refine zr ?_;refine zz ?_;refine zzn ?_;refine T_region ?_;refine zz ?_;refine zzn ?_
   refine ⟨rfl, ?_⟩
   refine T_block ?_;refine zr ?_;(iterate 2 refine zz ?_);refine zo (ok_ari_wrap rfl rfl rfl rfl) ?_;refine zz ?_;refine zo ((ok_ari_wrap rfl rfl rfl rfl).sub (int_eq (show _ = ((sb (limb a k) (limb b k) under : Nat) : Int) by rw [wrap_u64_mod, wrap_u64_mod]; unfold sb; split <;> omega))) ?_;refine zz ?_;refine zx ?_;(iterate 2 refine zz ?_);refine zo (ok_conv (z := ((sb (limb a k) (limb b k) under % 4294967296 : Nat) : Int)) rfl rfl wrap_u32_mod) ?_;refine zo (ok_buildNat [sb (limb a k) (limb b k) under % 4294967296] rfl rfl (by decide) rfl (by simp) rfl rfl rfl) ?_;refine Run.append 2 rfl rfl rfl rfl rfl rfl rfl rfl hq (by rw [flat_u32_length, hln]) flat_u32 (by unfold big; simp; omega) (by unfold big; simp; omega) fun q29 hq29 => ?_;refine zw ?_;refine zzn ?_;refine T_region ?_;refine zz ?_;refine zo ((ok_shr rfl rfl rfl (by omega) (by simp [IntKind.bits])).sub (int_eq (shr63 _))) ?_;refine zw ?_;refine zzn ?_
   refine ⟨rfl, q29, sb (limb a k) (limb b k) under / 9223372036854775808, out ++ [sb (limb a k) (limb b k) under % 4294967296], hq29, ?_, lim_snoc hlo (by omega), by simp [hln], ?_, by rw [List.flatMap_append]; rfl⟩
   ·unfold sb; split <;> omega
   ·rw [val_snoc, hln, low_succ, low_succ, pow_split]; exact borrow_step hx hy ho hval
  ·rintro h i D ⟨rfl, q, under, out, hq, ho, hlo, hln, hval, rfl⟩
   rw [pairsX_length] at hln hval hq
   rw [low_all (by omega), low_all (by omega), hm.val, hn.val] at hval
   have hv := val_lt hlo
   rw [hln] at hv
   have hu : under = 0 := by
    rcases Nat.lt_or_ge 0 under with h | h
    ·have : under = 1 := by omega
     subst this; omega
    ·omega
   subst hu
   haveI : IsNat out (m - n) := ⟨hlo, by omega⟩
   refine zr ?_;refine zz ?_;refine Run.ghost _ rfl (ghost_sl 2 32 rfl rfl (by rw [pairsX_length]; exact hq) (l := out) (f := u32S) (by rw [pairsX_length]; exact hln) rfl flat_u32 (by rw [pairsX_length]; unfold big; omega)) ?_;refine zo (ok_call rfl rfl (trim_spec (by unfold cap; omega))) ?_;(iterate 2 refine zz ?_);refine zzn ?_;refine T_ret ?_
   exact ⟨_, [], .many (.cons (.tmp rfl) (.cons (.tmp rfl) (.nil))), List.nil_sublist _, by rw [if_neg (by omega)], rfl⟩
  ·intro h i D e c hc hInv; exact hInv.elim
end Go.Proofs
/- Contracts of the functions of straitref01. -/
namespace Go.Proofs
open Go Go.Sv Num
variable {G : Imm}
theorem drop_val (l : List Nat) (k : Nat) : val (l.drop k) = limb l k + 4294967296 * val (l.drop (k + 1)) := by
 by_cases h : k < l.length
 ·rw [List.drop_eq_getElem_cons h]
  have : limb l k = l[k] := by simp [limb, List.getD_eq_getElem?_getD, h]
  simp only [val, this]
 ·rw [List.drop_eq_nil_of_le (by omega), List.drop_eq_nil_of_le (by omega), limb_out (by omega)]; rfl
theorem low_split (l : List Nat) (k : Nat) : val l = low l k + 4294967296 ^ k * val (l.drop k) := by
 induction k with
 | zero => rw [low_zero, Nat.pow_zero, Nat.one_mul, Nat.zero_add, List.drop_zero]
 | succ k ih => rw [ih, low_succ, pow_split, drop_val, Nat.mul_add, Nat.mul_assoc, Nat.add_assoc]
theorem low_of_lt {l : List Nat} {k : Nat} (h : val l < 4294967296 ^ k) : low l k = val l := by
 have := low_split l k
 rcases Nat.eq_zero_or_pos (val (l.drop k)) with h0 | h0
 ·rw [h0] at this; simpa using this.symm
 ·have := Nat.le_mul_of_pos_right (4294967296 ^ k) h0; omega
theorem rsb_step {p v o x y a b : Nat} (hx : x < 4294967296) (hy : y < 4294967296) (ho : o ≤ 1) (h : a + p * o = v + b) :
  a + p * x + p * 4294967296 * (1 - (x + 4294967296 - y - o) / 4294967296) = v + p * ((x + 4294967296 - y - o) % 4294967296) + (b + p * y) := by
 have e : x + 4294967296 * (1 - (x + 4294967296 - y - o) / 4294967296) = (x + 4294967296 - y - o) % 4294967296 + y + o := by omega
 have e2 := congrArg (p * ·) e
 simp only [Nat.mul_add, ← Nat.mul_assoc] at e2
 omega
theorem list_eq_of {a b : List Nat} (hl : a.length = b.length) (h : ∀ j, j < a.length → limb a j = limb b j) : a = b := by
 refine List.ext_getElem? fun i => ?_
 by_cases hi : i < a.length
 ·rw [limb_get hi, limb_get (by omega), h i hi]
 ·rw [List.getElem?_eq_none (by omega), List.getElem?_eq_none (by omega)]
theorem bd_sum {m n k l : Nat} (h : m < 4294967296 ^ k) (h' : n < 4294967296 ^ l) : m + n < 4294967296 ^ (k + l + 1) := (bd_add (h := ⟨h⟩) (h' := ⟨h'⟩)).h
theorem rtrim_spec {l : List Nat} {n : Nat} [hn : IsNat l n] (hk : l.length ≤ cap := by exact Sz.le (by decide)) : PSpec Tryz.prog G 63 [natS l] (natS (dig n)) := by
 unfold cap at hk
 refine zs Tryz.func63 ?_;refine zr ?_;refine zz ?_;refine zx ?_;(iterate 3 refine zz ?_);refine zzn ?_;refine T_seq ?_;refine T_block ?_;refine T_loop (γ := Nat) (fun g => ⟨_, [(3, intS .i64 g), (0, natS l)], [], [], (0, false)⟩) (fun g => g ≤ l.length ∧ ∀ i, g ≤ i → limb l i = 0) (fun g => g) l.length ⟨Nat.le_refl _, fun i h => limb_out h⟩ (ent_g zk) ?_
 rintro g ⟨hg, hz⟩
 have fin : (g = 0 ∨ limb l (g - 1) ≠ 0) → l.take g = dig n := fun h => by rw [← hn.val]; exact trim_take hn.lim hg hz h
 refine T_seq ?_;refine zr ?_;refine zz ?_
 refine Run.oneB (ok_cmp rfl rfl rfl rfl) rfl rfl rfl (fun h2_1 => ?_) (fun h2_1 => ?_)
 ·have k2_1 := of_decide_eq_true h2_1
  (iterate 3 refine zz ?_);refine za ((g - 1 : Nat) : Int) ?_;refine zo (ok_indexAddr rfl rfl rfl (by omega) (y := limb l (g - 1)) (limb_get (by omega))) ?_;(iterate 3 refine zz ?_);refine zzn ?_;refine zzc (fun h15 => ?_) fun h15 => ?_
  ·have k15 := beq_iff_eq.1 h15
   refine T_skip ?_;refine T_block ?_;refine T_region ?_;refine zz ?_;refine za ((g - 1 : Nat) : Int) ?_;refine zz ?_;refine zzn ?_
   exact ⟨g - 1, ⟨by omega, fun i hi => by by_cases h : g ≤ i; exact hz i h; rw [show i = g - 1 by omega]; omega⟩, by omega, ent_g (subG_cons rfl (subG_cons rfl trivial))⟩
  ·have k15 := beq_eq_false_iff_ne.1 h15
   refine T_exit ?_;refine zr ?_;refine Run.buildRow rfl rfl rfl rfl rfl rfl (by decide) rfl (.inl rfl) rfl rfl fun b18 hb18 => ?_;(iterate 2 refine zz ?_);refine zo (ok_slice (lo := 0) (hi := g) (m := g) rfl rfl (.inl ⟨rfl, rfl⟩) (.inr ⟨_, _, rfl, rfl⟩) (.inl rfl) (by omega) hg) ?_;refine Run.append 0 rfl rfl rfl rfl rfl rfl rfl rfl hb18 rfl flat_u32 (by unfold big; simp; omega) (by unfold big; simp; omega) fun q22 hq22 => ?_;refine Run.ghost _ rfl (ghost_sl 0 22 rfl rfl hq22 (l := l.take g) (f := u32S) (by simp) rfl flat_u32 (by unfold big; simp; omega)) ?_;refine zz ?_;refine zzn ?_;refine T_ret ?_
   exact ⟨_, [], .one (.tmp rfl), List.nil_sublist _, congrArg natS (fin (.inr (by omega))), rfl⟩
 ·have k2_1 := of_decide_eq_false h2_1
  refine zz ?_;(iterate 6 refine zq ?_);refine zz ?_;refine zzn ?_;refine T_condF rfl rfl ?_;refine T_exit ?_;refine zr ?_;refine Run.buildRow rfl rfl rfl rfl rfl rfl (by decide) rfl (.inl rfl) rfl rfl fun b18 hb18 => ?_;(iterate 2 refine zz ?_);refine zo (ok_slice (lo := 0) (hi := g) (m := g) rfl rfl (.inl ⟨rfl, rfl⟩) (.inr ⟨_, _, rfl, rfl⟩) (.inl rfl) (by omega) hg) ?_;refine Run.append 0 rfl rfl rfl rfl rfl rfl rfl rfl hb18 rfl flat_u32 (by unfold big; simp; omega) (by unfold big; simp; omega) fun q22 hq22 => ?_;refine Run.ghost _ rfl (ghost_sl 0 22 rfl rfl hq22 (l := l.take g) (f := u32S) (by simp) rfl flat_u32 (by unfold big; simp; omega)) ?_;refine zz ?_;refine zzn ?_;refine T_ret ?_
  exact ⟨_, [], .one (.tmp rfl), List.nil_sublist _, congrArg natS (fin (.inl (by omega))), rfl⟩
theorem rlimb_spec {l : List Nat} {i : Nat} (hl : Lim l) : PSpec Tryz.prog G 208 [natS l, intS .i64 i] (intS .u64 (limb l i)) := by
 refine zs Tryz.func208 ?_;refine zr ?_;refine zz ?_;refine zzn ?_;refine T_seq ?_;refine zr ?_;(iterate 4 refine zz ?_);refine zzn ?_;refine zzc (fun h8 => ?_) fun h8 => ?_
 ·have k8 := of_decide_eq_true h8
  refine zr ?_;refine zz ?_;refine zzn ?_;refine T_ret ?_
  exact ⟨_, [], .one (.tmp rfl), List.nil_sublist _, by rw [limb_out (by omega)]; rfl, rfl⟩
 ·have k8 := of_decide_eq_false h8
  refine T_skip ?_;refine zr ?_
  have hlt := limb_lt hl i
  (iterate 2 refine zz ?_);refine zo (ok_indexAddr rfl rfl rfl (by omega) (y := limb l i) (limb_get (by omega))) ?_;(iterate 3 refine zz ?_);refine zzn ?_;refine T_ret ?_
  exact ⟨_, [], .one (.tmp rfl), List.nil_sublist _, rfl, rfl⟩
theorem rcmp_spec {a b : List Nat} {m n : Nat} [hm : IsNat a m] [hn : IsNat b n] : PSpec Tryz.prog G 195 [natS a, natS b] (intS .i64 (tri m n)) := by
 refine zs Tryz.func195 ?_;refine T_len 0 rfl fun ha => T_len 1 rfl fun hb => ?_
 unfold big at ha hb
 refine zr ?_;refine zz ?_;refine zzn ?_;refine T_seq ?_;refine zr ?_;(iterate 5 refine zz ?_);refine zo (ok_ari (z := ((max a.length b.length : Nat) : Int) - 1) rfl rfl rfl (congrArg some (by omega)) (wrap_i64 (by omega) (by omega))) ?_;refine zz ?_;refine zzn ?_;refine T_block ?_
 refine T_loop (γ := Nat) (fun g => ⟨_, [(5, intS .i64 ((g : Int) - 1)), (4, intS .i64 0), (0, natS a), (1, natS b)], [], [], (0, false)⟩) (fun g => g ≤ max a.length b.length ∧ ∀ j, g ≤ j → j < max a.length b.length → limb a j = limb b j) (fun g => g) (max a.length b.length) ⟨Nat.le_refl _, fun j h1 h2 => by omega⟩ (ent_g zk) ?_
 rintro g ⟨hg, hz⟩
 refine T_seq ?_;refine zr ?_;(iterate 2 refine zz ?_);refine zzn ?_;refine zzc (fun h13 => ?_) fun h13 => ?_
 ·have k13 := of_decide_eq_true h13
  refine T_skip ?_;refine T_seq ?_;refine T_block ?_;refine T_seq ?_;refine zr ?_;refine zz ?_;refine zo ((ok_move rfl rfl).sub (int_eq (show (g : Int) - 1 = ((g - 1 : Nat) : Int) by omega))) ?_;refine zf (rlimb_spec hm.lim) ?_;refine zz ?_;refine zo ((ok_move rfl rfl).sub (int_eq (show (g : Int) - 1 = ((g - 1 : Nat) : Int) by omega))) ?_;refine zf (rlimb_spec hn.lim) ?_;refine zz ?_;refine zzn ?_;refine zzc (fun h22 => ?_) fun h22 => ?_
  ·have k22 := of_decide_eq_true h22
   refine zr ?_;refine zz ?_;refine zzn ?_;refine T_ret ?_
   exact ⟨_, [], .one (.tmp rfl), List.nil_sublist _, by
    have := cmp_at hm.lim (i := g - 1) (n := max a.length b.length) (by omega) (by omega) (by omega) (fun j h1 h2 => hz j (by omega) h2) (by omega)
    rw [hm.val, hn.val] at this
    unfold tri; rw [if_pos this], rfl⟩
  ·have k22 := of_decide_eq_false h22
   refine T_skip ?_;refine zr ?_;refine zz ?_;refine zo ((ok_move rfl rfl).sub (int_eq (show (g : Int) - 1 = ((g - 1 : Nat) : Int) by omega))) ?_;refine zf (rlimb_spec hm.lim) ?_;refine zz ?_;refine zo ((ok_move rfl rfl).sub (int_eq (show (g : Int) - 1 = ((g - 1 : Nat) : Int) by omega))) ?_;refine zf (rlimb_spec hn.lim) ?_;refine zz ?_;refine zzn ?_;refine zzc (fun h29 => ?_) fun h29 => ?_
   ·have k29 := of_decide_eq_true h29
    refine zr ?_;refine zz ?_;refine zzn ?_;refine T_ret ?_
    exact ⟨_, [], .one (.tmp rfl), List.nil_sublist _, by
     have := cmp_at hn.lim (a := b) (b := a) (i := g - 1) (n := max a.length b.length) (by omega) (by omega) (by omega) (fun j h1 h2 => (hz j (by omega) h2).symm) (by omega)
     rw [hm.val, hn.val] at this
     unfold tri; rw [if_neg (by omega), if_pos this], rfl⟩
   ·have k29 := of_decide_eq_false h29
    refine T_skip ?_;refine T_region ?_;(iterate 3 refine zz ?_);refine zzn ?_
    exact ⟨g - 1, ⟨by omega, fun j h1 h2 => by by_cases h : g ≤ j; exact hz j h h2; rw [show j = g - 1 by omega]; omega⟩, by omega, ent_g (subG_as rfl (congrArg (intS .i64) (by omega)) (subG_cons rfl (subG_cons rfl (subG_cons rfl trivial))))⟩
 ·have k13 := of_decide_eq_false h13
  refine T_exit ?_;refine zr ?_;refine zz ?_;refine zzn ?_;refine T_ret ?_
  exact ⟨_, [], .one (.tmp rfl), List.nil_sublist _, by
   have := val_eq_of (a := a) (b := b) (n := max a.length b.length) (by omega) (by omega) (fun j h => hz j (by omega) h)
   rw [hm.val, hn.val] at this
   unfold tri; rw [if_neg (by omega), if_neg (by omega)], rfl⟩
theorem rof_spec {n : Nat} (h : n < 18446744073709551616) : PSpec Tryz.prog G 113 [intS .u64 n] (natS (dig n)) := by
 refine zs Tryz.func113 ?_;refine zr ?_;refine zz ?_;refine zx ?_;refine zz ?_;refine zo (ok_conv (z := ((n % 4294967296 : Nat) : Int)) rfl rfl wrap_u32_mod) ?_;refine zz ?_;refine zo (ok_shr rfl rfl rfl (by omega) (by simp [IntKind.bits])) ?_;refine zo (ok_conv (z := ((n / 4294967296 : Nat) : Int)) rfl rfl ((wrap_u32 (by simp; omega) (by simp; omega)).trans (by simp))) ?_;refine zo (ok_buildNat [n % 4294967296, n / 4294967296] rfl rfl (by decide) rfl (by simp) rfl rfl rfl) ?_
 have : IsNat [n % 4294967296, n / 4294967296] n := ⟨lim_cons (by omega) (lim_cons (by omega) lim_nil), by simp [val]; omega⟩
 refine zo (ok_call rfl rfl (rtrim_spec (by simp [cap]))) ?_;refine zz ?_;refine zzn ?_;refine T_ret ?_
 exact ⟨_, [], .one (.tmp rfl), List.nil_sublist _, rfl, rfl⟩
theorem rtwo_spec {a b : List Nat} {m n : Nat} [hm : IsNat a m] [hn : IsNat b n] (hs : a.length + b.length + 2 ≤ cap := by exact Sz.le3 (by decide)) : PSpec Tryz.prog G 207 [natS a, natS b] (natS (dig (m + n))) := by
 unfold cap at hs
 refine zs Tryz.func207 ?_;refine zr ?_;refine zz ?_;refine zx ?_;refine Run.ghost _ rfl (ghost_row 93 1) ?_;refine zz ?_;refine zx ?_;refine zz ?_;refine zzn ?_;refine T_seq ?_;refine zr ?_;refine zz ?_;refine zzn ?_;refine T_block ?_
 refine T_loop4 (fun k q over out => ⟨_, [(7, intS .i64 (k : Nat)), (6, intS .u64 (over : Nat)), (5, eqS (rowV q k)), (0, natS a), (1, natS b)], [rowE q 93 1 k (out.flatMap u32S)], [], (0, false)⟩)
   (fun k q over out => k ≤ max a.length b.length ∧ rowOk q k ∧ over ≤ 1 ∧ Lim out ∧ out.length = k ∧ val out + 4294967296 ^ k * over = low a k + low b k) (fun k q over out => max a.length b.length - k)
   0 none 0 [] ⟨Nat.zero_le _, rfl, by omega, lim_nil, rfl, rfl⟩ (ent_h zk rfl) ?_
 rintro k q over out ⟨hk, hq, ho, hlo, hln, hval⟩
 have hx := limb_lt hm.lim k
 have hy := limb_lt hn.lim k
 refine T_seq ?_;refine zr ?_;(iterate 7 refine zz ?_);refine zzn ?_;refine zzc (fun h15 => ?_) fun h15 => ?_
 ·have k15 := of_decide_eq_true h15
  refine T_skip ?_;refine T_seq ?_;refine T_block ?_;refine zr ?_;(iterate 2 refine zz ?_);refine zf (rlimb_spec hm.lim) ?_;(iterate 2 refine zz ?_);refine zf (rlimb_spec hn.lim) ?_;refine zo (ok_ari rfl rfl rfl rfl (wrap_u64 (by omega) (by omega))) ?_;refine zz ?_;refine za ((over + (limb a k + limb b k) : Nat) : Int) ?_;refine zz ?_;refine zx ?_;(iterate 2 refine zz ?_);refine zo (ok_conv (z := (((over + (limb a k + limb b k)) % 4294967296 : Nat) : Int)) rfl rfl wrap_u32_mod) ?_;refine zo (ok_buildNat [(over + (limb a k + limb b k)) % 4294967296] rfl rfl (by decide) rfl (by simp) rfl rfl rfl) ?_;refine Run.append 0 rfl rfl rfl rfl rfl rfl rfl rfl hq (by rw [flat_u32_length, hln]) flat_u32 (by unfold big; simp; omega) (by unfold big; simp; omega) fun q31 hq31 => ?_;refine zz ?_;refine zzn ?_;refine T_region ?_;refine zz ?_;refine zo ((ok_shr rfl rfl rfl (by omega) (by simp [IntKind.bits])).sub (int_eq (shr32 _))) ?_;refine zz ?_;refine zzn ?_;refine T_region ?_;(iterate 3 refine zz ?_);refine zzn ?_
  refine ⟨k + 1, q31, (over + (limb a k + limb b k)) / 4294967296, out ++ [(over + (limb a k + limb b k)) % 4294967296], ⟨by omega, hq31, by omega, lim_snoc hlo (by omega), by simp [hln], ?_⟩, by omega, ent_h (subG_cons rfl (subG_cons rfl (subG_cons rfl (subG_cons rfl (subG_cons rfl trivial))))) (by rw [List.flatMap_append]; rfl)⟩
  rw [val_snoc, hln, low_succ, low_succ, pow_split]; exact carry_step hval rfl rfl rfl
 ·have k15 := of_decide_eq_false h15
  have e1 : k = max a.length b.length := by omega
  rw [low_all (by omega), low_all (by omega), hm.val, hn.val] at hval
  refine T_exit ?_;refine zr ?_;(iterate 3 refine zz ?_);refine zo (ok_buildNat [over] rfl rfl (by decide) rfl (by simp) rfl rfl rfl) ?_;refine Run.append 0 rfl rfl rfl rfl rfl rfl rfl rfl hq (by rw [flat_u32_length, hln]) flat_u32 (by unfold big; simp; omega) (by unfold big; simp; omega) fun q38 hq38 => ?_;refine Run.ghost _ rfl (ghost_sl 0 38 rfl rfl hq38 (l := out ++ [over]) (f := u32S) (by simp [hln]) List.flatMap_append.symm flat_u32 (by unfold big; simp; omega)) ?_
  have : IsNat (out ++ [over]) (m + n) := ⟨lim_snoc hlo (by omega), by rw [val_snoc, hln]; omega⟩
  refine zo (ok_call rfl rfl (rtrim_spec (by unfold cap; simp; omega))) ?_;refine zz ?_;refine zzn ?_;refine T_ret ?_
  exact ⟨_, [], .one (.tmp rfl), List.nil_sublist _, rfl, rfl⟩
theorem radd_spec {ll : List (List Nat)} (hl : ∀ l ∈ ll, Lim l) (hs : (ll.map List.length).sum + ll.length + 2 ≤ cap) : PSpec Tryz.prog G 172 [slS 1 id (chunkN ll)] (natS (dig (ll.map val).sum)) := by
 unfold cap at hs
 have hcl : (chunkN ll).length = ll.length := by simp [chunkN]
 refine zs Tryz.func172 ?_;refine zr ?_;refine zz ?_;refine zx ?_;refine zz ?_;refine zzn ?_;refine T_seq ?_;refine zr ?_;refine zz ?_;refine zzn ?_;refine T_block ?_
 refine T_loop2 (fun g s => ⟨_, [(4, intS .i64 (g : Nat)), (3, natS s), (0, slS 1 id (chunkN ll))], [], [], (0, false)⟩)
   (fun g s => g ≤ ll.length ∧ Lim s ∧ val s = ((ll.take g).map val).sum ∧ s.length ≤ ((ll.take g).map List.length).sum + g) (fun g s => ll.length - g) 0 [] ⟨Nat.zero_le _, lim_nil, rfl, Nat.le_refl _⟩
   (ent_g (subG_cons rfl ⟨⟨_, rfl, nil_nat rfl⟩, subG_cons rfl trivial⟩)) ?_
 rintro g s ⟨hg, hls, hvs, hns⟩
 refine T_seq ?_;refine zr ?_;(iterate 4 refine zz ?_);refine zzn ?_;refine zzc (fun h8 => ?_) fun h8 => ?_
 ·have k8 := of_decide_eq_true h8
  obtain ⟨a, ha⟩ : ∃ a, ll[g]? = some a := ⟨_, List.getElem?_eq_getElem (by omega)⟩
  have hla := hl a (List.mem_of_getElem? ha)
  have hsl := sum_take List.length ha
  have hsv := sum_take val ha
  have hle := sum_take_le List.length ll (g + 1)
  haveI := isNat_of hls
  haveI := isNat_of hla
  have hdl : (dig (val s + val a)).length ≤ s.length + a.length + 1 := dig_length_le (Bd.of_val (isNat_dig (n := val s + val a)) ⟨dig_length_le (bd_sum (val_lt hls) (val_lt hla))⟩).h
  refine T_skip ?_;refine T_seq ?_;refine T_block ?_;refine T_region ?_;(iterate 3 refine zz ?_);refine zo (ok_indexAddr rfl rfl rfl (by omega) (y := [natS a]) (by show (chunkN ll)[g]? = _; simp [chunkN, ha])) ?_;refine zz ?_;refine zo (ok_call rfl rfl (rtwo_spec (by unfold cap; omega))) ?_;refine zz ?_;refine zzn ?_;refine T_region ?_;(iterate 3 refine zz ?_);refine zzn ?_
  exact ⟨g + 1, _, ⟨by omega, lim_dig _, by rw [val_dig]; omega, by omega⟩, by omega, ent_g (subG_cons rfl (subG_cons rfl (subG_cons rfl trivial)))⟩
 ·have k8 := of_decide_eq_false h8
  have hgl : g = ll.length := by omega
  subst hgl
  rw [List.take_length] at hvs hns
  haveI := isNat_of hls
  refine T_exit ?_;refine zr ?_;refine zz ?_;refine zo (ok_call rfl rfl (rtrim_spec (by unfold cap; omega))) ?_;refine zz ?_;refine zzn ?_;refine T_ret ?_
  exact ⟨_, [], .one (.tmp rfl), List.nil_sublist _, congrArg natS (congrArg dig hvs), rfl⟩
theorem radd2_spec {a b : List Nat} {m n k l : Nat} [ha : IsNat a m] [hb : IsNat b n] [hk : Sz a k] [hl : Sz b l] (h : k + l + 4 ≤ cap := by decide) : PSpec Tryz.prog G 172 [slS 1 id [[natS a], [natS b]]] (natS (dig (m + n))) := by
 have := radd_spec (G := G) (ll := [a, b]) (fun l h => by simp at h; rcases h with rfl | rfl; exact ha.lim; exact hb.lim) (by have := hk.h; have := hl.h; simp; omega)
 simp only [List.map_cons, List.map_nil, List.sum_cons, List.sum_nil, ha.val, hb.val, Nat.add_zero] at this
 exact this
theorem rsub_spec {a b : List Nat} {m n : Nat} [hm : IsNat a m] [hn : IsNat b n] (hs : a.length ≤ cap := by exact Sz.le (by decide)) : PSpec Tryz.prog G 173 [natS a, natS b] (tupS [natS (dig (m - n)), intS .i64 (if m < n then 10 else 0)]) := by
 unfold cap at hs
 refine zs Tryz.func173 ?_;refine zr ?_;(iterate 2 refine zz ?_);refine zzn ?_;refine T_seq ?_;refine zr ?_;(iterate 2 refine zz ?_);refine zf rcmp_spec ?_;refine zz ?_;refine zzn ?_;refine zzc (fun h13 => ?_) fun h13 => ?_
 ·have k13 := of_decide_eq_true h13
  have hlt : m < n := by unfold tri at k13; split at k13; assumption; split at k13 <;> omega
  refine zr ?_;refine zo ((ok_assign rfl rfl).sub (nil_nat (l := dig (m - n)) (dig_eq_nil.2 (by omega)))) ?_;refine zz ?_;refine zzn ?_;refine T_ret ?_
  exact ⟨_, [], .many (.cons (.tmp rfl) (.cons (.tmp rfl) (.nil))), List.nil_sublist _, by rw [if_pos hlt], rfl⟩
 ·have k13 := of_decide_eq_false h13
  have hge : n ≤ m := by unfold tri at k13; split at k13 <;> omega
  refine T_skip ?_;refine zr ?_;refine Run.ghost _ rfl (ghost_row 93 1) ?_;refine zz ?_;refine zx ?_;refine zz ?_;refine zzn ?_;refine T_seq ?_;refine zr ?_;refine zz ?_;refine zzn ?_;refine T_block ?_
  refine T_loop4 (fun k q under out => ⟨_, [(8, intS .i64 (k : Nat)), (7, intS .u64 (under : Nat)), (6, eqS (rowV q k)), (0, natS a), (1, natS b)], [rowE q 93 1 k (out.flatMap u32S)], [], (0, false)⟩)
    (fun k q under out => k ≤ a.length ∧ rowOk q k ∧ under ≤ 1 ∧ Lim out ∧ out.length = k ∧ low a k + 4294967296 ^ k * under = val out + low b k) (fun k q under out => a.length - k)
    0 none 0 [] ⟨Nat.zero_le _, rfl, by omega, lim_nil, rfl, rfl⟩ (ent_h zk rfl) ?_
  rintro k q under out ⟨hk, hq, ho, hlo, hln, hval⟩
  have hx := limb_lt hm.lim k
  have hy := limb_lt hn.lim k
  refine T_seq ?_;refine zr ?_;(iterate 4 refine zz ?_);refine zzn ?_;refine zzc (fun h17 => ?_) fun h17 => ?_
  ·have k17 := of_decide_eq_true h17
   refine T_skip ?_;refine T_seq ?_;refine T_block ?_;refine zr ?_;(iterate 2 refine zz ?_);refine zf (rlimb_spec hm.lim) ?_;refine zo (ok_ari rfl rfl rfl rfl (wrap_u64 (by omega) (by omega))) ?_;(iterate 2 refine zz ?_);refine zf (rlimb_spec hn.lim) ?_;refine zo (ok_ari rfl rfl rfl rfl (wrap_u64 (by omega) (by omega))) ?_;refine zz ?_;refine za ((limb a k + 4294967296 - limb b k - under : Nat) : Int) ?_;refine zz ?_;refine zx ?_;(iterate 2 refine zz ?_);refine zo (ok_conv (z := (((limb a k + 4294967296 - limb b k - under) % 4294967296 : Nat) : Int)) rfl rfl wrap_u32_mod) ?_;refine zo (ok_buildNat [(limb a k + 4294967296 - limb b k - under) % 4294967296] rfl rfl (by decide) rfl (by simp) rfl rfl rfl) ?_;refine Run.append 0 rfl rfl rfl rfl rfl rfl rfl rfl hq (by rw [flat_u32_length, hln]) flat_u32 (by unfold big; simp; omega) (by unfold big; simp; omega) fun q34 hq34 => ?_;refine zz ?_;refine zzn ?_;refine T_region ?_;refine zz ?_;refine zo ((ok_shr rfl rfl rfl (by omega) (by simp [IntKind.bits])).sub (int_eq (shr32 _))) ?_;refine za ((1 - (limb a k + 4294967296 - limb b k - under) / 4294967296 : Nat) : Int) ?_;refine zz ?_;refine zzn ?_;refine T_region ?_;(iterate 3 refine zz ?_);refine zzn ?_
   refine ⟨k + 1, q34, 1 - (limb a k + 4294967296 - limb b k - under) / 4294967296, out ++ [(limb a k + 4294967296 - limb b k - under) % 4294967296], ⟨by omega, hq34, by omega, lim_snoc hlo (by omega), by simp [hln], ?_⟩, by omega, ent_h (subG_cons rfl (subG_cons rfl (subG_cons rfl (subG_cons rfl (subG_cons rfl trivial))))) (by rw [List.flatMap_append]; rfl)⟩
   rw [val_snoc, hln, low_succ, low_succ, pow_split]; exact rsb_step hx hy ho hval
  ·have k17 := of_decide_eq_false h17
   have e1 : k = a.length := by omega
   have hal := val_lt hm.lim
   rw [hm.val, ← e1] at hal
   rw [low_all (by omega), low_of_lt (by rw [hn.val]; omega), hm.val, hn.val] at hval
   have hv := val_lt hlo
   rw [hln] at hv
   have hu : under = 0 := by
    rcases Nat.lt_or_ge 0 under with h | h
    ·have : under = 1 := by omega
     subst this; omega
    ·omega
   subst hu
   have : IsNat out (m - n) := ⟨hlo, by omega⟩
   refine T_exit ?_;refine zr ?_;refine Run.ghost _ rfl (ghost_sl 0 6 rfl rfl hq (l := out) (f := u32S) hln rfl flat_u32 (by unfold big; omega)) ?_;refine zz ?_;refine zo (ok_call rfl rfl (rtrim_spec (by unfold cap; omega))) ?_;(iterate 2 refine zz ?_);refine zzn ?_;refine T_ret ?_
   exact ⟨_, [], .many (.cons (.tmp rfl) (.cons (.tmp rfl) (.nil))), List.nil_sublist _, by rw [if_neg (by omega)], rfl⟩
theorem rsame_spec {a b : List Nat} : PSpec Tryz.prog G 91 [natS a, natS b] (boolS (decide (a = b))) := by
 refine zs Tryz.func91 ?_;refine T_len 0 rfl fun ha => T_len 1 rfl fun hb => ?_
 unfold big at ha hb
 refine zr ?_;refine zz ?_;refine zzn ?_;refine T_seq ?_;refine zr ?_;(iterate 5 refine zz ?_);refine zzn ?_;refine zzc (fun h10 => ?_) fun h10 => ?_
 ·have k10 := bne_iff_ne.1 h10
  refine zr ?_;refine zz ?_;refine zzn ?_;refine T_ret ?_
  exact ⟨_, [], .one (.tmp rfl), List.nil_sublist _, by rw [decide_eq_false fun h => k10 (by rw [h])], rfl⟩
 ·have k10 := bne_eq_false_iff_eq.1 h10
  refine T_skip ?_;refine T_seq ?_;refine zr ?_;refine zz ?_;refine zzn ?_;refine T_block ?_
  refine T_loop (γ := Nat) (fun g => ⟨_, [(5, intS .i64 g), (0, natS a), (1, natS b)], [], [], (0, false)⟩) (fun g => g ≤ a.length ∧ ∀ j, j < g → limb a j = limb b j) (fun g => a.length - g) 0 ⟨Nat.zero_le _, fun j h => by omega⟩ (ent_g zk) ?_
  rintro g ⟨hg, hz⟩
  refine T_seq ?_;refine zr ?_;(iterate 4 refine zz ?_);refine zzn ?_;refine zzc (fun h14 => ?_) fun h14 => ?_
  ·have k14 := of_decide_eq_true h14
   refine T_skip ?_;refine T_seq ?_;refine T_block ?_;refine T_drawS 9 (by kernel_rfl) ?_;(iterate 2 refine zz ?_);refine zo (ok_indexAddr rfl rfl rfl (by omega) (y := limb a g) (limb_get (by omega))) ?_;(iterate 3 refine zz ?_);refine zo (ok_indexAddr rfl rfl rfl (by omega) (y := limb b g) (limb_get (by omega))) ?_;(iterate 2 refine zz ?_);(iterate 2 refine zzn ?_);refine zzc (fun h25 => ?_) fun h25 => ?_
   ·have k25 := bne_iff_ne.1 h25
    refine zr ?_;refine zz ?_;refine zzn ?_;refine T_ret ?_
    exact ⟨_, [], .one (.tmp rfl), List.nil_sublist _, by rw [decide_eq_false fun h => k25 (by rw [h])], rfl⟩
   ·have k25 := bne_eq_false_iff_eq.1 h25
    refine T_skip ?_;refine T_region ?_;(iterate 3 refine zz ?_);refine zzn ?_
    exact ⟨g + 1, ⟨by omega, fun j h => by by_cases h1 : j < g; exact hz j h1; rw [show j = g by omega]; omega⟩, by omega, ent_g (subG_cons rfl (subG_cons rfl (subG_cons rfl trivial)))⟩
  ·have k14 := of_decide_eq_false h14
   refine T_exit ?_;refine zr ?_;refine zz ?_;refine zzn ?_;refine T_ret ?_
   exact ⟨_, [], .one (.tmp rfl), List.nil_sublist _, by rw [decide_eq_true (list_eq_of (by omega) fun j h => hz j (by omega))], rfl⟩
theorem rsmall_spec {l : List Nat} {n : Nat} [hn : IsNat l n] (hs : l.length ≤ cap := by exact Sz.le (by decide)) : PSpec Tryz.prog G 149 [natS l] (tupS [intS .u64 (if n < 18446744073709551616 then (n : Int) else 0), boolS (decide (n < 18446744073709551616))]) := by
 refine zs Tryz.func149 ?_;refine zr ?_;(iterate 2 refine zz ?_);refine zx ?_;refine zz ?_;refine zf (rtrim_spec hs) ?_;refine zz ?_;refine zzn ?_;refine T_seq ?_;refine zr ?_;(iterate 3 refine zz ?_);refine zzn ?_;refine zzc (fun h11 => ?_) fun h11 => ?_
 ·have k11 := of_decide_eq_true h11
  have hbig : ¬ n < 18446744073709551616 := fun h => by have := dig_length_le (n := n) (k := 2) (by omega); omega
  refine zr ?_;(iterate 2 refine zz ?_);refine zzn ?_;refine T_ret ?_
  exact ⟨_, [], .many (.cons (.tmp rfl) (.cons (.tmp rfl) (.nil))), List.nil_sublist _, by rw [if_neg hbig, decide_eq_false hbig], rfl⟩
 ·have k11 := of_decide_eq_false h11
  have hsm : n < 18446744073709551616 := by have := lt_of_dig_length (n := n) (k := 2) (by omega); omega
  refine T_skip ?_;refine zr ?_;refine zz ?_;refine zzn ?_;refine T_seq ?_;refine zr ?_;(iterate 2 refine zz ?_);refine zo (ok_ari (z := (((dig n).length : Nat) : Int) - 1) rfl rfl rfl (congrArg some (by omega)) (wrap_i64 (by omega) (by omega))) ?_;refine zz ?_;refine zzn ?_;refine T_block ?_;refine T_loop (γ := Nat) (fun g => ⟨_, [(6, intS .i64 ((g : Int) - 1)), (5, intS .u64 (val ((dig n).drop g) : Nat)), (4, natS (dig n))], [], [], (0, false)⟩) (fun g => g ≤ (dig n).length) (fun g => g) (dig n).length (Nat.le_refl _) (ent_g (subG_cons rfl (subG_as rfl (congrArg (intS .u64) (by rw [List.drop_length]; rfl)) (subG_cons rfl trivial)))) ?_
  intro g hg
  refine T_seq ?_;refine zr ?_;(iterate 2 refine zz ?_);refine zzn ?_;refine zzc (fun h16 => ?_) fun h16 => ?_
  ·have k16 := of_decide_eq_true h16
   have hv : val ((dig n).drop g) < 4294967296 := by
    have h1 := val_lt (lim_drop (lim_dig n) g)
    rw [List.length_drop] at h1
    have : 4294967296 ^ ((dig n).length - g) ≤ 4294967296 ^ 1 := Nat.pow_le_pow_right (by omega) (by omega)
    omega
   have he : val ((dig n).drop (g - 1)) = limb (dig n) (g - 1) + 4294967296 * val ((dig n).drop g) := by
    rw [List.drop_eq_getElem_cons (show g - 1 < (dig n).length by omega), show g - 1 + 1 = g by omega]
    simp [val, limb, List.getD_eq_getElem?_getD, show g - 1 < (dig n).length by omega]
   have hl := limb_lt (lim_dig n) (g - 1)
   refine T_skip ?_;refine T_seq ?_;refine T_block ?_;refine T_region ?_;refine zz ?_;refine zo ((ok_shl rfl rfl rfl (by omega) (by simp [IntKind.bits])).sub (int_eq (n := ((4294967296 * val ((dig n).drop g) : Nat) : Int)) ((wrap_u64 (by simp; omega) (by simp; omega)).trans (by simp; omega)))) ?_;refine zz ?_;refine zo ((ok_move rfl rfl).sub (int_eq (show (g : Int) - 1 = ((g - 1 : Nat) : Int) by omega))) ?_;refine zo (ok_indexAddr rfl rfl rfl (by omega) (y := limb (dig n) (g - 1)) (limb_get (by omega))) ?_;(iterate 2 refine zz ?_);refine za ((val ((dig n).drop (g - 1)) : Nat) : Int) ?_;refine zz ?_;refine zzn ?_;refine T_region ?_;(iterate 3 refine zz ?_);refine zzn ?_
   exact ⟨g - 1, (by omega : g - 1 ≤ (dig n).length), by omega, ent_g (subG_as rfl (congrArg (intS .i64) (by omega)) zk)⟩
  ·have k16 := of_decide_eq_false h16
   have hg0 : g = 0 := by omega
   subst hg0
   refine T_exit ?_;refine zr ?_;(iterate 3 refine zz ?_);refine zzn ?_;refine T_ret ?_
   exact ⟨_, [], .many (.cons (.tmp rfl) (.cons (.tmp rfl) (.nil))), List.nil_sublist _, by rw [if_pos hsm, decide_eq_true hsm, List.drop_zero, val_dig], rfl⟩
end Go.Proofs
/- Rows of limbs of one's own: made, read at a place, written at a place. -/
namespace Go.Proofs
open Go Go.Sv Num
theorem flat_u32_map (l : List Nat) : l.flatMap u32S = l.map fun x => intS .u32 (x : Nat) := by
 induction l with
 | nil => rfl
 | cons x l ih => simp only [List.flatMap_cons, List.map_cons, ih]; rfl
theorem flat_u32_get {l : List Nat} {i : Nat} (h : i < l.length) : (l.flatMap u32S)[i]? = some (intS .u32 (limb l i : Nat)) := by
 rw [flat_u32_map, List.getElem?_map, limb_get h]; rfl
theorem flat_u32_set (l : List Nat) (i z : Nat) : (l.flatMap u32S).set i (intS .u32 (z : Nat)) = (l.set i z).flatMap u32S := by
 rw [flat_u32_map, flat_u32_map, List.map_set]
theorem zero_row (n : Nat) : (zeroRow [.int .u32 0] (n * 1)).map eqS = (List.replicate n 0).flatMap u32S := by
 rw [flat_u32_map, Nat.mul_one, zeroRow_single, List.map_replicate, List.map_replicate]; rfl
section
variable {P : Program} {G : Imm} {E : Env} {r : Option Nat} {gd : Nat → Option Nat} {p : Bool} {o : Oper} {ops : List Oper} {K : St → Prop}
theorem ok_indexRow {H : HL} {g : List (Nat × SV)} {t e : Nat} [IsSl P t e 1] {x ix : Operand} {b c n : Nat} {k : IntKind} {i : Nat} (hop : o.op = .indexAddr t x ix) (hx : opE g x = some (eqS (rowV (some (b, c)) n))) (hi : opE g ix = some (intS k i)) (h1 : i < n) :
  OpOK P G H o g (eqS (.pointer (some ⟨b, i, none⟩))) :=
 ok_indexAddr_eq hop hx hi (by omega) (by omega) (by simp)
theorem ok_loadRow (j : Nat) {H : HL} {g : List (Nat × SV)} {t : TypeId} [IsScalar P t] {x : Operand} {b i e c n : Nat} {l : List Nat} (hop : o.op = .load t x) (hx : opE g x = some (eqS (.pointer (some ⟨b, i, none⟩)))) (hH : H[j]? = some (rowE (some (b, c)) e 1 n (l.flatMap u32S))) (h : i < l.length) : OpOK P G H o g (intS .u32 (limb l i : Nat)) :=
 ok_load_own j hop hx hH (flat_u32_get h)
theorem Run.storeRow (j : Nat) {n0 : Nat} {g : List (Nat × SV)} {h : HL} {d : List Nat} {i0 : Nat × Bool} {t : TypeId} [HasSize P t 1] {x y : Operand} {b i e c n : Nat} {l : List Nat} {z : Nat} (hp : p = false) (hop : o.op = .store t x y) (hx : opE g x = some (eqS (.pointer (some ⟨b, i, none⟩)))) (hy : opE g y = some (intS .u32 z))
  (hH : h[j]? = some (rowE (some (b, c)) e 1 n (l.flatMap u32S))) (hi : i < l.length) (hd : o.dst = none) (hg : guardAt gd g o true)
  (hr : Run P G E r gd p ops ⟨n0, g, putAt h j [rowE (some (b, c)) e 1 n ((l.set i z).flatMap u32S)], d, i0⟩ K) : Run P G E r gd p (o :: ops) ⟨n0, g, h, d, i0⟩ K := by
 have hlen : i + 1 ≤ (l.flatMap u32S).length := by rw [flat_u32_length]; omega
 have hble : Nat.ble (i + [intS .u32 (z : Nat)].length) (l.flatMap u32S).length = true := by rw [Nat.ble_eq]; exact hlen
 refine Run.store j hp hop hx hy hH rfl hble hd hg ?_
 show Run P G E r gd p ops ⟨n0, g, putAt h j [⟨some b, e, (l.flatMap u32S).set i (intS .u32 z), c * 1 - n * 1⟩], d, i0⟩ K
 rw [flat_u32_set]; exact hr
theorem Run.makeNat {n0 d0 : Nat} {g : List (Nat × SV)} {h : HL} {d : List Nat} {i : Nat × Bool} {t e bytes : Nat} [IsSl P t e 1] [IsElem P e [.int .u32 0] bytes] {x y : Operand} {k k' : IntKind} {n c : Nat} (hp : p = false) (hop : o.op = .makeSlice t x y) (hx : opE g x = some (intS k n)) (hy : opE g y = some (intS k' c)) (hg : guardAt gd g o true) (ht : o.dst = some d0) (hd : Nat.blt d0 n0 = true)
  (hnc : n ≤ c) (hb : bytes * c ≤ 281474976710656) (hc : c ≤ cap)
  (hr : ∀ b, rowOk (some (b, c)) n → Run P G E r gd p ops ⟨n0, (d0, eqS (rowV (some (b, c)) n)) :: g, rowE (some (b, c)) e 1 n ((List.replicate n 0).flatMap u32S) :: h, d, i⟩ K) : Run P G E r gd p (o :: ops) ⟨n0, g, h, d, i⟩ K :=
 Run.make hp hop hx hy hg ht hd hnc hb (by unfold cap at hc; unfold big; omega) fun b hb => by rw [zero_row]; exact hr b hb
end
theorem val_set : ∀ {l : List Nat} {j : Nat} (z : Nat), j < l.length → val (l.set j z) + 4294967296 ^ j * limb l j = val l + 4294967296 ^ j * z
  | [], j, z, h => by simp at h
  | x :: l, 0, z, h => by simp only [List.set_cons_zero, val, limb_zero, Nat.pow_zero, Nat.one_mul]; omega
  | x :: l, j + 1, z, h => by
    have ih := val_set (l := l) (j := j) z (by simpa using h)
    simp only [List.set_cons_succ, val, limb_succ]
    rw [Nat.pow_succ, Nat.mul_comm (4294967296 ^ j), Nat.mul_assoc, Nat.mul_assoc]
    generalize 4294967296 ^ j * limb l j = u at *
    generalize 4294967296 ^ j * z = v at *
    omega
theorem limb_set_ne {l : List Nat} {i j z : Nat} (h : i ≠ j) : limb (l.set i z) j = limb l j := by
 simp only [limb, List.getD_eq_getElem?_getD, List.getElem?_set_ne h]
theorem limb_set_eq {l : List Nat} {i z : Nat} (h : i < l.length) : limb (l.set i z) i = z := by
 simp [limb, List.getD_eq_getElem?_getD, h]
theorem lim_set {l : List Nat} {i z : Nat} (h : Lim l) (hz : z < 4294967296) : Lim (l.set i z) := fun x hx => by
 rcases List.mem_or_eq_of_mem_set hx with h1 | h1
 ·exact h x h1
 ·omega
theorem lim_replicate (n : Nat) : Lim (List.replicate n 0) := fun x hx => by rw [List.eq_of_mem_replicate hx]; omega
theorem limb_replicate (n j : Nat) : limb (List.replicate n 0) j = 0 := by
 simp only [limb, List.getD_eq_getElem?_getD, List.getElem?_replicate]; split <;> rfl
theorem mul_lt64 {x y o c : Nat} (hx : x < 4294967296) (hy : y < 4294967296) (ho : o < 4294967296) (hc : c < 4294967296) : x * y + o + c < 18446744073709551616 := by
 have := Nat.mul_le_mul (show x ≤ 4294967295 by omega) (show y ≤ 4294967295 by omega)
 omega
theorem mul_step {v w c o x y q bk p s t : Nat} (hp : p = q * bk) (h : v + p * c = w + q * (x * t)) (hs : s + p * o = v + p * ((x * y + o + c) % 4294967296)) : s + p * 4294967296 * ((x * y + o + c) / 4294967296) = w + q * (x * (t + bk * y)) := by
 have e : p * ((x * y + o + c) % 4294967296) + p * 4294967296 * ((x * y + o + c) / 4294967296) = p * (x * y) + p * o + p * c := by
  rw [Nat.mul_assoc, ← Nat.mul_add, Nat.mod_add_div, Nat.mul_add, Nat.mul_add]
 have e2 : q * (x * (t + bk * y)) = q * (x * t) + p * (x * y) := by subst hp; grind
 omega
end Go.Proofs
