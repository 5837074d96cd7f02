/- Contracts of the products by limbs: straitref02.Mul, prod.plain, and small ones. -/
import Derived.Test.YtofplgefmjojjaaGreatDoorSna
import Derived.Lib.BitFns
import Derived.Lib.Tables
import Derived.Lib.TrailingZeros
namespace Go.Proofs
open Go Go.Sv Num
variable {G : Imm}
def nzl (a : List Nat) (p : Nat) : List Nat := (List.range p).filter fun i => decide (limb a i ≠ 0)
theorem nzl_yes {a : List Nat} {p : Nat} (h : limb a p ≠ 0) : nzl a (p + 1) = nzl a p ++ [p] := by simp [nzl, List.range_succ, h]
theorem nzl_no {a : List Nat} {p : Nat} (h : limb a p = 0) : nzl a (p + 1) = nzl a p := by simp [nzl, List.range_succ, h]
theorem nzl_mono {a : List Nat} {p : Nat} : ∀ d, (nzl a p).length ≤ (nzl a (p + d)).length ∧ ((nzl a p).length = (nzl a (p + d)).length → low a p = low a (p + d))
  | 0 => ⟨Nat.le_refl _, fun _ => rfl⟩
  | d + 1 => by
    have ih := nzl_mono (a := a) (p := p) d
    by_cases h : limb a (p + d) = 0
    · rw [← Nat.add_assoc, nzl_no h, low_succ, h, Nat.mul_zero, Nat.add_zero]; exact ih
    · rw [← Nat.add_assoc, nzl_yes h, List.length_append, List.length_cons, List.length_nil]
      exact ⟨by omega, fun e => by omega⟩
theorem nzl_same {a : List Nat} {p q : Nat} (hq : limb a q ≠ 0 ∨ p ≤ q) (h : (nzl a p).length = (nzl a q).length) : p ≤ q ∧ low a p = low a q := by
 have hpq : p ≤ q := by
  rcases hq with hq | hq
  ·rcases Nat.lt_or_ge q p with hlt | hge
   ·have h1 := (nzl_mono (a := a) (p := q + 1) (p - (q + 1))).1
    rw [show q + 1 + (p - (q + 1)) = p by omega, nzl_yes hq, List.length_append, List.length_cons, List.length_nil] at h1
    omega
   ·exact hge
  ·exact hq
 have h1 := (nzl_mono (a := a) (p := p) (q - p)).2
 rw [show p + (q - p) = q by omega] at h1
 exact ⟨hpq, h1 h⟩
theorem nzl_get {a : List Nat} {p : Nat} (h : limb a p ≠ 0) : ∀ d, (nzl a (p + 1 + d))[(nzl a p).length]? = some p
  | 0 => by rw [Nat.add_zero, nzl_yes h]; simp
  | d + 1 => by
    have ih := nzl_get h d
    by_cases h1 : limb a (p + 1 + d) = 0
    · rw [← Nat.add_assoc, nzl_no h1]; exact ih
    · rw [← Nat.add_assoc, nzl_yes h1, List.getElem?_append_left (lt_of_get ih)]; exact ih
def limbsX (a : List Nat) : List (List SV) := (nzl a a.length).map fun i => [intS .i64 (i : Nat), intS .u64 (limb a i : Nat)]
theorem limbsX_length {a : List Nat} : (limbsX a).length = (nzl a a.length).length := by simp [limbsX]
theorem limbsX_get {a : List Nat} {p : Nat} (hp : p < a.length) (h : limb a p ≠ 0) : (limbsX a)[(nzl a p).length]? = some [intS .i64 (p : Nat), intS .u64 (limb a p : Nat)] := by
 have := nzl_get h (a.length - (p + 1))
 rw [show p + 1 + (a.length - (p + 1)) = a.length by omega] at this
 simp only [limbsX, List.getElem?_map, this, Option.map_some]
theorem limbsX_inv {a : List Nat} {k : Nat} {ss : List SV} (h : (limbsX a)[k]? = some ss) : ∃ p, p < a.length ∧ limb a p ≠ 0 ∧ (nzl a p).length = k ∧ ss = [intS .i64 (p : Nat), intS .u64 (limb a p : Nat)] := by
  simp only [limbsX, List.getElem?_map] at h
  cases hn : (nzl a a.length)[k]? with
  | none => rw [hn] at h; cases h
  | some p =>
    rw [hn] at h; cases h
    have hm := List.mem_of_getElem? hn
    simp only [nzl, List.mem_filter, List.mem_range, decide_eq_true_eq] at hm
    refine ⟨p, hm.1, hm.2, ?_, rfl⟩
    have hg := nzl_get hm.2 (a.length - (p + 1))
    rw [show p + 1 + (a.length - (p + 1)) = a.length by omega] at hg
    have hnd : (nzl a a.length).Nodup := List.nodup_range.sublist List.filter_sublist
    exact (List.getElem?_inj (lt_of_get hg) hnd).1 (hg.trans hn.symm)
theorem limbsX_ss {a : List Nat} {ss : List SV} (h : ss ∈ limbsX a) : ss.length = 2 := by
 obtain ⟨i, _, rfl⟩ := List.mem_map.1 h; rfl
theorem isNat_above {a : List Nat} {m n : Nat} [h : IsNat a m] : IsNat (List.replicate n 0 ++ a) (4294967296 ^ n * m) :=
 ⟨lim_append (lim_replicate n) h.lim, by rw [val_append, val_replicate_zero, List.length_replicate, h.val, Nat.zero_add]⟩
theorem rcount_spec {k m : Int} : PSpec Tryz.prog G 206 [intS .i64 k, intS .i64 m] (intS .i64 (min (max k 0) m)) := by
 refine zs Tryz.func206 ?_;refine zr ?_;refine zz ?_;refine zx ?_;(iterate 5 refine zz ?_);refine zzn ?_;refine T_ret ?_
 exact ⟨_, [], .one (.tmp rfl), List.nil_sublist _, rfl, rfl⟩
theorem count_spec {k m : Int} : PSpec Tryz.prog G 258 [intS .i64 k, intS .i64 m] (intS .i64 (max (min k m) 0)) := by
 refine zs Tryz.func258 ?_;refine zr ?_;refine zz ?_;refine zx ?_;(iterate 5 refine zz ?_);refine zzn ?_;refine T_ret ?_
 exact ⟨_, [], .one (.tmp rfl), List.nil_sublist _, rfl, rfl⟩
theorem rmul_spec {a b : List Nat} {m n : Nat} [hm : IsNat a m] [hn : IsNat b n] (hs : a.length + b.length + 2 ≤ cap := by exact Sz.le3 (by decide)) : PSpec Tryz.prog G 112 [natS a, natS b] (natS (dig (m * n))) := by
 have hs0 := hs
 unfold cap at hs
 refine zs Tryz.func112 ?_;refine zr ?_;refine zz ?_;refine zx ?_;(iterate 5 refine zz ?_);refine Run.makeNat (n := a.length + b.length) (c := a.length + b.length) rfl rfl rfl rfl rfl rfl rfl (Nat.le_refl _) (by omega) (by omega) fun b15 hb15 => ?_;refine zz ?_;refine zzn ?_;refine T_seq ?_;refine zr ?_;refine zz ?_;refine zzn ?_;refine T_block ?_
 refine T_loop2 (fun i out => ⟨_, [(6, intS .i64 (i : Nat)), (5, eqS (rowV (some (b15, a.length + b.length)) (a.length + b.length))), (0, natS a), (1, natS b)], [rowE (some (b15, a.length + b.length)) 93 1 (a.length + b.length) (out.flatMap u32S)], [], (0, false)⟩)
   (fun i out => i ≤ a.length ∧ Lim out ∧ out.length = a.length + b.length ∧ val out = low a i * n ∧ ∀ j, i + b.length ≤ j → limb out j = 0) (fun i out => a.length - i)
   0 (List.replicate (a.length + b.length) 0) ⟨Nat.zero_le _, lim_replicate _, List.length_replicate, by rw [val_replicate_zero, low_zero, Nat.zero_mul], fun j _ => limb_replicate _ j⟩ (ent_h (subG_cons rfl (subG_cons rfl (subG_cons rfl (subG_cons rfl trivial)))) rfl) ?_
 rintro i out ⟨hi, hlo, hln, hval, hz⟩
 refine T_seq ?_;refine zr ?_;(iterate 4 refine zz ?_);refine zzn ?_;refine zzc (fun h19 => ?_) fun h19 => ?_
 ·have k19 := of_decide_eq_true h19
  have hx := limb_lt hm.lim i
  refine T_skip ?_;refine T_seq ?_;refine T_block ?_;refine zr ?_;refine zz ?_;refine zzn ?_;refine T_seq ?_;refine zr ?_;refine zz ?_;refine zzn ?_;refine T_block ?_
  refine T_loop3 (fun k over out' => ⟨_, [(8, intS .i64 (k : Nat)), (7, intS .u64 (over : Nat)), (6, intS .i64 (i : Nat)), (5, eqS (rowV (some (b15, a.length + b.length)) (a.length + b.length))), (0, natS a), (1, natS b)], [rowE (some (b15, a.length + b.length)) 93 1 (a.length + b.length) (out'.flatMap u32S)], [], (0, false)⟩)
    (fun k over out' => k ≤ b.length ∧ over < 4294967296 ∧ Lim out' ∧ out'.length = a.length + b.length ∧ val out' + 4294967296 ^ (i + k) * over = val out + 4294967296 ^ i * (limb a i * low b k) ∧ ∀ j, i + b.length ≤ j → limb out' j = 0) (fun k over out' => b.length - k)
    0 0 out ⟨Nat.zero_le _, by omega, hlo, hln, by rw [low_zero, Nat.mul_zero, Nat.mul_zero, Nat.mul_zero], hz⟩ (ent_h (subG_cons rfl (subG_cons rfl (subG_cons rfl (subG_cons rfl (subG_cons rfl (subG_cons rfl trivial)))))) rfl) ?_
  rintro k over out' ⟨hk, hc, hlo', hln', hval', hz'⟩
  refine T_seq ?_;refine zr ?_;(iterate 4 refine zz ?_);refine zzn ?_;refine zzc (fun h25 => ?_) fun h25 => ?_
  ·have k25 := of_decide_eq_true h25
   have hy := limb_lt hn.lim k
   have ho := limb_lt hlo' (i + k)
   have hb := mul_lt64 hx hy ho hc
   obtain ⟨w, hw⟩ : ∃ w, w = limb a i * limb b k + limb out' (i + k) + over := ⟨_, rfl⟩
   refine T_skip ?_;refine T_seq ?_;refine T_block ?_;refine T_drawS 22 (by kernel_rfl) ?_;(iterate 2 refine zz ?_);refine zo (ok_indexAddr rfl rfl rfl (by omega) (y := limb a i) (limb_get (by omega))) ?_;(iterate 4 refine zz ?_);refine zo (ok_indexAddr rfl rfl rfl (by omega) (y := limb b k) (limb_get (by omega))) ?_;(iterate 2 refine zz ?_);refine za ((limb a i * limb b k : Nat) : Int) ?_;(iterate 3 refine zz ?_);refine za ((i + k : Nat) : Int) ?_;refine zo (ok_indexRow (i := i + k) rfl rfl rfl (by omega)) ?_;refine zo (ok_loadRow 0 rfl rfl rfl (by omega)) ?_;refine zz ?_;refine za ((limb a i * limb b k + limb out' (i + k) : Nat) : Int) ?_;refine zz ?_;refine za ((w : Nat) : Int) ?_;refine zz ?_;refine zzn ?_;refine zx ?_;(iterate 3 refine zz ?_);refine za ((i + k : Nat) : Int) ?_;refine zz ?_;refine zo (ok_conv (z := ((w % 4294967296 : Nat) : Int)) rfl rfl wrap_u32_mod) ?_;refine zo (ok_indexRow (i := i + k) rfl rfl rfl (by omega)) ?_;refine Run.storeRow 0 rfl rfl rfl rfl rfl (by omega) rfl rfl ?_;refine zzn ?_;refine T_region ?_;refine zz ?_;refine zo ((ok_shr rfl rfl rfl (by omega) (by simp [IntKind.bits])).sub (int_eq (shr32 _))) ?_;refine zz ?_;refine zzn ?_;refine T_region ?_;(iterate 3 refine zz ?_);refine zzn ?_
   refine ⟨k + 1, w / 4294967296, out'.set (i + k) (w % 4294967296), ⟨by omega, by omega, lim_set hlo' (by omega), by rw [List.length_set]; exact hln', ?_, fun j hj => by rw [limb_set_ne (by omega)]; exact hz' j hj⟩, by omega, ent_h (subG_cons rfl (subG_cons rfl (subG_cons rfl (subG_cons rfl (subG_cons rfl (subG_cons rfl trivial)))))) rfl⟩
   have hs := val_set (l := out') (j := i + k) (w % 4294967296) (by omega)
   rw [show i + (k + 1) = i + k + 1 by omega, pow_split, low_succ]
   subst hw
   exact mul_step (Nat.pow_add _ _ _) hval' hs
  ·have k25 := of_decide_eq_false h25
   have hkl : k = b.length := by omega
   rw [hkl, low_all (Nat.le_refl _), hn.val] at hval'
   refine T_exit ?_;refine T_region ?_;(iterate 4 refine zz ?_);refine za ((i + b.length : Nat) : Int) ?_;(iterate 2 refine zz ?_);refine zo (ok_indexRow (i := i + b.length) rfl rfl rfl (by omega)) ?_;refine Run.storeRow 0 rfl rfl rfl rfl rfl (by omega) rfl rfl ?_;refine zzn ?_;refine T_region ?_;(iterate 3 refine zz ?_);refine zzn ?_
   refine ⟨i + 1, out'.set (i + b.length) over, ⟨by omega, lim_set hlo' hc, by rw [List.length_set]; exact hln', ?_, fun j hj => by rw [limb_set_ne (by omega)]; exact hz' j (by omega)⟩, by omega, ent_h (subG_cons rfl (subG_cons rfl (subG_cons rfl (subG_cons rfl trivial)))) rfl⟩
   have hs := val_set (l := out') (j := i + b.length) over (by omega)
   rw [hz' _ (Nat.le_refl _), Nat.mul_zero] at hs
   rw [low_succ, Nat.add_mul, Nat.mul_assoc]; omega
 ·have k19 := of_decide_eq_false h19
  have hia : i = a.length := by omega
  rw [hia, low_all (Nat.le_refl _), hm.val] at hval
  have : IsNat out (m * n) := ⟨hlo, hval⟩
  refine T_exit ?_;refine zr ?_;refine Run.ghost _ rfl (ghost_sl 0 5 rfl rfl hb15 (l := out) (f := u32S) hln rfl flat_u32 (by unfold big; omega)) ?_;refine zz ?_;refine zo (ok_call rfl rfl (rtrim_spec (by unfold cap; omega))) ?_;refine zz ?_;refine zzn ?_;refine T_ret ?_
  exact ⟨_, [], .one (.tmp rfl), List.nil_sublist _, rfl, rfl⟩
theorem limbs1_spec {a : List Nat} (ha : Lim a) : IterSpec Tryz.prog G 232 [ptrS [natS a]] (limbsX a) := by
 refine iter_spec Tryz.func232 rfl rfl rfl rfl fun l E hy => ?_;refine zr ?_;(iterate 3 refine zz ?_);refine zzn ?_;refine T_block ?_;refine T_len 5 rfl fun la => ?_
 unfold big at la
 refine T_loop (γ := Nat) (fun g => ⟨_, [(7, intS .i64 g), (6, intS .i64 a.length), (5, natS a), (0, yieldS l), (1, ptrS [natS a])], [], [], ((nzl a g).length, false)⟩) (fun g => g ≤ a.length) (fun g => a.length - g) 0 (Nat.zero_le _) (ent_g zk) ?_
 intro g hg
 refine zr ?_;refine zz ?_;refine zzn ?_;refine T_seq ?_;refine zzc (fun h8 => ?_) fun h8 => ?_
 ·have k8 := of_decide_eq_true h8
  have h1 := limb_lt ha g
  refine T_skip ?_;refine T_seq ?_;refine T_block ?_;refine zr ?_;refine zz ?_;refine zo (ok_indexAddr rfl rfl rfl (by omega) (y := limb a g) (limb_get (by omega))) ?_;(iterate 3 refine zz ?_);refine zx ?_;refine zz ?_
  refine Run.oneB (ok_cmp rfl rfl rfl rfl) rfl rfl rfl (fun h3_1 => ?_) (fun h3_1 => ?_)
  ·have k3_1 := bne_iff_ne.1 h3_1
   have hnz : limb a g ≠ 0 := by omega
   (iterate 5 refine zz ?_);refine Run.yield rfl hy rfl rfl rfl (limbsX_get (by omega) hnz) (subL_refl _) (gB rfl rfl rfl rfl) rfl rfl fun y => ?_;(iterate 2 refine zz ?_);refine zzn ?_;refine zzc (fun h21 => ?_) fun h21 => ?_
   ·refine T_ret ?_
    exact ⟨.inl rfl, .inr h21⟩
   ·refine T_skip ?_;refine T_region ?_;(iterate 2 refine zz ?_);refine zzn ?_
    exact ⟨g + 1, (by omega : g + 1 ≤ a.length), by omega, rfl, subG_cons rfl (subG_cons rfl (subG_cons rfl (subG_cons rfl (subG_cons rfl trivial)))), subH_refl _, rfl, by simp only; rw [nzl_yes hnz, h21]; simp⟩
  ·have k3_1 := bne_eq_false_iff_eq.1 h3_1
   have hnz : limb a g = 0 := by omega
   refine zz ?_;(iterate 6 refine zq ?_);refine zz ?_;refine zzn ?_;refine T_condF rfl rfl ?_;refine T_skip ?_;refine T_region ?_;(iterate 2 refine zz ?_);refine zzn ?_
   exact ⟨g + 1, (by omega : g + 1 ≤ a.length), by omega, rfl, subG_cons rfl (subG_cons rfl (subG_cons rfl (subG_cons rfl (subG_cons rfl trivial)))), subH_refl _, rfl, by simp only; rw [nzl_no hnz]⟩
 ·have k8 := of_decide_eq_false h8
  refine T_exit ?_
  exact ⟨.inr rfl, .inl (by rw [limbsX_length, show g = a.length by omega])⟩
theorem limbs_spec {a : List Nat} : PSpec Tryz.prog G 217 [natS a] (fnS 232 [ptrS [natS a]]) := by
 refine zs Tryz.func217 ?_;refine zr ?_;(iterate 2 refine zz ?_);refine zx ?_;(iterate 2 refine zz ?_);refine zzn ?_;refine T_ret ?_
 exact ⟨_, [], .one (.tmp rfl), List.nil_sublist _, rfl, rfl⟩
theorem plain_spec {a b : List Nat} {m n : Nat} [hm : IsNat a m] [hn : IsNat b n] (hs : a.length + b.length + 2 ≤ cap := by exact Sz.le3 (by decide)) : PSpec Tryz.prog G 185 [natS a, natS b] (natS (dig (m * n))) := by
 have hs0 := hs
 unfold cap at hs
 refine zs Tryz.func185 ?_;refine zr ?_;(iterate 2 refine zz ?_);refine zx ?_;(iterate 5 refine zz ?_);refine Run.makeNat (n := a.length + b.length) (c := a.length + b.length) rfl rfl rfl rfl rfl rfl rfl (Nat.le_refl _) (by omega) (by omega) fun b16 hb16 => ?_;refine zzv fun b5 => ?_;refine zw ?_;refine zzn ?_;refine T_seq ?_;refine zr ?_;refine zz ?_;refine zf limbs_spec ?_;refine zzn ?_;refine T_block ?_
 refine T_rng rfl rfl (limbs1_spec hm.lim) (fun ss h => limbsX_ss h) (by decide) rfl
   (fun k h i => i = (0, false) ∧ ∃ p out, (nzl a p).length = k ∧ p ≤ a.length ∧ Lim out ∧ out.length = a.length + b.length ∧ val out = low a p * n ∧ (∀ j, p + b.length ≤ j → limb out j = 0) ∧ h = [⟨some b5, 24, [eqS (rowV (some (b16, a.length + b.length)) (a.length + b.length))], 0⟩, rowE (some (b16, a.length + b.length)) 93 1 (a.length + b.length) (out.flatMap u32S)])
   (fun _ _ _ => False) ⟨rfl, 0, List.replicate (a.length + b.length) 0, rfl, Nat.zero_le _, lim_replicate _, List.length_replicate, by rw [val_replicate_zero, low_zero, Nat.zero_mul], fun j _ => limb_replicate _ j, rfl⟩ ?_ ?_ ?_
 ·rintro l kk ss h i hk ⟨rfl, p0, out, hp0, hpl, hlo, hln, hval, hz, rfl⟩
  obtain ⟨p, hp1, hp2, rfl, rfl⟩ := limbsX_inv hk
  obtain ⟨hpp, hlow⟩ := nzl_same (.inl hp2) hp0
  rw [hlow] at hval
  replace hz : ∀ j, p + b.length ≤ j → limb out j = 0 := fun j hj => hz j (by omega)
  have hx := limb_lt hm.lim p
  refine zr ?_;refine zz ?_;refine zzn ?_;refine T_region ?_;refine zz ?_;refine zzn ?_
  refine ⟨rfl, ?_⟩
  refine T_block ?_;refine zr ?_;refine zz ?_;refine zzn ?_;refine T_seq ?_;refine zr ?_;(iterate 3 refine zz ?_);refine zzn ?_;refine T_block ?_
  refine T_loop3 (fun k over out' => ⟨_, [(23, intS .i64 (k : Nat)), (22, intS .i64 b.length), (21, natS b), (8, intS .u64 (over : Nat)), (7, intS .u64 (limb a p : Nat)), (6, intS .i64 (p : Nat)), (5, eqS (.pointer (some ⟨b5, 0, none⟩))), (3, ptrS [natS b])], [⟨some b5, 24, [eqS (rowV (some (b16, a.length + b.length)) (a.length + b.length))], 0⟩, rowE (some (b16, a.length + b.length)) 93 1 (a.length + b.length) (out'.flatMap u32S)], [], (0, false)⟩)
    (fun k over out' => k ≤ b.length ∧ over < 4294967296 ∧ Lim out' ∧ out'.length = a.length + b.length ∧ val out' + 4294967296 ^ (p + k) * over = val out + 4294967296 ^ p * (limb a p * low b k) ∧ ∀ j, p + b.length ≤ j → limb out' j = 0) (fun k over out' => b.length - k)
    0 0 out ⟨Nat.zero_le _, by omega, hlo, hln, by rw [low_zero, Nat.mul_zero, Nat.mul_zero, Nat.mul_zero], hz⟩ (ent_h (subG_cons rfl (subG_cons rfl (subG_cons rfl (subG_cons rfl (subG_cons rfl (subG_cons rfl (subG_cons rfl (subG_cons rfl trivial)))))))) rfl) ?_
  rintro k over out' ⟨hk', hc, hlo', hln', hval', hz'⟩
  refine zr ?_;refine zz ?_;refine zzn ?_;refine T_seq ?_;refine zzc (fun h24 => ?_) fun h24 => ?_
  ·have k24 := of_decide_eq_true h24
   have hy := limb_lt hn.lim k
   have ho := limb_lt hlo' (p + k)
   have hb := mul_lt64 hx hy ho hc
   obtain ⟨w, hw⟩ : ∃ w, w = limb a p * limb b k + limb out' (p + k) + over := ⟨_, rfl⟩
   refine T_skip ?_;refine T_seq ?_;refine T_block ?_;refine zr ?_;refine zz ?_;refine zo (ok_indexAddr rfl rfl rfl (by omega) (y := limb b k) (limb_get (by omega))) ?_;(iterate 3 refine zz ?_);refine zx ?_;(iterate 4 refine zz ?_);refine za ((limb a p * limb b k : Nat) : Int) ?_;(iterate 3 refine zz ?_);refine za ((p + k : Nat) : Int) ?_;refine zo (ok_indexRow (i := p + k) rfl rfl rfl (by omega)) ?_;refine zo (ok_loadRow 1 rfl rfl rfl (by omega)) ?_;refine zz ?_;refine za ((limb a p * limb b k + limb out' (p + k) : Nat) : Int) ?_;refine za ((w : Nat) : Int) ?_;refine zz ?_;refine zx ?_;(iterate 3 refine zz ?_);refine za ((p + k : Nat) : Int) ?_;refine zz ?_;refine zo (ok_conv (z := ((w % 4294967296 : Nat) : Int)) rfl rfl wrap_u32_mod) ?_;refine zo (ok_indexRow (i := p + k) rfl rfl rfl (by omega)) ?_;refine Run.storeRow 1 rfl rfl rfl rfl rfl (by omega) rfl rfl ?_;refine zzn ?_;refine T_region ?_;refine zz ?_;refine zo ((ok_shr rfl rfl rfl (by omega) (by simp [IntKind.bits])).sub (int_eq (shr32 _))) ?_;refine zz ?_;refine zzn ?_;refine T_region ?_;(iterate 2 refine zz ?_);refine zzn ?_
   refine ⟨k + 1, w / 4294967296, out'.set (p + k) (w % 4294967296), ⟨by omega, by omega, lim_set hlo' (by omega), by rw [List.length_set]; exact hln', ?_, fun j hj => by rw [limb_set_ne (by omega)]; exact hz' j hj⟩, by omega, ent_h (subG_cons rfl (subG_cons rfl (subG_cons rfl (subG_cons rfl (subG_cons rfl (subG_cons rfl (subG_cons rfl (subG_cons rfl trivial)))))))) rfl⟩
   have hs := val_set (l := out') (j := p + k) (w % 4294967296) (by omega)
   rw [show p + (k + 1) = p + k + 1 by omega, pow_split, low_succ]
   subst hw
   exact mul_step (Nat.pow_add _ _ _) hval' hs
  ·have k24 := of_decide_eq_false h24
   have hkl : k = b.length := by omega
   rw [hkl, low_all (Nat.le_refl _), hn.val] at hval'
   refine T_exit ?_;refine T_region ?_;(iterate 4 refine zz ?_);refine za ((p + b.length : Nat) : Int) ?_;(iterate 2 refine zz ?_);refine zo (ok_indexRow (i := p + b.length) rfl rfl rfl (by omega)) ?_;refine Run.storeRow 1 rfl rfl rfl rfl rfl (by omega) rfl rfl ?_;refine zzn ?_
   refine ⟨rfl, p + 1, out'.set (p + b.length) over, by rw [nzl_yes hp2]; simp, by omega, lim_set hlo' hc, by rw [List.length_set]; exact hln', ?_, fun j hj => by rw [limb_set_ne (by omega)]; exact hz' j (by omega), rfl⟩
   have hs := val_set (l := out') (j := p + b.length) over (by omega)
   rw [hz' _ (Nat.le_refl _), Nat.mul_zero] at hs
   rw [low_succ, Nat.add_mul, Nat.mul_assoc]; omega
 ·rintro h i D ⟨rfl, p0, out, hp0, hpl, hlo, hln, hval, hz, rfl⟩
  rw [limbsX_length] at hp0
  rw [(nzl_same (.inr hpl) hp0).2, low_all (Nat.le_refl _), hm.val] at hval
  have : IsNat out (m * n) := ⟨hlo, hval⟩
  refine zr ?_;refine zz ?_;refine Run.ghost _ rfl (ghost_sl 1 60 rfl rfl hb16 (l := out) (f := u32S) hln rfl flat_u32 (by unfold big; omega)) ?_;refine zo (ok_call rfl rfl (trim_spec (by unfold cap; omega))) ?_;refine zz ?_;refine zzn ?_;refine T_ret ?_
  exact ⟨_, [], .one (.tmp rfl), List.nil_sublist _, rfl, rfl⟩
 ·intro h i D e c hc hInv; exact hInv.elim
theorem less_spec {a b : List Nat} {m n : Nat} [hm : IsNat a m] [hn : IsNat b n] (hs : max a.length b.length ≤ cap := by exact Sz.le2 (by decide)) : PSpec Tryz.prog G 186 [natS a, natS b] (natS (dig (m - n))) := by
 refine zs Tryz.func186 ?_;refine zr ?_;refine zz ?_;refine zx ?_;(iterate 2 refine zz ?_);refine zf (sub_spec hs) ?_;(iterate 5 refine zz ?_);refine zx ?_;(iterate 2 refine zz ?_);refine zzn ?_;refine T_ret ?_
 exact ⟨_, [], .one (.tmp rfl), List.nil_sublist _, rfl, rfl⟩
theorem above_spec {a : List Nat} {n : Nat} (hs : n + a.length ≤ cap) : PSpec Tryz.prog G 188 [natS a, intS .i64 n] (natS (List.replicate n 0 ++ a)) := by
 unfold cap at hs
 refine zs Tryz.func188 ?_;refine zr ?_;refine zz ?_;refine zx ?_;refine zz ?_;refine Run.makeNat (n := n) (c := n) rfl rfl rfl rfl rfl rfl rfl (Nat.le_refl _) (by omega) (by unfold cap; omega) fun b6 hb6 => ?_;refine zz ?_;refine Run.append 0 rfl rfl rfl rfl rfl rfl rfl rfl hb6 (by rw [flat_u32_length, List.length_replicate]) flat_u32 (by unfold big; omega) (by unfold big; omega) fun q8 hq8 => ?_;refine Run.ghost _ rfl (ghost_sl 0 8 rfl rfl hq8 (l := List.replicate n 0 ++ a) (f := u32S) (by simp) List.flatMap_append.symm flat_u32 (by unfold big; omega)) ?_;refine zz ?_;refine zzn ?_;refine T_ret ?_
 exact ⟨_, [], .one (.tmp rfl), List.nil_sublist _, rfl, rfl⟩
end Go.Proofs
/- The product of prod: by halves, or limb by limb. -/
namespace Go.Proofs
open Go Go.Sv Num
variable {G : Imm}
instance isNat_shift {a : List Nat} {m n : Nat} [h : IsNat a m] : IsNat (List.replicate n 0 ++ a) (4294967296 ^ n * m) := isNat_above
instance sz_shift {a : List Nat} {n k : Nat} [h : Sz a k] : Sz (List.replicate n 0 ++ a) (n + k) := ⟨by have := h.h; simp; omega⟩
theorem add3_spec {a b c : List Nat} {m n o k l j : Nat} [ha : IsNat a m] [hb : IsNat b n] [hc : IsNat c o] [hk : Sz a k] [hl : Sz b l] [hj : Sz c j] (h : k + l + j + 3 ≤ cap) : PSpec Tryz.prog G 187 [slS 1 id [[natS a], [natS b], [natS c]]] (natS (dig (m + n + o))) := by
 have := add_spec (G := G) (ll := [a, b, c]) (fun l h => by simp at h; rcases h with rfl | rfl | rfl; exact ha.lim; exact hb.lim; exact hc.lim) (by have := hk.h; have := hl.h; have := hj.h; simp; omega)
 simp only [List.map_cons, List.map_nil, List.sum_cons, List.sum_nil, ha.val, hb.val, hc.val, Nat.add_zero, ← Nat.add_assoc] at this
 exact this
theorem sum_len {m n k l : Nat} [h : Bd m k] [h' : Bd n l] : (dig (m + n)).length ≤ max k l + 1 := dig_length_le (by
 have h1 := bd_le (l := max k l) h.h (Nat.le_refl _) (by omega)
 have h2 := bd_le (l := max k l) h'.h (Nat.le_refl _) (by omega)
 rw [pow_split]; omega)
theorem kara (p m0 m1 n0 n1 : Nat) : m0 * n0 + p * ((m0 + m1) * (n0 + n1) - (m0 * n0 + m1 * n1)) + p * p * (m1 * n1) = (m0 + p * m1) * (n0 + p * n1) := by
 have e : (m0 + m1) * (n0 + n1) - (m0 * n0 + m1 * n1) = m0 * n1 + m1 * n0 := by
  rw [Nat.add_mul, Nat.mul_add, Nat.mul_add]; omega
 rw [e]; grind
theorem mul1_spec (N : Nat) : ∀ (a b : List Nat) (m n : Nat), IsNat a m → IsNat b n → a.length + b.length ≤ N → 8 * (a.length + b.length) + 100 ≤ cap → PSpec Tryz.prog G 184 [natS a, natS b, mulP 184] (natS (dig (m * n))) := by
 refine Nat.strongRecOn N fun N ih => ?_
 intro a b m n hm hn hN hs
 have hs0 := hs
 unfold cap at hs
 obtain ⟨k, hk⟩ : ∃ k, k = max a.length b.length / 2 := ⟨_, rfl⟩
 refine zs Tryz.func184 ?_;refine zr ?_;refine zz ?_;refine zx ?_;(iterate 5 refine zz ?_);refine zo ((ok_quo rfl rfl rfl (by omega) (by omega) (wrap_i64 (by omega) (by omega))).sub (int_eq (n := ((k : Nat) : Int)) (by omega))) ?_;refine zz ?_;refine zzn ?_;refine T_seq ?_;refine zr ?_;(iterate 8 refine zz ?_);refine zzn ?_;refine zzc (fun h23 => ?_) fun h23 => ?_
 ·have k23 := of_decide_eq_true h23
  refine zr ?_;(iterate 2 refine zz ?_);refine zo (ok_call rfl rfl (plain_spec (by unfold cap; omega))) ?_;refine zz ?_;refine zzn ?_;refine T_ret ?_
  exact ⟨_, [], .one (.tmp rfl), List.nil_sublist _, rfl, rfl⟩
 ·have k23 := of_decide_eq_false h23
  haveI i1 : IsNat ((a.take k).drop 0) (val (a.take k)) := isNat_of (lim_take hm.lim k)
  haveI i2 : IsNat ((a.take a.length).drop k) (val (a.drop k)) := by rw [List.take_length]; exact isNat_of (lim_drop hm.lim k)
  haveI i3 : IsNat ((b.take k).drop 0) (val (b.take k)) := isNat_of (lim_take hn.lim k)
  haveI i4 : IsNat ((b.take b.length).drop k) (val (b.drop k)) := by rw [List.take_length]; exact isNat_of (lim_drop hn.lim k)
  haveI s1 : Sz ((a.take k).drop 0) k := ⟨by simp; omega⟩
  haveI s2 : Sz ((a.take a.length).drop k) (a.length - k) := ⟨by simp⟩
  haveI s3 : Sz ((b.take k).drop 0) k := ⟨by simp; omega⟩
  haveI s4 : Sz ((b.take b.length).drop k) (b.length - k) := ⟨by simp⟩
  haveI b1 := Bd.of_val i1 s1
  haveI b2 := Bd.of_val i2 s2
  haveI b3 := Bd.of_val i3 s3
  haveI b4 := Bd.of_val i4 s4
  have l1 := s1.h
  have l2 := s2.h
  have l3 := s3.h
  have l4 := s4.h
  have hea := val_take_drop a k (by omega)
  have heb := val_take_drop b k (by omega)
  rw [hm.val] at hea
  rw [hn.val] at heb
  generalize val (a.take k) = m0 at *
  generalize val (a.drop k) = m1 at *
  generalize val (b.take k) = n0 at *
  generalize val (b.drop k) = n1 at *
  have l5 := sum_len (m := m0) (n := m1)
  have l6 := sum_len (m := n0) (n := n1)
  have l7 := Sz.h (l := dig ((m0 + m1) * (n0 + n1) - (m0 * n0 + m1 * n1)))
  have l8 := Sz.h (l := dig (m1 * n1))
  refine T_skip ?_;refine T_drawS 18 (by kernel_rfl) ?_;refine zo (ok_load_self rfl rfl) ?_;(iterate 2 refine zz ?_);refine zo (ok_slice (lo := 0) (hi := k) (m := k) rfl rfl (.inl ⟨rfl, rfl⟩) (.inr ⟨_, _, rfl, rfl⟩) (.inl rfl) (by omega) (by omega)) ?_;(iterate 2 refine zz ?_);refine zo (ok_slice (lo := 0) (hi := k) (m := k) rfl rfl (.inl ⟨rfl, rfl⟩) (.inr ⟨_, _, rfl, rfl⟩) (.inl rfl) (by omega) (by omega)) ?_;refine zo (ok_callV rfl rfl rfl (ih (k + k) (by omega) _ _ _ _ i1 i3 (by omega) (by unfold cap; omega))) ?_;refine zo (ok_load_self rfl rfl) ?_;(iterate 2 refine zz ?_);refine zo (ok_slice (lo := k) (hi := a.length) (m := 0) rfl rfl (.inr ⟨_, _, rfl, rfl⟩) (.inl ⟨rfl, rfl, rfl⟩) (.inl rfl) (by omega) (Nat.le_refl _)) ?_;(iterate 2 refine zz ?_);refine zo (ok_slice (lo := k) (hi := b.length) (m := 0) rfl rfl (.inr ⟨_, _, rfl, rfl⟩) (.inl ⟨rfl, rfl, rfl⟩) (.inl rfl) (by omega) (Nat.le_refl _)) ?_;refine zo (ok_callV rfl rfl rfl (ih (a.length - k + (b.length - k)) (by omega) _ _ _ _ i2 i4 (by omega) (by unfold cap; omega))) ?_;(iterate 2 refine zz ?_);(iterate 2 refine zzn ?_);refine T_drawS 24 (by kernel_rfl) ?_;refine zo (ok_load_self rfl rfl) ?_;(iterate 2 refine zz ?_);refine zo (ok_slice (lo := 0) (hi := k) (m := k) rfl rfl (.inl ⟨rfl, rfl⟩) (.inr ⟨_, _, rfl, rfl⟩) (.inl rfl) (by omega) (by omega)) ?_;(iterate 2 refine zz ?_);refine zo (ok_slice (lo := k) (hi := a.length) (m := 0) rfl rfl (.inr ⟨_, _, rfl, rfl⟩) (.inl ⟨rfl, rfl, rfl⟩) (.inl rfl) (by omega) (Nat.le_refl _)) ?_;refine zo (ok_buildSlice rfl rfl (by decide) rfl (by simp) rfl rfl) ?_;refine zo (ok_call rfl rfl (add2_spec (by unfold cap; omega))) ?_;(iterate 2 refine zz ?_);refine zo (ok_slice (lo := 0) (hi := k) (m := k) rfl rfl (.inl ⟨rfl, rfl⟩) (.inr ⟨_, _, rfl, rfl⟩) (.inl rfl) (by omega) (by omega)) ?_;(iterate 2 refine zz ?_);refine zo (ok_slice (lo := k) (hi := b.length) (m := 0) rfl rfl (.inr ⟨_, _, rfl, rfl⟩) (.inl ⟨rfl, rfl, rfl⟩) (.inl rfl) (by omega) (Nat.le_refl _)) ?_;refine zo (ok_buildSlice rfl rfl (by decide) rfl (by simp) rfl rfl) ?_;refine zo (ok_call rfl rfl (add2_spec (by unfold cap; omega))) ?_;refine zo (ok_callV rfl rfl rfl (ih ((dig (m0 + m1)).length + (dig (n0 + n1)).length) (by omega) _ _ _ _ isNat_dig isNat_dig (Nat.le_refl _) (by unfold cap; omega))) ?_;(iterate 2 refine zz ?_);refine zo (ok_buildSlice rfl rfl (by decide) rfl (by simp) rfl rfl) ?_;refine zo (ok_call rfl rfl (add2_spec (by unfold cap; omega))) ?_;refine zo (ok_call rfl rfl (less_spec (Sz.le2 (by unfold cap; omega)))) ?_;refine zz ?_;refine zzn ?_;refine zx ?_;(iterate 3 refine zz ?_);refine zo (ok_call rfl rfl (above_spec (by unfold cap; omega))) ?_;(iterate 2 refine zz ?_);refine za ((2 * k : Nat) : Int) ?_;refine zo (ok_call rfl rfl (above_spec (by unfold cap; omega))) ?_;refine zo (ok_buildSlice rfl rfl (by decide) rfl (by simp) rfl rfl) ?_;refine zo (ok_call rfl rfl (add3_spec (by unfold cap; omega))) ?_;refine zz ?_;refine zzn ?_;refine T_ret ?_
  exact ⟨_, [], .one (.tmp rfl), List.nil_sublist _, congrArg natS (congrArg dig (by rw [hea, heb, ← kara, Nat.two_mul, Nat.pow_add])), rfl⟩
theorem mul_spec {a b : List Nat} {m n k l : Nat} [hm : IsNat a m] [hn : IsNat b n] [hk : Sz a k] [hl : Sz b l] (h : 8 * (k + l) + 100 ≤ cap := by decide) : PSpec Tryz.prog G 143 [natS a, natS b] (natS (dig (m * n))) := by
 have h1 := hk.h
 have h2 := hl.h
 have h3 : (dig m).length ≤ k := by have := Bd.of_val hm hk; exact dig_length_le this.h
 have h4 : (dig n).length ≤ l := by have := Bd.of_val hn hl; exact dig_length_le this.h
 refine zs Tryz.func143 ?_;refine zr ?_;refine zz ?_;refine zx ?_;refine zzv fun b5 => ?_;refine zx ?_;refine zz ?_;refine zw ?_;refine Run.ghost _ rfl (ghost_self 0 5 rfl rfl) ?_;refine zzn ?_;refine T_drawS 7 (by kernel_rfl) ?_;refine zo (ok_load_self rfl rfl) ?_;refine zz ?_;refine zo (ok_call rfl rfl (trim_spec (by omega))) ?_;refine zz ?_;refine zo (ok_call rfl rfl (trim_spec (by omega))) ?_;refine zo (ok_callV rfl rfl rfl (mul1_spec _ _ _ _ _ isNat_dig isNat_dig (Nat.le_refl _) (by omega))) ?_;refine zz ?_;(iterate 2 refine zzn ?_);refine T_ret ?_
 exact ⟨_, [], .one (.tmp rfl), List.nil_sublist _, rfl, rfl⟩
end Go.Proofs
/- Shifts: straitref02 and prod, up and down; Mul32. -/
namespace Go.Proofs
open Go Go.Sv Num
variable {G : Imm}
theorem bitI_or32 {x y : Nat} (hx : x < 4294967296) (hy : y < 4294967296) : bitI .or .u32 x y = ((x ||| y : Nat) : Int) := by
 have h : x ||| y < 2 ^ 32 := Nat.or_lt_two_pow (by simpa using hx) (by simpa using hy)
 have e1 : (BitVec.ofInt 32 (x : Int)).toNat = x := by simp; omega
 have e2 : (BitVec.ofInt 32 (y : Int)).toNat = y := by simp; omega
 show IntKind.u32.wrap ((BitVec.ofInt 32 (x : Int) ||| BitVec.ofInt 32 (y : Int)).toNat : Nat) = _
 rw [BitVec.toNat_or, e1, e2, wrap_u32 (by omega) (by simp at h; omega)]
theorem or_add {x y s : Nat} (h : x % 2 ^ s = 0) (hy : y < 2 ^ s) : x ||| y = x + y := by
 have := Nat.shiftLeft_add_eq_or_of_lt hy (x / 2 ^ s)
 rw [Nat.shiftLeft_eq, Nat.div_mul_cancel (Nat.dvd_of_mod_eq_zero h)] at this
 exact this.symm
theorem shlN (x s : Nat) : (x : Int) * 2 ^ ((s : Nat) : Int).toNat = ((x * 2 ^ s : Nat) : Int) := by simp [Int.natCast_mul, Int.natCast_pow]
theorem shrN (x s : Nat) : (x : Int) / 2 ^ ((s : Nat) : Int).toNat = ((x / 2 ^ s : Nat) : Int) := by simp [Int.natCast_ediv, Int.natCast_pow]
theorem pow32 {s : Nat} (hs : s ≤ 32) : 4294967296 = 2 ^ s * 2 ^ (32 - s) := by rw [← Nat.pow_add, show s + (32 - s) = 32 by omega]
theorem up_step {x s c : Nat} (hs : s ≤ 32) (hc : c < 2 ^ s) : (x * 2 ^ s) % 4294967296 ||| c = (x * 2 ^ s + c) % 4294967296 ∧ (x * 2 ^ s) / 4294967296 = (x * 2 ^ s + c) / 4294967296 := by
 have hd : 2 ^ s ∣ 4294967296 := ⟨2 ^ (32 - s), pow32 hs⟩
 have h0 : (x * 2 ^ s) % 4294967296 % 2 ^ s = 0 := by rw [Nat.mod_mod_of_dvd _ hd, Nat.mul_mod_left]
 have hlt := Nat.mod_lt (x * 2 ^ s) (show 0 < 4294967296 by omega)
 have hle : (x * 2 ^ s) % 4294967296 + 2 ^ s ≤ 4294967296 := by
  obtain ⟨v, hv⟩ := Nat.dvd_of_mod_eq_zero h0
  rw [hv] at hlt ⊢
  have e := pow32 hs
  generalize 2 ^ (32 - s) = y at e
  rw [e] at hlt ⊢
  have := Nat.lt_of_mul_lt_mul_left hlt
  calc 2 ^ s * v + 2 ^ s = 2 ^ s * (v + 1) := by rw [Nat.mul_add, Nat.mul_one]
   _ ≤ 2 ^ s * y := Nat.mul_le_mul_left _ this
 rw [or_add h0 hc]
 generalize x * 2 ^ s = u at *
 omega
theorem limb_dig (j : Nat) : ∀ n : Nat, limb (dig n) j = n / 4294967296 ^ j % 4294967296 := by
  induction j with
  | zero =>
    intro n
    by_cases h : n = 0
    · subst h; rw [dig_zero]; rfl
    · rw [dig_pos h, limb_zero, Nat.pow_zero, Nat.div_one]
  | succ j ih =>
    intro n
    by_cases h : n = 0
    · subst h; rw [dig_zero, limb_nil, Nat.zero_div, Nat.zero_mod]
    · rw [dig_pos h, limb_succ, ih, Nat.div_div_eq_div_mul, Nat.mul_comm, ← Nat.pow_succ]
theorem val_div {a : List Nat} (ha : Lim a) (w : Nat) : val a / 4294967296 ^ w = val (a.drop w) := by
 rw [low_split a w, Nat.add_mul_div_left _ _ (Nat.pow_pos (by omega)), Nat.div_eq_of_lt (low_lt ha w), Nat.zero_add]
theorem down_digit {a : List Nat} (ha : Lim a) {w s j : Nat} (hs : s ≤ 32) : limb (dig (val (a.drop w) / 2 ^ s)) j = (limb a (w + j) + 4294967296 * limb a (w + j + 1)) / 2 ^ s % 4294967296 := by
 rw [limb_dig, Nat.div_div_eq_div_mul, Nat.mul_comm, ← Nat.div_div_eq_div_mul, val_div (lim_drop ha w), List.drop_drop, drop_val, drop_val]
 have e := pow32 hs
 generalize val (List.drop (w + j + 1 + 1) a) = r
 generalize limb a (w + j) = x
 generalize limb a (w + j + 1) = y
 have e2 : x + 4294967296 * (y + 4294967296 * r) = x + 4294967296 * y + 2 ^ s * (2 ^ (32 - s) * r * 4294967296) := by
  rw [Nat.mul_add, ← Nat.add_assoc]
  congr 1
  generalize 2 ^ s = p at *
  generalize 2 ^ (32 - s) = q at *
  rw [← Nat.mul_assoc, Nat.mul_right_comm q r, ← Nat.mul_assoc, ← Nat.mul_assoc, ← e]
 rw [e2, Nat.add_mul_div_left _ _ (Nat.pow_pos (by omega)), Nat.add_mul_mod_self_right]
theorem two_pow_split (k : Nat) : 2 ^ k = 4294967296 ^ (k / 32) * 2 ^ (k % 32) := by
 rw [show (4294967296 : Nat) = 2 ^ 32 by rfl, ← Nat.pow_mul, ← Nat.pow_add, Nat.div_add_mod]
theorem div_pow {a : List Nat} (ha : Lim a) (k : Nat) : val a / 2 ^ k = val (a.drop (k / 32)) / 2 ^ (k % 32) := by
 rw [two_pow_split, ← Nat.div_div_eq_div_mul, val_div ha]
theorem p2_le {s : Nat} (h : s < 32) : 2 ^ s ≤ 2147483648 := Nat.pow_le_pow_right (n := 2) (by omega) (show s ≤ 31 by omega)
theorem up_lt {x s c : Nat} (hx : x < 4294967296) (hs : s < 32) (hc : c < 2 ^ s) : x * 2 ^ s < 9223372036854775808 ∧ (x * 2 ^ s + c) / 4294967296 < 2 ^ s := by
 have h1 := p2_le hs
 have h2 := Nat.mul_le_mul (show x ≤ 4294967295 by omega) h1
 refine ⟨by omega, ?_⟩
 rw [Nat.div_lt_iff_lt_mul (by omega)]
 have h3 : (x + 1) * 2 ^ s ≤ 4294967296 * 2 ^ s := Nat.mul_le_mul_right _ (by omega)
 rw [Nat.add_mul, Nat.one_mul] at h3
 rw [Nat.mul_comm _ 4294967296]; omega
theorem up_val {v p c x q ps l pi : Nat} (hp : p = q * pi) (h : v + p * c = q * (ps * l)) : v + p * ((x * ps + c) % 4294967296) + p * 4294967296 * ((x * ps + c) / 4294967296) = q * (ps * (l + pi * x)) := by
 have e : p * ((x * ps + c) % 4294967296) + p * 4294967296 * ((x * ps + c) / 4294967296) = p * (x * ps) + p * c := by
  rw [Nat.mul_assoc, ← Nat.mul_add, Nat.mod_add_div, Nat.mul_add]
 have e2 : q * (ps * (l + pi * x)) = q * (ps * l) + p * (x * ps) := by subst hp; grind
 omega
theorem limb_snoc {l : List Nat} {n x : Nat} {f : Nat → Nat} (hl : l.length = n) (h : ∀ t, t < n → limb l t = f t) {t : Nat} (ht : t < n + 1) (hx : x = f n := by rfl) : limb (l ++ [x]) t = f t := by
 by_cases h1 : t < n
 ·rw [← h t h1]; simp only [limb, List.getD_eq_getElem?_getD]; rw [List.getElem?_append_left (by omega)]
 ·have : t = n := by omega
  subst this; subst hx; subst hl
  simp [limb, List.getD_eq_getElem?_getD]
theorem mul32_spec {x y : Nat} (hx : x < 4294967296) (hy : y < 4294967296) : PSpec Tryz.prog G 259 [intS .u32 x, intS .u32 y] (tupS [intS .u32 (x * y / 4294967296 : Nat), intS .u32 (x * y % 4294967296 : Nat)]) := by
 have hxy := Nat.mul_le_mul (show x ≤ 4294967295 by omega) (show y ≤ 4294967295 by omega)
 obtain ⟨w, hw⟩ : ∃ w, w = x * y := ⟨_, rfl⟩
 rw [← hw] at hxy ⊢
 refine zs Tryz.func259 ?_;refine zr ?_;(iterate 2 refine zz ?_);refine zx ?_;(iterate 4 refine zz ?_);refine zo (ok_ari (z := ((w : Nat) : Int)) rfl rfl rfl (congrArg some (by rw [hw, Int.natCast_mul])) (wrap_u64 (by omega) (by omega))) ?_;refine zz ?_;refine zx ?_;refine zz ?_;refine zo ((ok_shr rfl rfl rfl (by omega) (by simp [IntKind.bits])).sub (int_eq (shr32 _))) ?_;(iterate 2 refine zz ?_);refine zo (ok_conv (z := ((w % 4294967296 : Nat) : Int)) rfl rfl wrap_u32_mod) ?_;(iterate 2 refine zz ?_);refine zzn ?_;refine T_ret ?_
 exact ⟨_, [], .many (.cons (.tmp rfl) (.cons (.tmp rfl) (.nil))), List.nil_sublist _, rfl, rfl⟩
theorem rup_spec {a : List Nat} {m k : Nat} [hm : IsNat a m] (hk : k ≤ 65536) (hs : a.length + 10000 ≤ cap) : PSpec Tryz.prog G 171 [natS a, intS .i64 k] (natS (dig (m * 2 ^ k))) := by
 unfold cap at hs
 have hsl : k % 32 < 32 := Nat.mod_lt _ (by omega)
 refine zs Tryz.func171 ?_;refine zr ?_;refine zz ?_;refine zx ?_;refine zz ?_;refine zo ((ok_call rfl rfl rcount_spec).sub (int_eq (n := ((k : Nat) : Int)) (by omega))) ?_;refine zz ?_;refine zx ?_;refine zz ?_;refine zo ((ok_quo rfl rfl rfl (by omega) (by omega) (wrap_i64 (by omega) (by omega))).sub (int_eq (n := ((k / 32 : Nat) : Int)) (by omega))) ?_;refine Run.makeNat (n := k / 32) (c := k / 32) rfl rfl rfl rfl rfl rfl rfl (Nat.le_refl _) (by omega) (by unfold cap; omega) fun b13 hb13 => ?_;refine zz ?_;refine zx ?_;refine zz ?_;refine zzn ?_;refine T_seq ?_;refine zr ?_;refine zz ?_;refine zzn ?_;refine T_block ?_
 refine T_loop4 (fun i q c out => ⟨_, [(7, intS .i64 (i : Nat)), (6, intS .u32 (c : Nat)), (5, eqS (rowV q (k / 32 + i))), (1, intS .i64 (k : Nat)), (0, natS a)], [rowE q 93 1 (k / 32 + i) (out.flatMap u32S)], [], (0, false)⟩)
   (fun i q c out => i ≤ a.length ∧ rowOk q (k / 32 + i) ∧ c < 2 ^ (k % 32) ∧ Lim out ∧ out.length = k / 32 + i ∧ val out + 4294967296 ^ (k / 32 + i) * c = 4294967296 ^ (k / 32) * (2 ^ (k % 32) * low a i)) (fun i q c out => a.length - i)
   0 (some (b13, k / 32)) 0 (List.replicate (k / 32) 0) ⟨Nat.zero_le _, hb13, Nat.pow_pos (by omega), lim_replicate _, List.length_replicate, by rw [val_replicate_zero, low_zero, Nat.mul_zero, Nat.mul_zero, Nat.mul_zero]⟩ (ent_h (subG_cons rfl (subG_cons rfl (subG_cons rfl (subG_cons rfl (subG_cons rfl trivial))))) rfl) ?_
 rintro i q c out ⟨hi, hq, hc, hlo, hln, hval⟩
 have hp2 := p2_le hsl
 refine T_seq ?_;refine zr ?_;(iterate 4 refine zz ?_);refine zzn ?_;refine zzc (fun h17 => ?_) fun h17 => ?_
 ·have k17 := of_decide_eq_true h17
  have hx := limb_lt hm.lim i
  obtain ⟨hu1, hu2⟩ := up_lt hx hsl hc
  obtain ⟨hu3, hu4⟩ := up_step (x := limb a i) (by omega) hc
  refine T_skip ?_;refine T_seq ?_;refine T_block ?_;refine zr ?_;(iterate 2 refine zz ?_);refine zo (ok_indexAddr rfl rfl rfl (by omega) (y := limb a i) (limb_get (by omega))) ?_;(iterate 3 refine zz ?_);refine zo ((ok_rem rfl rfl rfl (by omega) (by omega)).sub (int_eq (n := ((k % 32 : Nat) : Int)) (by omega))) ?_;refine zz ?_;refine zo ((ok_shl rfl rfl rfl (by omega) (by simp [IntKind.bits]; omega)).sub (int_eq (n := ((limb a i * 2 ^ (k % 32) : Nat) : Int)) (by rw [shlN]; exact wrap_u64 (by omega) (by omega)))) ?_;refine zz ?_;refine zx ?_;(iterate 2 refine zz ?_);refine zo (ok_conv (z := ((limb a i * 2 ^ (k % 32) % 4294967296 : Nat) : Int)) rfl rfl wrap_u32_mod) ?_;refine zz ?_;refine zo ((ok_bits rfl (by simp) rfl rfl).sub (int_eq (n := (((limb a i * 2 ^ (k % 32) + c) % 4294967296 : Nat) : Int)) (by rw [bitI_or32 (by omega) (by omega), hu3]))) ?_;refine zo (ok_buildNat [(limb a i * 2 ^ (k % 32) + c) % 4294967296] rfl rfl (by decide) rfl (by simp) rfl rfl rfl) ?_;refine Run.append 0 rfl rfl rfl rfl rfl rfl rfl rfl hq (by rw [flat_u32_length, hln]) flat_u32 (by unfold big; simp; omega) (by unfold big; simp; omega) fun q35 hq35 => ?_;refine zz ?_;refine zzn ?_;refine T_region ?_;refine zz ?_;refine zo ((ok_shr rfl rfl rfl (by omega) (by simp [IntKind.bits])).sub (int_eq ((shr32 _).trans (by rw [hu4])))) ?_;(iterate 2 refine zz ?_);refine zzn ?_;refine T_region ?_;(iterate 3 refine zz ?_);refine zzn ?_
  refine ⟨i + 1, q35, (limb a i * 2 ^ (k % 32) + c) / 4294967296, out ++ [(limb a i * 2 ^ (k % 32) + c) % 4294967296], ⟨by omega, hq35, hu2, lim_snoc hlo (by omega), by simp [hln]; omega, ?_⟩, by omega, ent_h (subG_cons rfl (subG_cons rfl (subG_cons rfl (subG_cons rfl (subG_cons rfl trivial))))) (by rw [List.flatMap_append]; rfl)⟩
  rw [val_snoc, hln, low_succ, show k / 32 + (i + 1) = k / 32 + i + 1 by omega, pow_split]; exact up_val (Nat.pow_add _ _ _) hval
 ·have k17 := of_decide_eq_false h17
  have hia : i = a.length := by omega
  rw [hia, low_all (Nat.le_refl _), hm.val] at hval
  refine T_exit ?_;refine zr ?_;(iterate 2 refine zz ?_);refine zo (ok_buildNat [c] rfl rfl (by decide) rfl (by simp) rfl rfl rfl) ?_;refine Run.append 0 rfl rfl rfl rfl rfl rfl rfl rfl hq (by rw [flat_u32_length, hln]) flat_u32 (by unfold big; simp; omega) (by unfold big; simp; omega) fun q42 hq42 => ?_;refine Run.ghost _ rfl (ghost_sl 0 42 rfl rfl hq42 (l := out ++ [c]) (f := u32S) (by simp [hln]) List.flatMap_append.symm flat_u32 (by unfold big; simp; omega)) ?_
  have : IsNat (out ++ [c]) (m * 2 ^ k) := ⟨lim_snoc hlo (by omega), by rw [val_snoc, hln, hia, hval, two_pow_split k, Nat.mul_comm m, Nat.mul_assoc]⟩
  refine zo (ok_call rfl rfl (rtrim_spec (by unfold cap; simp; omega))) ?_;refine zz ?_;refine zzn ?_;refine T_ret ?_
  exact ⟨_, [], .one (.tmp rfl), List.nil_sublist _, rfl, rfl⟩
theorem up_spec {a : List Nat} {m k : Nat} [hm : IsNat a m] (hk : k ≤ 65536) (hs : a.length + 10000 ≤ cap) : PSpec Tryz.prog G 247 [natS a, intS .i64 k] (natS (dig (m * 2 ^ k))) := by
 unfold cap at hs
 have hsl : k % 32 < 32 := Nat.mod_lt _ (by omega)
 refine zs Tryz.func247 ?_;refine zr ?_;refine zz ?_;refine zx ?_;refine zz ?_;refine zo ((ok_call rfl rfl count_spec).sub (int_eq (n := ((k : Nat) : Int)) (by omega))) ?_;refine zz ?_;refine zx ?_;refine zz ?_;refine zo ((ok_quo rfl rfl rfl (by omega) (by omega) (wrap_i64 (by omega) (by omega))).sub (int_eq (n := ((k / 32 : Nat) : Int)) (by omega))) ?_;refine zz ?_;refine zo ((ok_quo rfl rfl rfl (by omega) (by omega) (wrap_i64 (by omega) (by omega))).sub (int_eq (n := ((k / 32 : Nat) : Int)) (by omega))) ?_;(iterate 3 refine zz ?_);refine za ((k / 32 + a.length + 1 : Nat) : Int) ?_;refine Run.makeNat (n := k / 32) (c := k / 32 + a.length + 1) rfl rfl rfl rfl rfl rfl rfl (by omega) (by omega) (by unfold cap; omega) fun b13 hb13 => ?_;refine zz ?_;refine zx ?_;refine zz ?_;refine zzn ?_;refine T_seq ?_;refine zr ?_;(iterate 3 refine zz ?_);refine zzn ?_;refine T_block ?_
 refine T_loop4 (fun i q c out => ⟨_, [(24, intS .i64 (i : Nat)), (23, intS .i64 a.length), (22, natS a), (6, intS .u32 (c : Nat)), (5, eqS (rowV q (k / 32 + i))), (1, intS .i64 (k : Nat))], [rowE q 93 1 (k / 32 + i) (out.flatMap u32S)], [], (0, false)⟩)
   (fun i q c out => i ≤ a.length ∧ rowOk q (k / 32 + i) ∧ c < 2 ^ (k % 32) ∧ Lim out ∧ out.length = k / 32 + i ∧ val out + 4294967296 ^ (k / 32 + i) * c = 4294967296 ^ (k / 32) * (2 ^ (k % 32) * low a i)) (fun i q c out => a.length - i)
   0 (some (b13, k / 32 + a.length + 1)) 0 (List.replicate (k / 32) 0) ⟨Nat.zero_le _, hb13, Nat.pow_pos (by omega), lim_replicate _, List.length_replicate, by rw [val_replicate_zero, low_zero, Nat.mul_zero, Nat.mul_zero, Nat.mul_zero]⟩ (ent_h (subG_cons rfl (subG_cons rfl (subG_cons rfl (subG_cons rfl (subG_cons rfl (subG_cons rfl trivial)))))) rfl) ?_
 rintro i q c out ⟨hi, hq, hc, hlo, hln, hval⟩
 have hp2 := p2_le hsl
 refine zr ?_;refine zz ?_;refine zzn ?_;refine T_seq ?_;refine zzc (fun h25 => ?_) fun h25 => ?_
 ·have k25 := of_decide_eq_true h25
  have hx := limb_lt hm.lim i
  obtain ⟨hu1, hu2⟩ := up_lt hx hsl hc
  obtain ⟨hu3, hu4⟩ := up_step (x := limb a i) (by omega) hc
  refine T_skip ?_;refine T_seq ?_;refine T_block ?_;refine zr ?_;refine zo (ok_indexAddr rfl rfl rfl (by omega) (y := limb a i) (limb_get (by omega))) ?_;(iterate 2 refine zz ?_);refine zx ?_;(iterate 2 refine zz ?_);refine zo ((ok_rem rfl rfl rfl (by omega) (by omega)).sub (int_eq (n := ((k % 32 : Nat) : Int)) (by omega))) ?_;refine zo ((ok_shl rfl rfl rfl (by omega) (by simp [IntKind.bits]; omega)).sub (int_eq (n := ((2 ^ (k % 32) : Nat) : Int)) (by have := shlN 1 (k % 32); rw [Nat.one_mul] at this; refine (congrArg _ this).trans ?_; exact wrap_u32 (by omega) (by omega)))) ?_;refine zo (ok_call rfl rfl (mul32_spec hx (by omega))) ?_;(iterate 5 refine zz ?_);refine zzn ?_;refine T_region ?_;(iterate 3 refine zz ?_);refine zo ((ok_bits rfl (by simp) rfl rfl).sub (int_eq (n := (((limb a i * 2 ^ (k % 32) + c) % 4294967296 : Nat) : Int)) (by rw [bitI_or32 (by omega) (by omega), hu3]))) ?_;refine zo (ok_buildNat [(limb a i * 2 ^ (k % 32) + c) % 4294967296] rfl rfl (by decide) rfl (by simp) rfl rfl rfl) ?_;refine Run.append 0 rfl rfl rfl rfl rfl rfl rfl rfl hq (by rw [flat_u32_length, hln]) flat_u32 (by unfold big; simp; omega) (by unfold big; simp; omega) fun q35 hq35 => ?_;refine zo ((ok_move rfl rfl).sub (int_eq (n := (((limb a i * 2 ^ (k % 32) + c) / 4294967296 : Nat) : Int)) (by rw [hu4]))) ?_;(iterate 2 refine zz ?_);refine zzn ?_;refine T_region ?_;(iterate 2 refine zz ?_);refine zzn ?_
  refine ⟨i + 1, q35, (limb a i * 2 ^ (k % 32) + c) / 4294967296, out ++ [(limb a i * 2 ^ (k % 32) + c) % 4294967296], ⟨by omega, hq35, hu2, lim_snoc hlo (by omega), by simp [hln]; omega, ?_⟩, by omega, ent_h (subG_cons rfl (subG_cons rfl (subG_cons rfl (subG_cons rfl (subG_cons rfl (subG_cons rfl trivial)))))) (by rw [List.flatMap_append]; rfl)⟩
  rw [val_snoc, hln, low_succ, show k / 32 + (i + 1) = k / 32 + i + 1 by omega, pow_split]; exact up_val (Nat.pow_add _ _ _) hval
 ·have k25 := of_decide_eq_false h25
  have hia : i = a.length := by omega
  rw [hia, low_all (Nat.le_refl _), hm.val] at hval
  refine T_exit ?_;refine zr ?_;(iterate 2 refine zz ?_);refine zo (ok_buildNat [c] rfl rfl (by decide) rfl (by simp) rfl rfl rfl) ?_;refine Run.append 0 rfl rfl rfl rfl rfl rfl rfl rfl hq (by rw [flat_u32_length, hln]) flat_u32 (by unfold big; simp; omega) (by unfold big; simp; omega) fun q42 hq42 => ?_;refine Run.ghost _ rfl (ghost_sl 0 47 rfl rfl hq42 (l := out ++ [c]) (f := u32S) (by simp [hln]) List.flatMap_append.symm flat_u32 (by unfold big; simp; omega)) ?_
  have : IsNat (out ++ [c]) (m * 2 ^ k) := ⟨lim_snoc hlo (by omega), by rw [val_snoc, hln, hia, hval, two_pow_split k, Nat.mul_comm m, Nat.mul_assoc]⟩
  refine zo (ok_call rfl rfl (trim_spec (by unfold cap; simp; omega))) ?_;refine zz ?_;refine zzn ?_;refine T_ret ?_
  exact ⟨_, [], .one (.tmp rfl), List.nil_sublist _, rfl, rfl⟩
theorem rdown_spec {a : List Nat} {m k : Nat} [hm : IsNat a m] (hk : k ≤ 65536) (hs : a.length ≤ cap) : PSpec Tryz.prog G 194 [natS a, intS .i64 k] (natS (dig (m / 2 ^ k))) := by
 unfold cap at hs
 have hsl : k % 32 < 32 := Nat.mod_lt _ (by omega)
 have hd := div_pow hm.lim k
 rw [hm.val] at hd
 refine zs Tryz.func194 ?_;refine zr ?_;refine zz ?_;refine zx ?_;refine zz ?_;refine zo ((ok_call rfl rfl rcount_spec).sub (int_eq (n := ((k : Nat) : Int)) (by omega))) ?_;refine zz ?_;refine zx ?_;refine Run.ghost _ rfl (ghost_row 93 1) ?_;refine zz ?_;refine zzn ?_;refine T_seq ?_;refine zr ?_;refine zz ?_;refine zo ((ok_quo rfl rfl rfl (by omega) (by omega) (wrap_i64 (by omega) (by omega))).sub (int_eq (n := ((k / 32 + 0 : Nat) : Int)) (by omega))) ?_;refine zz ?_;refine zzn ?_;refine T_block ?_
 refine T_loop3 (fun j q out => ⟨_, [(6, intS .i64 (k / 32 + j : Nat)), (5, eqS (rowV q j)), (1, intS .i64 (k : Nat)), (0, natS a)], [rowE q 93 1 j (out.flatMap u32S)], [], (0, false)⟩)
   (fun j q out => (j = 0 ∨ k / 32 + j ≤ a.length) ∧ rowOk q j ∧ Lim out ∧ out.length = j ∧ ∀ t, t < j → limb out t = limb (dig (m / 2 ^ k)) t) (fun j q out => a.length - (k / 32 + j))
   0 none [] ⟨.inl rfl, rfl, lim_nil, rfl, fun t h => by omega⟩ (ent_h zk rfl) ?_
 rintro j q out ⟨hj, hq, hlo, hln, hz⟩
 refine T_seq ?_;refine zr ?_;(iterate 4 refine zz ?_);refine zzn ?_;refine zzc (fun h15 => ?_) fun h15 => ?_
 ·have k15 := of_decide_eq_true h15
  have hx := limb_lt hm.lim (k / 32 + j)
  have hy := limb_lt hm.lim (k / 32 + j + 1)
  obtain ⟨v, hv⟩ : ∃ v, v = limb a (k / 32 + j) + 4294967296 * limb a (k / 32 + j + 1) := ⟨_, rfl⟩
  have hdg := down_digit hm.lim (w := k / 32) (s := k % 32) (j := j) (by omega)
  rw [← hd, ← hv] at hdg
  refine T_skip ?_;refine T_seq ?_;refine T_block ?_;refine zr ?_;(iterate 2 refine zz ?_);refine zo (ok_indexAddr rfl rfl rfl (by omega) (y := limb a (k / 32 + j)) (limb_get (by omega))) ?_;(iterate 3 refine zz ?_);refine zzn ?_;refine T_seq ?_;refine zr ?_;refine zz ?_;refine za ((k / 32 + j + 1 : Nat) : Int) ?_;(iterate 3 refine zz ?_);refine zzn ?_;refine zzc (fun h27 => ?_) fun h27 => ?_
  ·have k27 := of_decide_eq_true h27
   refine T_region ?_;(iterate 3 refine zz ?_);refine za ((k / 32 + j + 1 : Nat) : Int) ?_;refine zo (ok_indexAddr rfl rfl rfl (by omega) (y := limb a (k / 32 + j + 1)) (limb_get (by omega))) ?_;(iterate 2 refine zz ?_);refine zo ((ok_shl rfl rfl rfl (by omega) (by simp [IntKind.bits])).sub (int_eq (n := ((4294967296 * limb a (k / 32 + j + 1) : Nat) : Int)) ((wrap_u64 (by simp; omega) (by simp; omega)).trans (by simp; omega)))) ?_;refine zo ((ok_bits rfl (by simp) rfl rfl).sub (int_eq (n := ((v : Nat) : Int)) (by rw [bitI_or (by omega) (by omega), Nat.or_comm, or_high hx]; omega))) ?_;refine zz ?_;refine zzn ?_;refine T_region ?_;refine zz ?_;refine zo ((ok_move rfl rfl).sub (int_eq (n := ((v : Nat) : Int)) (by omega))) ?_;refine zz ?_;refine zo ((ok_rem rfl rfl rfl (by omega) (by omega)).sub (int_eq (n := ((k % 32 : Nat) : Int)) (by omega))) ?_;refine zz ?_;refine zo ((ok_shr rfl rfl rfl (by omega) (by simp [IntKind.bits]; omega)).sub (int_eq (shrN v (k % 32)))) ?_;refine zo (ok_conv (z := ((limb (dig (m / 2 ^ k)) j : Nat) : Int)) rfl rfl (wrap_u32_mod.trans (by rw [hdg]; rfl))) ?_;refine zo (ok_buildNat [limb (dig (m / 2 ^ k)) j] rfl rfl (by decide) rfl (by simp) rfl rfl rfl) ?_;refine Run.append 0 rfl rfl rfl rfl rfl rfl rfl rfl hq (by rw [flat_u32_length, hln]) flat_u32 (by unfold big; simp; omega) (by unfold big; simp; omega) fun q45 hq45 => ?_;refine zz ?_;refine zzn ?_;refine T_region ?_;refine zz ?_;refine za ((k / 32 + (j + 1) : Nat) : Int) ?_;refine zz ?_;refine zzn ?_
   exact ⟨j + 1, q45, out ++ [limb (dig (m / 2 ^ k)) j], ⟨by omega, hq45, lim_snoc hlo (limb_lt (lim_dig _) _), by simp [hln], fun t ht => limb_snoc (f := limb (dig (m / 2 ^ k))) hln hz ht⟩, by omega, ent_h (subG_cons rfl (subG_cons rfl (subG_cons rfl (subG_cons rfl trivial)))) (by rw [List.flatMap_append]; rfl)⟩
  ·have k27 := of_decide_eq_false h27
   have hy0 : limb a (k / 32 + j + 1) = 0 := limb_out (by omega)
   refine T_skip ?_;refine T_region ?_;refine zz ?_;refine zo ((ok_move rfl rfl).sub (int_eq (n := ((v : Nat) : Int)) (by omega))) ?_;refine zz ?_;refine zo ((ok_rem rfl rfl rfl (by omega) (by omega)).sub (int_eq (n := ((k % 32 : Nat) : Int)) (by omega))) ?_;refine zz ?_;refine zo ((ok_shr rfl rfl rfl (by omega) (by simp [IntKind.bits]; omega)).sub (int_eq (shrN v (k % 32)))) ?_;refine zo (ok_conv (z := ((limb (dig (m / 2 ^ k)) j : Nat) : Int)) rfl rfl (wrap_u32_mod.trans (by rw [hdg]; rfl))) ?_;refine zo (ok_buildNat [limb (dig (m / 2 ^ k)) j] rfl rfl (by decide) rfl (by simp) rfl rfl rfl) ?_;refine Run.append 0 rfl rfl rfl rfl rfl rfl rfl rfl hq (by rw [flat_u32_length, hln]) flat_u32 (by unfold big; simp; omega) (by unfold big; simp; omega) fun q45 hq45 => ?_;refine zz ?_;refine zzn ?_;refine T_region ?_;refine zz ?_;refine za ((k / 32 + (j + 1) : Nat) : Int) ?_;refine zz ?_;refine zzn ?_
   exact ⟨j + 1, q45, out ++ [limb (dig (m / 2 ^ k)) j], ⟨by omega, hq45, lim_snoc hlo (limb_lt (lim_dig _) _), by simp [hln], fun t ht => limb_snoc (f := limb (dig (m / 2 ^ k))) hln hz ht⟩, by omega, ent_h (subG_cons rfl (subG_cons rfl (subG_cons rfl (subG_cons rfl trivial)))) (by rw [List.flatMap_append]; rfl)⟩
 ·have k15 := of_decide_eq_false h15
  refine T_exit ?_;refine zr ?_
  have hql : (dig (m / 2 ^ k)).length ≤ a.length - k / 32 := dig_length_le (by
   rw [hd]
   refine bd_le (val_lt (lim_drop hm.lim (k / 32))) (Nat.div_le_self _ _) ?_
   simp)
  have : IsNat out (m / 2 ^ k) := ⟨hlo, by rw [val_eq_of (n := j) (by omega) (by omega) hz, val_dig]⟩
  refine Run.ghost _ rfl (ghost_sl 0 5 rfl rfl hq (l := out) (f := u32S) hln rfl flat_u32 (by unfold big; omega)) ?_;refine zz ?_;refine zo (ok_call rfl rfl (rtrim_spec (by unfold cap; omega))) ?_;refine zz ?_;refine zzn ?_;refine T_ret ?_
  exact ⟨_, [], .one (.tmp rfl), List.nil_sublist _, rfl, rfl⟩
end Go.Proofs
/- Down of prod; bits: Mul64, Len32, LeadingZeros32, TrailingZeros64. -/
namespace Go.Proofs
open Go Go.Sv Num
variable {G : Imm}
theorem limb_drop (a : List Nat) (w i : Nat) : limb (a.drop w) i = limb a (w + i) := by simp [limb, List.getD_eq_getElem?_getD]
theorem digit_mid {x y s : Nat} (hs : s ≤ 32) : (x + 4294967296 * y) / 2 ^ s = y * 2 ^ (32 - s) + x / 2 ^ s := by
 have e := pow32 hs
 have e2 : x + 4294967296 * y = x + 2 ^ s * (y * 2 ^ (32 - s)) := by
  rw [Nat.mul_comm y, ← Nat.mul_assoc, ← e]
 rw [e2, Nat.add_mul_div_left _ _ (Nat.pow_pos (by omega)), Nat.add_comm]
theorem set_step {out : List Nat} {i z : Nat} {f d : Nat → Nat} (hi : i < out.length) (h1 : ∀ t, t < i → limb out t = f t) (h2 : ∀ t, i ≤ t → limb out t = d t) (hz : z = f i) :
  (∀ t, t < i + 1 → limb (out.set i z) t = f t) ∧ ∀ t, i + 1 ≤ t → limb (out.set i z) t = d t := by
 refine ⟨fun t ht => ?_, fun t ht => by rw [limb_set_ne (by omega)]; exact h2 t (by omega)⟩
 by_cases h : t = i
 ·subst h; rw [limb_set_eq hi, hz]
 ·rw [limb_set_ne (by omega)]; exact h1 t (by omega)
theorem and_mask (x : Nat) : x &&& 4294967295 = x % 4294967296 := Nat.and_two_pow_sub_one_eq_mod x 32
theorem mul64_split (x y : Nat) : x * y = x % 4294967296 * (y % 4294967296) + 4294967296 * (x / 4294967296 * (y % 4294967296) + x % 4294967296 * (y / 4294967296)) + 18446744073709551616 * (x / 4294967296 * (y / 4294967296)) := by
 have hx := Nat.mod_add_div x 4294967296
 have hy := Nat.mod_add_div y 4294967296
 generalize x % 4294967296 = a at *
 generalize x / 4294967296 = b at *
 generalize y % 4294967296 = c at *
 generalize y / 4294967296 = d at *
 subst hx; subst hy
 grind
theorem len8_get {i : Nat} (h : i < 256) : ∃ hk : i < Lib.len8tab.size, (Lib.len8tab[i]'hk).toNat = Lib.bitLen i := by
 have h' : i < Lib.len8tab.size := by rw [Lib.len8tab_size]; exact h
 refine ⟨h', ?_⟩
 have := Lib.len8_eq ⟨i, h⟩
 simp only [Lib.len8, Int.toNat_natCast, ByteArray.getElem?_lt' _ _ h', Option.getD_some] at this
 omega
theorem bitLen_small {x : Nat} (h : x < 256) : Lib.bitLen x ≤ 8 := Lib.bitLen_le8 ⟨x, h⟩
def tabV : Array Value := (Lib.deBruijn64tab.map fun n => Value.int .u8 (n : Nat)).toArray
class Tab (G : Imm) : Prop where
 h : G 1 = some tabV
theorem down_lt {x s : Nat} (hx : x < 4294967296) (hs : s < 32) : x / 2 ^ s < 2 ^ (32 - s) := by
 rw [Nat.div_lt_iff_lt_mul (Nat.pow_pos (by omega)), Nat.mul_comm, ← pow32 (by omega)]; exact hx
theorem clone_own {l : List Nat} (hl : l.length ≤ cap) (hne : l ≠ []) : CallSpec Tryz.prog G 214 [natS l] [] (fun s H' => ∃ b c, rowOk (some (b, c)) l.length ∧ s = eqS (rowV (some (b, c)) l.length) ∧ H' = [rowE (some (b, c)) 93 1 l.length (l.flatMap u32S)]) := by
 unfold cap at hl
 refine zs Tryz.func214 ?_;refine zr ?_;refine zz ?_;refine zzn ?_;refine T_seq ?_;refine zr ?_;refine zz ?_;refine zo (ok_eql_nil_if rfl rfl rfl) ?_;refine zzn ?_;refine T_cond_if rfl rfl (fun h4 => ?_) ?_
 ·exact absurd h4 hne
 ·refine T_skip ?_;refine zr ?_;refine Run.buildRow rfl rfl rfl rfl rfl rfl (by decide) rfl (.inl rfl) rfl rfl fun b5 hb5 => ?_;refine zz ?_;refine Run.append 0 rfl rfl rfl rfl rfl rfl rfl rfl hb5 rfl flat_u32 (by unfold big; omega) (by unfold big; omega) fun q7 hq7 => ?_
  obtain _ | ⟨b, c⟩ := q7
  ·exact absurd (List.eq_nil_of_length_eq_zero (by have : 0 + l.length = 0 := hq7; omega)) hne
  refine zz ?_;refine zzn ?_;refine T_ret ?_
  exact ⟨_, [_], .one (.tmp rfl), .refl _, b, c, (by rw [Nat.zero_add] at hq7; exact hq7), by rw [Nat.zero_add], by rw [Nat.zero_add]; rfl⟩
theorem down_spec {a : List Nat} {m k : Nat} [hm : IsNat a m] (hk : k ≤ 65536) (hs : a.length ≤ cap) : PSpec Tryz.prog G 249 [natS a, intS .i64 k] (natS (dig (m / 2 ^ k))) := by
 have hs0 := hs
 unfold cap at hs
 have hsl : k % 32 < 32 := Nat.mod_lt _ (by omega)
 have hd := div_pow hm.lim k
 rw [hm.val] at hd
 obtain ⟨d, hdd⟩ : ∃ d, d = a.drop (k / 32) := ⟨_, rfl⟩
 rw [← hdd] at hd
 have hdl : d.length = a.length - k / 32 := by rw [hdd]; simp
 have hld : Lim d := hdd ▸ lim_drop hm.lim _
 refine zs Tryz.func249 ?_;refine zr ?_;refine zz ?_;refine zzn ?_;refine T_scope ?_;refine zr ?_;refine zz ?_;refine zo ((ok_call rfl rfl count_spec).sub (int_eq (n := ((k : Nat) : Int)) (by omega))) ?_;refine zz ?_;refine zzn ?_;refine T_seq ?_;refine zr ?_;refine zz ?_;refine zo ((ok_quo rfl rfl rfl (by omega) (by omega) (wrap_i64 (by omega) (by omega))).sub (int_eq (n := ((k / 32 : Nat) : Int)) (by omega))) ?_;(iterate 3 refine zz ?_);refine zzn ?_;refine zzc (fun h13 => ?_) fun h13 => ?_
 ·have k13 := of_decide_eq_true h13
  refine zr ?_;refine zo ((ok_assign rfl rfl).sub (nil_nat (l := dig (m / 2 ^ k)) (dig_eq_nil.2 (by rw [hd, List.eq_nil_of_length_eq_zero (l := d) (by omega)]; simp [val])))) ?_;refine zzn ?_;refine T_ret ?_
  exact ⟨_, [], .one (.tmp rfl), List.nil_sublist _, rfl, rfl⟩
 ·have k13 := of_decide_eq_false h13
  refine T_skip ?_;refine zr ?_;(iterate 2 refine zz ?_);refine zo ((ok_quo rfl rfl rfl (by omega) (by omega) (wrap_i64 (by omega) (by omega))).sub (int_eq (n := ((k / 32 : Nat) : Int)) (by omega))) ?_;refine zo ((ok_slice (lo := k / 32) (hi := a.length) (m := 0) rfl rfl (.inr ⟨_, _, rfl, rfl⟩) (.inl ⟨rfl, rfl, rfl⟩) (.inl rfl) (by omega) (Nat.le_refl _)).sub (show ∀ I v, _ → (natS d).den I v from fun I v h => by rw [List.take_length, ← hdd] at h; exact h)) ?_;refine Run.call0 rfl rfl rfl (clone_own (by unfold cap; omega) (fun h => by rw [h] at hdl; simp at hdl; omega)) rfl rfl rfl ?_
  rintro s H1 ⟨b, c, hb, rfl, rfl⟩
  refine zz ?_;refine zzn ?_;refine T_seq ?_;refine T_label ?_;refine T_seq ?_;refine zr ?_;refine zz ?_;refine zo (ok_len_row rfl rfl hb) ?_;refine zz ?_;refine zzn ?_;refine T_block ?_
  refine T_loop2 (fun i out => ⟨_, [(21, intS .i64 (i : Nat)), (20, intS .i64 d.length), (5, eqS (rowV (some (b, c)) d.length)), (1, intS .i64 (k : Nat))], [rowE (some (b, c)) 93 1 d.length (out.flatMap u32S)], [], (0, false)⟩)
    (fun i out => i ≤ d.length ∧ Lim out ∧ out.length = d.length ∧ (∀ t, t < i → limb out t = limb (dig (m / 2 ^ k)) t) ∧ ∀ t, i ≤ t → limb out t = limb d t) (fun i out => d.length - i)
    0 d ⟨Nat.zero_le _, hld, rfl, fun t h => by omega, fun t h => rfl⟩ (ent_h zk rfl) ?_
  rintro i out ⟨hi, hlo, hln, hz1, hz2⟩
  have hx := limb_lt hld i
  have hy := limb_lt hld (i + 1)
  have hdg := down_digit hm.lim (w := k / 32) (s := k % 32) (j := i) (by omega)
  rw [← hdd, ← hd, Nat.add_assoc, ← limb_drop, ← limb_drop, ← hdd] at hdg
  have hx2 : limb d i / 2 ^ (k % 32) ≤ limb d i := Nat.div_le_self _ _
  refine zr ?_;refine zz ?_;refine zzn ?_;refine T_seq ?_;refine zzc (fun h22 => ?_) fun h22 => ?_
  ·have k22 := of_decide_eq_true h22
   refine T_skip ?_;refine T_seq ?_;refine T_block ?_;refine zr ?_;(iterate 2 refine zz ?_);refine zx ?_;(iterate 2 refine zz ?_);refine zo (ok_indexRow (i := i) rfl rfl rfl (by omega)) ?_;refine zo (ok_loadRow 0 rfl rfl rfl (by omega)) ?_;refine zz ?_;refine zo ((ok_rem rfl rfl rfl (by omega) (by omega)).sub (int_eq (n := ((k % 32 : Nat) : Int)) (by omega))) ?_;refine zo ((ok_shr rfl rfl rfl (by omega) (by simp [IntKind.bits]; omega)).sub (int_eq (n := ((limb d i / 2 ^ (k % 32) : Nat) : Int)) ((shrN _ _).trans (by rw [hz2 i (Nat.le_refl _)])))) ?_;refine zo (ok_indexRow (i := i) rfl rfl rfl (by omega)) ?_;refine Run.storeRow 0 rfl rfl rfl rfl rfl (by omega) rfl rfl ?_;refine zzn ?_;refine T_seq ?_;refine zr ?_;refine zz ?_;refine za ((i + 1 : Nat) : Int) ?_;refine zz ?_;refine zo (ok_len_row rfl rfl hb) ?_
   refine Run.oneB (ok_cmp rfl rfl rfl rfl) rfl rfl rfl (fun h9_4 => ?_) (fun h9_4 => ?_)
   ·have k9_4 := of_decide_eq_true h9_4
    refine zz ?_;(iterate 3 refine zq ?_);refine zz ?_;refine zzn ?_;refine T_condT rfl rfl ?_;refine T_exit ?_;refine T_region ?_;(iterate 2 refine zz ?_);refine zzn ?_
    obtain ⟨g1, g2⟩ := set_step (z := limb d i / 2 ^ (k % 32)) (f := limb (dig (m / 2 ^ k))) (d := limb d) (by omega) hz1 hz2 (by rw [hdg, limb_out (l := d) (i := i + 1) (by omega), Nat.mul_zero, Nat.add_zero]; exact (Nat.mod_eq_of_lt (by omega)).symm)
    exact ⟨i + 1, _, ⟨by omega, lim_set hlo (by omega), by rw [List.length_set]; exact hln, g1, g2⟩, by omega, ent_h (subG_cons rfl (subG_cons rfl (subG_cons rfl (subG_cons rfl trivial)))) rfl⟩
   ·have k9_4 := of_decide_eq_false h9_4
    (iterate 2 refine zz ?_);refine zo ((ok_rem rfl rfl rfl (by omega) (by omega)).sub (int_eq (n := ((k % 32 : Nat) : Int)) (by omega))) ?_;(iterate 2 refine zz ?_);refine zzn ?_;refine zzc (fun h41 => ?_) fun h41 => ?_
    ·have k41 := beq_iff_eq.1 h41
     refine T_exit ?_;refine T_region ?_;(iterate 2 refine zz ?_);refine zzn ?_
     obtain ⟨g1, g2⟩ := set_step (z := limb d i / 2 ^ (k % 32)) (f := limb (dig (m / 2 ^ k))) (d := limb d) (by omega) hz1 hz2 (by rw [hdg, show k % 32 = 0 by omega, Nat.pow_zero, Nat.div_one, Nat.div_one]; omega)
     exact ⟨i + 1, _, ⟨by omega, lim_set hlo (by omega), by rw [List.length_set]; exact hln, g1, g2⟩, by omega, ent_h (subG_cons rfl (subG_cons rfl (subG_cons rfl (subG_cons rfl trivial)))) rfl⟩
    ·have k41 := beq_eq_false_iff_ne.1 h41
     refine T_skip ?_;refine T_draw 15 (by kernel_rfl) ?_;(iterate 2 refine zz ?_);refine zo (ok_indexRow (i := i) rfl rfl rfl (by omega)) ?_;refine zo (ok_loadRow 0 rfl rfl rfl (by rw [List.length_set]; omega)) ?_;(iterate 2 refine zz ?_);refine za ((i + 1 : Nat) : Int) ?_;refine zo (ok_indexRow (i := i + 1) rfl rfl rfl (by omega)) ?_;refine zo (ok_loadRow 0 rfl rfl rfl (by rw [List.length_set]; omega)) ?_;refine zz ?_;refine zo ((ok_rem rfl rfl rfl (by omega) (by omega)).sub (int_eq (n := ((k % 32 : Nat) : Int)) (by omega))) ?_;refine za ((32 - k % 32 : Nat) : Int) ?_;refine zo ((ok_shl rfl rfl rfl (by omega) (by simp [IntKind.bits]; omega)).sub (int_eq (n := ((limb d (i + 1) * 2 ^ (32 - k % 32) % 4294967296 : Nat) : Int)) (by rw [shlN, limb_set_ne (by omega), hz2 _ (by omega)]; exact wrap_u32_mod))) ?_
     refine zo ((ok_bits rfl (by simp) rfl rfl).sub (int_eq (n := ((limb (dig (m / 2 ^ k)) i : Nat) : Int)) (by rw [limb_set_eq (by omega), bitI_or32 (by omega) (by omega), Nat.or_comm, (up_step (by omega) (down_lt hx hsl)).1, hdg, digit_mid (by omega)]))) ?_
     refine zo (ok_indexRow (i := i) rfl rfl rfl (by omega)) ?_;refine zzn ?_;refine Run.storeRow 0 rfl rfl rfl rfl rfl (by rw [List.length_set]; omega) rfl rfl ?_;refine zzn ?_;refine T_region ?_;(iterate 2 refine zz ?_);refine zzn ?_
     obtain ⟨g1, g2⟩ := set_step (z := limb (dig (m / 2 ^ k)) i) (f := limb (dig (m / 2 ^ k))) (d := limb d) (by omega) hz1 hz2 rfl
     have hl3 := lim_set (i := i) hlo (limb_lt (lim_dig (m / 2 ^ k)) i)
     exact ⟨i + 1, (out.set i (limb d i / 2 ^ (k % 32))).set i (limb (dig (m / 2 ^ k)) i), ⟨by omega, by rw [List.set_set]; exact hl3, by rw [List.set_set, List.length_set]; exact hln, by rw [List.set_set]; exact g1, by rw [List.set_set]; exact g2⟩, by omega, ent_h (subG_cons rfl (subG_cons rfl (subG_cons rfl (subG_cons rfl trivial)))) rfl⟩
  ·have k22 := of_decide_eq_false h22
   refine T_exit ?_;refine zr ?_
   have hql : (dig (m / 2 ^ k)).length ≤ d.length := dig_length_le (by rw [hd]; exact bd_le (val_lt hld) (Nat.div_le_self _ _) (Nat.le_refl _))
   have : IsNat out (m / 2 ^ k) := ⟨hlo, by rw [val_eq_of (n := d.length) (by omega) (by omega) (fun t ht => hz1 t (by omega)), val_dig]⟩
   refine Run.ghost _ rfl (ghost_sl 0 5 rfl rfl hb (l := out) (f := u32S) hln rfl flat_u32 (by unfold big; omega)) ?_;refine zz ?_;refine zo (ok_call rfl rfl (trim_spec (by unfold cap; omega))) ?_;refine zz ?_;refine zzn ?_;refine T_ret ?_
   exact ⟨_, [], .one (.tmp rfl), List.nil_sublist _, rfl, rfl⟩
theorem mul64_spec {x y : Nat} (hx : x < 18446744073709551616) (hy : y < 18446744073709551616) : PSpec Tryz.prog G 267 [intS .u64 x, intS .u64 y] (tupS [intS .u64 (x * y / 18446744073709551616 : Nat), intS .u64 (x * y % 18446744073709551616 : Nat)]) := by
 have e := mul64_split x y
 obtain ⟨p, hp⟩ : ∃ p, p = x % 4294967296 * (y % 4294967296) := ⟨_, rfl⟩
 obtain ⟨q, hq⟩ : ∃ p, p = x / 4294967296 * (y % 4294967296) := ⟨_, rfl⟩
 obtain ⟨r, hr⟩ : ∃ p, p = x % 4294967296 * (y / 4294967296) := ⟨_, rfl⟩
 obtain ⟨s, hs⟩ : ∃ p, p = x / 4294967296 * (y / 4294967296) := ⟨_, rfl⟩
 rw [← hp, ← hq, ← hr, ← hs] at e
 have hp2 := Nat.mul_le_mul (show x % 4294967296 ≤ 4294967295 by omega) (show y % 4294967296 ≤ 4294967295 by omega)
 have hq2 := Nat.mul_le_mul (show x / 4294967296 ≤ 4294967295 by omega) (show y % 4294967296 ≤ 4294967295 by omega)
 have hr2 := Nat.mul_le_mul (show x % 4294967296 ≤ 4294967295 by omega) (show y / 4294967296 ≤ 4294967295 by omega)
 have hs2 := Nat.mul_le_mul (show x / 4294967296 ≤ 4294967295 by omega) (show y / 4294967296 ≤ 4294967295 by omega)
 rw [← hp] at hp2
 rw [← hq] at hq2
 rw [← hr] at hr2
 rw [← hs] at hs2
 refine zs Tryz.func267 ?_;refine zr ?_;(iterate 2 refine zz ?_);refine zx ?_;refine zz ?_;refine zo ((ok_bits rfl (by simp) rfl rfl).sub (int_eq (n := ((x % 4294967296 : Nat) : Int)) ((bitI_and (y := 4294967295) (by omega) (by omega)).trans (by rw [and_mask])))) ?_;refine zz ?_;refine zx ?_;refine zz ?_;refine zo ((ok_shr rfl rfl rfl (by omega) (by simp [IntKind.bits])).sub (int_eq (shr32 _))) ?_;refine zz ?_;refine zx ?_;refine zz ?_;refine zo ((ok_bits rfl (by simp) rfl rfl).sub (int_eq (n := ((y % 4294967296 : Nat) : Int)) ((bitI_and (y := 4294967295) (by omega) (by omega)).trans (by rw [and_mask])))) ?_;refine zz ?_;refine zx ?_;refine zz ?_;refine zo ((ok_shr rfl rfl rfl (by omega) (by simp [IntKind.bits])).sub (int_eq (shr32 _))) ?_;refine zz ?_;refine zx ?_;(iterate 2 refine zz ?_);refine zo (ok_ari (z := ((p : Nat) : Int)) rfl rfl rfl (congrArg some (by rw [hp, Int.natCast_mul])) (wrap_u64 (by omega) (by omega))) ?_;refine zz ?_;refine zx ?_;(iterate 2 refine zz ?_);refine zo (ok_ari (z := ((q : Nat) : Int)) rfl rfl rfl (congrArg some (by rw [hq, Int.natCast_mul])) (wrap_u64 (by omega) (by omega))) ?_;refine zz ?_;refine zo ((ok_shr rfl rfl rfl (by omega) (by simp [IntKind.bits])).sub (int_eq (shr32 _))) ?_;refine za ((q + p / 4294967296 : Nat) : Int) ?_;refine zz ?_;refine zx ?_;refine zz ?_;refine zo ((ok_bits rfl (by simp) rfl rfl).sub (int_eq (n := (((q + p / 4294967296) % 4294967296 : Nat) : Int)) ((bitI_and (y := 4294967295) (by omega) (by omega)).trans (by rw [and_mask])))) ?_;refine zz ?_;refine zx ?_;refine zz ?_;refine zo ((ok_shr rfl rfl rfl (by omega) (by simp [IntKind.bits])).sub (int_eq (shr32 _))) ?_;refine zz ?_;refine zx ?_;(iterate 3 refine zz ?_);refine zo (ok_ari (z := ((r : Nat) : Int)) rfl rfl rfl (congrArg some (by rw [hr, Int.natCast_mul])) (wrap_u64 (by omega) (by omega))) ?_;refine za (((q + p / 4294967296) % 4294967296 + r : Nat) : Int) ?_;refine zz ?_;refine zx ?_;(iterate 2 refine zz ?_);refine zo (ok_ari (z := ((s : Nat) : Int)) rfl rfl rfl (congrArg some (by rw [hs, Int.natCast_mul])) (wrap_u64 (by omega) (by omega))) ?_;refine zz ?_;refine za ((s + (q + p / 4294967296) / 4294967296 : Nat) : Int) ?_;refine zz ?_;refine zo ((ok_shr rfl rfl rfl (by omega) (by simp [IntKind.bits])).sub (int_eq (shr32 _))) ?_;refine za ((x * y / 18446744073709551616 : Nat) : Int) ?_;refine zz ?_;refine zx ?_;(iterate 2 refine zz ?_);refine zo ((ok_ari_wrap rfl rfl rfl rfl).sub (int_eq (n := ((x * y % 18446744073709551616 : Nat) : Int)) (by rw [wrap_u64_mod, ← Int.natCast_mul]; rfl))) ?_;refine zz ?_;refine zzn ?_;refine T_ret ?_
 exact ⟨_, [], .many (.cons (.tmp rfl) (.cons (.tmp rfl) (.nil))), List.nil_sublist _, rfl, rfl⟩
end Go.Proofs
/- bits: Len32, LeadingZeros32, TrailingZeros64. -/
namespace Go.Proofs
open Go Go.Sv Num
variable {G : Imm}
theorem shr16 (m : Nat) : (m : Int) / 2 ^ (16 : Int).toNat = ((m / 65536 : Nat) : Int) := by simp
theorem shr8 (m : Nat) : (m : Int) / 2 ^ (8 : Int).toNat = ((m / 256 : Nat) : Int) := by simp
theorem shr58 (m : Nat) : (m : Int) / 2 ^ (58 : Int).toNat = ((m / 288230376151711744 : Nat) : Int) := by simp
theorem ok_len8 {P : Program} {H : HL} {o : Oper} {g : List (Nat × SV)} {t : TypeId} [IsStr P t] {x ix : Operand} {k : IntKind} {i : Nat} (hop : o.op = .index t x ix) (hx : opE g x = some (eqS (.string Lib.len8tab))) (hi : opE g ix = some (intS k i)) (h : i < 256) : OpOK P G H o g (intS .u8 (Lib.bitLen i : Nat)) := by
 obtain ⟨h1, h2⟩ := len8_get h
 rw [← h2]; exact ok_indexStr hop hx hi h1
theorem bitLen_spec : ∀ (f x : Nat), x < 2 ^ f → f ≤ 64 → x < 2 ^ Lib.bitLen x ∧ (x ≠ 0 → 0 < Lib.bitLen x ∧ 2 ^ (Lib.bitLen x - 1) ≤ x) ∧ Lib.bitLen x ≤ f
  | 0, x, h, _ => by
    have : x = 0 := by simpa using h
    subst this
    exact ⟨by decide, fun h => absurd rfl h, by decide⟩
  | f + 1, x, h, hf => by
    by_cases h0 : x = 0
    · subst h0; exact ⟨by decide, fun h => absurd rfl h, by rw [show Lib.bitLen 0 = 0 by decide]; omega⟩
    · have h64 : x < 2 ^ 64 := Nat.lt_of_lt_of_le h (Nat.pow_le_pow_right (by omega) hf)
      have hh := Lib.bitLen_half x h0 h64
      obtain ⟨i1, i2, i3⟩ := bitLen_spec f (x / 2) (by rw [Nat.pow_succ] at h; omega) (by omega)
      rw [hh]
      refine ⟨by rw [Nat.add_comm, Nat.pow_succ]; omega, fun _ => ⟨by omega, ?_⟩, by omega⟩
      rw [Nat.add_sub_cancel_left]
      by_cases h2 : x / 2 = 0
      · rw [h2, show Lib.bitLen 0 = 0 by decide]; simp; omega
      · obtain ⟨j1, j2⟩ := i2 h2
        have : 2 ^ Lib.bitLen (x / 2) = 2 ^ (Lib.bitLen (x / 2) - 1) * 2 := by rw [← Nat.pow_succ, Nat.succ_eq_add_one, show Lib.bitLen (x / 2) - 1 + 1 = Lib.bitLen (x / 2) by omega]
        omega
theorem tab_get {i : Nat} (h : i < 64) : tabV[i]? = some (.int .u8 (Lib.deBruijn64tab.getD i 0 : Nat)) := by
 have hl : i < Lib.deBruijn64tab.length := h
 simp [tabV, List.getD_eq_getElem?_getD, hl]
theorem len32_spec {x : Nat} (hx : x < 4294967296) : PSpec Tryz.prog G 257 [intS .u32 x] (intS .i64 (Lib.bitLen x : Nat)) := by
 refine zs Tryz.func257 ?_;refine zr ?_;refine zz ?_;refine zzn ?_;refine T_seq ?_;refine zr ?_;(iterate 2 refine zz ?_);refine zzn ?_;refine zzc (fun h4 => ?_) fun h4 => ?_
 ·have k4 := of_decide_eq_true h4
  refine zr ?_;refine zz ?_;refine zo ((ok_shr rfl rfl rfl (by omega) (by simp [IntKind.bits])).sub (int_eq (shr16 _))) ?_;refine zz ?_;refine zzn ?_;refine T_region ?_;refine zz ?_;refine zzn ?_;refine T_seq ?_;refine zr ?_;(iterate 2 refine zz ?_);refine zzn ?_;refine zzc (fun h8 => ?_) fun h8 => ?_
  ·have k8 := of_decide_eq_true h8
   refine zr ?_;refine zz ?_;refine zo ((ok_shr rfl rfl rfl (by omega) (by simp [IntKind.bits])).sub (int_eq (shr8 _))) ?_;refine zz ?_;refine zzn ?_;refine T_region ?_;(iterate 3 refine zz ?_);refine zx ?_;(iterate 2 refine zz ?_);refine zo (ok_conv rfl rfl (wrap_u8 (by omega) (by omega))) ?_
   have hb := bitLen_small (x := x / 65536 / 256) (by omega)
   have e1 := Lib.bitLen_shift16 x (by omega) (by omega)
   have e2 := Lib.bitLen_shift8 (x / 65536) (by omega) (by omega)
   refine zo (ok_len8 rfl rfl rfl (by omega)) ?_;refine zo (ok_conv rfl rfl (wrap_i64 (by omega) (by omega))) ?_;refine za ((Lib.bitLen x : Nat) : Int) ?_;refine zz ?_;refine zzn ?_;refine T_ret ?_
   exact ⟨_, [], .one (.tmp rfl), List.nil_sublist _, rfl, rfl⟩
  ·have k8 := of_decide_eq_false h8
   refine T_skip ?_;refine zr ?_;(iterate 2 refine zz ?_);refine zo (ok_conv rfl rfl (wrap_u8 (by omega) (by omega))) ?_
   have hb := bitLen_small (x := x / 65536) (by omega)
   have e1 := Lib.bitLen_shift16 x (by omega) (by omega)
   refine zo (ok_len8 rfl rfl rfl (by omega)) ?_;refine zo (ok_conv rfl rfl (wrap_i64 (by omega) (by omega))) ?_;refine za ((Lib.bitLen x : Nat) : Int) ?_;refine zz ?_;refine zzn ?_;refine T_ret ?_
   exact ⟨_, [], .one (.tmp rfl), List.nil_sublist _, rfl, rfl⟩
 ·have k4 := of_decide_eq_false h4
  refine T_skip ?_;refine T_seq ?_;refine zr ?_;(iterate 2 refine zz ?_);refine zzn ?_;refine zzc (fun h8 => ?_) fun h8 => ?_
  ·have k8 := of_decide_eq_true h8
   refine zr ?_;refine zz ?_;refine zo ((ok_shr rfl rfl rfl (by omega) (by simp [IntKind.bits])).sub (int_eq (shr8 _))) ?_;refine zz ?_;refine zzn ?_;refine T_region ?_;(iterate 3 refine zz ?_);refine zx ?_;(iterate 2 refine zz ?_);refine zo (ok_conv rfl rfl (wrap_u8 (by omega) (by omega))) ?_
   have hb := bitLen_small (x := x / 256) (by omega)
   have e1 := Lib.bitLen_shift8 x (by omega) (by omega)
   refine zo (ok_len8 rfl rfl rfl (by omega)) ?_;refine zo (ok_conv rfl rfl (wrap_i64 (by omega) (by omega))) ?_;refine za ((Lib.bitLen x : Nat) : Int) ?_;refine zz ?_;refine zzn ?_;refine T_ret ?_
   exact ⟨_, [], .one (.tmp rfl), List.nil_sublist _, rfl, rfl⟩
  ·have k8 := of_decide_eq_false h8
   refine T_skip ?_;refine zr ?_;(iterate 2 refine zz ?_);refine zo (ok_conv rfl rfl (wrap_u8 (by omega) (by omega))) ?_
   have hb := bitLen_small (x := x) (by omega)
   refine zo (ok_len8 rfl rfl rfl (by omega)) ?_;refine zo (ok_conv rfl rfl (wrap_i64 (by omega) (by omega))) ?_;refine za ((Lib.bitLen x : Nat) : Int) ?_;refine zz ?_;refine zzn ?_;refine T_ret ?_
   exact ⟨_, [], .one (.tmp rfl), List.nil_sublist _, rfl, rfl⟩
theorem lz32_spec {x : Nat} (hx : x < 4294967296) : PSpec Tryz.prog G 246 [intS .u32 x] (intS .i64 (32 - Lib.bitLen x : Nat)) := by
 have hb := (bitLen_spec 32 x (by omega) (by omega)).2.2
 refine zs Tryz.func246 ?_;refine zr ?_;refine zz ?_;refine zx ?_;refine zz ?_;refine zf (len32_spec hx) ?_;refine za ((32 - Lib.bitLen x : Nat) : Int) ?_;refine zz ?_;refine zzn ?_;refine T_ret ?_
 exact ⟨_, [], .one (.tmp rfl), List.nil_sublist _, rfl, rfl⟩
theorem tz64_spec [ht : Tab G] {x : Nat} (hx : x < 18446744073709551616) : PSpec Tryz.prog G 244 [intS .u64 x] (intS .i64 (Lib.ctz 64 x : Nat)) := by
 refine zs Tryz.func244 ?_;refine zr ?_;refine zz ?_;refine zzn ?_;refine T_seq ?_;refine zr ?_;(iterate 2 refine zz ?_);refine zzn ?_;refine zzc (fun h4 => ?_) fun h4 => ?_
 ·have k4 := beq_iff_eq.1 h4
  refine zr ?_;refine zz ?_;refine zzn ?_;refine T_ret ?_
  exact ⟨_, [], .one (.tmp rfl), List.nil_sublist _, by rw [show x = 0 by omega]; rfl, rfl⟩
 ·have k4 := beq_eq_false_iff_ne.1 h4
  obtain ⟨hlow, hc⟩ := Lib.lowest_bit 64 x (by omega) (by omega)
  rw [show (2 : Nat) ^ 64 = 18446744073709551616 from rfl] at hlow
  obtain ⟨hi, htab⟩ := Lib.deBruijn64_at _ hc
  refine T_skip ?_;refine zr ?_;(iterate 2 refine zz ?_);refine zo ((ok_neg rfl rfl).sub (int_eq (n := ((18446744073709551616 - x : Nat) : Int)) (by rw [wrap_u64_mod]; omega))) ?_;refine zo ((ok_bits rfl (by simp) rfl rfl).sub (int_eq (n := ((2 ^ Lib.ctz 64 x : Nat) : Int)) (by rw [bitI_and (by omega) (by omega), hlow]))) ?_;refine zo ((ok_ari_wrap rfl rfl rfl rfl).sub (int_eq (n := ((2 ^ Lib.ctz 64 x * 285870213051353865 % 18446744073709551616 : Nat) : Int)) (by rw [wrap_u64_mod]; rfl))) ?_;refine zo ((ok_shr rfl rfl rfl (by omega) (by simp [IntKind.bits])).sub (int_eq (shr58 _))) ?_;refine zo (ok_indexArr rfl rfl rfl hi rfl) ?_;refine zo (ok_load_glob rfl rfl ht.h (by rw [Nat.mul_one, tab_get hi, htab])) ?_;refine zo (ok_conv rfl rfl (wrap_i64 (by omega) (by omega))) ?_;refine zz ?_;refine zzn ?_;refine T_ret ?_
  exact ⟨_, [], .one (.tmp rfl), List.nil_sublist _, rfl, rfl⟩
end Go.Proofs
