/- quot: by one limb. -/
import Derived.Test.YtofplgefmjojjaaGreatDoorSnf
import Derived.Test.YtofplgefmjojjaaGreatDoorSvw
import Derived.Test.YtofplgefmjojjaaGreatDoorSmd
namespace Go.Proofs
open Go Go.Sv Num
variable {G : Imm}
theorem EffAt.storeRow {P : Program} {G : Imm} {E : Env} {r : Option Nat} {gd : Nat → Option Nat} {o : Oper} {ops : List Oper} {K : St → Prop} {Hc : HL} (j : Nat) {n0 : Nat} {g : List (Nat × SV)} {h : HL} {d : List Nat} {i0 : Nat × Bool} {t : TypeId} [HasSize P t 1] {x y : Operand} {b i e c n : Nat} {l : List Nat} {z : Nat} (hop : o.op = .store t x y) (hx : opE g x = some (eqS (.pointer (some ⟨b, i, none⟩)))) (hy : opE g y = some (intS .u32 z))
  (hH : h[j]? = some (rowE (some (b, c)) e 1 n (l.flatMap u32S))) (hi : i < l.length) (hd : o.dst = none) (hg : guardAt gd g o true) (hc : Hc.Sublist (putAt h j [rowE (some (b, c)) e 1 n ((l.set i z).flatMap u32S)]))
  (hr : Run P G E r gd false ops ⟨n0, g, putAt h j [rowE (some (b, c)) e 1 n ((l.set i z).flatMap u32S)], d, i0⟩ K) : EffAt P G E r gd o ops Hc ⟨n0, g, h, d, i0⟩ K := by
 have hlen : i + 1 ≤ (l.flatMap u32S).length := by rw [flat_u32_length]; omega
 have hble : Nat.ble (i + [intS .u32 (z : Nat)].length) (l.flatMap u32S).length = true := by rw [Nat.ble_eq]; exact hlen
 have e : (⟨some b, e, setAll (l.flatMap u32S) i [intS .u32 (z : Nat)], c * 1 - n * 1⟩ : HE) = rowE (some (b, c)) e 1 n ((l.set i z).flatMap u32S) := by
  show (⟨some b, e, (l.flatMap u32S).set i (intS .u32 z), c * 1 - n * 1⟩ : HE) = _
  rw [flat_u32_set]; rfl
 exact EffAt.store (ds := [intS .u32 (z : Nat)]) j hop hx hy hH rfl hble hd hg (by rw [e]; exact hc) (by rw [e]; exact hr)
def backX (l : List Nat) : List (List SV) := (List.range l.length).map fun i => [intS .i64 (l.length - 1 - i : Nat), intS .u32 (limb l (l.length - 1 - i) : Nat)]
theorem backX_length {l : List Nat} : (backX l).length = l.length := by simp [backX]
theorem backX_get {l : List Nat} {i : Nat} (h : i < l.length) : (backX l)[i]? = some [intS .i64 (l.length - 1 - i : Nat), intS .u32 (limb l (l.length - 1 - i) : Nat)] := by
 simp only [backX, List.getElem?_map, List.getElem?_range h, Option.map_some]
theorem backX_inv {l : List Nat} {i : Nat} {ss : List SV} (h : (backX l)[i]? = some ss) : i < l.length ∧ ss = [intS .i64 (l.length - 1 - i : Nat), intS .u32 (limb l (l.length - 1 - i) : Nat)] := by
 have h1 : i < l.length := by have := lt_of_get h; rwa [backX_length] at this
 refine ⟨h1, ?_⟩
 rw [backX_get h1] at h; exact (Option.some.inj h).symm
theorem backX_ss {l : List Nat} {ss : List SV} (h : ss ∈ backX l) : ss.length = 2 := by
 obtain ⟨i, _, rfl⟩ := List.mem_map.1 h; rfl
theorem short_step {x v n : Nat} (hn : 0 < n) : (x + 4294967296 * v) / n = 4294967296 * (v / n) + (4294967296 * (v % n) + x) / n ∧ (x + 4294967296 * v) % n = (4294967296 * (v % n) + x) % n := by
 have e : x + 4294967296 * v = 4294967296 * (v % n) + x + n * (4294967296 * (v / n)) := by
  have := Nat.mod_add_div v n
  rw [Nat.mul_left_comm]; omega
 rw [e, Nat.add_mul_div_left _ _ hn, Nat.add_mul_mod_self_left]
 exact ⟨Nat.add_comm _ _, rfl⟩
theorem back1_spec {a : List Nat} : IterSpec Tryz.prog G 266 [ptrS [natS a]] (backX a) := by
 refine iter_spec Tryz.func266 rfl rfl rfl rfl fun l E hy => ?_;refine zr ?_;(iterate 2 refine zz ?_);refine zo ((ok_ari_wrap rfl rfl rfl rfl)) ?_;refine zz ?_;refine zzn ?_;refine T_block ?_;refine T_len 4 rfl fun la => ?_
 unfold big at la
 refine T_loop (γ := Nat) (fun g => ⟨_, [(3, intS .i64 ((g : Int) - 1)), (0, yieldS l), (1, ptrS [natS a])], [], [], (a.length - g, false)⟩) (fun g => g ≤ a.length) (fun g => g) a.length (Nat.le_refl _) ⟨rfl, subG_as rfl (congrArg (intS .i64) (wrap_i64 (by omega) (by omega))) (subG_cons rfl (subG_cons rfl trivial)), subH_refl _, rfl, by simp⟩ ?_
 intro g hg
 refine T_seq ?_;refine zr ?_;(iterate 2 refine zz ?_);refine zzn ?_;refine zzc (fun h8 => ?_) fun h8 => ?_
 ·have k8 := of_decide_eq_true h8
  refine T_skip ?_;refine T_seq ?_;refine T_block ?_;refine zr ?_;refine zz ?_;refine zo ((ok_move rfl rfl).sub (int_eq (show (g : Int) - 1 = ((g - 1 : Nat) : Int) by omega))) ?_;refine zz ?_;refine zo ((ok_move rfl rfl).sub (int_eq (show (g : Int) - 1 = ((g - 1 : Nat) : Int) by omega))) ?_;refine zo (ok_indexAddr rfl rfl rfl (by omega) (y := limb a (g - 1)) (limb_get (by omega))) ?_;refine zz ?_;refine Run.yield rfl hy rfl rfl rfl (by rw [backX_get (by omega), show a.length - 1 - (a.length - g) = g - 1 by omega]) (subL_refl _) rfl rfl rfl fun y => ?_;refine zz ?_;refine zzn ?_;refine zzc (fun h18 => ?_) fun h18 => ?_
  ·refine T_ret ?_
   exact ⟨.inl rfl, .inr h18⟩
  ·refine T_skip ?_;refine T_region ?_;(iterate 3 refine zz ?_);refine zzn ?_
   exact ⟨g - 1, (by omega : g - 1 ≤ a.length), by omega, rfl, subG_as rfl (congrArg (intS .i64) (by omega)) (subG_cons rfl (subG_cons rfl trivial)), subH_refl _, rfl, by simp only; rw [h18, show a.length - (g - 1) = a.length - g + 1 by omega]⟩
 ·have k8 := of_decide_eq_false h8
  refine T_exit ?_
  exact ⟨.inr rfl, .inl (by rw [backX_length, show g = 0 by omega]; rfl)⟩
theorem back_spec {a : List Nat} : PSpec Tryz.prog G 256 [natS a] (fnS 266 [ptrS [natS a]]) := by
 refine zs Tryz.func256 ?_;refine zr ?_;(iterate 2 refine zz ?_);refine zx ?_;(iterate 2 refine zz ?_);refine zzn ?_;refine T_ret ?_
 exact ⟨_, [], .one (.tmp rfl), List.nil_sublist _, rfl, rfl⟩
theorem short_spec {a : List Nat} {m n : Nat} [hm : IsNat a m] (hn : n < 4294967296) (hs : a.length ≤ cap) : PSpec Tryz.prog G 245 [natS a, intS .u32 n] (tupS [natS (dig (m / n)), intS .u32 (if n = 0 then 0 else m % n : Nat), intS .i64 (if n = 0 then 30 else 0)]) := by
 unfold cap at hs
 refine zs Tryz.func245 ?_;refine zr ?_;refine zz ?_;refine zzv fun b4 => ?_;(iterate 2 refine zz ?_);refine zzn ?_;refine T_seq ?_;refine zr ?_;(iterate 2 refine zz ?_);refine zzn ?_;refine zzc (fun h11 => ?_) fun h11 => ?_
 ·have k11 := beq_iff_eq.1 h11
  refine zr ?_;refine zw ?_;refine Run.ghost _ rfl (ghost_cell (nil_nat (l := dig (m / n)) (dig_eq_nil.2 (by rw [show n = 0 by omega]; exact Nat.div_zero m)))) ?_;(iterate 2 refine zz ?_);refine zzn ?_;refine T_ret ?_
  exact ⟨_, [], .many (.cons (.own 0 inferInstance rfl rfl rfl) (.cons (.tmp rfl) (.cons (.tmp rfl) (.nil)))), List.nil_sublist _, by rw [if_pos (by omega), if_pos (by omega)]; rfl, rfl⟩
 ·have k11 := beq_eq_false_iff_ne.1 h11
  have hn0 : n ≠ 0 := by omega
  refine T_skip ?_;refine zr ?_;(iterate 2 refine zz ?_);refine Run.makeNat (n := a.length) (c := a.length) rfl rfl rfl rfl rfl rfl rfl (Nat.le_refl _) (by omega) (by unfold cap; omega) fun b14 hb14 => ?_;refine zw ?_;refine zx ?_;refine zzv fun b7 => ?_;refine zw ?_;refine zzn ?_;refine T_seq ?_;refine zr ?_;refine zz ?_;refine zf back_spec ?_;refine zzn ?_;refine T_block ?_
  refine T_rng rfl rfl back1_spec (fun ss h => backX_ss h) (by decide) rfl
    (fun k h i => i = (0, false) ∧ k ≤ a.length ∧ ∃ out, Lim out ∧ out.length = a.length ∧ (∀ j, j < a.length - k → limb out j = 0) ∧ val out = 4294967296 ^ (a.length - k) * (val (a.drop (a.length - k)) / n) ∧ h = [⟨some b7, 145, [intS .u64 (val (a.drop (a.length - k)) % n : Nat)], 0⟩, rowE (some (b14, a.length)) 93 1 a.length (out.flatMap u32S), ⟨some b4, 24, [eqS (rowV (some (b14, a.length)) a.length)], 0⟩])
    (fun _ _ _ => False) ⟨rfl, Nat.zero_le _, List.replicate a.length 0, lim_replicate _, List.length_replicate, fun j _ => limb_replicate _ j, by rw [val_replicate_zero, Nat.sub_zero, List.drop_length]; simp [val], by rw [Nat.sub_zero, List.drop_length]; simp only [val, Nat.zero_mod]; rfl⟩ ?_ ?_ ?_
  ·rintro l k ss h i hk ⟨rfl, _, out, hlo, hln, hz, hval, rfl⟩
   obtain ⟨hk1, rfl⟩ := backX_inv hk
   obtain ⟨p, hp⟩ : ∃ p, p = a.length - 1 - k := ⟨_, rfl⟩
   rw [show a.length - k = p + 1 by omega] at hval hz ⊢
   rw [← hp]
   have hx := limb_lt hm.lim p
   have hdv := drop_val a p
   obtain ⟨v, hv⟩ : ∃ v, v = val (a.drop (p + 1)) := ⟨_, rfl⟩
   rw [← hv] at hdv hval ⊢
   have ho := Nat.mod_lt v (show 0 < n by omega)
   obtain ⟨hq1, hq2⟩ := short_step (x := limb a p) (v := v) (n := n) (by omega)
   rw [← hdv] at hq1 hq2
   obtain ⟨w, hw⟩ : ∃ w, w = 4294967296 * (v % n) + limb a p := ⟨_, rfl⟩
   rw [← hw] at hq1 hq2
   have hwq : w / n < 4294967296 := by
    rw [Nat.div_lt_iff_lt_mul (by omega)]
    have := Nat.mul_le_mul_left 4294967296 (show v % n + 1 ≤ n by omega)
    omega
   refine zr ?_;refine zz ?_;refine zzn ?_;refine T_region ?_;refine zz ?_;refine zzn ?_
   refine ⟨rfl, ?_⟩
   refine T_block ?_;refine zr ?_;refine zz ?_;refine zo ((ok_shl rfl rfl rfl (by omega) (by simp [IntKind.bits])).sub (int_eq (n := ((4294967296 * (v % n) : Nat) : Int)) ((wrap_u64 (by simp; omega) (by simp; omega)).trans (by simp; omega)))) ?_;(iterate 2 refine zz ?_);refine zo ((ok_bits rfl (by simp) rfl rfl).sub (int_eq (n := ((w : Nat) : Int)) (by rw [bitI_or (by omega) (by omega), or_high hx, hw]))) ?_;refine zw ?_;refine zzn ?_;refine T_drawE 12 _ (by kernel_rfl) rfl (.cons_cons _ (.cons _ (.cons_cons _ .slnil))) ?_;refine RunE.one (ok_load_own 2 rfl rfl rfl rfl) rfl rfl rfl (by kernel_rfl) ?_;refine RunE.one (ok_move rfl rfl) rfl rfl rfl (by kernel_rfl) ?_;refine RunE.one (ok_load_own 0 rfl rfl rfl rfl) rfl rfl rfl (by kernel_rfl) ?_;refine RunE.one (ok_load rfl rfl) rfl rfl rfl (by kernel_rfl) ?_;refine RunE.one (ok_conv rfl rfl (wrap_u64 (by omega) (by omega))) rfl rfl rfl (by kernel_rfl) ?_;refine RunE.one ((ok_quo rfl rfl rfl (by omega) (by omega) (by have := Nat.div_le_self w n; rw [← Int.natCast_ediv]; exact wrap_u64 (Int.natCast_nonneg _) (by omega))).sub (int_eq (n := ((w / n : Nat) : Int)) (Int.natCast_ediv _ _).symm)) rfl rfl rfl (by kernel_rfl) ?_;refine RunE.one (ok_conv rfl rfl (wrap_u32 (Int.natCast_nonneg _) (by omega))) rfl rfl rfl (by kernel_rfl) ?_;refine RunE.lat (ok_load_own 0 rfl rfl rfl rfl) rfl rfl rfl ?_;refine RunE.lat (ok_load rfl rfl) rfl rfl rfl ?_;refine RunE.lat (ok_conv rfl rfl (wrap_u64 (by omega) (by omega))) rfl rfl rfl ?_;refine RunE.lat ((ok_rem rfl rfl rfl (by omega) (by omega)).sub (int_eq (n := ((w % n : Nat) : Int)) (Int.natCast_emod _ _).symm)) rfl rfl rfl ?_;refine RunE.one (ok_indexRow (i := p) rfl rfl rfl (by omega)) rfl rfl rfl (by kernel_rfl) ?_;refine RunE.nil ?_;refine EffAt.storeRow 1 rfl rfl rfl rfl (by omega) rfl rfl (.cons_cons _ (.cons _ (.cons_cons _ .slnil))) ?_;refine zw ?_;refine zzn ?_
   refine ⟨rfl, by omega, out.set p (w / n), lim_set hlo hwq, by rw [List.length_set]; exact hln, fun j hj => by rw [limb_set_ne (by omega)]; exact hz j (by omega), ?_, by rw [show a.length - (k + 1) = p by omega, hq2]; rfl⟩
   have hs2 := val_set (l := out) (j := p) (w / n) (by omega)
   rw [hz p (by omega), Nat.mul_zero] at hs2
   rw [show a.length - (k + 1) = p by omega, hq1, Nat.mul_add, ← Nat.mul_assoc, ← pow_split, ← hval]; omega
  ·rintro h i D ⟨rfl, _, out, hlo, hln, hz, hval, rfl⟩
   rw [backX_length, Nat.sub_self, Nat.pow_zero, Nat.one_mul, List.drop_zero, hm.val] at hval
   rw [backX_length, Nat.sub_self, List.drop_zero, hm.val]
   have : IsNat out (m / n) := ⟨hlo, hval⟩
   refine T_ghost (ghost_slc [_] [] [] hb14 hln rfl flat_u32 (by unfold big; omega)) ?_;refine T_drawES 4 _ (by kernel_rfl) rfl (.cons_cons _ (.cons _ .slnil)) ?_;refine RunE.one ((ok_load_own 1 rfl rfl rfl rfl)) rfl rfl rfl (by kernel_rfl) ?_;refine RunE.one (ok_call rfl rfl (trim_spec (by unfold cap; omega))) rfl rfl rfl (by kernel_rfl) ?_;refine RunE.lat (ok_load_own 0 rfl rfl rfl rfl) rfl rfl rfl ?_;refine RunE.lat (ok_conv rfl rfl (wrap_u32 (Int.natCast_nonneg _) (by have := Nat.mod_lt m (show 0 < n by omega); omega))) rfl rfl rfl ?_;refine RunE.nil ?_;refine EffAt.store 1 rfl rfl rfl rfl rfl rfl rfl rfl (.cons_cons _ (.cons _ .slnil)) ?_;(iterate 2 refine zz ?_);refine zzn ?_;refine T_ret ?_
   exact ⟨_, [], .many (.cons (.own 1 inferInstance rfl rfl rfl) (.cons (.tmp rfl) (.cons (.tmp rfl) (.nil)))), List.nil_sublist _, by rw [if_neg hn0, if_neg hn0], rfl⟩
  ·intro h i D e c hc hInv; exact hInv.elim
end Go.Proofs
/- Trim and Up of prod once more: the row of the result is the caller's own. -/
namespace Go.Proofs
open Go Go.Sv Num
variable {G : Imm}
theorem trim_own {l : List Nat} {n : Nat} [hn : IsNat l n] (hk : l.length ≤ cap) (h0n : n ≠ 0) : CallSpec Tryz.prog G 180 [natS l] [] (fun s H' => ∃ b c, rowOk (some (b, c)) (dig (n)).length ∧ s = eqS (rowV (some (b, c)) (dig (n)).length) ∧ H' = [rowE (some (b, c)) 93 1 (dig (n)).length ((dig (n)).flatMap u32S)]) := by
 have hk' := hk
 unfold cap at hk'
 refine zs Tryz.func180 ?_;refine zr ?_;refine zz ?_;refine zx ?_;(iterate 3 refine zz ?_);refine zzn ?_;refine T_seq ?_;refine T_block ?_
 have hdn : dig n ≠ [] := fun h => h0n (dig_eq_nil.1 h)
 refine T_loop (γ := Nat) (fun g => ⟨_, [(3, intS .i64 g), (0, natS l)], [], [], (0, false)⟩) (fun g => g ≤ l.length ∧ ∀ i, g ≤ i → limb l i = 0) (fun g => g) l.length ⟨Nat.le_refl _, fun i h => limb_out h⟩ (ent_g zk) ?_
 rintro g ⟨hg, hz⟩
 have fin : (g = 0 ∨ limb l (g - 1) ≠ 0) → l.take g = dig n := fun h => by rw [← hn.val]; exact trim_take hn.lim hg hz h
 refine T_seq ?_;refine zr ?_;refine zz ?_
 refine Run.oneB (ok_cmp rfl rfl rfl rfl) rfl rfl rfl (fun hb1 => ?_) (fun hb1 => ?_)
 ·have h0 := of_decide_eq_true hb1
  (iterate 3 refine zz ?_);refine za ((g - 1 : Nat) : Int) ?_;refine zo (ok_indexAddr rfl rfl rfl (by omega) (y := limb l (g - 1)) (limb_get (by omega))) ?_;(iterate 3 refine zz ?_);refine zzn ?_;refine zzc (fun hc2 => ?_) fun hc2 => ?_
  ·have h1 : limb l (g - 1) = 0 := by simpa using hc2
   refine T_skip ?_;refine T_block ?_;refine T_region ?_;refine zz ?_;refine za ((g - 1 : Nat) : Int) ?_;refine zz ?_;refine zzn ?_
   exact ⟨g - 1, ⟨by omega, fun i hi => by by_cases h : g ≤ i; exact hz i h; rw [show i = g - 1 by omega]; exact h1⟩, by omega, ent_g (subG_cons rfl (subG_cons rfl trivial))⟩
  ·have h1 : limb l (g - 1) ≠ 0 := by simpa using hc2
   refine T_exit ?_;refine zr ?_;(iterate 3 refine zz ?_);refine zo (ok_slice (lo := 0) (hi := g) (m := g) rfl rfl (.inl ⟨rfl, rfl⟩) (.inr ⟨_, _, rfl, rfl⟩) (.inr ⟨_, _, rfl, rfl, Nat.le_refl _, hg⟩) (by omega) hg) ?_;refine Run.call0 rfl rfl rfl (clone_own (l := l.take g) (by simp; omega) (by rw [fin (.inr h1)]; exact hdn)) rfl rfl rfl ?_
   rintro s H1 ⟨b, c, hb, rfl, rfl⟩
   refine zz ?_;refine zzn ?_;refine T_ret ?_
   exact ⟨_, _, .one (.tmp rfl), List.Sublist.refl _, b, c, by rw [← fin (.inr h1)]; exact hb, by rw [← fin (.inr h1)], by rw [← fin (.inr h1)]; rfl⟩
 ·have h0 := of_decide_eq_false hb1
  refine zz ?_;(iterate 6 refine zq ?_);refine zz ?_;refine zzn ?_;refine T_condF rfl rfl ?_;refine T_exit ?_;refine zr ?_;(iterate 3 refine zz ?_);refine zo (ok_slice (lo := 0) (hi := g) (m := g) rfl rfl (.inl ⟨rfl, rfl⟩) (.inr ⟨_, _, rfl, rfl⟩) (.inr ⟨_, _, rfl, rfl, Nat.le_refl _, hg⟩) (by omega) hg) ?_
  refine Run.call0 rfl rfl rfl (clone_own (l := l.take g) (by simp; omega) (by rw [fin (.inl (by omega))]; exact hdn)) rfl rfl rfl ?_
  rintro s H1 ⟨b, c, hb, rfl, rfl⟩
  refine zz ?_;refine zzn ?_;refine T_ret ?_
  exact ⟨_, _, .one (.tmp rfl), List.Sublist.refl _, b, c, by rw [← fin (.inl (by omega))]; exact hb, by rw [← fin (.inl (by omega))], by rw [← fin (.inl (by omega))]; rfl⟩
theorem up_own {a : List Nat} {m k : Nat} [hm : IsNat a m] (hk : k ≤ 65536) (hs : a.length + 10000 ≤ cap) (h0n : m * 2 ^ k ≠ 0) : CallSpec Tryz.prog G 247 [natS a, intS .i64 k] [] (fun s H' => ∃ b c, rowOk (some (b, c)) (dig (m * 2 ^ k)).length ∧ s = eqS (rowV (some (b, c)) (dig (m * 2 ^ k)).length) ∧ H' = [rowE (some (b, c)) 93 1 (dig (m * 2 ^ k)).length ((dig (m * 2 ^ k)).flatMap u32S)]) := by
 unfold cap at hs
 have hsl : k % 32 < 32 := Nat.mod_lt _ (by omega)
 refine zs Tryz.func247 ?_;refine zr ?_;refine zz ?_;refine zx ?_;refine zz ?_;refine zo ((ok_call rfl rfl count_spec).sub (int_eq (n := ((k : Nat) : Int)) (by omega))) ?_;refine zz ?_;refine zx ?_;refine zz ?_;refine zo ((ok_quo rfl rfl rfl (by omega) (by omega) (wrap_i64 (by omega) (by omega))).sub (int_eq (n := ((k / 32 : Nat) : Int)) (by omega))) ?_;refine zz ?_;refine zo ((ok_quo rfl rfl rfl (by omega) (by omega) (wrap_i64 (by omega) (by omega))).sub (int_eq (n := ((k / 32 : Nat) : Int)) (by omega))) ?_;(iterate 3 refine zz ?_);refine za ((k / 32 + a.length + 1 : Nat) : Int) ?_;refine Run.makeNat (n := k / 32) (c := k / 32 + a.length + 1) rfl rfl rfl rfl rfl rfl rfl (by omega) (by omega) (by unfold cap; omega) fun b13 hb13 => ?_;refine zz ?_;refine zx ?_;refine zz ?_;refine zzn ?_;refine T_seq ?_;refine zr ?_;(iterate 3 refine zz ?_);refine zzn ?_;refine T_block ?_
 refine T_loop4 (fun i q c out => ⟨_, [(24, intS .i64 (i : Nat)), (23, intS .i64 a.length), (22, natS a), (6, intS .u32 (c : Nat)), (5, eqS (rowV q (k / 32 + i))), (1, intS .i64 (k : Nat))], [rowE q 93 1 (k / 32 + i) (out.flatMap u32S)], [], (0, false)⟩)
   (fun i q c out => i ≤ a.length ∧ rowOk q (k / 32 + i) ∧ c < 2 ^ (k % 32) ∧ Lim out ∧ out.length = k / 32 + i ∧ val out + 4294967296 ^ (k / 32 + i) * c = 4294967296 ^ (k / 32) * (2 ^ (k % 32) * low a i)) (fun i q c out => a.length - i)
   0 (some (b13, k / 32 + a.length + 1)) 0 (List.replicate (k / 32) 0) ⟨Nat.zero_le _, hb13, Nat.pow_pos (by omega), lim_replicate _, List.length_replicate, by rw [val_replicate_zero, low_zero, Nat.mul_zero, Nat.mul_zero, Nat.mul_zero]⟩ (ent_h (subG_cons rfl (subG_cons rfl (subG_cons rfl (subG_cons rfl (subG_cons rfl (subG_cons rfl trivial)))))) rfl) ?_
 rintro i q c out ⟨hi, hq, hc, hlo, hln, hval⟩
 have hp2 := p2_le hsl
 refine zr ?_;refine zz ?_;refine zzn ?_;refine T_seq ?_;refine zzc (fun h25 => ?_) fun h25 => ?_
 ·have k25 := of_decide_eq_true h25
  have hx := limb_lt hm.lim i
  obtain ⟨hu1, hu2⟩ := up_lt hx hsl hc
  obtain ⟨hu3, hu4⟩ := up_step (x := limb a i) (by omega) hc
  refine T_skip ?_;refine T_seq ?_;refine T_block ?_;refine zr ?_;refine zo (ok_indexAddr rfl rfl rfl (by omega) (y := limb a i) (limb_get (by omega))) ?_;(iterate 2 refine zz ?_);refine zx ?_;(iterate 2 refine zz ?_);refine zo ((ok_rem rfl rfl rfl (by omega) (by omega)).sub (int_eq (n := ((k % 32 : Nat) : Int)) (by omega))) ?_;refine zo ((ok_shl rfl rfl rfl (by omega) (by simp [IntKind.bits]; omega)).sub (int_eq (n := ((2 ^ (k % 32) : Nat) : Int)) (by have := shlN 1 (k % 32); rw [Nat.one_mul] at this; refine (congrArg _ this).trans ?_; exact wrap_u32 (by omega) (by omega)))) ?_;refine zo (ok_call rfl rfl (mul32_spec hx (by omega))) ?_;(iterate 5 refine zz ?_);refine zzn ?_;refine T_region ?_;(iterate 3 refine zz ?_);refine zo ((ok_bits rfl (by simp) rfl rfl).sub (int_eq (n := (((limb a i * 2 ^ (k % 32) + c) % 4294967296 : Nat) : Int)) (by rw [bitI_or32 (by omega) (by omega), hu3]))) ?_;refine zo (ok_buildNat [(limb a i * 2 ^ (k % 32) + c) % 4294967296] rfl rfl (by decide) rfl (by simp) rfl rfl rfl) ?_;refine Run.append 0 rfl rfl rfl rfl rfl rfl rfl rfl hq (by rw [flat_u32_length, hln]) flat_u32 (by unfold big; simp; omega) (by unfold big; simp; omega) fun q35 hq35 => ?_;refine zo ((ok_move rfl rfl).sub (int_eq (n := (((limb a i * 2 ^ (k % 32) + c) / 4294967296 : Nat) : Int)) (by rw [hu4]))) ?_;(iterate 2 refine zz ?_);refine zzn ?_;refine T_region ?_;(iterate 2 refine zz ?_);refine zzn ?_
  refine ⟨i + 1, q35, (limb a i * 2 ^ (k % 32) + c) / 4294967296, out ++ [(limb a i * 2 ^ (k % 32) + c) % 4294967296], ⟨by omega, hq35, hu2, lim_snoc hlo (by omega), by simp [hln]; omega, ?_⟩, by omega, ent_h (subG_cons rfl (subG_cons rfl (subG_cons rfl (subG_cons rfl (subG_cons rfl (subG_cons rfl trivial)))))) (by rw [List.flatMap_append]; rfl)⟩
  rw [val_snoc, hln, low_succ, show k / 32 + (i + 1) = k / 32 + i + 1 by omega, pow_split]; exact up_val (Nat.pow_add _ _ _) hval
 ·have k25 := of_decide_eq_false h25
  have hia : i = a.length := by omega
  rw [hia, low_all (Nat.le_refl _), hm.val] at hval
  refine T_exit ?_;refine zr ?_;(iterate 2 refine zz ?_);refine zo (ok_buildNat [c] rfl rfl (by decide) rfl (by simp) rfl rfl rfl) ?_;refine Run.append 0 rfl rfl rfl rfl rfl rfl rfl rfl hq (by rw [flat_u32_length, hln]) flat_u32 (by unfold big; simp; omega) (by unfold big; simp; omega) fun q42 hq42 => ?_;refine Run.ghost _ rfl (ghost_sl 0 47 rfl rfl hq42 (l := out ++ [c]) (f := u32S) (by simp [hln]) List.flatMap_append.symm flat_u32 (by unfold big; simp; omega)) ?_
  have : IsNat (out ++ [c]) (m * 2 ^ k) := ⟨lim_snoc hlo (by omega), by rw [val_snoc, hln, hia, hval, two_pow_split k, Nat.mul_comm m, Nat.mul_assoc]⟩
  refine Run.call0 rfl rfl rfl (trim_own (by unfold cap; simp; omega) h0n) rfl rfl rfl ?_
  rintro s H1 ⟨b, c, hb, rfl, rfl⟩
  refine zz ?_;refine zzn ?_;refine T_ret ?_
  exact ⟨_, [_], .one (.tmp rfl), .refl _, b, c, hb, rfl, rfl⟩
end Go.Proofs
/- quot: the steps of the long division: guess, less, more. -/
namespace Go.Proofs
open Go Go.Sv Num
variable {G : Imm}
abbrev longH (bL bR cR N : Nat) (R b : List Nat) : HL := [⟨some bL, 240, [eqS (rowV (some (bR, cR)) N), natS b], 0⟩, rowE (some (bR, cR)) 93 1 N (R.flatMap u32S)]
theorem sb_split {x y u : Nat} (hx : x < 4294967296) (hy : y < 4294967296) (hu : u ≤ 1) : sb x y u % 4294967296 + y + u = x + 4294967296 * (sb x y u / 9223372036854775808) ∧ sb x y u / 9223372036854775808 ≤ 1 := by unfold sb; split <;> omega
theorem low_set_ge {l : List Nat} {a i z : Nat} : low ((l.set (a + i) z).drop a) i = low (l.drop a) i := low_congr fun j hj => by rw [drop_limb, drop_limb, limb_set_ne (by omega)]
theorem guess_spec {R b : List Nat} {bL bR cR at' n : Nat} {N : Nat} (hlN : R.length = N) (hR : Lim R) (hb : Lim b) (hn : b.length = n + 1) (hat : at' + (n + 1) < N) (hb0 : limb b n ≠ 0) (hs : N ≤ cap) : CallSpec Tryz.prog G 261 [eqS (.pointer (some ⟨bL, 0, none⟩)), intS .i64 (at' : Nat)] (longH bL bR cR N R b) (fun s H' => s = intS .u64 (min ((limb R (at' + (n + 1)) * 4294967296 + limb R (at' + n)) / limb b n) 4294967295 : Nat) ∧ H' = longH bL bR cR N R b) := by
 subst hlN
 unfold cap at hs
 have h1 := limb_lt hR (at' + (n + 1))
 have h2 := limb_lt hR (at' + n)
 have h3 := limb_lt hb n
 obtain ⟨w, hw⟩ : ∃ w, w = limb R (at' + (n + 1)) * 4294967296 + limb R (at' + n) := ⟨_, rfl⟩
 refine zs Tryz.func261 ?_;refine zr ?_;refine zz ?_;refine zx ?_;(iterate 4 refine zz ?_);refine zo ((ok_len rfl rfl).sub (int_eq (show ((b.length : Nat) : Int) = ((n + 1 : Nat) : Int) by omega))) ?_;refine zz ?_;refine zzn ?_;refine T_drawS 24 (by kernel_rfl) ?_;(iterate 6 refine zz ?_);refine za ((at' + (n + 1) : Nat) : Int) ?_;refine zo (ok_indexRow (i := at' + (n + 1)) rfl rfl rfl (by omega)) ?_;refine zo (ok_loadRow 1 rfl rfl rfl (by omega)) ?_;refine zz ?_;refine zo ((ok_shl rfl rfl rfl (by omega) (by simp [IntKind.bits])).sub (int_eq (n := ((4294967296 * limb R (at' + (n + 1)) : Nat) : Int)) ((wrap_u64 (by simp; omega) (by simp; omega)).trans (by simp; omega)))) ?_;(iterate 6 refine zz ?_);refine za ((at' + (n + 1) : Nat) : Int) ?_;refine za ((at' + n : Nat) : Int) ?_;refine zo (ok_indexRow (i := at' + n) rfl rfl rfl (by omega)) ?_;refine zo (ok_loadRow 1 rfl rfl rfl (by omega)) ?_;refine zz ?_;refine zo ((ok_bits rfl (by simp) rfl rfl).sub (int_eq (n := ((w : Nat) : Int)) (by rw [bitI_or (by omega) (by omega), or_high h2, hw, Nat.mul_comm]))) ?_;refine zz ?_;refine zzn ?_;refine zx ?_;(iterate 6 refine zz ?_);refine za ((n : Nat) : Int) ?_;refine zo (ok_indexAddr rfl rfl rfl (by omega) (y := limb b n) (limb_get (by omega))) ?_;(iterate 2 refine zz ?_);refine zo ((ok_quo rfl rfl rfl (by omega) (by omega) (by have := Nat.div_le_self w (limb b n); rw [← Int.natCast_ediv]; exact wrap_u64 (Int.natCast_nonneg _) (by omega))).sub (int_eq (n := ((w / limb b n : Nat) : Int)) (Int.natCast_ediv _ _).symm)) ?_;refine zo ((ok_min rfl rfl rfl).sub (int_eq (n := ((min (w / limb b n) 4294967295 : Nat) : Int)) (by omega))) ?_;refine zz ?_;refine zzn ?_;refine T_ret ?_
 exact ⟨_, _, .one (.tmp rfl), List.Sublist.refl _, by rw [← hw], rfl⟩
theorem lless_spec {R b : List Nat} {bL bR cR at' n t : Nat} {N : Nat} (hlN : R.length = N) (hR : Lim R) (hb : Lim b) (hN : rowOk (some (bR, cR)) N) (hn : b.length = n) (hat : at' + n < N) (ht : t < 4294967296) (hs : N ≤ cap) : CallSpec Tryz.prog G 262 [eqS (.pointer (some ⟨bL, 0, none⟩)), intS .i64 (at' : Nat), intS .u64 (t : Nat)] (longH bL bR cR N R b) (fun s H' => ∃ out u, u ≤ 1 ∧ s = boolS (decide (u = 0)) ∧ Lim out ∧ out.length = N ∧ (∀ j, j < at' ∨ at' + (n + 1) ≤ j → limb out j = limb R j) ∧ low (out.drop at') (n + 1) + t * val b = low (R.drop at') (n + 1) + bpow (n + 1) * u ∧ H' = longH bL bR cR N out b) := by
 subst hlN
 unfold cap at hs
 refine zs Tryz.func262 ?_;refine zr ?_;refine zz ?_;refine zzn ?_;refine T_drawS 16 (by kernel_rfl) ?_;(iterate 10 refine zz ?_);refine zo ((ok_len rfl rfl).sub (int_eq (show ((b.length : Nat) : Int) = ((n : Nat) : Int) by omega))) ?_;refine za ((at' + n : Nat) : Int) ?_;refine za ((at' + n + 1 : Nat) : Int) ?_;refine zo ((ok_sliceRow (lo := at') (hi := at' + n + 1) rfl rfl hN rfl rfl rfl rfl (by omega) (by omega)).sub (show ∀ I v, _ → (eqS (.slice (some ⟨bR, at', none⟩) (n + 1) (cR - at'))).den I v from fun I v h => by rw [show n + 1 = at' + n + 1 - at' by omega]; exact h)) ?_;(iterate 2 refine zz ?_);refine zzn ?_;refine zx ?_;refine zz ?_;refine zzn ?_;refine T_seq ?_;refine zr ?_;refine zz ?_;refine zo (ok_len_eq rfl rfl) ?_;refine zz ?_;refine zzn ?_;refine T_block ?_
 refine T_loop4 (fun i over under out => ⟨_, [(32, intS .i64 (i : Nat)), (31, intS .i64 (n + 1 : Nat)), (9, intS .u64 (under : Nat)), (8, intS .u64 (over : Nat)), (7, eqS (.slice (some ⟨bR, at', none⟩) (n + 1) (cR - at'))), (2, intS .u64 (t : Nat)), (0, eqS (.pointer (some ⟨bL, 0, none⟩)))], longH bL bR cR R.length out b, [], (0, false)⟩)
   (fun i over under out => i ≤ n + 1 ∧ over < 4294967296 ∧ under ≤ 1 ∧ (i = n + 1 → over = 0) ∧ Lim out ∧ out.length = R.length ∧ (∀ j, j < at' ∨ at' + i ≤ j → limb out j = limb R j) ∧ low (out.drop at') i + t * low b i = low (R.drop at') i + 4294967296 ^ i * (over + under)) (fun i over under out => n + 1 - i)
   0 0 0 R ⟨by omega, by omega, by omega, fun _ => rfl, hR, rfl, fun _ _ => rfl, by simp [low_zero]⟩ (ent_h (subG_cons rfl (subG_cons rfl (subG_cons rfl (subG_cons rfl (subG_cons rfl (subG_cons rfl (subG_cons rfl (trivial)))))))) rfl) ?_
 rintro i over under out ⟨hi, hov, hun, h0, hlo, hln, hk, hval⟩
 refine zr ?_;refine zz ?_;refine zzn ?_;refine T_seq ?_;refine zzc (fun h33 => ?_) fun h33 => ?_
 ·have k33 := of_decide_eq_true h33
  have hp := limb_lt hR (at' + i)
  have hx0 := limb_lt hb i
  obtain ⟨x, hx⟩ : ∃ x, x = limb b i := ⟨_, rfl⟩
  rw [← hx] at hx0
  have hw0 := mul_lt64 hx0 ht hov (show 0 < 4294967296 by omega)
  obtain ⟨w, hw⟩ : ∃ w, w = x * t + over := ⟨_, rfl⟩
  obtain ⟨y, hy⟩ : ∃ y, y = limb R (at' + i) := ⟨_, rfl⟩
  rw [← hy] at hp
  refine T_skip ?_;refine T_seq ?_;refine T_block ?_;refine zr ?_;(iterate 2 refine zz ?_);refine zx ?_;refine zz ?_;refine zzn ?_;refine T_seqQ (K := fun S1 => Ent S1 (⟨89, [(11, intS .u64 (x : Nat)), (10, intS .i64 (i : Nat)), (32, intS .i64 (i : Nat)), (31, intS .i64 (n + 1 : Nat)), (9, intS .u64 (under : Nat)), (8, intS .u64 (over : Nat)), (7, eqS (.slice (some ⟨bR, at', none⟩) (n + 1) (cR - at'))), (2, intS .u64 (t : Nat)), (0, eqS (.pointer (some ⟨bL, 0, none⟩)))], longH bL bR cR R.length out b, [], (0, false)⟩)) ?_ ?_
  ·refine zr ?_;(iterate 5 refine zz ?_);refine zo ((ok_len rfl rfl).sub (int_eq (show ((b.length : Nat) : Int) = ((n : Nat) : Int) by omega))) ?_;refine zz ?_;refine zzn ?_;refine zzc (fun h41 => ?_) fun h41 => ?_
   ·have k41 := of_decide_eq_true h41
    refine T_region ?_;(iterate 5 refine zz ?_);refine zo (ok_indexAddr rfl rfl rfl (by omega) (y := limb b i) (limb_get (by omega))) ?_;refine zz ?_
    have hb1 := limb_lt hb i
    (iterate 2 refine zz ?_);refine zzn ?_
    exact ent_g (subG_as rfl (congrArg (intS .u64) (by rw [hx])) (subG_cons rfl (subG_cons rfl (subG_cons rfl (subG_cons rfl (subG_cons rfl (subG_cons rfl (subG_cons rfl (subG_cons rfl (trivial))))))))))
   ·have k41 := of_decide_eq_false h41
    refine T_skip ?_
    exact ent_g (subG_as rfl (congrArg (intS .u64) (by rw [hx, limb_out (by omega)]; rfl)) (subG_cons rfl (subG_cons rfl (subG_cons rfl (subG_cons rfl (subG_cons rfl (subG_cons rfl (subG_cons rfl (subG_cons rfl (trivial))))))))))
  ·intro S1 hS1
   refine T_pre hS1 ?_;refine zr ?_;(iterate 2 refine zz ?_);refine zo (ok_call rfl rfl (mul64_spec (by omega) (by omega))) ?_;refine zz ?_;refine zo ((ok_extract rfl rfl rfl).sub (int_eq (n := 0) (by rw [Nat.div_eq_of_lt (by omega)]; rfl))) ?_;refine zo ((ok_extract rfl rfl rfl).sub (int_eq (n := ((x * t : Nat) : Int)) (by rw [Nat.mod_eq_of_lt (by omega)]))) ?_;(iterate 2 refine zz ?_);refine zx ?_;(iterate 2 refine zz ?_);refine zo (ok_add64 (c := 0) Tryz.func268 rfl rfl rfl rfl rfl rfl rfl rfl (by omega)) ?_;refine zz ?_;refine zo ((ok_extract rfl rfl rfl).sub (int_eq (n := ((w : Nat) : Int)) (by rw [Nat.mod_eq_of_lt (by omega), hw, Nat.add_zero]))) ?_;refine zo ((ok_extract rfl rfl rfl).sub (int_eq (n := 0) (by rw [Nat.div_eq_of_lt (by omega)]; rfl))) ?_;(iterate 2 refine zz ?_);refine zx ?_;(iterate 2 refine zz ?_);refine zo (ok_ari (z := 0) rfl rfl rfl (congrArg some (by omega)) (wrap_u64 (by omega) (by omega))) ?_;refine zo ((ok_shl rfl rfl rfl (by omega) (by simp [IntKind.bits])).sub (int_eq (n := 0) (by decide))) ?_;refine zz ?_;refine zo ((ok_shr rfl rfl rfl (by omega) (by simp [IntKind.bits])).sub (int_eq (shr32 w))) ?_;refine zo ((ok_bits rfl (by simp) rfl rfl).sub (int_eq (n := ((w / 4294967296 : Nat) : Int)) ((bitI_or (x := 0) (by omega) (by omega)).trans (by rw [Nat.zero_or])))) ?_;refine zz ?_;refine zx ?_;(iterate 2 refine zz ?_);refine zo (ok_indexAddr_eq (q := at' + i) rfl rfl rfl (by omega) (by omega) (by simp)) ?_
   refine zo ((ok_loadRow 1 rfl rfl rfl (by omega)).sub (int_eq (n := ((y : Nat) : Int)) (by rw [hy, hk _ (.inr (Nat.le_refl _))]))) ?_
   (iterate 2 refine zz ?_);refine zo ((ok_bits rfl (by simp) rfl rfl).sub (int_eq (n := ((w % 4294967296 : Nat) : Int)) ((bitI_and (y := 4294967295) (by omega) (by omega)).trans (by rw [and_mask])))) ?_;refine zo (ok_ari_wrap rfl rfl rfl rfl) ?_;refine zz ?_;refine zo ((ok_ari_wrap rfl rfl rfl rfl).sub (int_eq (show _ = ((sb y (w % 4294967296) under : Nat) : Int) by rw [wrap_u64_mod, wrap_u64_mod]; unfold sb; split <;> omega))) ?_;refine zz ?_;refine zzn ?_;refine T_region ?_;(iterate 3 refine zz ?_);refine zo (ok_conv (z := ((sb y (w % 4294967296) under % 4294967296 : Nat) : Int)) rfl rfl wrap_u32_mod) ?_;refine zz ?_;refine zo ((ok_shr rfl rfl rfl (by omega) (by simp [IntKind.bits])).sub (int_eq (shr63 _))) ?_;refine zo (ok_indexAddr_eq (q := at' + i) rfl rfl rfl (by omega) (by omega) (by simp)) ?_;refine Run.storeRow 1 rfl rfl rfl rfl rfl (by omega) rfl rfl ?_;refine zz ?_;refine zzn ?_;refine T_region ?_;refine za ((i + 1 : Nat) : Int) ?_;refine zz ?_;refine zzn ?_
   obtain ⟨hs1, hs2⟩ := sb_split (x := y) (y := w % 4294967296) (u := under) hp (by omega) hun
   refine ⟨i + 1, w / 4294967296, sb y (w % 4294967296) under / 9223372036854775808, out.set (at' + i) (sb y (w % 4294967296) under % 4294967296), ⟨by omega, by omega, hs2, fun h => ?_, lim_set hlo (by omega), by rw [List.length_set]; exact hln, fun j hj => by rw [limb_set_ne (by omega)]; exact hk j (by omega), ?_⟩, by omega, ent_h (subG_cons rfl (subG_cons rfl (subG_cons rfl (subG_cons rfl (subG_cons rfl (subG_cons rfl (subG_cons rfl (trivial)))))))) rfl⟩
   ·have : x = 0 := by rw [hx, limb_out (by omega)]
    rw [hw, this]; omega
   ·rw [low_succ, low_succ, low_succ, low_set_ge, drop_limb, limb_set_eq (by omega), drop_limb, pow_split, ← hx, ← hy]
    exact less_step (y := 0) hval (by rw [← hw]; exact Nat.mod_add_div w 4294967296) hs1 rfl
 ·have k33 := of_decide_eq_false h33
  have hie : i = n + 1 := by omega
  have hov0 := h0 hie
  rw [hie, hov0, Nat.zero_add, low_all (l := b) (by omega)] at hval
  refine T_exit ?_;refine zr ?_;refine zz ?_;refine zo ((ok_cmp rfl rfl rfl rfl).sub (bool_eq (c := decide (under = 0)) (by rcases Nat.lt_or_ge 0 under with h | h; rw [decide_eq_false (by omega)]; exact beq_eq_false_iff_ne.2 (by omega); rw [decide_eq_true (by omega)]; exact beq_iff_eq.2 (by omega)))) ?_;refine zz ?_;refine zzn ?_;refine T_ret ?_
  exact ⟨_, _, .one (.tmp rfl), List.Sublist.refl _, out, under, hun, rfl, hlo, hln, fun j hj => hk j (by omega), hval, rfl⟩
theorem more_spec {R b : List Nat} {bL bR cR at' n : Nat} {N : Nat} (hlN : R.length = N) (hR : Lim R) (hb : Lim b) (hn : b.length = n) (hat : at' + n < N) (hs : N ≤ cap) : CallSpec Tryz.prog G 263 [eqS (.pointer (some ⟨bL, 0, none⟩)), intS .i64 (at' : Nat)] (longH bL bR cR N R b) (fun s H' => ∃ out c, c ≤ 1 ∧ s = boolS (decide (0 < c)) ∧ Lim out ∧ out.length = N ∧ (∀ j, j < at' ∨ at' + (n + 1) ≤ j → limb out j = limb R j) ∧ low (out.drop at') (n + 1) + bpow (n + 1) * c = low (R.drop at') (n + 1) + val b ∧ H' = longH bL bR cR N out b) := by
 subst hlN
 unfold cap at hs
 refine zs Tryz.func263 ?_;refine zr ?_;refine zz ?_;refine zx ?_;refine zz ?_;refine zzn ?_;refine T_seq ?_;refine zr ?_;(iterate 4 refine zz ?_);refine zo ((ok_len rfl rfl).sub (int_eq (show ((b.length : Nat) : Int) = ((n : Nat) : Int) by omega))) ?_;refine za ((n + 1 : Nat) : Int) ?_;refine zz ?_;refine zzn ?_;refine T_block ?_
 refine T_loop3 (fun i over out => ⟨_, [(13, intS .i64 (i : Nat)), (12, intS .i64 (n + 1 : Nat)), (5, intS .u64 (over : Nat)), (1, intS .i64 (at' : Nat)), (0, eqS (.pointer (some ⟨bL, 0, none⟩)))], longH bL bR cR R.length out b, [], (0, false)⟩)
   (fun i over out => i ≤ n + 1 ∧ over ≤ 1 ∧ Lim out ∧ out.length = R.length ∧ (∀ j, j < at' ∨ at' + i ≤ j → limb out j = limb R j) ∧ low (out.drop at') i + 4294967296 ^ i * over = low (R.drop at') i + low b i) (fun i over out => n + 1 - i)
   0 0 R ⟨by omega, by omega, hR, rfl, fun _ _ => rfl, by simp [low_zero]⟩ (ent_h (subG_cons rfl (subG_cons rfl (subG_cons rfl (subG_cons rfl (subG_cons rfl (trivial)))))) rfl) ?_
 rintro i over out ⟨hi, hov, hlo, hln, hk, hval⟩
 refine zr ?_;refine zz ?_;refine zzn ?_;refine T_seq ?_;refine zzc (fun h14 => ?_) fun h14 => ?_
 ·have k14 := of_decide_eq_true h14
  have hp := limb_lt hR (at' + i)
  have hx0 := limb_lt hb i
  obtain ⟨x, hx⟩ : ∃ x, x = limb b i := ⟨_, rfl⟩
  rw [← hx] at hx0
  obtain ⟨y, hy⟩ : ∃ y, y = limb R (at' + i) := ⟨_, rfl⟩
  rw [← hy] at hp
  refine T_skip ?_;refine T_seq ?_;refine T_block ?_;refine zr ?_;(iterate 2 refine zz ?_);refine zzn ?_;refine T_seqQ (K := fun S1 => Ent S1 (⟨60, [(5, intS .u64 (over + x : Nat)), (6, intS .i64 (i : Nat)), (13, intS .i64 (i : Nat)), (12, intS .i64 (n + 1 : Nat)), (1, intS .i64 (at' : Nat)), (0, eqS (.pointer (some ⟨bL, 0, none⟩)))], longH bL bR cR R.length out b, [], (0, false)⟩)) ?_ ?_
  ·refine zr ?_;(iterate 5 refine zz ?_);refine zo ((ok_len rfl rfl).sub (int_eq (show ((b.length : Nat) : Int) = ((n : Nat) : Int) by omega))) ?_;refine zz ?_;refine zzn ?_;refine zzc (fun h22 => ?_) fun h22 => ?_
   ·have k22 := of_decide_eq_true h22
    refine T_region ?_;(iterate 6 refine zz ?_);refine zo (ok_indexAddr rfl rfl rfl (by omega) (y := limb b i) (limb_get (by omega))) ?_;refine zo ((ok_load rfl rfl).sub (int_eq (n := ((x : Nat) : Int)) (by rw [hx]))) ?_;refine zz ?_;refine za ((over + x : Nat) : Int) ?_;refine zz ?_;refine zzn ?_
    exact ent_g zk
   ·have k22 := of_decide_eq_false h22
    refine T_skip ?_
    exact ent_g (subG_as rfl (congrArg (intS .u64) (by rw [hx, limb_out (by omega)]; rfl)) (subG_cons rfl (subG_cons rfl (subG_cons rfl (subG_cons rfl (subG_cons rfl (trivial)))))))
  ·intro S1 hS1
   refine T_pre hS1 ?_;refine zr ?_;(iterate 7 refine zz ?_);refine za ((at' + i : Nat) : Int) ?_;refine zo (ok_indexRow (i := at' + i) rfl rfl rfl (by omega)) ?_
   refine zo ((ok_loadRow 1 rfl rfl rfl (by omega)).sub (int_eq (n := ((y : Nat) : Int)) (by rw [hy, hk _ (.inr (Nat.le_refl _))]))) ?_
   refine zz ?_;refine za ((over + x + y : Nat) : Int) ?_;refine zz ?_;refine zx ?_;(iterate 6 refine zz ?_);refine za ((at' + i : Nat) : Int) ?_;refine zz ?_;refine zo (ok_conv (z := (((over + x + y) % 4294967296 : Nat) : Int)) rfl rfl wrap_u32_mod) ?_;refine zo (ok_indexRow (i := at' + i) rfl rfl rfl (by omega)) ?_;refine Run.storeRow 1 rfl rfl rfl rfl rfl (by omega) rfl rfl ?_;refine zzn ?_;refine T_region ?_;refine zz ?_;refine zo ((ok_shr rfl rfl rfl (by omega) (by simp [IntKind.bits])).sub (int_eq (shr32 _))) ?_;refine zz ?_;refine zzn ?_;refine T_region ?_;refine za ((i + 1 : Nat) : Int) ?_;refine zz ?_;refine zzn ?_
   refine ⟨i + 1, (over + x + y) / 4294967296, out.set (at' + i) ((over + x + y) % 4294967296), ⟨by omega, by omega, lim_set hlo (by omega), by rw [List.length_set]; exact hln, fun j hj => by rw [limb_set_ne (by omega)]; exact hk j (by omega), ?_⟩, by omega, ent_h (subG_cons rfl (subG_cons rfl (subG_cons rfl (subG_cons rfl (subG_cons rfl (trivial)))))) rfl⟩
   rw [low_succ, low_succ, low_succ, low_set_ge, drop_limb, limb_set_eq (by omega), drop_limb, pow_split, ← hx, ← hy]
   exact more_step hval
 ·have k14 := of_decide_eq_false h14
  have hie : i = n + 1 := by omega
  rw [hie, low_all (l := b) (by omega)] at hval
  refine T_exit ?_;refine zr ?_;refine zz ?_;refine zo ((ok_cmp rfl rfl rfl rfl).sub (bool_eq (c := decide (0 < over)) (decide_eq_decide.2 (by omega)))) ?_;refine zz ?_;refine zzn ?_;refine T_ret ?_
  exact ⟨_, _, .one (.tmp rfl), List.Sublist.refl _, out, over, hov, rfl, hlo, hln, fun j hj => hk j (by omega), hval, rfl⟩
end Go.Proofs
/- quot: the long division. -/
namespace Go.Proofs
open Go Go.Sv Num
variable {G : Imm}
def digX (X D cnt : Nat) : List (List SV) := (List.range cnt).map fun k => [intS .i64 (cnt - 1 - k : Nat), intS .u32 (X / D / bpow (cnt - 1 - k) % 4294967296 : Nat)]
theorem digX_length {X D cnt : Nat} : (digX X D cnt).length = cnt := by simp [digX]
theorem digX_get {X D cnt k : Nat} (h : k < cnt) : (digX X D cnt)[k]? = some [intS .i64 (cnt - 1 - k : Nat), intS .u32 (X / D / bpow (cnt - 1 - k) % 4294967296 : Nat)] := by
 simp only [digX, List.getElem?_map, List.getElem?_range h, Option.map_some]
theorem digX_inv {X D cnt k : Nat} {ss : List SV} (h : (digX X D cnt)[k]? = some ss) : k < cnt ∧ ss = [intS .i64 (cnt - 1 - k : Nat), intS .u32 (X / D / bpow (cnt - 1 - k) % 4294967296 : Nat)] := by
 have h1 : k < cnt := by have := lt_of_get h; rwa [digX_length] at this
 refine ⟨h1, ?_⟩
 rw [digX_get h1] at h; exact (Option.some.inj h).symm
theorem digX_ss {X D cnt : Nat} {ss : List SV} (h : ss ∈ digX X D cnt) : ss.length = 2 := by
 obtain ⟨i, _, rfl⟩ := List.mem_map.1 h; rfl
theorem dig_low {n : Nat} (h : n ≠ 0) : 4294967296 ^ ((dig n).length - 1) ≤ n := by
 rcases Nat.lt_or_ge n (4294967296 ^ ((dig n).length - 1)) with h1 | h1
 ·have h2 := dig_length_le h1
  have h3 : (dig n).length ≠ 0 := fun h0 => h (dig_len_zero.1 h0)
  omega
 ·exact h1
theorem dig_top {n : Nat} (h : n ≠ 0) : limb (dig n) ((dig n).length - 1) ≠ 0 ∧ limb (dig n) ((dig n).length - 1) = n / 4294967296 ^ ((dig n).length - 1) := by
 have h1 := dig_low h
 have h3 : (dig n).length ≠ 0 := fun h0 => h (dig_len_zero.1 h0)
 have hp : 0 < 4294967296 ^ ((dig n).length - 1) := Nat.pow_pos (by decide)
 have h4 : n / 4294967296 ^ ((dig n).length - 1) < 4294967296 := by
  rw [Nat.div_lt_iff_lt_mul hp, Nat.mul_comm, ← pow_split, Nat.sub_add_cancel (Nat.pos_of_ne_zero h3)]
  exact lt_of_dig_length (Nat.le_refl _)
 have h5 : 0 < n / 4294967296 ^ ((dig n).length - 1) := Nat.div_pos h1 hp
 have h6 : limb (dig n) ((dig n).length - 1) = n / 4294967296 ^ ((dig n).length - 1) := by
  rw [limb_digit (lim_dig n), val_dig, Nat.mod_eq_of_lt h4]
 exact ⟨by rw [h6]; exact Nat.ne_of_gt h5, h6⟩
theorem div_facts {m n La Lb up : Nat} (hLa : La = (dig m).length) (hLb : Lb = (dig n).length) (hn0 : n ≠ 0) (hmn : n ≤ m) (hup : up = 32 - Lib.bitLen (limb (dig n) (Lb - 1))) :
  up ≤ 32 ∧ (dig (m * 2 ^ up)).length ≤ La + 1 ∧ (dig (n * 2 ^ up)).length = Lb ∧ 1 ≤ Lb ∧ Lb ≤ La ∧ limb (dig (n * 2 ^ up)) (Lb - 1) ≠ 0 ∧ m * 2 ^ up < n * 2 ^ up * bpow (La + 1 - Lb) ∧ n * 2 ^ up ≠ 0 ∧ m * 2 ^ up ≠ 0 := by
 have hp : 0 < 4294967296 ^ (Lb - 1) := Nat.pow_pos (by decide)
 have h2p : 0 < 2 ^ up := Nat.two_pow_pos up
 have hu : up ≤ 32 := by omega
 have hLb0 : 1 ≤ Lb := by
  have h3 : (dig n).length ≠ 0 := fun h0 => hn0 (dig_len_zero.1 h0)
  omega
 have hm : m < 4294967296 ^ La := lt_of_dig_length (by rw [hLa]; exact Nat.le_refl _)
 have hnl : 4294967296 ^ (Lb - 1) ≤ n := by rw [hLb]; exact dig_low hn0
 have hab : Lb ≤ La := by
  rcases Nat.lt_or_ge La Lb with h | h
  ·exfalso
   have h1 : 4294967296 ^ La ≤ 4294967296 ^ (Lb - 1) := Nat.pow_le_pow_right (by decide) (by omega)
   exact absurd (Nat.lt_of_lt_of_le hm (Nat.le_trans h1 hnl)) (Nat.not_lt.2 hmn)
  ·exact h
 have h232 : 2 ^ up ≤ 4294967296 := Nat.pow_le_pow_right (n := 2) (by decide) hu
 have e1 : (dig (m * 2 ^ up)).length ≤ La + 1 := by
  refine dig_length_le ?_
  rw [pow_split]
  exact Nat.lt_of_lt_of_le (Nat.mul_lt_mul_of_pos_right hm h2p) (Nat.mul_le_mul_left _ h232)
 obtain ⟨x, hx⟩ : ∃ x, x = limb (dig n) (Lb - 1) := ⟨_, rfl⟩
 have hxd : x = n / 4294967296 ^ (Lb - 1) := by rw [hx, hLb]; exact (dig_top hn0).2
 have hxl : x < 4294967296 := by rw [hx]; exact limb_lt (lim_dig n) _
 obtain ⟨hb1, hb2, hb3⟩ := bitLen_spec 32 x hxl (by decide)
 rw [← hx] at hup
 have hD : n * 2 ^ up < 4294967296 ^ Lb := by
  have g1 : n < (x + 1) * 4294967296 ^ (Lb - 1) := by rw [hxd]; exact Nat.lt_mul_of_div_lt (Nat.lt_succ_self _) hp
  have g2 : (x + 1) * 2 ^ up ≤ 4294967296 := by
   have : 2 ^ Lib.bitLen x * 2 ^ up = 4294967296 := by rw [← Nat.pow_add, show Lib.bitLen x + up = 32 by omega]
   rw [← this]; exact Nat.mul_le_mul_right _ hb1
  have g3 := Nat.mul_lt_mul_of_pos_right g1 h2p
  refine Nat.lt_of_lt_of_le g3 ?_
  rw [Nat.mul_right_comm]
  refine Nat.le_trans (Nat.mul_le_mul_right _ g2) ?_
  rw [Nat.mul_comm, ← pow_split, Nat.sub_add_cancel hLb0]; exact Nat.le_refl _
 have e2 : (dig (n * 2 ^ up)).length = Lb := by
  refine Nat.le_antisymm (dig_length_le hD) ?_
  rcases Nat.lt_or_ge (dig (n * 2 ^ up)).length Lb with h | h
  ·exfalso
   have h1 : n * 2 ^ up < 4294967296 ^ (Lb - 1) := lt_of_dig_length (by omega)
   have h2 : n ≤ n * 2 ^ up := Nat.le_mul_of_pos_right _ h2p
   exact absurd (Nat.lt_of_le_of_lt h2 h1) (Nat.not_lt.2 hnl)
  ·exact h
 have e3 : n * 2 ^ up ≠ 0 := Nat.mul_ne_zero hn0 (Nat.ne_of_gt h2p)
 refine ⟨hu, e1, e2, hLb0, hab, by have := (dig_top e3).1; rw [e2] at this; exact this, ?_, e3, Nat.mul_ne_zero (by omega) (Nat.ne_of_gt h2p)⟩
 have := first_fits (k := up) hm hnl (by omega)
 rw [show La + 1 - Lb = La - (Lb - 1) by omega]; exact this
theorem quot_val {m n up cnt : Nat} {out : List Nat} (hlo : Lim out) (hln : out.length = cnt) (hn : n * 2 ^ up ≠ 0) (hlt : m * 2 ^ up < n * 2 ^ up * bpow cnt) (hz : ∀ j, j < cnt → limb out j = m * 2 ^ up / (n * 2 ^ up) / bpow j % 4294967296) : val out = m / n := by
 have e : m * 2 ^ up / (n * 2 ^ up) = m / n := Nat.mul_div_mul_right m n (Nat.two_pow_pos up)
 have hl : m / n < 4294967296 ^ cnt := by
  rw [← e, Nat.div_lt_iff_lt_mul (Nat.pos_of_ne_zero hn), Nat.mul_comm, Nat.mul_comm (4294967296 ^ cnt), Nat.mul_comm (2 ^ up)]; exact hlt
 have : val out = val (dig (m / n)) := val_congr fun j => by
  rcases Nat.lt_or_ge j cnt with h | h
  ·rw [hz j h, e, limb_dig]; rfl
  ·rw [limb_out (by omega), limb_dig, Nat.div_eq_of_lt (Nat.lt_of_lt_of_le hl (Nat.pow_le_pow_right (by decide) h))]
 rw [this, val_dig]
theorem lng1_spec {R b : List Nat} {bL bR cR N n cnt X D : Nat} (hR : Lim R) (hb : Lim b) (hN : rowOk (some (bR, cR)) N) (hlN : R.length = N) (hn : b.length = n + 1) (hb0 : limb b n ≠ 0) (hcnt : N = n + 1 + cnt) (hs : N ≤ cap) (hX : val R = X) (hD : val b = D) (hlt : X < D * bpow cnt) : IterSpecH Tryz.prog G 260 [ptrS [eqS (.pointer (some ⟨bL, 0, none⟩))]] (digX X D cnt) (longH bL bR cR N R b) (fun i H' => ∃ out, Lim out ∧ out.length = N ∧ (i = (cnt, false) → val out = X % D) ∧ H' = longH bL bR cR N out b) := by
 have hs0 := hs
 unfold cap at hs
 refine iter_specH Tryz.func260 rfl rfl rfl rfl fun l E hy => ?_;refine T_drawS 13 (by kernel_rfl) ?_;(iterate 4 refine zz ?_);refine zo (ok_len_row rfl rfl hN) ?_;(iterate 4 refine zz ?_);refine zo ((ok_len rfl rfl).sub (int_eq (show ((b.length : Nat) : Int) = ((n + 1 : Nat) : Int) by omega))) ?_;refine za ((cnt : Nat) : Int) ?_;refine zo (ok_ari (z := ((cnt : Nat) : Int) - 1) rfl rfl rfl (congrArg some (by omega)) (wrap_i64 (by omega) (by omega))) ?_;refine zz ?_;(iterate 2 refine zzn ?_);refine T_block ?_
 refine T_loop2 (fun g out => ⟨_, [(3, intS .i64 (((g : Nat) : Int) - 1)), (0, yieldS l), (1, ptrS [eqS (.pointer (some ⟨bL, 0, none⟩))])], longH bL bR cR N out b, [], (cnt - g, false)⟩)
   (fun g out => g ≤ cnt ∧ Lim out ∧ out.length = N ∧ val out = X % (D * bpow g)) (fun g out => g)
   cnt R ⟨Nat.le_refl _, hR, hlN, by rw [hX, Nat.mod_eq_of_lt hlt]⟩ ⟨rfl, subG_cons rfl (subG_cons rfl (subG_cons rfl (trivial))), subH_refl _, rfl, by simp⟩ ?_
 rintro g out ⟨hg, hlo, hln, hval⟩
 refine T_seq ?_;refine zr ?_;(iterate 2 refine zz ?_);refine zzn ?_;refine zzc (fun h19 => ?_) fun h19 => ?_
 ·have k19 := of_decide_eq_true h19
  obtain ⟨p, rfl⟩ : ∃ p, g = p + 1 := ⟨g - 1, by omega⟩
  obtain ⟨P, hP, hD0, hPl, hge, hdig, hrest⟩ := round_facts hlo hb hn hb0 hD hval
  obtain ⟨q, hq⟩ : ∃ q, q = min ((limb out (p + (n + 1)) * 4294967296 + limb out (p + n)) / limb b n) 4294967295 := ⟨_, rfl⟩
  rw [← hq] at hge
  have hq2 : q < 4294967296 := by rw [hq]; exact Nat.lt_of_le_of_lt (Nat.min_le_right _ _) (by decide)
  refine T_skip ?_;refine T_seq ?_;refine T_block ?_;refine T_scope ?_;refine zr ?_;refine zz ?_;refine zo ((ok_move rfl rfl).sub (int_eq (show ((p + 1 : Nat) : Int) - 1 = ((p : Nat) : Int) by omega))) ?_;refine Run.callH [] _ [] rfl rfl rfl rfl (guess_spec hln hlo hb hn (by omega) hb0 hs0) rfl rfl rfl ?_
  rintro s1 H1 ⟨rfl, rfl⟩
  refine zo ((ok_assign rfl rfl).sub (int_eq (n := ((q : Nat) : Int)) (congrArg Int.ofNat hq.symm))) ?_;refine zzn ?_;refine T_seq ?_;refine T_label ?_;refine T_seqQ (K := fun S1 => ∃ out2, Lim out2 ∧ out2.length = N ∧ val out2 = X % (D * bpow p) ∧ Ent S1 ⟨42, [(4, intS .u64 (P / D : Nat)), (3, intS .i64 (((p + 1 : Nat) : Int) - 1)), (0, yieldS l), (1, ptrS [eqS (.pointer (some ⟨bL, 0, none⟩))])], longH bL bR cR N out2 b, [], (cnt - (p + 1), false)⟩) ?_ ?_
  ·refine zr ?_;refine zz ?_;refine zo ((ok_move rfl rfl).sub (int_eq (show ((p + 1 : Nat) : Int) - 1 = ((p : Nat) : Int) by omega))) ?_;refine zz ?_;refine Run.callH [] _ [] rfl rfl rfl rfl (lless_spec hln hlo hb hN hn (by omega) hq2 hs0) rfl rfl rfl ?_
   rintro s1 H1 ⟨out1, u1, hu1, rfl, hlo1, hln1, hk1, hv1, rfl⟩
   rw [← hP, hD] at hv1
   replace hv1 : low (out1.drop p) (n + 2) + q * D = P + bpow (n + 2) * u1 := hv1
   refine zz ?_;refine zzn ?_;refine T_block ?_
   refine T_loop3 (fun q2 u2 out2 => ⟨_, [(5, boolS (decide (u2 = 0))), (4, intS .u64 (q2 : Nat)), (3, intS .i64 (((p + 1 : Nat) : Int) - 1)), (0, yieldS l), (1, ptrS [eqS (.pointer (some ⟨bL, 0, none⟩))])], longH bL bR cR N out2 b, [], (cnt - (p + 1), false)⟩)
     (fun q2 u2 out2 => u2 ≤ 1 ∧ q2 < 4294967296 ∧ P / D ≤ q2 ∧ Lim out2 ∧ out2.length = N ∧ (∀ j, j < p ∨ p + (n + 2) ≤ j → limb out2 j = limb out j) ∧ low (out2.drop p) (n + 2) + q2 * D = P + bpow (n + 2) * u2) (fun q2 u2 out2 => q2)
     q u1 out1 ⟨hu1, hq2, hge, hlo1, hln1, hk1, hv1⟩ (ent_h zk rfl) ?_
   rintro q2 u2 out2 ⟨hu2, hq4, hq3, hlo2, hln2, hk2, hv2⟩
   refine T_seq ?_;refine zr ?_;(iterate 2 refine zz ?_);refine zzn ?_;refine zzc (fun h30 => ?_) fun h30 => ?_
   ·have hu3 : u2 = 1 := by rcases Nat.lt_or_ge 0 u2 with h | h; omega; rw [show u2 = 0 by omega] at h30; simp at h30
    subst hu3
    rw [Nat.mul_one] at hv2
    have hc2 : low (out2.drop p) (n + 2) < bpow (n + 2) := low_lt (lim_drop hlo2 p) _
    have hqq := over_fit (c := 1) hD0 hv2 hc2 (Nat.le_refl _)
    obtain ⟨q5, rfl⟩ : ∃ q5, q2 = q5 + 1 := ⟨q2 - 1, by omega⟩
    refine T_skip ?_;refine T_block ?_;refine zr ?_;refine zz ?_;refine za ((q5 : Nat) : Int) ?_;refine zz ?_;refine zx ?_;refine zz ?_;refine zo ((ok_move rfl rfl).sub (int_eq (show ((p + 1 : Nat) : Int) - 1 = ((p : Nat) : Int) by omega))) ?_;refine Run.callH [] _ [] rfl rfl rfl rfl (more_spec hln2 hlo2 hb hn (by omega) hs0) rfl rfl rfl ?_
    rintro s1 H1 ⟨out3, c3, hc3, rfl, hlo3, hln3, hk3, hv3, rfl⟩
    rw [hD] at hv3
    replace hv3 : low (out3.drop p) (n + 2) + bpow (n + 2) * c3 = low (out2.drop p) (n + 2) + D := hv3
    rw [Nat.add_mul, Nat.one_mul] at hv2
    replace hk3 : ∀ j, j < p ∨ p + (n + 2) ≤ j → limb out3 j = limb out j := fun j hj => (hk3 j hj).trans (hk2 j hj)
    have hq5 : P / D ≤ q5 := by omega
    refine zzn ?_;refine zzc (fun h35 => ?_) fun h35 => ?_
    ·have hc4 : c3 = 1 := by have := of_decide_eq_true h35; omega
     rw [hc4, Nat.mul_one] at hv3
     replace hv3 : low (out3.drop p) (n + 2) + q5 * D = P := by omega
     refine T_exit ?_
     exact ⟨out3, hlo3, hln3, hrest out3 hlo3 hk3 (fit hD0 hv3 hq5).2, ent_h (subG_as rfl (congrArg (fun x : Nat => intS .u64 x) (fit hD0 hv3 hq5).1) zk) rfl⟩
    ·have hc4 : c3 = 0 := by have := of_decide_eq_false h35; omega
     rw [hc4, Nat.mul_zero, Nat.add_zero] at hv3
     refine T_skip ?_
     exact ⟨q5, 1, out3, ⟨Nat.le_refl _, by omega, hq5, hlo3, hln3, hk3, by rw [Nat.mul_one]; omega⟩, by omega, ent_h (subG_cons rfl (subG_cons rfl (subG_cons rfl (subG_cons rfl (subG_cons rfl (trivial)))))) rfl⟩
   ·have hu3 : u2 = 0 := by simpa using h30
    subst hu3
    rw [Nat.mul_zero, Nat.add_zero] at hv2
    refine T_exit ?_
    exact ⟨out2, hlo2, hln2, hrest out2 hlo2 hk2 (fit hD0 hv2 hq3).2, ent_h (subG_as rfl (congrArg (fun x : Nat => intS .u64 x) (fit hD0 hv2 hq3).1) zk) rfl⟩
  ·rintro S1 ⟨out2, hlo2, hln2, hval2, hS1⟩
   refine T_pre hS1 ?_;refine zr ?_
   have hdl : P / D < 4294967296 := by rw [hdig]; exact Nat.mod_lt _ (by omega)
   refine zz ?_;refine zo ((ok_move rfl rfl).sub (int_eq (show ((p + 1 : Nat) : Int) - 1 = ((p : Nat) : Int) by omega))) ?_;refine zz ?_;refine zo (ok_conv (z := ((P / D : Nat) : Int)) rfl rfl (wrap_u32 (by omega) (by omega))) ?_
   refine Run.yield rfl hy rfl rfl rfl (by rw [digX_get (by omega), show cnt - 1 - (cnt - (p + 1)) = p by omega, ← hdig]) (subL_refl _) rfl rfl rfl fun y => ?_
   refine zz ?_;refine zzn ?_;refine zzc (fun h41 => ?_) fun h41 => ?_
   ·refine T_ret ?_
    refine ⟨.inl rfl, _, List.Sublist.refl _, ⟨out2, hlo2, hln2, ?_, rfl⟩, .inr h41⟩
    intro h
    have h1 : (!y) = false := congrArg Prod.snd h
    rw [h1] at h41; cases h41
   ·refine T_skip ?_;refine T_region ?_;refine zz ?_;refine zo (ok_ari (z := ((p : Nat) : Int) - 1) rfl rfl rfl (congrArg some (by omega)) (wrap_i64 (by omega) (by omega))) ?_;refine zz ?_;refine zzn ?_
    exact ⟨p, out2, ⟨by omega, hlo2, hln2, hval2⟩, by omega, ⟨rfl, subG_cons rfl (subG_cons rfl (subG_cons rfl (trivial))), subH_refl _, rfl, by simp only; rw [h41, show cnt - p = cnt - (p + 1) + 1 by omega]⟩⟩
 ·have k19 := of_decide_eq_false h19
  have hg0 : g = 0 := by omega
  subst hg0
  rw [show bpow 0 = 1 from rfl, Nat.mul_one] at hval
  refine T_exit ?_
  exact ⟨.inr rfl, _, List.Sublist.refl _, ⟨out, hlo, hln, fun _ => hval, rfl⟩, .inl (by rw [digX_length]; rfl)⟩
theorem lng_spec {bL : Nat} : PSpec Tryz.prog G 248 [eqS (.pointer (some ⟨bL, 0, none⟩))] (fnS 260 [ptrS [eqS (.pointer (some ⟨bL, 0, none⟩))]]) := by
 refine zs Tryz.func248 ?_;refine zr ?_;(iterate 2 refine zz ?_);refine zx ?_;(iterate 2 refine zz ?_);refine zzn ?_;refine T_ret ?_
 exact ⟨_, [], .one (.tmp rfl), List.nil_sublist _, rfl, rfl⟩
theorem div_spec {a b : List Nat} {m n : Nat} [hm : IsNat a m] [hn : IsNat b n] (hs : a.length + 10000 ≤ cap) (hs2 : b.length + 10000 ≤ cap) : PSpec Tryz.prog G 237 [natS a, natS b] (tupS [natS (dig (m / n)), natS (dig (if n = 0 then 0 else m % n)), intS .i64 (if n = 0 then 30 else 0)]) := by
 unfold cap at hs hs2
 have hla : (dig m).length ≤ a.length := dig_length_le (by rw [← hm.val]; exact val_lt hm.lim)
 have hlb : (dig n).length ≤ b.length := dig_length_le (by rw [← hn.val]; exact val_lt hn.lim)
 refine zs Tryz.func237 ?_;refine zr ?_;refine zzv fun b4 => ?_;(iterate 2 refine zz ?_);refine zx ?_;refine zz ?_;refine zo (ok_call rfl rfl (trim_spec (by unfold cap; omega))) ?_;refine zz ?_;refine zo (ok_call rfl rfl (trim_spec (by unfold cap; omega))) ?_;(iterate 2 refine zz ?_);refine zzn ?_;refine T_seq ?_;refine T_block ?_;refine zr ?_;(iterate 4 refine zz ?_);refine zzn ?_;refine zzc (fun h18 => ?_) fun h18 => ?_
 ·have k18 := beq_iff_eq.1 h18
  have hn0 : n = 0 := dig_len_zero.1 (by omega)
  refine zr ?_;refine zw ?_;refine Run.ghost _ rfl (ghost_cell (nil_nat (l := dig (m / n)) (dig_eq_nil.2 (by rw [hn0]; exact Nat.div_zero m)))) ?_;refine zo ((ok_assign rfl rfl).sub (nil_nat (l := dig (if n = 0 then 0 else m % n)) (by rw [if_pos hn0]; exact dig_zero))) ?_;refine zz ?_;refine zzn ?_;refine T_ret ?_
  exact ⟨_, [], .many (.cons (.own 0 inferInstance rfl rfl rfl) (.cons (.tmp rfl) (.cons (.tmp rfl) (.nil)))), List.nil_sublist _, by simp only [if_pos hn0], rfl⟩
 ·have k18 := beq_eq_false_iff_ne.1 h18
  have hn0 : n ≠ 0 := fun h => k18 (by rw [h, dig_zero]; rfl)
  refine zr ?_;(iterate 2 refine zz ?_);refine zf cmp_spec ?_;(iterate 2 refine zz ?_);refine zzn ?_;refine zzc (fun h22 => ?_) fun h22 => ?_
  ·have k22 := of_decide_eq_true h22
   have hmn : m < n := by rcases Nat.lt_or_ge m n with h | h; exact h; unfold tri at k22; rw [if_neg (by omega)] at k22; split at k22 <;> omega
   refine zr ?_;refine zz ?_;refine zw ?_;refine Run.ghost _ rfl (ghost_cell (nil_nat (l := dig (m / n)) (dig_eq_nil.2 (Nat.div_eq_of_lt hmn)))) ?_;refine zo ((ok_assign rfl rfl).sub (show ∀ I v, (natS (dig (m))).den I v → (natS (dig (if n = 0 then 0 else m % n))).den I v from fun I v h => by rw [if_neg hn0, Nat.mod_eq_of_lt hmn]; exact h)) ?_;refine zz ?_;refine zzn ?_;refine T_ret ?_
   exact ⟨_, [], .many (.cons (.own 0 inferInstance rfl rfl rfl) (.cons (.tmp rfl) (.cons (.tmp rfl) (.nil)))), List.nil_sublist _, by simp only [if_neg hn0], rfl⟩
  ·have k22 := of_decide_eq_false h22
   have hmn : n ≤ m := by rcases Nat.lt_or_ge m n with h | h; unfold tri at k22; rw [if_pos h] at k22; omega; exact h
   refine zr ?_;(iterate 4 refine zz ?_);refine zzn ?_;refine zzc (fun h28 => ?_) fun h28 => ?_
   ·have k28 := beq_iff_eq.1 h28
    have hb1 : (dig n).length = 1 := by omega
    have hnB : n < 4294967296 := by have := lt_of_dig_length (n := n) (k := 1) (by omega); rwa [Nat.pow_one] at this
    have hmod := Nat.mod_lt m (Nat.pos_of_ne_zero hn0)
    refine zr ?_;(iterate 2 refine zz ?_);refine zo (ok_indexAddr rfl rfl rfl (by omega) (y := limb (dig n) 0) (limb_get (by omega))) ?_;refine zo ((ok_load rfl rfl).sub (int_eq (n := ((n : Nat) : Int)) (by rw [limb_dig, Nat.pow_zero, Nat.div_one, Nat.mod_eq_of_lt hnB]))) ?_;refine zo (ok_call rfl rfl (short_spec hnB (by unfold cap; omega))) ?_;(iterate 2 refine zz ?_);refine zo ((ok_extract rfl rfl rfl).sub (int_eq (n := ((m % n : Nat) : Int)) (by rw [if_neg hn0]))) ?_;refine zo ((ok_extract rfl rfl rfl).sub (int_eq (n := 0) (by rw [if_neg hn0]))) ?_;(iterate 3 refine zz ?_);refine zx ?_;(iterate 3 refine zz ?_);refine zo (ok_call rfl rfl (of_spec (by omega))) ?_;refine zz ?_;refine zw ?_;refine zo ((ok_assign rfl rfl).sub (show ∀ I v, (natS (dig (m % n))).den I v → (natS (dig (if n = 0 then 0 else m % n))).den I v from fun I v h => by rw [if_neg hn0]; exact h)) ?_;refine zz ?_;refine zzn ?_;refine T_ret ?_
    exact ⟨_, [], .many (.cons (.own 0 inferInstance rfl rfl rfl) (.cons (.tmp rfl) (.cons (.tmp rfl) (.nil)))), List.nil_sublist _, by simp only [if_neg hn0], rfl⟩
   ·have k28 := beq_eq_false_iff_ne.1 h28
    obtain ⟨La, hLa⟩ : ∃ La, La = (dig m).length := ⟨_, rfl⟩
    obtain ⟨Lb, hLb⟩ : ∃ Lb, Lb = (dig n).length := ⟨_, rfl⟩
    obtain ⟨up, hup⟩ : ∃ up, up = 32 - Lib.bitLen (limb (dig n) (Lb - 1)) := ⟨_, rfl⟩
    obtain ⟨f1, f2, f3, f4, f5, f6, f7, f8, f9⟩ := div_facts hLa hLb hn0 hmn hup
    obtain ⟨c, hc⟩ : ∃ c, c = La + 1 - (dig (m * 2 ^ up)).length := ⟨_, rfl⟩
    obtain ⟨cnt, hcnt⟩ : ∃ cnt, cnt = La + 1 - Lb := ⟨_, rfl⟩
    rw [← hcnt] at f7
    have hLN : (dig (m * 2 ^ up)).length + c = La + 1 := by omega
    refine T_skip ?_;refine zr ?_;(iterate 3 refine zz ?_);refine za ((Lb - 1 : Nat) : Int) ?_;refine zo (ok_indexAddr rfl rfl rfl (by omega) (y := limb (dig n) (Lb - 1)) (limb_get (by omega))) ?_;refine zz ?_;refine zo ((ok_call rfl rfl (lz32_spec (limb_lt (lim_dig n) _))).sub (int_eq (n := ((up : Nat) : Int)) (by rw [hup]))) ?_;refine zz ?_;refine zx ?_;(iterate 2 refine zz ?_);refine Run.call0 rfl rfl rfl (up_own (by omega) (by unfold cap; omega) f9) rfl rfl rfl ?_
    rintro s1 H1 ⟨bR, cR, hqR, rfl, rfl⟩
    (iterate 2 refine zz ?_);refine zo (ok_call rfl rfl (up_spec (by omega) (by unfold cap; omega))) ?_;refine zz ?_;refine Run.box rfl rfl rfl rfl rfl rfl fun b60 => ?_;refine zz ?_;refine zzn ?_;refine T_drawFPS [0, 1, 2, 3, 4, 5, 6, 7, 8, 9, 10, 11, 12, 13, 14, 15, 16, 17] 14 _ (by kernel_rfl) (by kernel_rfl) rfl (.cons_cons _ (.cons _ (.cons_cons _ .slnil))) ?_;refine RunE.lat (ok_move rfl rfl) rfl rfl rfl ?_;refine RunE.one (ok_move rfl rfl) rfl rfl rfl (by kernel_rfl) ?_;refine RunE.one (ok_nilCheck_eq rfl rfl) rfl rfl rfl (by kernel_rfl) ?_;refine RunE.one (ok_fieldAddr_eq rfl rfl rfl) rfl rfl rfl (by kernel_rfl) ?_;refine RunE.one (ok_load_own 0 rfl rfl rfl rfl) rfl rfl rfl (by kernel_rfl) ?_;refine RunE.one (ok_move rfl rfl) rfl rfl rfl (by kernel_rfl) ?_;refine RunE.one (ok_len rfl rfl) rfl rfl rfl (by kernel_rfl) ?_;refine RunE.one (ok_ari (z := ((La + 1 : Nat) : Int)) rfl rfl rfl (congrArg some (by omega)) (wrap_i64 (by omega) (by omega))) rfl rfl rfl (by kernel_rfl) ?_;refine RunE.one (ok_move rfl rfl) rfl rfl rfl (by kernel_rfl) ?_;refine RunE.one (ok_nilCheck_eq rfl rfl) rfl rfl rfl (by kernel_rfl) ?_;refine RunE.one (ok_fieldAddr_eq rfl rfl rfl) rfl rfl rfl (by kernel_rfl) ?_;refine RunE.one (ok_load_own 0 rfl rfl rfl rfl) rfl rfl rfl (by kernel_rfl) ?_;refine RunE.one (ok_len_row rfl rfl hqR) rfl rfl rfl (by kernel_rfl) ?_;refine RunE.one (ok_ari (z := ((c : Nat) : Int)) rfl rfl rfl (congrArg some (by omega)) (wrap_i64 (by omega) (by omega))) rfl rfl rfl (by kernel_rfl) ?_;refine RunE.nil ?_
    refine EffAtD.appendZeros 1 rfl rfl rfl rfl rfl rfl rfl hqR (flat_u32_length _) (by unfold big; omega) (by unfold big; omega) fun q2 hq2 => ⟨.cons_cons _ (.cons _ (.cons_cons _ .slnil)), ?_⟩
    obtain ⟨bR2, cR2⟩ := q2
    rw [zero_row, ← List.flatMap_append, hLN]
    rw [hLN] at hq2
    (iterate 2 refine zz ?_);refine zw ?_;refine zzn ?_
    obtain ⟨Rl, hRl⟩ : ∃ l, l = dig (m * 2 ^ up) ++ List.replicate c 0 := ⟨_, rfl⟩
    rw [← hRl]
    have hRlim : Lim Rl := by rw [hRl]; exact lim_append (lim_dig _) (lim_replicate _)
    have hRlen : Rl.length = La + 1 := by rw [hRl, List.length_append, List.length_replicate, hLN]
    have hRval : val Rl = m * 2 ^ up := by rw [hRl, val_append, val_replicate_zero, val_dig, Nat.mul_zero, Nat.add_zero]
    refine T_drawS 11 (by kernel_rfl) ?_;(iterate 4 refine zz ?_);refine zo (ok_len_row rfl rfl hq2) ?_;(iterate 5 refine zz ?_);refine za ((cnt : Nat) : Int) ?_;refine zzn ?_;refine Run.makeNat (n := cnt) (c := cnt) rfl rfl rfl rfl rfl rfl rfl (Nat.le_refl _) (by omega) (by unfold cap; omega) fun b89 hb89 => ?_;refine zw ?_;refine zzn ?_;refine T_seq ?_;refine zr ?_;refine zz ?_;refine zf lng_spec ?_;refine zzn ?_;refine T_block ?_
    refine T_rngH (H0 := longH b60 bR2 cR2 (La + 1) Rl (dig (n * 2 ^ up))) (h1 := [rowE (some (b89, cnt)) 93 1 cnt ((List.replicate cnt 0).flatMap u32S), ⟨some b4, 24, [eqS (rowV (some (b89, cnt)) cnt)], 0⟩]) rfl rfl (lng1_spec hRlim (lim_dig _) hq2 hRlen (n := Lb - 1) (by omega) f6 (cnt := cnt) (by omega) (by unfold cap; omega) hRval (val_dig _) f7) (List.perm_middle (l₁ := longH b60 bR2 cR2 (La + 1) Rl (dig (n * 2 ^ up)))).symm (fun ss h => digX_ss h) (by decide) rfl
      (fun k h i => i = (0, false) ∧ k ≤ cnt ∧ ∃ out, Lim out ∧ out.length = cnt ∧ (∀ j, cnt - k ≤ j → j < cnt → limb out j = m * 2 ^ up / (n * 2 ^ up) / bpow j % 4294967296) ∧ h = [rowE (some (b89, cnt)) 93 1 cnt (out.flatMap u32S), ⟨some b4, 24, [eqS (rowV (some (b89, cnt)) cnt)], 0⟩])
      (fun _ _ _ => False) ⟨rfl, Nat.zero_le _, List.replicate cnt 0, lim_replicate _, List.length_replicate, fun j h1 h2 => by omega, rfl⟩ ?_ ?_ ?_
    ·rintro l k ss h i hk ⟨rfl, _, out, hlo, hln, hz, rfl⟩
     obtain ⟨hk1, rfl⟩ := digX_inv hk
     obtain ⟨p, hp⟩ : ∃ p, p = cnt - 1 - k := ⟨_, rfl⟩
     obtain ⟨z, hzz⟩ : ∃ z, z = m * 2 ^ up / (n * 2 ^ up) / bpow p % 4294967296 := ⟨_, rfl⟩
     rw [← hp, ← hzz]
     have hzl : z < 4294967296 := by rw [hzz]; exact Nat.mod_lt _ (by decide)
     refine zr ?_;refine zz ?_;refine zzn ?_;refine T_region ?_;refine zz ?_;refine zzn ?_
     refine ⟨rfl, ?_⟩
     refine T_block ?_;refine T_region ?_;(iterate 3 refine zz ?_);refine zo (ok_indexRow (i := p) rfl rfl rfl (by omega)) ?_;refine Run.storeRow 0 rfl rfl rfl rfl rfl (by omega) rfl rfl ?_;refine zzn ?_
     refine ⟨rfl, by omega, out.set p z, lim_set hlo hzl, by rw [List.length_set]; exact hln, fun j h1 h2 => ?_, rfl⟩
     by_cases e : j = p
     ·rw [e, limb_set_eq (by omega), hzz]
     ·rw [limb_set_ne (fun h => e h.symm)]; exact hz j (by omega) h2
    ·rintro h H2 i D ⟨rfl, _, out, hlo, hln, hz, rfl⟩ ⟨R2, hlo2, hln2, hv2, rfl⟩
     rw [digX_length] at hz hv2
     replace hv2 := hv2 rfl
     rw [Nat.mul_mod_mul_right] at hv2
     have hvo := quot_val hlo hln f8 f7 fun j hj => hz j (by omega) hj
     have i1 : IsNat out (m / n) := ⟨hlo, hvo⟩
     have i2 : IsNat R2 (m % n * 2 ^ up) := ⟨hlo2, hv2⟩
     refine T_ghost (ghost_in 1 0 0 rfl rfl rfl hq2 hln2 rfl flat_u32 (by unfold big; omega)) ?_;refine T_ghost (ghost_in 1 1 0 rfl rfl rfl hb89 hln rfl flat_u32 (by unfold big; omega)) ?_;refine T_drawS 9 (by kernel_rfl) ?_;refine zz ?_;refine zo (ok_call rfl rfl (trim_spec (by unfold cap; omega))) ?_;(iterate 4 refine zz ?_);refine zo (ok_call rfl rfl (trim_spec (by unfold cap; omega))) ?_;refine zz ?_
     refine zo (ok_call rfl rfl (down_spec (by omega) (by unfold cap; have h9 : (dig (m % n * 2 ^ up)).length ≤ R2.length := dig_length_le (by rw [← i2.val]; exact val_lt hlo2); omega))) ?_
     refine zzn ?_;refine zw ?_;refine zo ((ok_assign rfl rfl).sub (show ∀ I v, (natS (dig (m % n * 2 ^ up / 2 ^ up))).den I v → (natS (dig (if n = 0 then 0 else m % n))).den I v from fun I v h => by rw [if_neg hn0, ← Nat.mul_div_cancel (m % n) (Nat.two_pow_pos up)]; exact h)) ?_;refine zz ?_;refine zzn ?_;refine T_ret ?_
     exact ⟨_, [], .many (.cons (.own 1 inferInstance rfl rfl rfl) (.cons (.tmp rfl) (.cons (.tmp rfl) (.nil)))), List.nil_sublist _, by simp only [if_neg hn0], rfl⟩
    ·intro h H2 i j D e c hc hInv; exact hInv.elim
end Go.Proofs
