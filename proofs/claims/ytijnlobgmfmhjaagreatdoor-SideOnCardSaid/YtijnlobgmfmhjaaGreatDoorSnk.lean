/- quot: by one limb. -/
import Derived.Test.YtijnlobgmfmhjaaGreatDoorSnj
import Derived.Test.YtijnlobgmfmhjaaGreatDoorSvw
namespace Go.Proofs
open Go Go.Sv Num
variable {G : Imm}
theorem EffAt.storeRow {P : Program} {G : Imm} {E : Env} {r : Option Nat} {gd : Nat → Option Nat} {o : Oper} {ops : List Oper} {K : St → Prop} {Hc : HL} (j : Nat) {n0 : Nat} {g : List (Nat × SV)} {h : HL} {d : List Nat} {i0 : Nat × Bool} {t : TypeId} [HasSize P t 1] {x y : Operand} {b i e c n : Nat} {l : List Nat} {z : Nat} (hop : o.op = .store t x y) (hx : opE g x = some (eqS (.pointer (some ⟨b, i, none⟩)))) (hy : opE g y = some (intS .u32 z))
    (hH : h[j]? = some (rowE (some (b, c)) e 1 n (l.flatMap u32S))) (hi : i < l.length) (hd : o.dst = none) (hg : guardAt gd g o true) (hc : Hc.Sublist (putAt h j [rowE (some (b, c)) e 1 n ((l.set i z).flatMap u32S)]))
    (hr : Run P G E r gd false ops ⟨n0, g, putAt h j [rowE (some (b, c)) e 1 n ((l.set i z).flatMap u32S)], d, i0⟩ K) : EffAt P G E r gd o ops Hc ⟨n0, g, h, d, i0⟩ K := by
  have hlen : i + 1 ≤ (l.flatMap u32S).length := by rw [flat_u32_length]; omega
  have hble : Nat.ble (i + [intS .u32 (z : Nat)].length) (l.flatMap u32S).length = true := by rw [Nat.ble_eq]; exact hlen
  have e : (⟨some b, e, setAll (l.flatMap u32S) i [intS .u32 (z : Nat)], c * 1 - n * 1⟩ : HE) = rowE (some (b, c)) e 1 n ((l.set i z).flatMap u32S) := by
    show (⟨some b, e, (l.flatMap u32S).set i (intS .u32 z), c * 1 - n * 1⟩ : HE) = _
    rw [flat_u32_set]; rfl
  exact EffAt.store (ds := [intS .u32 (z : Nat)]) j hop hx hy hH rfl hble hd hg (by rw [e]; exact hc) (by rw [e]; exact hr)
def backX (l : List Nat) : List (List SV) := (List.range l.length).map fun i => [intS .i64 (l.length - 1 - i : Nat), intS .u32 (limb l (l.length - 1 - i) : Nat)]
theorem backX_length {l : List Nat} : (backX l).length = l.length := by simp [backX]
theorem backX_get {l : List Nat} {i : Nat} (h : i < l.length) : (backX l)[i]? = some [intS .i64 (l.length - 1 - i : Nat), intS .u32 (limb l (l.length - 1 - i) : Nat)] := by
  simp only [backX, List.getElem?_map, List.getElem?_range h, Option.map_some]
theorem backX_inv {l : List Nat} {i : Nat} {ss : List SV} (h : (backX l)[i]? = some ss) : i < l.length ∧ ss = [intS .i64 (l.length - 1 - i : Nat), intS .u32 (limb l (l.length - 1 - i) : Nat)] := by
  have h1 : i < l.length := by have := lt_of_get h; rwa [backX_length] at this
  refine ⟨h1, ?_⟩
  rw [backX_get h1] at h; exact (Option.some.inj h).symm
theorem backX_ss {l : List Nat} {ss : List SV} (h : ss ∈ backX l) : ss.length = 2 := by
  obtain ⟨i, _, rfl⟩ := List.mem_map.1 h; rfl
theorem short_step {x v n : Nat} (hn : 0 < n) : (x + 4294967296 * v) / n = 4294967296 * (v / n) + (4294967296 * (v % n) + x) / n ∧ (x + 4294967296 * v) % n = (4294967296 * (v % n) + x) % n := by
  have e : x + 4294967296 * v = 4294967296 * (v % n) + x + n * (4294967296 * (v / n)) := by
    have := Nat.mod_add_div v n
    rw [Nat.mul_left_comm]; omega
  rw [e, Nat.add_mul_div_left _ _ hn, Nat.add_mul_mod_self_left]
  exact ⟨Nat.add_comm _ _, rfl⟩
theorem back1_spec {a : List Nat} : IterSpec Tryz.prog G 138 [ptrS [natS a]] (backX a) := by
  refine iter_spec Tryz.func138 rfl rfl rfl rfl fun l E hy => ?_
  refine T_regionS ?_
  refine Run.one (ok_load rfl rfl) rfl rfl rfl ?_
  refine Run.one (ok_len rfl rfl) rfl rfl rfl ?_
  refine Run.one ((ok_ari_wrap rfl rfl rfl rfl)) rfl rfl rfl ?_
  refine Run.one (ok_assign rfl rfl) rfl rfl rfl ?_
  refine Run.nil ?_
  refine T_block ?_
  refine T_len 4 rfl fun la => ?_
  unfold big at la
  refine T_loop (γ := Nat) (fun g => ⟨_, [(3, intS .i64 ((g : Int) - 1)), (0, yieldS l), (1, ptrS [natS a])], [], [], (a.length - g, false)⟩) (fun g => g ≤ a.length) (fun g => g) a.length (Nat.le_refl _) ⟨rfl, subG_as rfl (congrArg (intS .i64) (wrap_i64 (by omega) (by omega))) (subG_cons rfl (subG_cons rfl trivial)), subH_refl _, rfl, by simp⟩ ?_
  intro g hg
  refine T_seq ?_
  refine T_regionS ?_
  refine Run.one (ok_move rfl rfl) rfl rfl rfl ?_
  refine Run.one (ok_cmp rfl rfl rfl rfl) rfl rfl rfl ?_
  refine Run.nil ?_
  refine T_cond rfl rfl (fun h8 => ?_) (fun h8 => ?_)
  · have k8 := of_decide_eq_true h8
    refine T_skip ?_
    refine T_seq ?_
    refine T_block ?_
    refine T_regionS ?_
    refine Run.one (ok_move rfl rfl) rfl rfl rfl ?_
    refine Run.one ((ok_move rfl rfl).sub (int_eq (show (g : Int) - 1 = ((g - 1 : Nat) : Int) by omega))) rfl rfl rfl ?_
    refine Run.one (ok_load rfl rfl) rfl rfl rfl ?_
    refine Run.one ((ok_move rfl rfl).sub (int_eq (show (g : Int) - 1 = ((g - 1 : Nat) : Int) by omega))) rfl rfl rfl ?_
    refine Run.one (ok_indexAddr rfl rfl rfl (by omega) (y := limb a (g - 1)) (limb_get (by omega))) rfl rfl rfl ?_
    refine Run.one (ok_load rfl rfl) rfl rfl rfl ?_
    refine Run.yield rfl hy rfl rfl rfl (by rw [backX_get (by omega), show a.length - 1 - (a.length - g) = g - 1 by omega]) (subL_refl _) rfl rfl rfl fun y => ?_
    refine Run.one (ok_not rfl rfl) rfl rfl rfl ?_
    refine Run.nil ?_
    refine T_cond rfl rfl (fun h18 => ?_) (fun h18 => ?_)
    · refine T_ret ?_
      exact ⟨.inl rfl, .inr h18⟩
    · refine T_skip ?_
      refine T_region ?_
      refine Run.one (ok_move rfl rfl) rfl rfl rfl ?_
      refine Run.one (ok_ari rfl rfl rfl rfl (wrap_i64 (by omega) (by omega))) rfl rfl rfl ?_
      refine Run.one (ok_assign rfl rfl) rfl rfl rfl ?_
      refine Run.nil ?_
      exact ⟨g - 1, (by omega : g - 1 ≤ a.length), by omega, rfl, subG_as rfl (congrArg (intS .i64) (by omega)) (subG_cons rfl (subG_cons rfl trivial)), subH_refl _, rfl, by simp only; rw [h18, show a.length - (g - 1) = a.length - g + 1 by omega]⟩
  · have k8 := of_decide_eq_false h8
    refine T_exit ?_
    exact ⟨.inr rfl, .inl (by rw [backX_length, show g = 0 by omega]; rfl)⟩
theorem back_spec {a : List Nat} : PSpec Tryz.prog G 130 [natS a] (fnS 138 [ptrS [natS a]]) := by
  refine fn_spec Tryz.func130 rfl rfl rfl ?_
  refine T_regionS ?_
  refine Run.one (ok_box rfl rfl) rfl rfl rfl ?_
  refine Run.one (ok_assign rfl rfl) rfl rfl rfl ?_
  refine Run.nil ?_
  refine T_regionS ?_
  refine Run.one (ok_makeFunc rfl rfl) rfl rfl rfl ?_
  refine Run.one (ok_assign rfl rfl) rfl rfl rfl ?_
  refine Run.nil ?_
  refine T_ret ?_
  exact ⟨_, [], .one (.tmp rfl), List.nil_sublist _, rfl, rfl⟩
theorem short_spec {a : List Nat} {m n : Nat} [hm : IsNat a m] (hn : n < 4294967296) (hs : a.length ≤ cap) : PSpec Tryz.prog G 123 [natS a, intS .u32 n] (tupS [natS (dig (m / n)), intS .u32 (if n = 0 then 0 else m % n : Nat), intS .i64 (if n = 0 then 30 else 0)]) := by
  unfold cap at hs
  refine fn_spec Tryz.func123 rfl rfl rfl ?_
  refine T_regionS ?_
  refine Run.one (ok_box rfl rfl) rfl rfl rfl ?_
  refine Run.alloc rfl rfl rfl rfl rfl fun b4 => ?_
  refine Run.one (ok_assign rfl rfl) rfl rfl rfl ?_
  refine Run.one (ok_assign rfl rfl) rfl rfl rfl ?_
  refine Run.nil ?_
  refine T_seq ?_
  refine T_regionS ?_
  refine Run.one (ok_load rfl rfl) rfl rfl rfl ?_
  refine Run.one (ok_cmp rfl rfl rfl rfl) rfl rfl rfl ?_
  refine Run.nil ?_
  refine T_cond rfl rfl (fun h11 => ?_) (fun h11 => ?_)
  · have k11 := beq_iff_eq.1 h11
    refine T_regionS ?_
    refine Run.store 0 rfl rfl rfl rfl rfl rfl rfl rfl rfl ?_
    refine Run.ghost _ rfl (ghost_cell (nil_nat (l := dig (m / n)) (dig_eq_nil.2 (by rw [show n = 0 by omega]; exact Nat.div_zero m)))) ?_
    refine Run.one (ok_assign rfl rfl) rfl rfl rfl ?_
    refine Run.one (ok_assign rfl rfl) rfl rfl rfl ?_
    refine Run.nil ?_
    refine T_ret ?_
    exact ⟨_, [], .many (.cons (.own 0 inferInstance rfl rfl rfl) (.cons (.tmp rfl) (.cons (.tmp rfl) (.nil)))), List.nil_sublist _, by rw [if_pos (by omega), if_pos (by omega)]; rfl, rfl⟩
  · have k11 := beq_eq_false_iff_ne.1 h11
    have hn0 : n ≠ 0 := by omega
    refine T_skip ?_
    refine T_regionS ?_
    refine Run.one (ok_move rfl rfl) rfl rfl rfl ?_
    refine Run.one (ok_len rfl rfl) rfl rfl rfl ?_
    refine Run.makeNat (n := a.length) (c := a.length) rfl rfl rfl rfl rfl rfl rfl (Nat.le_refl _) (by omega) (by unfold cap; omega) fun b14 hb14 => ?_
    refine Run.store 1 rfl rfl rfl rfl rfl rfl rfl rfl rfl ?_
    refine Run.nil ?_
    refine T_regionS ?_
    refine Run.alloc rfl rfl rfl rfl rfl fun b7 => ?_
    refine Run.store 0 rfl rfl rfl rfl rfl rfl rfl rfl rfl ?_
    refine Run.nil ?_
    refine T_seq ?_
    refine T_regionS ?_
    refine Run.one (ok_move rfl rfl) rfl rfl rfl ?_
    refine Run.one (ok_call rfl rfl back_spec) rfl rfl rfl ?_
    refine Run.nil ?_
    refine T_block ?_
    refine T_rng rfl rfl back1_spec (fun ss h => backX_ss h) (by decide) rfl
        (fun k h i => i = (0, false) ∧ k ≤ a.length ∧ ∃ out, Lim out ∧ out.length = a.length ∧ (∀ j, j < a.length - k → limb out j = 0) ∧ val out = 4294967296 ^ (a.length - k) * (val (a.drop (a.length - k)) / n) ∧ h = [⟨some b7, 77, [intS .u64 (val (a.drop (a.length - k)) % n : Nat)], 0⟩, rowE (some (b14, a.length)) 65 1 a.length (out.flatMap u32S), ⟨some b4, 23, [eqS (rowV (some (b14, a.length)) a.length)], 0⟩])
        (fun _ _ _ => False) ⟨rfl, Nat.zero_le _, List.replicate a.length 0, lim_replicate _, List.length_replicate, fun j _ => limb_replicate _ j, by rw [val_replicate_zero, Nat.sub_zero, List.drop_length]; simp [val], by rw [Nat.sub_zero, List.drop_length]; simp only [val, Nat.zero_mod]; rfl⟩ ?_ ?_ ?_
    · rintro l k ss h i hk ⟨rfl, _, out, hlo, hln, hz, hval, rfl⟩
      obtain ⟨hk1, rfl⟩ := backX_inv hk
      obtain ⟨p, hp⟩ : ∃ p, p = a.length - 1 - k := ⟨_, rfl⟩
      rw [show a.length - k = p + 1 by omega] at hval hz ⊢
      rw [← hp]
      have hx := limb_lt hm.lim p
      have hdv := drop_val a p
      obtain ⟨v, hv⟩ : ∃ v, v = val (a.drop (p + 1)) := ⟨_, rfl⟩
      rw [← hv] at hdv hval ⊢
      have ho := Nat.mod_lt v (show 0 < n by omega)
      obtain ⟨hq1, hq2⟩ := short_step (x := limb a p) (v := v) (n := n) (by omega)
      rw [← hdv] at hq1 hq2
      obtain ⟨w, hw⟩ : ∃ w, w = 4294967296 * (v % n) + limb a p := ⟨_, rfl⟩
      rw [← hw] at hq1 hq2
      have hwq : w / n < 4294967296 := by
        rw [Nat.div_lt_iff_lt_mul (by omega)]
        have := Nat.mul_le_mul_left 4294967296 (show v % n + 1 ≤ n by omega)
        omega
      refine T_regionS ?_
      refine Run.one (ok_assign rfl rfl) rfl rfl rfl ?_
      refine Run.nil ?_
      refine T_region ?_
      refine Run.one (ok_assign rfl rfl) rfl rfl rfl ?_
      refine Run.nil ?_
      refine ⟨rfl, ?_⟩
      refine T_block ?_
      refine T_regionS ?_
      refine Run.one (ok_load_own 0 rfl rfl rfl rfl) rfl rfl rfl ?_
      refine Run.one ((ok_shl rfl rfl rfl (by omega) (by simp [IntKind.bits])).sub (int_eq (n := ((4294967296 * (v % n) : Nat) : Int)) ((wrap_u64 (by simp; omega) (by simp; omega)).trans (by simp; omega)))) rfl rfl rfl ?_
      refine Run.one (ok_move rfl rfl) rfl rfl rfl ?_
      refine Run.one (ok_conv rfl rfl (wrap_u64 (by omega) (by omega))) rfl rfl rfl ?_
      refine Run.one ((ok_bits rfl (by simp) rfl rfl).sub (int_eq (n := ((w : Nat) : Int)) (by rw [bitI_or (by omega) (by omega), or_high hx, hw]))) rfl rfl rfl ?_
      refine Run.store 0 rfl rfl rfl rfl rfl rfl rfl rfl rfl ?_
      refine Run.nil ?_
      refine T_drawE 12 _ (by kernel_rfl) rfl (.cons_cons _ (.cons _ (.cons_cons _ .slnil))) ?_
      refine RunE.one (ok_load_own 2 rfl rfl rfl rfl) rfl rfl rfl (by kernel_rfl) ?_
      refine RunE.one (ok_move rfl rfl) rfl rfl rfl (by kernel_rfl) ?_
      refine RunE.one (ok_load_own 0 rfl rfl rfl rfl) rfl rfl rfl (by kernel_rfl) ?_
      refine RunE.one (ok_load rfl rfl) rfl rfl rfl (by kernel_rfl) ?_
      refine RunE.one (ok_conv rfl rfl (wrap_u64 (by omega) (by omega))) rfl rfl rfl (by kernel_rfl) ?_
      refine RunE.one ((ok_quo rfl rfl rfl (by omega) (by omega) (by have := Nat.div_le_self w n; rw [← Int.natCast_ediv]; exact wrap_u64 (Int.natCast_nonneg _) (by omega))).sub (int_eq (n := ((w / n : Nat) : Int)) (Int.natCast_ediv _ _).symm)) rfl rfl rfl (by kernel_rfl) ?_
      refine RunE.one (ok_conv rfl rfl (wrap_u32 (Int.natCast_nonneg _) (by omega))) rfl rfl rfl (by kernel_rfl) ?_
      refine RunE.lat (ok_load_own 0 rfl rfl rfl rfl) rfl rfl rfl ?_
      refine RunE.lat (ok_load rfl rfl) rfl rfl rfl ?_
      refine RunE.lat (ok_conv rfl rfl (wrap_u64 (by omega) (by omega))) rfl rfl rfl ?_
      refine RunE.lat ((ok_rem rfl rfl rfl (by omega) (by omega)).sub (int_eq (n := ((w % n : Nat) : Int)) (Int.natCast_emod _ _).symm)) rfl rfl rfl ?_
      refine RunE.one (ok_indexRow (i := p) rfl rfl rfl (by omega)) rfl rfl rfl (by kernel_rfl) ?_
      refine RunE.nil ?_
      refine EffAt.storeRow 1 rfl rfl rfl rfl (by omega) rfl rfl (.cons_cons _ (.cons _ (.cons_cons _ .slnil))) ?_
      refine Run.store 0 rfl rfl rfl rfl rfl rfl rfl rfl rfl ?_
      refine Run.nil ?_
      refine ⟨rfl, by omega, out.set p (w / n), lim_set hlo hwq, by rw [List.length_set]; exact hln, fun j hj => by rw [limb_set_ne (by omega)]; exact hz j (by omega), ?_, by rw [show a.length - (k + 1) = p by omega, hq2]; rfl⟩
      have hs2 := val_set (l := out) (j := p) (w / n) (by omega)
      rw [hz p (by omega), Nat.mul_zero] at hs2
      rw [show a.length - (k + 1) = p by omega, hq1, Nat.mul_add, ← Nat.mul_assoc, ← pow_split, ← hval]; omega
    · rintro h i D ⟨rfl, _, out, hlo, hln, hz, hval, rfl⟩
      rw [backX_length, Nat.sub_self, Nat.pow_zero, Nat.one_mul, List.drop_zero, hm.val] at hval
      rw [backX_length, Nat.sub_self, List.drop_zero, hm.val]
      have : IsNat out (m / n) := ⟨hlo, hval⟩
      refine T_ghost (ghost_slc [_] [] [] hb14 hln rfl flat_u32 (by unfold big; omega)) ?_
      refine T_drawES 4 _ (by kernel_rfl) rfl (.cons_cons _ (.cons _ .slnil)) ?_
      refine RunE.one ((ok_load_own 1 rfl rfl rfl rfl)) rfl rfl rfl (by kernel_rfl) ?_
      refine RunE.one (ok_call rfl rfl (trim_spec (by unfold cap; omega))) rfl rfl rfl (by kernel_rfl) ?_
      refine RunE.lat (ok_load_own 0 rfl rfl rfl rfl) rfl rfl rfl ?_
      refine RunE.lat (ok_conv rfl rfl (wrap_u32 (Int.natCast_nonneg _) (by have := Nat.mod_lt m (show 0 < n by omega); omega))) rfl rfl rfl ?_
      refine RunE.nil ?_
      refine EffAt.store 1 rfl rfl rfl rfl rfl rfl rfl rfl (.cons_cons _ (.cons _ .slnil)) ?_
      refine Run.one (ok_assign rfl rfl) rfl rfl rfl ?_
      refine Run.one (ok_assign rfl rfl) rfl rfl rfl ?_
      refine Run.nil ?_
      refine T_ret ?_
      exact ⟨_, [], .many (.cons (.own 1 inferInstance rfl rfl rfl) (.cons (.tmp rfl) (.cons (.tmp rfl) (.nil)))), List.nil_sublist _, by rw [if_neg hn0, if_neg hn0], rfl⟩
    · intro h i D e c hc hInv; exact hInv.elim
end Go.Proofs
