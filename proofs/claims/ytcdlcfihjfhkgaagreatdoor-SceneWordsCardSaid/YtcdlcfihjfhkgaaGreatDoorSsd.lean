/- digits: texts of numbers, and numbers of texts. -/
import Derived.Test.YtcdlcfihjfhkgaaGreatDoorSsc
import Derived.Test.YtcdlcfihjfhkgaaGreatDoorSmt
namespace Go.Proofs
open Go Go.Sv Num
variable {G : Imm}
theorem wrap_i32 {z : Int} (h1 : -2147483648 ≤ z) (h2 : z ≤ 2147483647) : IntKind.i32.wrap z = z := by
  simp [IntKind.wrap, IntKind.bits, IntKind.signed]; omega
theorem natLit {l : List Nat} (I : Imm) (v : Value) (h : (slS 1 id (l.map u32S)).den I v) : (natS l).den I v := by
  obtain ⟨a, cap, hv, h1, h2, h3⟩ := h
  refine ⟨a, cap, by rw [hv, List.length_map], by rwa [List.length_map] at h1, by rwa [List.length_map] at h2, ?_⟩
  rcases h3 with h3 | ⟨b, o, ha, h4⟩
  · exact .inl (List.map_eq_nil_iff.1 h3)
  · exact .inr ⟨b, o, ha, fun i x hx => h4 i (u32S x) (by rw [List.getElem?_map, hx]; rfl)⟩
theorem isNat_lit {d : Nat} (h : d < 4294967296) : IsNat [d] d := ⟨lim_cons h lim_nil, by simp [val]⟩
def plX (n : Nat) : List (List SV) := (pls n).map fun m => [intS .u64 (m : Nat)]
theorem plX_length {n : Nat} : (plX n).length = (pls n).length := by simp [plX]
theorem plX_ss {n : Nat} {ss : List SV} (h : ss ∈ plX n) : ss.length = 1 := by
  simp only [plX, List.mem_map] at h
  obtain ⟨i, _, rfl⟩ := h
  rfl
theorem plX_inv {n k : Nat} {ss : List SV} (h : (plX n)[k]? = some ss) : ∃ m, (pls n)[k]? = some m ∧ ss = [intS .u64 (m : Nat)] := by
  rw [plX, List.getElem?_map, Option.map_eq_some_iff] at h
  obtain ⟨m, h1, rfl⟩ := h
  exact ⟨m, h1, rfl⟩
theorem drop_get {α : Type} {l : List α} {k : Nat} {x : α} {r : List α} (h : l.drop k = x :: r) : l[k]? = some x ∧ l.drop (k + 1) = r ∧ k < l.length := by
  have h1 : l[k]? = some x := by rw [← List.head?_drop, h]; rfl
  exact ⟨h1, by rw [← List.drop_drop, h]; rfl, lt_of_get h1⟩
theorem pls_lt {n k m : Nat} (h : (pls n)[k]? = some m) : m < 1000000000 := by
  induction n using Nat.strongRecOn generalizing k with
  | _ n ih =>
    by_cases h0 : n = 0
    · subst h0; rw [pls_zero] at h; simp at h
    · rw [pls_pos h0] at h
      cases k with
      | zero => simp at h; omega
      | succ k => exact ih (n / 1000000000) (by omega) (k := k) (by simpa using h)
abbrev dec (n : Nat) : List UInt8 := Lib.decDigits n
theorem dec_len (n : Nat) : (dec n).length = Lib.nDigits n := Lib.decDigits_length n
theorem dec_ne (n : Nat) : dec n ≠ [] := fun h => by
  have := dec_len n; rw [h] at this; have := Lib.nDigits_pos n; simp at *; omega
theorem nat_nil (I : Imm) (v : Value) (h : (eqS (.slice none 0 0)).den I v) : (natS (dig 0)).den I v := by rw [show v = .slice none 0 0 from h, dig_zero]; exact nil_sl
theorem nilInt (I : Imm) (v : Value) (h : (aggS [eqS (.bool false), eqS (.slice none 0 0)]).den I v) : (aggS [boolS false, natS (dig 0)]).den I v := by
  obtain ⟨xs, hv, hd, h1⟩ := h
  refine ⟨xs, hv, ?_, h1⟩
  obtain ⟨x, y, rfl, hx, hy⟩ := dens_two hd
  exact dens_cons hx (dens_cons (nat_nil I y hy) dens_nil)
theorem okD_of {l : List UInt8} (h1 : ¬ l = []) (h2 : ¬ 60 < l.length) (h3 : l.all isD = true) : okD l = true := by
  simp only [okD, Bool.and_eq_true, Bool.not_eq_true', decide_eq_true_eq, h3, and_true]
  exact ⟨by simpa using h1, by omega⟩
theorem okD_bad {l : List UInt8} {k : Nat} (hk : k < l.length) (h : isD l[k] = false) : okD l = false := by
  have h1 : l.all isD = false := List.all_eq_false.2 ⟨l[k], List.getElem_mem _, by simp [h]⟩
  unfold okD; rw [h1]; simp
theorem isD_bad {c : UInt8} {z w : Nat} (hz : (z < 128 ∧ c.toNat = z ∧ w = 1) ∨ (128 ≤ z ∧ 128 ≤ c.toNat)) (h : z < 48 ∨ 57 < z) : isD c = false := by
  simp only [isD, Bool.and_eq_false_iff, decide_eq_false_iff_not]
  omega
theorem all_take {l : List UInt8} {k : Nat} (hk : k < l.length) (h : (l.take k).all isD = true) (h1 : 48 ≤ l[k].toNat) (h2 : l[k].toNat ≤ 57) : (l.take (k + 1)).all isD = true := by
  rw [List.take_add_one, List.getElem?_eq_getElem hk, List.all_append, h]
  simp [isD, h1, h2]
theorem peD_ne {l : List UInt8} (h : peD l ≠ 0) : okD l = false := by
  cases h1 : okD l with
  | false => rfl
  | true => exact absurd (by simp [peD, h1]) h
theorem peD_ok {l : List UInt8} (h : okD l = true) : peD l = 0 ∧ pvD l = valD l := by simp [peD, pvD, h]
theorem peD_bad {l : List UInt8} (h : okD l = false) : peD l = 60 ∧ pvD l = 0 := by simp [peD, pvD, h]
theorem pvD_lt (l : List UInt8) : pvD l < 10 ^ 60 := by
  cases h : okD l with
  | false => rw [(peD_bad h).2]; decide
  | true =>
    rw [(peD_ok h).2]
    simp only [okD, Bool.and_eq_true, decide_eq_true_eq] at h
    exact Nat.lt_of_lt_of_le (valD_lt h.2.2) (Nat.pow_le_pow_right (by decide) h.2.1)
theorem bd_dec {v : Nat} (h : v < 10 ^ 60) : Bd v 7 := ⟨Nat.lt_of_lt_of_le h (by decide)⟩
def idec (b : Bool) (n : Nat) : List UInt8 := if (b && decide (n ≠ 0)) = true then 45 :: dec n else dec n
theorem dec_one {n : Nat} : dec n = [48] ↔ n = 0 := by
  constructor
  · intro h
    refine Classical.byContradiction fun h0 => ?_
    obtain ⟨c, r, h1, h2⟩ := dec_head h0
    have h : Lib.decDigits n = [48] := h
    rw [h1] at h; cases h; exact h2 rfl
  · rintro rfl; exact dec_zero
theorem pby_spec {a : List Nat} {m d k : Nat} [hm : IsNat a m] [hk : Sz a k] (hd : d < 4294967296) (hs : k + 3 ≤ cap := by decide) : PSpec Tryz.prog G 98 [natS a, intS .u32 d] (natS (dig (m * d))) := by
  have hi := isNat_lit hd
  have hka := hk.h
  refine fn_spec Tryz.func98 rfl rfl rfl ?_
  refine T_regionS ?_
  refine Run.one (ok_assign rfl rfl) rfl rfl rfl ?_
  refine Run.nil ?_
  refine T_regionS ?_
  iterate 2 refine Run.one (ok_move rfl rfl) rfl rfl rfl ?_
  refine Run.one (ok_buildSlice rfl rfl (by decide) rfl (by simp) rfl rfl) rfl rfl rfl ?_
  refine Run.one (ok_call rfl rfl ((plain_spec (b := [d]) (n := d) (by simp; omega)).args ⟨fun _ _ h => h, fun I v h => natLit (l := [d]) I v h, trivial⟩)) rfl rfl rfl ?_
  refine Run.one (ok_assign rfl rfl) rfl rfl rfl ?_
  refine Run.nil ?_
  refine T_ret ?_
  exact ⟨_, [], .one (.tmp rfl), List.nil_sublist _, rfl, rfl⟩
theorem places1_spec {l : List Nat} {n b : Nat} [hn : IsNat l n] (hl : l.length + 20000 ≤ cap) : IterSpecH Tryz.prog G 134 [eqS (.pointer (some ⟨b, 0, none⟩))] (plX n) [⟨some b, 23, [natS l], 0⟩] (fun _ H' => H' = []) := by
  have hbn : n < 4294967296 ^ l.length := by rw [← hn.val]; exact val_lt hn.lim
  have hi := isNat_lit (d := 1000000000) (by decide)
  refine iter_specH Tryz.func134 rfl rfl rfl rfl fun l0 E hy => ?_
  refine T_regionS ?_
  refine Run.one (ok_load_own 0 rfl rfl rfl rfl) rfl rfl rfl ?_
  refine Run.one (ok_call rfl rfl (trim_spec (by omega))) rfl rfl rfl ?_
  refine Run.store 0 rfl rfl rfl rfl rfl rfl rfl rfl rfl ?_
  refine Run.nil ?_
  refine T_block ?_
  refine T_loop2 (fun k m => ⟨_, [(0, yieldS l0), (1, eqS (.pointer (some ⟨b, 0, none⟩)))], [⟨some b, 23, [natS (dig m)], 0⟩], [], (k, false)⟩) (fun k m => (pls n).drop k = pls m ∧ k ≤ (pls n).length ∧ m < 4294967296 ^ l.length) (fun _ m => m) 0 n ⟨List.drop_zero, Nat.zero_le _, hbn⟩ (ent_g (subG_cons rfl (subG_cons rfl (trivial)))) ?_
  rintro k m ⟨hdr, hk, hm⟩
  have hml : (dig m).length ≤ l.length := dig_length_le hm
  refine T_seq ?_
  refine T_regionS ?_
  refine Run.one (ok_load_own 0 rfl rfl rfl rfl) rfl rfl rfl ?_
  refine Run.one (ok_len rfl rfl) rfl rfl rfl ?_
  refine Run.one (ok_cmp rfl rfl rfl rfl) rfl rfl rfl ?_
  refine Run.nil ?_
  refine T_cond rfl rfl (fun h12 => ?_) (fun h12 => ?_)
  · have k12 := of_decide_eq_true h12
    have hm0 : m ≠ 0 := fun h => by rw [h, dig_zero] at k12; simp at k12
    rw [pls_pos hm0] at hdr
    obtain ⟨hg1, hg2, hg3⟩ := drop_get hdr
    have hmx : m / 1000000000 < m := Nat.div_lt_self (by omega) (by decide)
    refine T_skip ?_
    refine T_block ?_
    refine T_regionS ?_
    refine Run.one (ok_load_own 0 rfl rfl rfl rfl) rfl rfl rfl ?_
    refine Run.one (ok_buildSlice rfl rfl (by decide) rfl (by simp) rfl rfl) rfl rfl rfl ?_
    refine Run.one (ok_call rfl rfl ((div_spec (b := [1000000000]) (n := 1000000000) (by omega) (by unfold cap; simp)).args ⟨fun _ _ h => h, fun I v h => natLit (l := [1000000000]) I v h, trivial⟩)) rfl rfl rfl ?_
    refine Run.one (ok_move rfl rfl) rfl rfl rfl ?_
    iterate 3 refine Run.one (ok_extract rfl rfl rfl) rfl rfl rfl ?_
    iterate 3 refine Run.one (ok_assign rfl rfl) rfl rfl rfl ?_
    refine Run.nil ?_
    refine T_regionS ?_
    refine Run.one (ok_move rfl rfl) rfl rfl rfl ?_
    refine Run.one (ok_call rfl rfl small_spec) rfl rfl rfl ?_
    refine Run.one (ok_move rfl rfl) rfl rfl rfl ?_
    refine Run.one ((ok_extract rfl rfl rfl).sub (int_eq (n := ((m % 1000000000 : Nat) : Int)) (by have e : (if 1000000000 = 0 then 0 else m % 1000000000) = m % 1000000000 := if_neg (by decide); rw [e, if_pos (by omega)]))) rfl rfl rfl ?_
    refine Run.one (ok_extract rfl rfl rfl) rfl rfl rfl ?_
    iterate 2 refine Run.one (ok_assign rfl rfl) rfl rfl rfl ?_
    refine Run.nil ?_
    refine T_seq ?_
    refine T_regionS ?_
    iterate 2 refine Run.one (ok_move rfl rfl) rfl rfl rfl ?_
    refine Run.yield rfl hy rfl rfl rfl (show (plX n)[k]? = some [intS .u64 ((m % 1000000000 : Nat) : Int)] by rw [plX, List.getElem?_map, hg1]; rfl) (subL_refl _) rfl rfl rfl fun y => ?_
    refine Run.one (ok_not rfl rfl) rfl rfl rfl ?_
    refine Run.nil ?_
    refine T_cond rfl rfl (fun h28 => ?_) (fun h28 => ?_)
    · refine T_ret ?_
      exact ⟨.inl rfl, [], List.nil_sublist _, rfl, .inr (by simpa using h28)⟩
    · refine T_skip ?_
      refine T_region ?_
      refine Run.one (ok_move rfl rfl) rfl rfl rfl ?_
      refine Run.store 0 rfl rfl rfl rfl rfl rfl rfl rfl rfl ?_
      refine Run.nil ?_
      exact ⟨k + 1, m / 1000000000, ⟨hg2, by omega, by omega⟩, hmx, rfl, subG_cons rfl (subG_cons rfl (trivial)), subH_refl _, rfl, by simp only; rw [h28]⟩
  · have k12 := of_decide_eq_false h12
    have hm0 : m = 0 := by
      have h1 := dig_len_zero (n := m)
      omega
    rw [hm0, pls_zero] at hdr
    have hkl := List.drop_eq_nil_iff.1 hdr
    refine T_exit ?_
    exact ⟨.inr rfl, [], List.nil_sublist _, rfl, .inl (by rw [plX_length, show k = (pls n).length by omega])⟩
theorem places_spec {l : List Nat} : CallSpec Tryz.prog G 104 [natS l] [] (fun s H' => ∃ b, s = fnS 134 [eqS (.pointer (some ⟨b, 0, none⟩))] ∧ H' = [⟨some b, 23, [natS l], 0⟩]) := by
  refine fn_spec Tryz.func104 rfl rfl rfl ?_
  refine T_regionS ?_
  refine Run.box rfl rfl rfl rfl rfl rfl fun b1 => ?_
  refine Run.one (ok_assign rfl rfl) rfl rfl rfl ?_
  refine Run.nil ?_
  refine T_regionS ?_
  refine Run.one (ok_makeFunc rfl rfl) rfl rfl rfl ?_
  refine Run.one (ok_assign rfl rfl) rfl rfl rfl ?_
  refine Run.nil ?_
  refine T_ret ?_
  exact ⟨_, [_], .one (.tmp rfl), List.Sublist.refl _, b1, rfl, rfl⟩
theorem text_spec [Tab10 G] {l : List Nat} {n k : Nat} [hn : IsNat l n] [hk : Sz l k] (hl : k + 20000 ≤ cap := by decide) : PSpec Tryz.prog G 64 [natS l] (strS (dec n)) := by
  have hkl := hk.h
  have hbn : n < 4294967296 ^ l.length := by rw [← hn.val]; exact val_lt hn.lim
  have hpl := pls_len hbn
  unfold cap at hl
  refine fn_spec Tryz.func64 rfl rfl rfl ?_
  refine T_regionS ?_
  refine Run.one (ok_assign rfl rfl) rfl rfl rfl ?_
  refine Run.nil ?_
  refine T_regionS ?_
  refine Run.alloc rfl rfl rfl rfl rfl fun b3 => ?_
  refine Run.store 0 rfl rfl rfl rfl rfl rfl rfl rfl rfl ?_
  refine Run.nil ?_
  refine T_seq ?_
  refine T_regionS ?_
  refine Run.one (ok_move rfl rfl) rfl rfl rfl ?_
  refine Run.call0 rfl rfl rfl (places_spec (l := l)) rfl rfl rfl ?_
  rintro s1 H1 ⟨b7, rfl, rfl⟩
  refine Run.nil ?_
  refine T_block ?_
  refine T_rngH (H0 := [⟨some b7, 23, [natS l], 0⟩]) (h1 := [⟨some b3, 9, [strS []], 0⟩]) rfl rfl (places1_spec (by unfold cap; omega)) (List.Perm.refl _) (fun ss h => plX_ss h) (by decide) rfl
      (fun k h i => i = (0, false) ∧ k ≤ (pls n).length ∧ h = [⟨some b3, 9, [strS (txt ((pls n).take k))], 0⟩])
      (fun _ _ _ => False) ⟨rfl, Nat.zero_le _, rfl⟩ ?_ ?_ ?_
  · rintro l1 k ss h i hk1 ⟨rfl, hkn, rfl⟩
    obtain ⟨m, hm, rfl⟩ := plX_inv hk1
    have hklt := lt_of_get hm
    have hm9 := pls_lt hm
    have hnd : Lib.nDigits m ≤ 9 := nDigits_le_of_lt (k := 8) hm9
    have htl := txt_length ((pls n).take k)
    rw [List.length_take] at htl
    refine T_region ?_
    refine Run.one (ok_assign rfl rfl) rfl rfl rfl ?_
    refine Run.nil ?_
    refine ⟨rfl, ?_⟩
    refine T_block ?_
    refine T_regionS ?_
    refine Run.one (ok_move rfl rfl) rfl rfl rfl ?_
    refine Run.one (ok_call rfl rfl (fmtU_spec (by omega))) rfl rfl rfl ?_
    refine Run.one (ok_assign rfl rfl) rfl rfl rfl ?_
    refine Run.nil ?_
    refine T_draw 8 (by kernel_rfl) ?_
    refine Run.one (ok_move rfl rfl) rfl rfl rfl ?_
    refine Run.one ((ok_len_str rfl rfl).sub (int_eq (n := ((Lib.nDigits m : Nat) : Int)) (by rw [dec_len]))) rfl rfl rfl ?_
    refine Run.one (ok_ari (z := ((9 - Lib.nDigits m : Nat) : Int)) rfl rfl rfl (congrArg some (by omega)) (wrap_i64 (by omega) (by omega))) rfl rfl rfl ?_
    refine Run.one (ok_call rfl rfl (repeat_spec (c := 9 - Lib.nDigits m) (by omega) (by simp; omega))) rfl rfl rfl ?_
    refine Run.one (ok_move rfl rfl) rfl rfl rfl ?_
    refine Run.one ((ok_add_str rfl rfl rfl (by rw [Lib.repeatL_length, dec_len]; simp; omega)).sub (str_eq (pad9 hm9))) rfl rfl rfl ?_
    refine Run.one (ok_load_own 0 rfl rfl rfl rfl) rfl rfl rfl ?_
    refine Run.one ((ok_add_str rfl rfl rfl (by rw [pd_length]; omega)).sub (str_eq (txt_succ hm).symm)) rfl rfl rfl ?_
    refine Run.nil ?_
    refine Run.store 0 rfl rfl rfl rfl rfl rfl rfl rfl rfl ?_
    refine Run.nil ?_
    exact ⟨rfl, by omega, rfl⟩
  · rintro h H' i D ⟨rfl, _, rfl⟩ rfl
    rw [plX_length, List.take_length]
    have htl := txt_length (pls n)
    refine T_seq ?_
    refine T_regionS ?_
    refine Run.one (ok_load_own 0 rfl rfl rfl rfl) rfl rfl rfl ?_
    refine Run.one ((ok_call rfl rfl (trimLeft_spec (by decide))).sub (str_eq (drop_text n))) rfl rfl rfl ?_
    refine Run.store 0 rfl rfl rfl rfl rfl rfl rfl rfl rfl ?_
    refine Run.nil ?_
    refine T_regionS ?_
    refine Run.one (ok_load_own 0 rfl rfl rfl rfl) rfl rfl rfl ?_
    refine Run.one (ok_cmp_str rfl rfl rfl rfl) rfl rfl rfl ?_
    refine Run.nil ?_
    refine T_cond rfl rfl (fun h22 => ?_) (fun h22 => ?_)
    · have hn0 : n = 0 := by
        refine Classical.byContradiction fun h0 => ?_
        have h1 := beq_iff_eq.1 h22
        rw [if_neg h0] at h1
        exact dec_ne n h1
      refine T_regionS ?_
      refine Run.one (ok_assign rfl rfl) rfl rfl rfl ?_
      refine Run.nil ?_
      refine T_ret ?_
      exact ⟨_, [], .one (.tmp rfl), List.nil_sublist _, by rw [hn0, show dec 0 = [48] from dec_zero]; rfl, rfl⟩
    · have hn0 : n ≠ 0 := fun h0 => by rw [if_pos h0] at h22; exact absurd h22 (by decide)
      refine T_skip ?_
      refine T_regionS ?_
      refine Run.one (ok_load_own 0 rfl rfl rfl rfl) rfl rfl rfl ?_
      refine Run.one (ok_assign rfl rfl) rfl rfl rfl ?_
      refine Run.nil ?_
      refine T_ret ?_
      exact ⟨_, [], .one (.tmp rfl), List.nil_sublist _, by rw [if_neg hn0], rfl⟩
  · intro h H' i j D e c hc hInv; exact hInv.elim
theorem dcount_spec [Tab10 G] {l : List Nat} {n k : Nat} [hn : IsNat l n] [hk : Sz l k] (hl : k + 20000 ≤ cap := by decide) : PSpec Tryz.prog G 90 [natS l] (intS .i64 (Lib.nDigits n : Nat)) := by
  refine fn_spec Tryz.func90 rfl rfl rfl ?_
  refine T_regionS ?_
  refine Run.one (ok_assign rfl rfl) rfl rfl rfl ?_
  refine Run.nil ?_
  refine T_regionS ?_
  refine Run.one (ok_move rfl rfl) rfl rfl rfl ?_
  refine Run.one (ok_call rfl rfl (text_spec hl)) rfl rfl rfl ?_
  refine Run.one (ok_len_str rfl rfl) rfl rfl rfl ?_
  refine Run.one (ok_assign rfl rfl) rfl rfl rfl ?_
  refine Run.nil ?_
  refine T_ret ?_
  exact ⟨_, [], .one (.tmp rfl), List.nil_sublist _, by rw [dec_len], rfl⟩
theorem itext_spec [Tab10 G] {b : Bool} {l : List Nat} {n k : Nat} [hn : IsNat l n] [hk : Sz l k] (hl : k + 20000 ≤ cap := by decide) : PSpec Tryz.prog G 63 [aggS [boolS b, natS l]] (strS (idec b n)) := by
  have hkl := hk.h
  have hbn : n < 4294967296 ^ l.length := by rw [← hn.val]; exact val_lt hn.lim
  have hdn : Lib.nDigits n ≤ 20000000000 := by
    have h1 := pls_len hbn
    have h2 := lt_pls n
    obtain ⟨q, hq⟩ : ∃ q, q = 9 * (pls n).length := ⟨_, rfl⟩
    rw [← hq] at h2
    cases q with
    | zero => have : n = 0 := by simpa using h2
              rw [this, Lib.nDigits_small (by decide)]; decide
    | succ q => have := nDigits_le_of_lt h2; unfold cap at hl; omega
  refine fn_spec Tryz.func63 rfl rfl rfl ?_
  refine T_regionS ?_
  refine Run.one (ok_box rfl rfl) rfl rfl rfl ?_
  refine Run.one (ok_assign rfl rfl) rfl rfl rfl ?_
  refine Run.nil ?_
  refine T_seq ?_
  refine T_regionS ?_
  refine Run.one (ok_fieldAddr rfl rfl rfl) rfl rfl rfl ?_
  refine Run.one (ok_load rfl rfl) rfl rfl rfl ?_
  refine Run.one (ok_call rfl rfl (text_spec hl)) rfl rfl rfl ?_
  refine Run.one (ok_assign rfl rfl) rfl rfl rfl ?_
  refine Run.nil ?_
  refine T_regionS ?_
  refine Run.one (ok_fieldAddr rfl rfl rfl) rfl rfl rfl ?_
  refine Run.one (ok_load rfl rfl) rfl rfl rfl ?_
  refine Run.oneB (ok_not rfl rfl) rfl rfl rfl (fun h2_2 => ?_) (fun h2_2 => ?_)
  · refine Run.one (ok_move rfl rfl) rfl rfl rfl ?_
    iterate 2 refine Run.no (gB rfl rfl rfl rfl) rfl rfl ?_
    refine Run.one (ok_pick rfl rfl rfl) rfl rfl rfl ?_
    refine Run.nil ?_
    refine T_condT rfl rfl ?_
    refine T_regionS ?_
    refine Run.one (ok_move rfl rfl) rfl rfl rfl ?_
    refine Run.one (ok_assign rfl rfl) rfl rfl rfl ?_
    refine Run.nil ?_
    refine T_ret ?_
    exact ⟨_, [], .one (.tmp rfl), List.nil_sublist _, by unfold idec; rw [show b = false by simpa using h2_2]; rfl, rfl⟩
  · refine Run.one (ok_move rfl rfl) rfl rfl rfl ?_
    refine Run.one (ok_move rfl rfl) (gB rfl rfl rfl rfl) rfl rfl ?_
    refine Run.one (ok_cmp_str rfl rfl rfl rfl) (gB rfl rfl rfl rfl) rfl rfl ?_
    refine Run.one (ok_pick rfl rfl rfl) rfl rfl rfl ?_
    refine Run.nil ?_
    refine T_cond rfl rfl (fun h13 => ?_) (fun h13 => ?_)
    · refine T_regionS ?_
      refine Run.one (ok_move rfl rfl) rfl rfl rfl ?_
      refine Run.one (ok_assign rfl rfl) rfl rfl rfl ?_
      refine Run.nil ?_
      refine T_ret ?_
      exact ⟨_, [], .one (.tmp rfl), List.nil_sublist _, by unfold idec; rw [if_neg (by simp [dec_one.1 (beq_iff_eq.1 h13)])], rfl⟩
    · refine T_skip ?_
      refine T_regionS ?_
      refine Run.one (ok_fieldAddr rfl rfl rfl) rfl rfl rfl ?_
      refine Run.one (ok_load rfl rfl) rfl rfl rfl ?_
      refine Run.one (ok_call rfl rfl (text_spec hl)) rfl rfl rfl ?_
      refine Run.one (ok_add_str rfl rfl rfl (by rw [dec_len]; simp; omega)) rfl rfl rfl ?_
      refine Run.one (ok_assign rfl rfl) rfl rfl rfl ?_
      refine Run.nil ?_
      refine T_ret ?_
      exact ⟨_, [], .one (.tmp rfl), List.nil_sublist _, by unfold idec; rw [if_pos (by have h1 : ¬ dec n = [48] := beq_eq_false_iff_ne.1 h13; rw [dec_one] at h1; simp [h1, show b = true by simpa using h2_2])]; rfl, rfl⟩
theorem parse_spec {l : List UInt8} : PSpec Tryz.prog G 56 [strS l] (tupS [natS (dig (pvD l)), intS .i64 (peD l)]) := by
  refine fn_spec Tryz.func56 rfl rfl rfl ?_
  refine T_regionS ?_
  refine Run.one ((ok_assign rfl rfl).sub nat_nil) rfl rfl rfl ?_
  refine Run.one (ok_assign rfl rfl) rfl rfl rfl ?_
  refine Run.nil ?_
  refine T_scope ?_
  refine T_seq ?_
  refine T_regionS ?_
  refine Run.one (ok_move rfl rfl) rfl rfl rfl ?_
  refine Run.oneB (ok_cmp_str rfl rfl rfl rfl) rfl rfl rfl (fun h1_1 => ?_) (fun h1_1 => ?_)
  · have hb := peD_bad (l := l) (by rw [beq_iff_eq.1 h1_1]; rfl)
    refine Run.one (ok_move rfl rfl) rfl rfl rfl ?_
    iterate 3 refine Run.no (gB rfl rfl rfl rfl) rfl rfl ?_
    refine Run.one (ok_pick rfl rfl rfl) rfl rfl rfl ?_
    refine Run.nil ?_
    refine T_condT rfl rfl ?_
    refine T_regionS ?_
    refine Run.one ((ok_assign rfl rfl).sub nat_nil) rfl rfl rfl ?_
    refine Run.one (ok_assign rfl rfl) rfl rfl rfl ?_
    refine Run.nil ?_
    refine T_ret ?_
    exact ⟨_, [], .many (.cons (.tmp rfl) (.cons (.tmp rfl) (.nil))), List.nil_sublist _, by rw [hb.1, hb.2], rfl⟩
  · have hne : ¬ l = [] := beq_eq_false_iff_ne.1 h1_1
    refine Run.one (ok_move rfl rfl) rfl rfl rfl ?_
    refine Run.one (ok_move rfl rfl) (gB rfl rfl rfl rfl) rfl rfl ?_
    refine Run.one (ok_len_str rfl rfl) (gB rfl rfl rfl rfl) rfl rfl ?_
    refine Run.one (ok_cmp rfl rfl rfl rfl) (gB rfl rfl rfl rfl) rfl rfl ?_
    refine Run.one (ok_pick rfl rfl rfl) rfl rfl rfl ?_
    refine Run.nil ?_
    refine T_cond rfl rfl (fun h12 => ?_) (fun h12 => ?_)
    · have k12 := of_decide_eq_true h12
      have hb := peD_bad (l := l) (by unfold okD; rw [show decide (l.length ≤ 60) = false from decide_eq_false (by omega)]; simp)
      refine T_regionS ?_
      refine Run.one ((ok_assign rfl rfl).sub nat_nil) rfl rfl rfl ?_
      refine Run.one (ok_assign rfl rfl) rfl rfl rfl ?_
      refine Run.nil ?_
      refine T_ret ?_
      exact ⟨_, [], .many (.cons (.tmp rfl) (.cons (.tmp rfl) (.nil))), List.nil_sublist _, by rw [hb.1, hb.2], rfl⟩
    · have k12 := of_decide_eq_false h12
      refine T_skip ?_
      refine T_seq ?_
      refine T_label ?_
      refine T_seq ?_
      refine T_strRange rfl rfl rfl rfl rfl rfl rfl rfl rfl fun r0 => ?_
      refine T_block ?_
      refine T_loop (γ := Nat) (fun k => ⟨_, [(14, eqS (.pointer (some ⟨r0, 0, none⟩))), (3, intS .i64 0), (2, natS (dig (valD (l.take k)))), (0, strS l)], [], [], (k, false)⟩) (fun k => k ≤ l.length ∧ (l.take k).all isD = true) (fun k => l.length - k) 0 ⟨Nat.zero_le _, rfl⟩ (ent_g (subG_cons rfl (subG_cons rfl (subG_cons rfl (subG_cons rfl (trivial)))))) ?_
      rintro k ⟨hk, hall⟩
      refine T_regionS ?_
      refine Run.nextZ rfl rfl rfl rfl rfl rfl (fun hk15 z w hzm hz => ?_) (fun hk15 => ?_)
      · refine Run.one (ok_extract rfl rfl rfl) rfl rfl rfl ?_
        refine Run.nil ?_
        refine T_seq ?_
        refine T_condT rfl rfl ?_
        refine T_skip ?_
        refine T_block ?_
        refine T_regionS ?_
        refine Run.one (ok_extract rfl rfl rfl) rfl rfl rfl ?_
        refine Run.one (ok_assign rfl rfl) rfl rfl rfl ?_
        refine Run.nil ?_
        refine T_seq ?_
        refine T_regionS ?_
        refine Run.one (ok_move rfl rfl) rfl rfl rfl ?_
        refine Run.oneB (ok_cmp rfl rfl rfl rfl) rfl rfl rfl (fun h6_1 => ?_) (fun h6_1 => ?_)
        · have k6_1 := of_decide_eq_true h6_1
          have hb := peD_bad (okD_bad hk15 (isD_bad hz (.inl (by omega))))
          refine Run.one (ok_move rfl rfl) rfl rfl rfl ?_
          iterate 2 refine Run.no (gB rfl rfl rfl rfl) rfl rfl ?_
          refine Run.one (ok_pick rfl rfl rfl) rfl rfl rfl ?_
          refine Run.nil ?_
          refine T_condT rfl rfl ?_
          refine T_regionS ?_
          refine Run.one (ok_assign rfl rfl) rfl rfl rfl ?_
          refine Run.nil ?_
          refine T_exit ?_
          refine T_seq ?_
          refine T_regionS ?_
          refine Run.one (ok_move rfl rfl) rfl rfl rfl ?_
          refine Run.one (ok_cmp rfl rfl rfl rfl) rfl rfl rfl ?_
          refine Run.nil ?_
          refine T_condT rfl rfl ?_
          refine T_regionS ?_
          refine Run.one (ok_move rfl rfl) rfl rfl rfl ?_
          refine Run.one ((ok_assign rfl rfl).sub nat_nil) rfl rfl rfl ?_
          refine Run.one (ok_assign rfl rfl) rfl rfl rfl ?_
          refine Run.nil ?_
          refine T_ret ?_
          exact ⟨_, [], .many (.cons (.tmp rfl) (.cons (.tmp rfl) (.nil))), List.nil_sublist _, by rw [hb.1, hb.2], rfl⟩
        · have k6_1 := of_decide_eq_false h6_1
          refine Run.one (ok_move rfl rfl) rfl rfl rfl ?_
          refine Run.one (ok_move rfl rfl) (gB rfl rfl rfl rfl) rfl rfl ?_
          refine Run.one (ok_cmp rfl rfl rfl rfl) (gB rfl rfl rfl rfl) rfl rfl ?_
          refine Run.one (ok_pick rfl rfl rfl) rfl rfl rfl ?_
          refine Run.nil ?_
          refine T_cond rfl rfl (fun h23 => ?_) (fun h23 => ?_)
          · have k23 := of_decide_eq_true h23
            have hb := peD_bad (okD_bad hk15 (isD_bad hz (.inr (by omega))))
            refine T_regionS ?_
            refine Run.one (ok_assign rfl rfl) rfl rfl rfl ?_
            refine Run.nil ?_
            refine T_exit ?_
            refine T_seq ?_
            refine T_regionS ?_
            refine Run.one (ok_move rfl rfl) rfl rfl rfl ?_
            refine Run.one (ok_cmp rfl rfl rfl rfl) rfl rfl rfl ?_
            refine Run.nil ?_
            refine T_condT rfl rfl ?_
            refine T_regionS ?_
            refine Run.one (ok_move rfl rfl) rfl rfl rfl ?_
            refine Run.one ((ok_assign rfl rfl).sub nat_nil) rfl rfl rfl ?_
            refine Run.one (ok_assign rfl rfl) rfl rfl rfl ?_
            refine Run.nil ?_
            refine T_ret ?_
            exact ⟨_, [], .many (.cons (.tmp rfl) (.cons (.tmp rfl) (.nil))), List.nil_sublist _, by rw [hb.1, hb.2], rfl⟩
          · have k23 := of_decide_eq_false h23
            obtain ⟨_, hzc, rfl⟩ : z < 128 ∧ l[k].toNat = z ∧ w = 1 := by rcases hz with h | h; exact h; omega
            have hlt := Nat.lt_of_lt_of_le (valD_lt hall) (Nat.pow_le_pow_right (by decide) (show (l.take k).length ≤ 59 by rw [List.length_take]; omega))
            obtain ⟨v, hv⟩ : ∃ v, v = valD (l.take k) := ⟨_, rfl⟩
            have hvt := valD_take hk15
            rw [← hv] at hlt hvt ⊢
            have i1 : Bd v 7 := bd_dec (by omega)
            have i2 : Bd (v * 10) 7 := bd_dec (by omega)
            have i3 : Bd (z - 48) 1 := ⟨by omega⟩
            refine T_skip ?_
            refine T_region ?_
            refine Run.one (ok_move rfl rfl) rfl rfl rfl ?_
            refine Run.one (ok_call rfl rfl (pby_spec (d := 10) (by decide))) rfl rfl rfl ?_
            refine Run.one (ok_move rfl rfl) rfl rfl rfl ?_
            refine Run.one (ok_ari (z := ((z - 48 : Nat) : Int)) rfl rfl rfl (congrArg some (by omega)) (wrap_i32 (by omega) (by omega))) rfl rfl rfl ?_
            refine Run.one (ok_conv rfl rfl (wrap_u64 (by omega) (by omega))) rfl rfl rfl ?_
            refine Run.one (ok_call rfl rfl (of_spec (by omega))) rfl rfl rfl ?_
            refine Run.one (ok_buildSlice rfl rfl (by decide) rfl (by simp) rfl rfl) rfl rfl rfl ?_
            refine Run.one (ok_call rfl rfl (add2_spec (by decide))) rfl rfl rfl ?_
            refine Run.one (ok_assign rfl rfl) rfl rfl rfl ?_
            refine Run.nil ?_
            exact ⟨k + 1, ⟨by omega, all_take hk15 hall (by omega) (by omega)⟩, by omega, rfl, subG_cons rfl (subG_cons rfl (subG_as rfl (congrArg (fun x => natS (dig x)) (by rw [hvt, hzc])) (subG_cons rfl trivial))), subH_refl _, rfl, rfl⟩
      · obtain rfl : k = l.length := by omega
        rw [List.take_length] at hall ⊢
        have hb := peD_ok (okD_of hne (by omega) hall)
        refine Run.one (ok_extract rfl rfl rfl) rfl rfl rfl ?_
        refine Run.nil ?_
        refine T_seq ?_
        refine T_condF rfl rfl ?_
        refine T_exit ?_
        refine T_seq ?_
        refine T_regionS ?_
        refine Run.one (ok_move rfl rfl) rfl rfl rfl ?_
        refine Run.one (ok_cmp rfl rfl rfl rfl) rfl rfl rfl ?_
        refine Run.nil ?_
        refine T_condF rfl rfl ?_
        refine T_skip ?_
        refine T_regionS ?_
        refine Run.one (ok_move rfl rfl) rfl rfl rfl ?_
        iterate 2 refine Run.one (ok_assign rfl rfl) rfl rfl rfl ?_
        refine Run.nil ?_
        refine T_ret ?_
        exact ⟨_, [], .many (.cons (.tmp rfl) (.cons (.tmp rfl) (.nil))), List.nil_sublist _, by rw [hb.1, hb.2], rfl⟩
theorem parseInt_spec {l : List UInt8} : PSpec Tryz.prog G 53 [strS l] (tupS [aggS [boolS (Lib.hasPrefix l [45] && decide (0 < pvD (Lib.trimPrefix l [45]))), natS (dig (pvD (Lib.trimPrefix l [45])))], intS .i64 (peD (Lib.trimPrefix l [45]))]) := by
  refine fn_spec Tryz.func53 rfl rfl rfl ?_
  refine T_regionS ?_
  refine Run.alloc rfl rfl rfl rfl rfl fun b2 => ?_
  refine Run.one (ok_assign rfl rfl) rfl rfl rfl ?_
  refine Run.nil ?_
  refine T_regionS ?_
  refine Run.one (ok_move rfl rfl) rfl rfl rfl ?_
  refine Run.one (ok_call rfl rfl cutPrefix_spec) rfl rfl rfl ?_
  refine Run.one (ok_move rfl rfl) rfl rfl rfl ?_
  iterate 2 refine Run.one (ok_extract rfl rfl rfl) rfl rfl rfl ?_
  iterate 2 refine Run.one (ok_assign rfl rfl) rfl rfl rfl ?_
  refine Run.nil ?_
  refine T_seq ?_
  refine T_regionS ?_
  refine Run.one (ok_move rfl rfl) rfl rfl rfl ?_
  refine Run.one (ok_call rfl rfl parse_spec) rfl rfl rfl ?_
  refine Run.one (ok_move rfl rfl) rfl rfl rfl ?_
  iterate 2 refine Run.one (ok_extract rfl rfl rfl) rfl rfl rfl ?_
  refine Run.one (ok_fieldAddr_eq rfl rfl rfl) rfl rfl rfl ?_
  refine Run.store 0 rfl rfl rfl rfl rfl rfl rfl rfl rfl ?_
  refine Run.one (ok_assign rfl rfl) rfl rfl rfl ?_
  refine Run.nil ?_
  refine T_regionS ?_
  refine Run.one (ok_move rfl rfl) rfl rfl rfl ?_
  refine Run.one (ok_cmp rfl rfl rfl rfl) rfl rfl rfl ?_
  refine Run.nil ?_
  refine T_cond rfl rfl (fun h18 => ?_) (fun h18 => ?_)
  · have k18 := bne_iff_ne.1 h18
    have hb := peD_bad (peD_ne k18)
    refine T_regionS ?_
    refine Run.one ((ok_build rfl rfl rfl).sub nilInt) rfl rfl rfl ?_
    refine Run.one (ok_move rfl rfl) rfl rfl rfl ?_
    refine Run.store 0 rfl rfl rfl rfl rfl rfl rfl rfl rfl ?_
    refine Run.one (ok_assign rfl rfl) rfl rfl rfl ?_
    refine Run.nil ?_
    refine T_ret ?_
    exact ⟨_, [], .many (.cons (.agg 0 inferInstance rfl rfl rfl rfl) (.cons (.tmp rfl) (.nil))), List.nil_sublist _, by rw [hb.2, hb.1, show (Lib.hasPrefix l [45] && decide (0 < 0)) = false by simp]; rfl, rfl⟩
  · have k18 := bne_eq_false_iff_eq.1 h18
    refine T_skip ?_
    refine T_regionS ?_
    refine Run.oneB (ok_move rfl rfl) rfl rfl rfl (fun h5_0 => ?_) (fun h5_0 => ?_)
    · refine Run.one (ok_move rfl rfl) rfl rfl rfl ?_
      refine Run.one (ok_fieldAddr_eq rfl rfl rfl) (gB rfl rfl rfl rfl) rfl rfl ?_
      refine Run.one (ok_load_own 0 rfl rfl rfl rfl) (gB rfl rfl rfl rfl) rfl rfl ?_
      refine Run.one (ok_len rfl rfl) (gB rfl rfl rfl rfl) rfl rfl ?_
      refine Run.one ((ok_cmp rfl rfl rfl rfl).sub (bool_eq (c := decide (0 < pvD (Lib.trimPrefix l [45]))) (decide_eq_decide.2 (by have := dig_len_zero (n := pvD (Lib.trimPrefix l [45])); omega)))) (gB rfl rfl rfl rfl) rfl rfl ?_
      refine Run.one (ok_pick rfl rfl rfl) rfl rfl rfl ?_
      refine Run.one (ok_fieldAddr_eq rfl rfl rfl) rfl rfl rfl ?_
      refine Run.store 0 rfl rfl rfl rfl rfl rfl rfl rfl rfl ?_
      refine Run.nil ?_
      refine T_regionS ?_
      refine Run.one (ok_load_own_agg 0 rfl rfl rfl rfl rfl) rfl rfl rfl ?_
      refine Run.store 0 rfl rfl rfl rfl rfl rfl rfl rfl rfl ?_
      refine Run.one (ok_assign rfl rfl) rfl rfl rfl ?_
      refine Run.nil ?_
      refine T_ret ?_
      exact ⟨_, [], .many (.cons (.agg 0 inferInstance rfl rfl rfl rfl) (.cons (.tmp rfl) (.nil))), List.nil_sublist _, by rw [h5_0, k18]; rfl, rfl⟩
    · refine Run.one (ok_move rfl rfl) rfl rfl rfl ?_
      iterate 4 refine Run.no (gB rfl rfl rfl rfl) rfl rfl ?_
      refine Run.one (ok_pick rfl rfl rfl) rfl rfl rfl ?_
      refine Run.one (ok_fieldAddr_eq rfl rfl rfl) rfl rfl rfl ?_
      refine Run.store 0 rfl rfl rfl rfl rfl rfl rfl rfl rfl ?_
      refine Run.nil ?_
      refine T_regionS ?_
      refine Run.one (ok_load_own_agg 0 rfl rfl rfl rfl rfl) rfl rfl rfl ?_
      refine Run.store 0 rfl rfl rfl rfl rfl rfl rfl rfl rfl ?_
      refine Run.one (ok_assign rfl rfl) rfl rfl rfl ?_
      refine Run.nil ?_
      refine T_ret ?_
      exact ⟨_, [], .many (.cons (.agg 0 inferInstance rfl rfl rfl rfl) (.cons (.tmp rfl) (.nil))), List.nil_sublist _, by rw [h5_0, k18]; rfl, rfl⟩
end Go.Proofs
