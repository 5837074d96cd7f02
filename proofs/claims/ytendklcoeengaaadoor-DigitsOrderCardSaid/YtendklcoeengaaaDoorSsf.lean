/- The laws DigitsBack, DigitsBad, on the facts. -/
import Derived.Test.YtendklcoeengaaaDoorSse
namespace Go.Sv
open Go Go.RowKit
theorem ok_tmod {P : Program} {G : Imm} {H : HL} {o : Oper} {g : List (Nat × SV)} {t u : TypeId} {x y : Operand} {k : IntKind} {m n : Int} (hop : o.op = .binOp .rem t x y u) (hx : opE g x = some (intS k m)) (hy : opE g y = some (intS k n)) (hn : n ≠ 0) : OpOK P G H o g (intS k (m.tmod n)) :=
  ok_pure (by simp [hop]) fun I W a _ _ hr => by
    have h1 : a.eval x = .int k m := hr.get (by simp [hop, Op.operands]) hx
    have h2 : a.eval y = .int k n := hr.get (by simp [hop, Op.operands]) hy
    refine ⟨.int k (m.tmod n), ?_, rfl⟩
    simp [execOp, hop, h1, h2, eqGuard, binOp, Op.intDiv, hn]
theorem u8_lit {c : Int} (h0 : 0 ≤ c) (h1 : c ≤ 255) (I : Imm) (v : Value) (h : (slS 1 id [[intS .u8 c]]).den I v) : (slS 1 u8S [UInt8.ofNat c.toNat]).den I v := by
  obtain ⟨a, cap, hv, h2, h3, h4⟩ := h
  refine ⟨a, cap, hv, h2, h3, ?_⟩
  rcases h4 with h4 | ⟨b, o, ha, h4⟩
  · cases h4
  · refine .inr ⟨b, o, ha, fun i x hx => ?_⟩
    cases i with
    | zero =>
      have := h4 0 _ rfl
      cases hx
      have e : u8S (UInt8.ofNat c.toNat) = [intS .u8 c] := by
        show [intS .u8 ((UInt8.ofNat c.toNat).toNat : Int)] = _
        rw [UInt8.toNat_ofNat', show ((c.toNat % 2 ^ 8 : Nat) : Int) = c by omega]
      rw [e]; exact this
    | succ i => simp at hx
end Go.Sv
namespace Go.Proofs
open Go Go.Sv Num
variable {G : Imm}
theorem trimPre_idec (b : Bool) (n : Nat) : Lib.trimPrefix (idec b n) [45] = dec n ∧ Lib.hasPrefix (idec b n) [45] = (b && decide (n ≠ 0)) := by
  have hd : Lib.hasPrefix (dec n) [45] = false := by
    have h1 := dec_all n
    cases h2 : Lib.decDigits n with
    | nil => exact absurd h2 (dec_ne n)
    | cons c r =>
      rw [h2] at h1
      simp only [List.all_cons, Bool.and_eq_true, isD, decide_eq_true_eq] at h1
      show Lib.hasPrefix (Lib.decDigits n) [45] = false
      rw [h2]
      have : ¬ (45 : UInt8) = c := fun e => by rw [← e] at h1; exact absurd h1.1.1 (by decide)
      simp [Lib.hasPrefix, List.isPrefixOf, this]
  unfold idec
  cases h : (b && decide (n ≠ 0)) with
  | true =>
    rw [if_pos rfl]
    have : Lib.hasPrefix (45 :: dec n) [45] = true := by simp [Lib.hasPrefix, List.isPrefixOf]
    exact ⟨by unfold Lib.trimPrefix; rw [this]; rfl, this⟩
  | false =>
    rw [if_neg (by decide)]
    exact ⟨by unfold Lib.trimPrefix; rw [hd]; rfl, hd⟩
theorem peD_dec {n : Nat} (h : Lib.nDigits n ≤ 60) : peD (dec n) = 0 ∧ pvD (dec n) = n := by
  have := peD_ok (l := dec n) (okD_of (dec_ne n) (by rw [dec_len]; omega) (dec_all n))
  rw [show valD (dec n) = n from valD_dec n] at this
  exact this
theorem parse_idec {b : Bool} {n : Nat} (h : Lib.nDigits n ≤ 60) : PSpec Tryd.prog G 9 [strS (idec b n)] (tupS [aggS [boolS (b && decide (n ≠ 0)), natS (dig n)], intS .i64 0]) := by
  have h1 := parseInt_spec (G := G) (l := idec b n)
  obtain ⟨h2, h3⟩ := trimPre_idec b n
  obtain ⟨h4, h5⟩ := peD_dec h
  rw [h2, h3, h4, h5, show (b && decide (n ≠ 0) && decide (0 < n)) = (b && decide (n ≠ 0)) by cases b <;> simp; omega] at h1
  exact h1
theorem trim_at {s : List UInt8} {k : Nat} (hk : k < s.length) (h0 : ∀ i, i < k → s.getD i 0 = 48) (h : k = s.length - 1 ∨ s.getD k 0 ≠ 48) : trimz s = s.drop k := by
  have h1 : s = List.replicate k 48 ++ s.drop k := by
    rw [← List.take_append_drop k s]
    congr 1
    · refine List.eq_replicate_iff.2 ⟨by simp; omega, fun b hb => ?_⟩
      obtain ⟨i, hi, e⟩ := List.mem_iff_getElem.1 hb
      rw [List.length_take] at hi
      have := h0 i (by omega)
      rw [List.getElem_take] at e
      rw [← e]
      simpa [show i < s.length by omega] using this
    · rw [List.take_append_drop]
  unfold trimz
  rw [show s.dropWhile (· == 48) = (s.drop k).dropWhile (· == 48) by rw [h1, drop_zeros]; simp]
  obtain ⟨c, r, hcr⟩ : ∃ c r, s.drop k = c :: r := by
    cases hd : s.drop k with
    | nil => rw [List.drop_eq_nil_iff] at hd; omega
    | cons c r => exact ⟨c, r, rfl⟩
  have hc : s.getD k 0 = c := by
    have : (s.drop k)[0]? = some c := by rw [hcr]; rfl
    rw [List.getElem?_drop] at this
    rw [List.getD_eq_getElem?_getD, show s[k]? = some c by simpa using this]; rfl
  rw [hc] at h
  rw [hcr, List.dropWhile_cons]
  by_cases h48 : c = 48
  · subst h48
    rcases h with h | h
    · have hl : (s.drop k).length = 1 := by rw [List.length_drop]; omega
      rw [hcr] at hl
      have : r = [] := by simpa using hl
      subst this
      rfl
    · exact absurd rfl h
  · simp [h48]
theorem getD_some {s : List UInt8} {k : Nat} (h : k < s.length) : s[k]? = some (s.getD k 0) := by simp [h]
theorem digitsBack_spec [Tab10 G] {b : Bool} {l : List Nat} {s : List UInt8} (hl : Lim l) : PSpec Tryd.prog G 6 [aggS [boolS b, natS l], strS s] (boolS true) := by
  refine fn_spec Tryd.func6 rfl rfl rfl ?_
  refine T_regionS ?_
  refine Run.one (ok_box rfl rfl) rfl rfl rfl ?_
  refine Run.one (ok_assign rfl rfl) rfl rfl rfl ?_
  refine Run.nil ?_
  refine T_seq ?_
  refine T_regionS ?_
  refine Run.one (ok_fieldAddr rfl rfl rfl) rfl rfl rfl ?_
  refine Run.one (ok_load rfl rfl) rfl rfl rfl ?_
  refine Run.one (ok_len rfl rfl) rfl rfl rfl ?_
  refine Run.oneB (ok_cmp rfl rfl rfl rfl) rfl rfl rfl (fun h1_3 => ?_) (fun h1_3 => ?_)
  · have k1_3 := of_decide_eq_true h1_3
    refine Run.one (ok_move rfl rfl) rfl rfl rfl ?_
    refine Run.no (gB rfl rfl rfl rfl) rfl rfl ?_
    refine Run.no (gB rfl rfl rfl rfl) rfl rfl ?_
    refine Run.no (gB rfl rfl rfl rfl) rfl rfl ?_
    refine Run.one (ok_pick rfl rfl rfl) rfl rfl rfl ?_
    refine Run.nil ?_
    refine T_condT rfl rfl ?_
    refine T_regionS ?_
    refine Run.one (ok_call rfl rfl wakes6_spec) rfl rfl rfl ?_
    refine Run.one (ok_assign rfl rfl) rfl rfl rfl ?_
    refine Run.nil ?_
    refine T_ret ?_
    exact ⟨_, [], .one (.tmp rfl), List.nil_sublist _, rfl, rfl⟩
  · have k1_3 := of_decide_eq_false h1_3
    refine Run.one (ok_move rfl rfl) rfl rfl rfl ?_
    refine Run.one (ok_move rfl rfl) (gB rfl rfl rfl rfl) rfl rfl ?_
    refine Run.one (ok_len_str rfl rfl) (gB rfl rfl rfl rfl) rfl rfl ?_
    refine Run.one (ok_cmp rfl rfl rfl rfl) (gB rfl rfl rfl rfl) rfl rfl ?_
    refine Run.one (ok_pick rfl rfl rfl) rfl rfl rfl ?_
    refine Run.nil ?_
    refine T_cond rfl rfl (fun h20 => ?_) (fun h20 => ?_)
    · have k20 := of_decide_eq_true h20
      refine T_regionS ?_
      refine Run.one (ok_call rfl rfl wakes6_spec) rfl rfl rfl ?_
      refine Run.one (ok_assign rfl rfl) rfl rfl rfl ?_
      refine Run.nil ?_
      refine T_ret ?_
      exact ⟨_, [], .one (.tmp rfl), List.nil_sublist _, rfl, rfl⟩
    · have k20 := of_decide_eq_false h20
      obtain ⟨n, hn⟩ : ∃ n, n = val l := ⟨_, rfl⟩
      have i1 : IsNat l n := ⟨hl, hn.symm⟩
      have i3 : Sz l 6 := sz_of (by omega)
      have i5 : Bd n 6 := hn ▸ val_bd hl (by omega)
      have hnd : Lib.nDigits n ≤ 60 := nDigits_le_of_lt (k := 59) (Nat.lt_of_lt_of_le i5.h (by decide))
      have i6 : Bd (pvD s) 7 := bd_dec (pvD_lt s)
      refine T_skip ?_
      refine T_regionS ?_
      refine Run.one (ok_load_agg rfl rfl rfl rfl) rfl rfl rfl ?_
      refine Run.one (ok_call rfl rfl (itext_spec (by decide))) rfl rfl rfl ?_
      refine Run.one (ok_assign rfl rfl) rfl rfl rfl ?_
      refine Run.nil ?_
      refine T_regionS ?_
      refine Run.one (ok_move rfl rfl) rfl rfl rfl ?_
      refine Run.one (ok_call rfl rfl (parse_idec hnd)) rfl rfl rfl ?_
      refine Run.one (ok_move rfl rfl) rfl rfl rfl ?_
      refine Run.one (ok_extract rfl rfl rfl) rfl rfl rfl ?_
      refine Run.one (ok_extract rfl rfl rfl) rfl rfl rfl ?_
      refine Run.alloc rfl rfl rfl rfl rfl fun b6 => ?_
      refine Run.store 0 rfl rfl rfl rfl rfl rfl rfl rfl rfl ?_
      refine Run.one (ok_assign rfl rfl) rfl rfl rfl ?_
      refine Run.nil ?_
      refine T_regionS ?_
      refine Run.one (ok_fieldAddr rfl rfl rfl) rfl rfl rfl ?_
      refine Run.one (ok_load rfl rfl) rfl rfl rfl ?_
      refine Run.one (ok_call rfl rfl (rtrim_spec (by have := i3.h; unfold cap; omega))) rfl rfl rfl ?_
      refine Run.one (ok_assign rfl rfl) rfl rfl rfl ?_
      refine Run.nil ?_
      refine T_seq ?_
      refine T_drawS 25 (by kernel_rfl) ?_
      refine Run.one (ok_move rfl rfl) rfl rfl rfl ?_
      refine Run.one ((ok_cmp rfl rfl rfl rfl).sub (bool_eq (c := false) (rfl))) rfl rfl rfl ?_
      refine Run.one (ok_move rfl rfl) rfl rfl rfl ?_
      refine Run.one (ok_load_own_agg 0 rfl rfl rfl rfl rfl) (gB rfl rfl rfl rfl) rfl rfl ?_
      refine Run.one (ok_fieldAddr rfl rfl rfl) (gB rfl rfl rfl rfl) rfl rfl ?_
      refine Run.oneB (ok_load rfl rfl) (gB rfl rfl rfl rfl) rfl rfl (fun h6_5 => ?_) (fun h6_5 => ?_)
      · refine Run.one (ok_move rfl rfl) (gB rfl rfl rfl rfl) rfl rfl ?_
        refine Run.one (ok_move rfl rfl) (gB rfl rfl rfl rfl) rfl rfl ?_
        refine Run.one (ok_len rfl rfl) (gB rfl rfl rfl rfl) rfl rfl ?_
        refine Run.one ((ok_cmp rfl rfl rfl rfl).sub (bool_eq (c := decide (n ≠ 0)) (decide_eq_decide.2 (by have := dig_len_zero (n := n); omega)))) (gB rfl rfl rfl rfl) rfl rfl ?_
        refine Run.one (ok_pick rfl rfl rfl) (gB rfl rfl rfl rfl) rfl rfl ?_
        refine Run.one (ok_move rfl rfl) (gB rfl rfl rfl rfl) rfl rfl ?_
        refine Run.one (ok_build rfl rfl rfl) (gB rfl rfl rfl rfl) rfl rfl ?_
        refine Run.one ((ok_call rfl rfl same6_spec).sub (bool_eq (c := true) (by rw [h6_5]; simp))) (gB rfl rfl rfl rfl) rfl rfl ?_
        refine Run.one (ok_not rfl rfl) (gB rfl rfl rfl rfl) rfl rfl ?_
        refine Run.one (ok_pick rfl rfl rfl) rfl rfl rfl ?_
        refine Run.one (ok_move rfl rfl) rfl rfl rfl ?_
        refine Run.one (ok_fieldAddr rfl rfl rfl) (gB rfl rfl rfl rfl) rfl rfl ?_
        refine Run.one (ok_load rfl rfl) (gB rfl rfl rfl rfl) rfl rfl ?_
        refine Run.one (ok_call rfl rfl (text_spec (by decide))) (gB rfl rfl rfl rfl) rfl rfl ?_
        refine Run.one (ok_fieldAddr_eq rfl rfl rfl) (gB rfl rfl rfl rfl) rfl rfl ?_
        refine Run.one (ok_load_own 0 rfl rfl rfl rfl) (gB rfl rfl rfl rfl) rfl rfl ?_
        refine Run.one (ok_call rfl rfl (text_spec (by decide))) (gB rfl rfl rfl rfl) rfl rfl ?_
        refine Run.one ((ok_cmp_str rfl rfl rfl rfl).sub (bool_eq (c := false) (by simp))) (gB rfl rfl rfl rfl) rfl rfl ?_
        refine Run.one (ok_pick rfl rfl rfl) rfl rfl rfl ?_
        refine Run.nil ?_
        refine Run.nil ?_
        refine T_condF rfl rfl ?_
        refine T_skip ?_
        refine T_regionS ?_
        refine Run.one (ok_move rfl rfl) rfl rfl rfl ?_
        refine Run.one (ok_call rfl rfl parse_spec) rfl rfl rfl ?_
        refine Run.one (ok_move rfl rfl) rfl rfl rfl ?_
        refine Run.one (ok_extract rfl rfl rfl) rfl rfl rfl ?_
        refine Run.one (ok_extract rfl rfl rfl) rfl rfl rfl ?_
        refine Run.one (ok_assign rfl rfl) rfl rfl rfl ?_
        refine Run.one (ok_assign rfl rfl) rfl rfl rfl ?_
        refine Run.nil ?_
        refine T_seq ?_
        refine T_regionS ?_
        refine Run.one (ok_move rfl rfl) rfl rfl rfl ?_
        refine Run.one (ok_cmp rfl rfl rfl rfl) rfl rfl rfl ?_
        refine Run.nil ?_
        refine T_cond rfl rfl (fun h63 => ?_) (fun h63 => ?_)
        · have k63 := bne_iff_ne.1 h63
          refine T_regionS ?_
          refine Run.one (ok_move rfl rfl) rfl rfl rfl ?_
          refine Run.one (ok_len rfl rfl) rfl rfl rfl ?_
          refine Run.one ((ok_cmp rfl rfl rfl rfl).sub (bool_eq (c := true) (by rw [(peD_bad (peD_ne k63)).2, dig_zero]; rfl))) rfl rfl rfl ?_
          refine Run.one (ok_move rfl rfl) rfl rfl rfl ?_
          refine Run.one (ok_call rfl rfl wakes6_spec) (gB rfl rfl rfl rfl) rfl rfl ?_
          refine Run.one (ok_pick rfl rfl rfl) rfl rfl rfl ?_
          refine Run.one (ok_assign rfl rfl) rfl rfl rfl ?_
          refine Run.nil ?_
          refine T_ret ?_
          exact ⟨_, [], .one (.tmp rfl), List.nil_sublist _, rfl, rfl⟩
        · have k63 := bne_eq_false_iff_eq.1 h63
          obtain ⟨hs1, hs2, hs3⟩ : ¬ s = [] ∧ s.length ≤ 60 ∧ s.all isD = true := by
            cases ho : okD s with
            | false => rw [(peD_bad ho).1] at k63; exact absurd k63 (by decide)
            | true => simp only [okD, Bool.and_eq_true, Bool.not_eq_true', decide_eq_true_eq] at ho; exact ⟨by simpa using ho.1, ho.2.1, ho.2.2⟩
          have hsl : 0 < s.length := List.length_pos_iff.2 hs1
          have hpv : pvD s = valD s := (peD_ok (okD_of hs1 (by omega) hs3)).2
          have hdt : dec (pvD s) = trimz s := by rw [hpv]; exact dec_valD hs3
          refine T_skip ?_
          refine T_ghost (ghost_drop (h' := []) (List.nil_sublist _)) ?_
          refine T_regionS ?_
          refine Run.one (ok_assign rfl rfl) rfl rfl rfl ?_
          refine Run.nil ?_
          refine T_seq ?_
          refine T_block ?_
          refine T_loop (γ := Nat) (fun k => ⟨_, [(11, intS .i64 (k : Nat)), (9, natS (dig (pvD s))), (1, strS s)], [], [], (0, false)⟩) (fun k => k < s.length ∧ ∀ i, i < k → s.getD i 0 = 48) (fun k => s.length - k) 0 ⟨hsl, fun i hi => absurd hi (by omega)⟩ (ent_g (subG_cons rfl (subG_cons rfl (subG_cons rfl (trivial))))) ?_
          rintro k ⟨hk, h0⟩
          refine T_seq ?_
          refine T_regionS ?_
          refine Run.one (ok_move rfl rfl) rfl rfl rfl ?_
          refine Run.one (ok_move rfl rfl) rfl rfl rfl ?_
          refine Run.one (ok_len_str rfl rfl) rfl rfl rfl ?_
          refine Run.one (ok_ari (z := ((s.length - 1 : Nat) : Int)) rfl rfl rfl (congrArg some (by omega)) (wrap_i64 (by omega) (by omega))) rfl rfl rfl ?_
          refine Run.oneB (ok_cmp rfl rfl rfl rfl) rfl rfl rfl (fun h12_4 => ?_) (fun h12_4 => ?_)
          · have k12_4 := of_decide_eq_true h12_4
            refine Run.one (ok_move rfl rfl) rfl rfl rfl ?_
            refine Run.one (ok_move rfl rfl) (gB rfl rfl rfl rfl) rfl rfl ?_
            refine Run.one (ok_move rfl rfl) (gB rfl rfl rfl rfl) rfl rfl ?_
            refine Run.one (ok_index_str rfl rfl rfl (by omega) (c := s.getD k 0) (getD_some hk)) (gB rfl rfl rfl rfl) rfl rfl ?_
            refine Run.one (ok_cmp rfl rfl rfl rfl) (gB rfl rfl rfl rfl) rfl rfl ?_
            refine Run.one (ok_pick rfl rfl rfl) rfl rfl rfl ?_
            refine Run.nil ?_
            refine T_cond rfl rfl (fun h80 => ?_) (fun h80 => ?_)
            · have k80 := beq_iff_eq.1 h80
              have hck : s.getD k 0 = 48 := UInt8.toNat_inj.1 (show (s.getD k 0).toNat = 48 by have := beq_iff_eq.1 h80; omega)
              refine T_skip ?_
              refine T_block ?_
              refine T_region ?_
              refine Run.one (ok_move rfl rfl) rfl rfl rfl ?_
              refine Run.one (ok_ari (z := ((k + 1 : Nat) : Int)) rfl rfl rfl (congrArg some (by omega)) (wrap_i64 (by omega) (by omega))) rfl rfl rfl ?_
              refine Run.one (ok_assign rfl rfl) rfl rfl rfl ?_
              refine Run.nil ?_
              exact ⟨k + 1, ⟨by omega, fun i hi => by rcases Nat.lt_or_ge i k with h | h; exact h0 i h; rw [show i = k by omega]; exact hck⟩, by omega, rfl, subG_cons rfl (subG_cons rfl (subG_cons rfl (trivial))), subH_refl _, rfl, rfl⟩
            · have k80 := beq_eq_false_iff_ne.1 h80
              have htz := trim_at hk h0 (.inr fun e => by rw [e] at h80; exact absurd h80 (by decide))
              refine T_exit ?_
              refine T_drawS 27 (by kernel_rfl) ?_
              refine Run.one (ok_move rfl rfl) rfl rfl rfl ?_
              refine Run.one (ok_call rfl rfl (text_spec (by decide))) rfl rfl rfl ?_
              refine Run.one (ok_move rfl rfl) rfl rfl rfl ?_
              refine Run.one (ok_move rfl rfl) rfl rfl rfl ?_
              refine Run.one (ok_move rfl rfl) rfl rfl rfl ?_
              refine Run.one (ok_len_str rfl rfl) rfl rfl rfl ?_
              refine Run.one ((ok_min rfl rfl rfl).sub (int_eq (n := ((k : Nat) : Int)) (by omega))) rfl rfl rfl ?_
              refine Run.one ((ok_slice_str (lo := k) (hi := s.length) rfl rfl (.inr ⟨_, _, rfl, rfl⟩) (.inl ⟨rfl, rfl⟩) (by omega) (Nat.le_refl _)).sub (str_eq (by rw [List.take_length]))) rfl rfl rfl ?_
              refine Run.one ((ok_cmp_str rfl rfl rfl rfl).sub (bool_eq (c := true) (by rw [hdt, htz]; simp))) rfl rfl rfl ?_
              refine Run.one (ok_move rfl rfl) rfl rfl rfl ?_
              refine Run.one (ok_move rfl rfl) (gB rfl rfl rfl rfl) rfl rfl ?_
              refine Run.one (ok_len_str rfl rfl) (gB rfl rfl rfl rfl) rfl rfl ?_
              refine Run.one ((ok_cmp rfl rfl rfl rfl).sub (bool_eq (c := true) (decide_eq_true (by omega)))) (gB rfl rfl rfl rfl) rfl rfl ?_
              refine Run.one (ok_pick rfl rfl rfl) rfl rfl rfl ?_
              refine Run.one (ok_move rfl rfl) rfl rfl rfl ?_
              refine Run.one (ok_move rfl rfl) (gB rfl rfl rfl rfl) rfl rfl ?_
              refine Run.one (ok_call rfl rfl (dcount_spec (by decide))) (gB rfl rfl rfl rfl) rfl rfl ?_
              refine Run.one (ok_move rfl rfl) (gB rfl rfl rfl rfl) rfl rfl ?_
              refine Run.one (ok_len_str rfl rfl) (gB rfl rfl rfl rfl) rfl rfl ?_
              refine Run.one (ok_move rfl rfl) (gB rfl rfl rfl rfl) rfl rfl ?_
              refine Run.one (ok_ari (z := ((s.length - k : Nat) : Int)) rfl rfl rfl (congrArg some (by omega)) (wrap_i64 (by omega) (by omega))) (gB rfl rfl rfl rfl) rfl rfl ?_
              refine Run.one ((ok_cmp rfl rfl rfl rfl).sub (bool_eq (c := true) (by rw [← dec_len, hdt, htz, List.length_drop]; simp))) (gB rfl rfl rfl rfl) rfl rfl ?_
              refine Run.one (ok_pick rfl rfl rfl) rfl rfl rfl ?_
              refine Run.one (ok_move rfl rfl) rfl rfl rfl ?_
              refine Run.one (ok_call rfl rfl wakes6_spec) (gB rfl rfl rfl rfl) rfl rfl ?_
              refine Run.one (ok_pick rfl rfl rfl) rfl rfl rfl ?_
              refine Run.one (ok_assign rfl rfl) rfl rfl rfl ?_
              refine Run.nil ?_
              refine Run.nil ?_
              refine T_ret ?_
              exact ⟨_, [], .one (.tmp rfl), List.nil_sublist _, rfl, rfl⟩
          · have k12_4 := of_decide_eq_false h12_4
            have htz := trim_at hk h0 (.inl (by omega))
            refine Run.one (ok_move rfl rfl) rfl rfl rfl ?_
            refine Run.no (gB rfl rfl rfl rfl) rfl rfl ?_
            refine Run.no (gB rfl rfl rfl rfl) rfl rfl ?_
            refine Run.no (gB rfl rfl rfl rfl) rfl rfl ?_
            refine Run.no (gB rfl rfl rfl rfl) rfl rfl ?_
            refine Run.one (ok_pick rfl rfl rfl) rfl rfl rfl ?_
            refine Run.nil ?_
            refine T_condF rfl rfl ?_
            refine T_exit ?_
            refine T_drawS 27 (by kernel_rfl) ?_
            refine Run.one (ok_move rfl rfl) rfl rfl rfl ?_
            refine Run.one (ok_call rfl rfl (text_spec (by decide))) rfl rfl rfl ?_
            refine Run.one (ok_move rfl rfl) rfl rfl rfl ?_
            refine Run.one (ok_move rfl rfl) rfl rfl rfl ?_
            refine Run.one (ok_move rfl rfl) rfl rfl rfl ?_
            refine Run.one (ok_len_str rfl rfl) rfl rfl rfl ?_
            refine Run.one ((ok_min rfl rfl rfl).sub (int_eq (n := ((k : Nat) : Int)) (by omega))) rfl rfl rfl ?_
            refine Run.one ((ok_slice_str (lo := k) (hi := s.length) rfl rfl (.inr ⟨_, _, rfl, rfl⟩) (.inl ⟨rfl, rfl⟩) (by omega) (Nat.le_refl _)).sub (str_eq (by rw [List.take_length]))) rfl rfl rfl ?_
            refine Run.one ((ok_cmp_str rfl rfl rfl rfl).sub (bool_eq (c := true) (by rw [hdt, htz]; simp))) rfl rfl rfl ?_
            refine Run.one (ok_move rfl rfl) rfl rfl rfl ?_
            refine Run.one (ok_move rfl rfl) (gB rfl rfl rfl rfl) rfl rfl ?_
            refine Run.one (ok_len_str rfl rfl) (gB rfl rfl rfl rfl) rfl rfl ?_
            refine Run.one ((ok_cmp rfl rfl rfl rfl).sub (bool_eq (c := true) (decide_eq_true (by omega)))) (gB rfl rfl rfl rfl) rfl rfl ?_
            refine Run.one (ok_pick rfl rfl rfl) rfl rfl rfl ?_
            refine Run.one (ok_move rfl rfl) rfl rfl rfl ?_
            refine Run.one (ok_move rfl rfl) (gB rfl rfl rfl rfl) rfl rfl ?_
            refine Run.one (ok_call rfl rfl (dcount_spec (by decide))) (gB rfl rfl rfl rfl) rfl rfl ?_
            refine Run.one (ok_move rfl rfl) (gB rfl rfl rfl rfl) rfl rfl ?_
            refine Run.one (ok_len_str rfl rfl) (gB rfl rfl rfl rfl) rfl rfl ?_
            refine Run.one (ok_move rfl rfl) (gB rfl rfl rfl rfl) rfl rfl ?_
            refine Run.one (ok_ari (z := ((s.length - k : Nat) : Int)) rfl rfl rfl (congrArg some (by omega)) (wrap_i64 (by omega) (by omega))) (gB rfl rfl rfl rfl) rfl rfl ?_
            refine Run.one ((ok_cmp rfl rfl rfl rfl).sub (bool_eq (c := true) (by rw [← dec_len, hdt, htz, List.length_drop]; simp))) (gB rfl rfl rfl rfl) rfl rfl ?_
            refine Run.one (ok_pick rfl rfl rfl) rfl rfl rfl ?_
            refine Run.one (ok_move rfl rfl) rfl rfl rfl ?_
            refine Run.one (ok_call rfl rfl wakes6_spec) (gB rfl rfl rfl rfl) rfl rfl ?_
            refine Run.one (ok_pick rfl rfl rfl) rfl rfl rfl ?_
            refine Run.one (ok_assign rfl rfl) rfl rfl rfl ?_
            refine Run.nil ?_
            refine Run.nil ?_
            refine T_ret ?_
            exact ⟨_, [], .one (.tmp rfl), List.nil_sublist _, rfl, rfl⟩
      · refine Run.one (ok_move rfl rfl) (gB rfl rfl rfl rfl) rfl rfl ?_
        refine Run.no (gB rfl rfl rfl rfl) rfl rfl ?_
        refine Run.no (gB rfl rfl rfl rfl) rfl rfl ?_
        refine Run.no (gB rfl rfl rfl rfl) rfl rfl ?_
        refine Run.one (ok_pick rfl rfl rfl) (gB rfl rfl rfl rfl) rfl rfl ?_
        refine Run.one (ok_move rfl rfl) (gB rfl rfl rfl rfl) rfl rfl ?_
        refine Run.one (ok_build rfl rfl rfl) (gB rfl rfl rfl rfl) rfl rfl ?_
        refine Run.one ((ok_call rfl rfl same6_spec).sub (bool_eq (c := true) (by rw [h6_5]; simp))) (gB rfl rfl rfl rfl) rfl rfl ?_
        refine Run.one (ok_not rfl rfl) (gB rfl rfl rfl rfl) rfl rfl ?_
        refine Run.one (ok_pick rfl rfl rfl) rfl rfl rfl ?_
        refine Run.one (ok_move rfl rfl) rfl rfl rfl ?_
        refine Run.one (ok_fieldAddr rfl rfl rfl) (gB rfl rfl rfl rfl) rfl rfl ?_
        refine Run.one (ok_load rfl rfl) (gB rfl rfl rfl rfl) rfl rfl ?_
        refine Run.one (ok_call rfl rfl (text_spec (by decide))) (gB rfl rfl rfl rfl) rfl rfl ?_
        refine Run.one (ok_fieldAddr_eq rfl rfl rfl) (gB rfl rfl rfl rfl) rfl rfl ?_
        refine Run.one (ok_load_own 0 rfl rfl rfl rfl) (gB rfl rfl rfl rfl) rfl rfl ?_
        refine Run.one (ok_call rfl rfl (text_spec (by decide))) (gB rfl rfl rfl rfl) rfl rfl ?_
        refine Run.one ((ok_cmp_str rfl rfl rfl rfl).sub (bool_eq (c := false) (by simp))) (gB rfl rfl rfl rfl) rfl rfl ?_
        refine Run.one (ok_pick rfl rfl rfl) rfl rfl rfl ?_
        refine Run.nil ?_
        refine Run.nil ?_
        refine T_condF rfl rfl ?_
        refine T_skip ?_
        refine T_regionS ?_
        refine Run.one (ok_move rfl rfl) rfl rfl rfl ?_
        refine Run.one (ok_call rfl rfl parse_spec) rfl rfl rfl ?_
        refine Run.one (ok_move rfl rfl) rfl rfl rfl ?_
        refine Run.one (ok_extract rfl rfl rfl) rfl rfl rfl ?_
        refine Run.one (ok_extract rfl rfl rfl) rfl rfl rfl ?_
        refine Run.one (ok_assign rfl rfl) rfl rfl rfl ?_
        refine Run.one (ok_assign rfl rfl) rfl rfl rfl ?_
        refine Run.nil ?_
        refine T_seq ?_
        refine T_regionS ?_
        refine Run.one (ok_move rfl rfl) rfl rfl rfl ?_
        refine Run.one (ok_cmp rfl rfl rfl rfl) rfl rfl rfl ?_
        refine Run.nil ?_
        refine T_cond rfl rfl (fun h63 => ?_) (fun h63 => ?_)
        · have k63 := bne_iff_ne.1 h63
          refine T_regionS ?_
          refine Run.one (ok_move rfl rfl) rfl rfl rfl ?_
          refine Run.one (ok_len rfl rfl) rfl rfl rfl ?_
          refine Run.one ((ok_cmp rfl rfl rfl rfl).sub (bool_eq (c := true) (by rw [(peD_bad (peD_ne k63)).2, dig_zero]; rfl))) rfl rfl rfl ?_
          refine Run.one (ok_move rfl rfl) rfl rfl rfl ?_
          refine Run.one (ok_call rfl rfl wakes6_spec) (gB rfl rfl rfl rfl) rfl rfl ?_
          refine Run.one (ok_pick rfl rfl rfl) rfl rfl rfl ?_
          refine Run.one (ok_assign rfl rfl) rfl rfl rfl ?_
          refine Run.nil ?_
          refine T_ret ?_
          exact ⟨_, [], .one (.tmp rfl), List.nil_sublist _, rfl, rfl⟩
        · have k63 := bne_eq_false_iff_eq.1 h63
          obtain ⟨hs1, hs2, hs3⟩ : ¬ s = [] ∧ s.length ≤ 60 ∧ s.all isD = true := by
            cases ho : okD s with
            | false => rw [(peD_bad ho).1] at k63; exact absurd k63 (by decide)
            | true => simp only [okD, Bool.and_eq_true, Bool.not_eq_true', decide_eq_true_eq] at ho; exact ⟨by simpa using ho.1, ho.2.1, ho.2.2⟩
          have hsl : 0 < s.length := List.length_pos_iff.2 hs1
          have hpv : pvD s = valD s := (peD_ok (okD_of hs1 (by omega) hs3)).2
          have hdt : dec (pvD s) = trimz s := by rw [hpv]; exact dec_valD hs3
          refine T_skip ?_
          refine T_ghost (ghost_drop (h' := []) (List.nil_sublist _)) ?_
          refine T_regionS ?_
          refine Run.one (ok_assign rfl rfl) rfl rfl rfl ?_
          refine Run.nil ?_
          refine T_seq ?_
          refine T_block ?_
          refine T_loop (γ := Nat) (fun k => ⟨_, [(11, intS .i64 (k : Nat)), (9, natS (dig (pvD s))), (1, strS s)], [], [], (0, false)⟩) (fun k => k < s.length ∧ ∀ i, i < k → s.getD i 0 = 48) (fun k => s.length - k) 0 ⟨hsl, fun i hi => absurd hi (by omega)⟩ (ent_g (subG_cons rfl (subG_cons rfl (subG_cons rfl (trivial))))) ?_
          rintro k ⟨hk, h0⟩
          refine T_seq ?_
          refine T_regionS ?_
          refine Run.one (ok_move rfl rfl) rfl rfl rfl ?_
          refine Run.one (ok_move rfl rfl) rfl rfl rfl ?_
          refine Run.one (ok_len_str rfl rfl) rfl rfl rfl ?_
          refine Run.one (ok_ari (z := ((s.length - 1 : Nat) : Int)) rfl rfl rfl (congrArg some (by omega)) (wrap_i64 (by omega) (by omega))) rfl rfl rfl ?_
          refine Run.oneB (ok_cmp rfl rfl rfl rfl) rfl rfl rfl (fun h12_4 => ?_) (fun h12_4 => ?_)
          · have k12_4 := of_decide_eq_true h12_4
            refine Run.one (ok_move rfl rfl) rfl rfl rfl ?_
            refine Run.one (ok_move rfl rfl) (gB rfl rfl rfl rfl) rfl rfl ?_
            refine Run.one (ok_move rfl rfl) (gB rfl rfl rfl rfl) rfl rfl ?_
            refine Run.one (ok_index_str rfl rfl rfl (by omega) (c := s.getD k 0) (getD_some hk)) (gB rfl rfl rfl rfl) rfl rfl ?_
            refine Run.one (ok_cmp rfl rfl rfl rfl) (gB rfl rfl rfl rfl) rfl rfl ?_
            refine Run.one (ok_pick rfl rfl rfl) rfl rfl rfl ?_
            refine Run.nil ?_
            refine T_cond rfl rfl (fun h80 => ?_) (fun h80 => ?_)
            · have k80 := beq_iff_eq.1 h80
              have hck : s.getD k 0 = 48 := UInt8.toNat_inj.1 (show (s.getD k 0).toNat = 48 by have := beq_iff_eq.1 h80; omega)
              refine T_skip ?_
              refine T_block ?_
              refine T_region ?_
              refine Run.one (ok_move rfl rfl) rfl rfl rfl ?_
              refine Run.one (ok_ari (z := ((k + 1 : Nat) : Int)) rfl rfl rfl (congrArg some (by omega)) (wrap_i64 (by omega) (by omega))) rfl rfl rfl ?_
              refine Run.one (ok_assign rfl rfl) rfl rfl rfl ?_
              refine Run.nil ?_
              exact ⟨k + 1, ⟨by omega, fun i hi => by rcases Nat.lt_or_ge i k with h | h; exact h0 i h; rw [show i = k by omega]; exact hck⟩, by omega, rfl, subG_cons rfl (subG_cons rfl (subG_cons rfl (trivial))), subH_refl _, rfl, rfl⟩
            · have k80 := beq_eq_false_iff_ne.1 h80
              have htz := trim_at hk h0 (.inr fun e => by rw [e] at h80; exact absurd h80 (by decide))
              refine T_exit ?_
              refine T_drawS 27 (by kernel_rfl) ?_
              refine Run.one (ok_move rfl rfl) rfl rfl rfl ?_
              refine Run.one (ok_call rfl rfl (text_spec (by decide))) rfl rfl rfl ?_
              refine Run.one (ok_move rfl rfl) rfl rfl rfl ?_
              refine Run.one (ok_move rfl rfl) rfl rfl rfl ?_
              refine Run.one (ok_move rfl rfl) rfl rfl rfl ?_
              refine Run.one (ok_len_str rfl rfl) rfl rfl rfl ?_
              refine Run.one ((ok_min rfl rfl rfl).sub (int_eq (n := ((k : Nat) : Int)) (by omega))) rfl rfl rfl ?_
              refine Run.one ((ok_slice_str (lo := k) (hi := s.length) rfl rfl (.inr ⟨_, _, rfl, rfl⟩) (.inl ⟨rfl, rfl⟩) (by omega) (Nat.le_refl _)).sub (str_eq (by rw [List.take_length]))) rfl rfl rfl ?_
              refine Run.one ((ok_cmp_str rfl rfl rfl rfl).sub (bool_eq (c := true) (by rw [hdt, htz]; simp))) rfl rfl rfl ?_
              refine Run.one (ok_move rfl rfl) rfl rfl rfl ?_
              refine Run.one (ok_move rfl rfl) (gB rfl rfl rfl rfl) rfl rfl ?_
              refine Run.one (ok_len_str rfl rfl) (gB rfl rfl rfl rfl) rfl rfl ?_
              refine Run.one ((ok_cmp rfl rfl rfl rfl).sub (bool_eq (c := true) (decide_eq_true (by omega)))) (gB rfl rfl rfl rfl) rfl rfl ?_
              refine Run.one (ok_pick rfl rfl rfl) rfl rfl rfl ?_
              refine Run.one (ok_move rfl rfl) rfl rfl rfl ?_
              refine Run.one (ok_move rfl rfl) (gB rfl rfl rfl rfl) rfl rfl ?_
              refine Run.one (ok_call rfl rfl (dcount_spec (by decide))) (gB rfl rfl rfl rfl) rfl rfl ?_
              refine Run.one (ok_move rfl rfl) (gB rfl rfl rfl rfl) rfl rfl ?_
              refine Run.one (ok_len_str rfl rfl) (gB rfl rfl rfl rfl) rfl rfl ?_
              refine Run.one (ok_move rfl rfl) (gB rfl rfl rfl rfl) rfl rfl ?_
              refine Run.one (ok_ari (z := ((s.length - k : Nat) : Int)) rfl rfl rfl (congrArg some (by omega)) (wrap_i64 (by omega) (by omega))) (gB rfl rfl rfl rfl) rfl rfl ?_
              refine Run.one ((ok_cmp rfl rfl rfl rfl).sub (bool_eq (c := true) (by rw [← dec_len, hdt, htz, List.length_drop]; simp))) (gB rfl rfl rfl rfl) rfl rfl ?_
              refine Run.one (ok_pick rfl rfl rfl) rfl rfl rfl ?_
              refine Run.one (ok_move rfl rfl) rfl rfl rfl ?_
              refine Run.one (ok_call rfl rfl wakes6_spec) (gB rfl rfl rfl rfl) rfl rfl ?_
              refine Run.one (ok_pick rfl rfl rfl) rfl rfl rfl ?_
              refine Run.one (ok_assign rfl rfl) rfl rfl rfl ?_
              refine Run.nil ?_
              refine Run.nil ?_
              refine T_ret ?_
              exact ⟨_, [], .one (.tmp rfl), List.nil_sublist _, rfl, rfl⟩
          · have k12_4 := of_decide_eq_false h12_4
            have htz := trim_at hk h0 (.inl (by omega))
            refine Run.one (ok_move rfl rfl) rfl rfl rfl ?_
            refine Run.no (gB rfl rfl rfl rfl) rfl rfl ?_
            refine Run.no (gB rfl rfl rfl rfl) rfl rfl ?_
            refine Run.no (gB rfl rfl rfl rfl) rfl rfl ?_
            refine Run.no (gB rfl rfl rfl rfl) rfl rfl ?_
            refine Run.one (ok_pick rfl rfl rfl) rfl rfl rfl ?_
            refine Run.nil ?_
            refine T_condF rfl rfl ?_
            refine T_exit ?_
            refine T_drawS 27 (by kernel_rfl) ?_
            refine Run.one (ok_move rfl rfl) rfl rfl rfl ?_
            refine Run.one (ok_call rfl rfl (text_spec (by decide))) rfl rfl rfl ?_
            refine Run.one (ok_move rfl rfl) rfl rfl rfl ?_
            refine Run.one (ok_move rfl rfl) rfl rfl rfl ?_
            refine Run.one (ok_move rfl rfl) rfl rfl rfl ?_
            refine Run.one (ok_len_str rfl rfl) rfl rfl rfl ?_
            refine Run.one ((ok_min rfl rfl rfl).sub (int_eq (n := ((k : Nat) : Int)) (by omega))) rfl rfl rfl ?_
            refine Run.one ((ok_slice_str (lo := k) (hi := s.length) rfl rfl (.inr ⟨_, _, rfl, rfl⟩) (.inl ⟨rfl, rfl⟩) (by omega) (Nat.le_refl _)).sub (str_eq (by rw [List.take_length]))) rfl rfl rfl ?_
            refine Run.one ((ok_cmp_str rfl rfl rfl rfl).sub (bool_eq (c := true) (by rw [hdt, htz]; simp))) rfl rfl rfl ?_
            refine Run.one (ok_move rfl rfl) rfl rfl rfl ?_
            refine Run.one (ok_move rfl rfl) (gB rfl rfl rfl rfl) rfl rfl ?_
            refine Run.one (ok_len_str rfl rfl) (gB rfl rfl rfl rfl) rfl rfl ?_
            refine Run.one ((ok_cmp rfl rfl rfl rfl).sub (bool_eq (c := true) (decide_eq_true (by omega)))) (gB rfl rfl rfl rfl) rfl rfl ?_
            refine Run.one (ok_pick rfl rfl rfl) rfl rfl rfl ?_
            refine Run.one (ok_move rfl rfl) rfl rfl rfl ?_
            refine Run.one (ok_move rfl rfl) (gB rfl rfl rfl rfl) rfl rfl ?_
            refine Run.one (ok_call rfl rfl (dcount_spec (by decide))) (gB rfl rfl rfl rfl) rfl rfl ?_
            refine Run.one (ok_move rfl rfl) (gB rfl rfl rfl rfl) rfl rfl ?_
            refine Run.one (ok_len_str rfl rfl) (gB rfl rfl rfl rfl) rfl rfl ?_
            refine Run.one (ok_move rfl rfl) (gB rfl rfl rfl rfl) rfl rfl ?_
            refine Run.one (ok_ari (z := ((s.length - k : Nat) : Int)) rfl rfl rfl (congrArg some (by omega)) (wrap_i64 (by omega) (by omega))) (gB rfl rfl rfl rfl) rfl rfl ?_
            refine Run.one ((ok_cmp rfl rfl rfl rfl).sub (bool_eq (c := true) (by rw [← dec_len, hdt, htz, List.length_drop]; simp))) (gB rfl rfl rfl rfl) rfl rfl ?_
            refine Run.one (ok_pick rfl rfl rfl) rfl rfl rfl ?_
            refine Run.one (ok_move rfl rfl) rfl rfl rfl ?_
            refine Run.one (ok_call rfl rfl wakes6_spec) (gB rfl rfl rfl rfl) rfl rfl ?_
            refine Run.one (ok_pick rfl rfl rfl) rfl rfl rfl ?_
            refine Run.one (ok_assign rfl rfl) rfl rfl rfl ?_
            refine Run.nil ?_
            refine Run.nil ?_
            refine T_ret ?_
            exact ⟨_, [], .one (.tmp rfl), List.nil_sublist _, rfl, rfl⟩
end Go.Proofs
