/- The law LineBack, on the facts. -/
import Derived.Test.YtcdlcfihjfhkgaaGreatDoorSso
namespace Num
open Go Go.Lib
def kD (q : Rat) : Nat := if q.den = 1 then nDigits q.num.natAbs else max (nDigits q.num.natAbs) (nDigits q.den)
theorem num3_back {q : Rat} (h1 : nDigits q.num.natAbs ≤ 60) (h2 : nDigits q.den ≤ 60) : num3 (txtF q) = (q, ((kD q : Nat) : Int), 0) := numF_back h1 h2
theorem itxt_len (z : Int) : nDigits z.natAbs ≤ (itxt z).length := by
  unfold itxt
  split
  · rw [List.length_cons, decDigits_length]; omega
  · rw [decDigits_length]; exact Nat.le_refl _
theorem back_short {q : Rat} (h : (txtF q).length ≤ 60) : num3 (txtF q) = (q, ((kD q : Nat) : Int), 0) ∧ 1 ≤ kD q ∧ kD q ≤ (txtF q).length := by
  have h1 := itxt_len q.num
  have h2 := nDigits_pos q.num.natAbs
  have h3 := nDigits_pos q.den
  have hk : nDigits q.num.natAbs ≤ (txtF q).length ∧ (q.den ≠ 1 → nDigits q.den ≤ (txtF q).length) := by
    unfold txtF
    rw [List.length_append]
    refine ⟨by omega, fun hd => ?_⟩
    rw [if_neg hd, List.length_cons, decDigits_length]; omega
  have h60 : nDigits q.den ≤ 60 := by
    by_cases hd : q.den = 1
    · rw [hd, nDigits_small (by decide)]; decide
    · have := hk.2 hd; omega
  refine ⟨num3_back (by omega) h60, ?_, ?_⟩
  · unfold kD; split <;> omega
  · unfold kD
    split
    · exact hk.1
    · rename_i hd; have := hk.2 hd; omega
theorem num3_err (s : List UInt8) : (num3 s).2.2 = 0 ∨ (num3 s).2.2 = 30 ∨ ((num3 s).2.2 = 60 ∧ (num3 s).2.1 = 0) := by
  unfold num3 numF
  simp only
  split
  · exact .inr (.inr ⟨rfl, rfl⟩)
  · split
    · exact .inl rfl
    · split
      · exact .inr (.inr ⟨rfl, rfl⟩)
      · split
        · exact .inr (.inl rfl)
        · exact .inl rfl
theorem num3_ok {s : List UInt8} {q : Rat} {k : Int} (h : num3 s = (q, k, 0)) : num3 (txtF q) = (q, ((kD q : Nat) : Int), 0) ∧ (kD q : Int) ≤ k ∧ k ≤ 60 ∧ q.num.natAbs < 4294967296 ^ 7 ∧ q.den < 4294967296 ^ 7 := by
  obtain ⟨h1, h2, h3, h4⟩ := numF_ok h
  have p1 : q.num.natAbs < 10 ^ 60 := Nat.lt_of_lt_of_le (lt_pow_nDigits _) (Nat.pow_le_pow_right (by decide) h1)
  have p2 : q.den < 10 ^ 60 := Nat.lt_of_lt_of_le (lt_pow_nDigits _) (Nat.pow_le_pow_right (by decide) h2)
  exact ⟨num3_back h1 h2, h3, h4, Nat.lt_of_lt_of_le p1 (by decide), Nat.lt_of_lt_of_le p2 (by decide)⟩
end Num
namespace Go.Proofs
open Go Go.Sv Num
variable {G : Imm}
theorem txt_le {q : Rat} {k : Nat} (h : Bq q k) (hk : k ≤ 1000) : (txtF q).length ≤ 50000 := by
  have h1 := itxt_le h.num hk
  have h2 := dec_le h.den hk
  unfold txtF
  rw [List.length_append]
  split
  · simp; omega
  · rw [List.length_cons]; have : (Lib.decDigits q.den).length ≤ 20000 := h2; omega
theorem lineBack_spec [Tab G] [Tab10 G] [MaxLen G] {b : Bool} {l d : List Nat} {s : List UInt8} (hl : Lim l ∧ Lim d) : PSpec Tryz.prog G 4 [aggS [boolS b, natS l, natS d], strS s] (boolS true) := by
  refine fn_spec Tryz.func4 rfl rfl rfl ?_
  refine T_regionS ?_
  refine Run.one (ok_box rfl rfl) rfl rfl rfl ?_
  refine Run.one (ok_assign rfl rfl) rfl rfl rfl ?_
  refine Run.nil ?_
  refine T_seq ?_
  refine T_regionS ?_
  refine Run.one (ok_load_agg rfl rfl rfl rfl) rfl rfl rfl ?_
  refine Run.one (ok_buildSlice rfl rfl (by decide) rfl (by simp) rfl rfl) rfl rfl rfl ?_
  refine Run.oneB (ok_call rfl rfl ((rqGreat_spec (xs := [(b, l, d)])).args ⟨fun I v h => sl_map (f := qc) (l := [(b, l, d)]) h, trivial⟩)) rfl rfl rfl (fun h1_2 => ?_) (fun h1_2 => ?_)
  · refine Run.one (ok_move rfl rfl) rfl rfl rfl ?_
    refine Run.no (gB rfl rfl rfl rfl) rfl rfl ?_
    refine Run.no (gB rfl rfl rfl rfl) rfl rfl ?_
    refine Run.no (gB rfl rfl rfl rfl) rfl rfl ?_
    refine Run.one (ok_pick rfl rfl rfl) rfl rfl rfl ?_
    refine Run.nil ?_
    refine T_condT rfl rfl ?_
    refine T_regionS ?_
    refine Run.one (ok_call rfl rfl wakes11_spec) rfl rfl rfl ?_
    refine Run.one (ok_assign rfl rfl) rfl rfl rfl ?_
    refine Run.nil ?_
    refine T_ret ?_
    exact ⟨_, [], .one (.tmp rfl), List.nil_sublist _, rfl, rfl⟩
  · refine Run.one (ok_move rfl rfl) rfl rfl rfl ?_
    refine Run.one (ok_move rfl rfl) (gB rfl rfl rfl rfl) rfl rfl ?_
    refine Run.one (ok_len_str rfl rfl) (gB rfl rfl rfl rfl) rfl rfl ?_
    refine Run.one (ok_cmp rfl rfl rfl rfl) (gB rfl rfl rfl rfl) rfl rfl ?_
    refine Run.one (ok_pick rfl rfl rfl) rfl rfl rfl ?_
    refine Run.nil ?_
    refine T_cond rfl rfl (fun h22 => ?_) (fun h22 => ?_)
    · have k22 := of_decide_eq_true h22
      refine T_regionS ?_
      refine Run.one (ok_call rfl rfl wakes11_spec) rfl rfl rfl ?_
      refine Run.one (ok_assign rfl rfl) rfl rfl rfl ?_
      refine Run.nil ?_
      refine T_ret ?_
      exact ⟨_, [], .one (.tmp rfl), List.nil_sublist _, rfl, rfl⟩
    · have k22 := of_decide_eq_false h22
      have hg : ¬ (60 < [(b, l, d)].length ∨ 40 < gs qtz [(b, l, d)] [(b, l, d)].length) := of_decide_eq_false h1_2
      simp [gs, qtz] at hg
      have iq : IsQ b l d (qv (b, l, d)) 41 := isQ_lim ⟨hl.1, hl.2, by omega, by omega⟩ (by decide)
      obtain ⟨q, hq⟩ : ∃ q, q = qv (b, l, d) := ⟨_, rfl⟩
      rw [← hq] at iq
      have ibq : Bq q 41 := iq.bq
      have htl := txt_le ibq (by decide)
      have hbs := back_short (q := q)
      refine T_skip ?_
      refine T_regionS ?_
      refine Run.one (ok_load_agg rfl rfl rfl rfl) rfl rfl rfl ?_
      refine Run.one (ok_call rfl rfl (ltext_spec (q := q) (k := 41) (by decide))) rfl rfl rfl ?_
      refine Run.one (ok_assign rfl rfl) rfl rfl rfl ?_
      refine Run.nil ?_
      refine T_regionS ?_
      refine Run.one (ok_move rfl rfl) rfl rfl rfl ?_
      refine Run.one (ok_call rfl rfl (number_spec (by omega))) rfl rfl rfl ?_
      refine Run.one (ok_move rfl rfl) rfl rfl rfl ?_
      refine Run.one (ok_extract rfl rfl rfl) rfl rfl rfl ?_
      refine Run.one (ok_extract rfl rfl rfl) rfl rfl rfl ?_
      refine Run.one (ok_extract rfl rfl rfl) rfl rfl rfl ?_
      refine Run.alloc rfl rfl rfl rfl rfl fun b6 => ?_
      refine Run.store 0 rfl rfl rfl rfl rfl rfl rfl rfl rfl ?_
      refine Run.one (ok_assign rfl rfl) rfl rfl rfl ?_
      refine Run.one (ok_assign rfl rfl) rfl rfl rfl ?_
      refine Run.nil ?_
      refine T_seq ?_
      refine T_drawS 24 (by kernel_rfl) ?_
      refine Run.one (ok_move rfl rfl) rfl rfl rfl ?_
      refine Run.one (ok_len_str rfl rfl) rfl rfl rfl ?_
      refine Run.oneB (ok_cmp rfl rfl rfl rfl) rfl rfl rfl (fun h5_2 => ?_) (fun h5_2 => ?_)
      · have k5_2 := of_decide_eq_true h5_2
        obtain ⟨hbk, hk1, hk2⟩ := hbs (by omega)
        rw [hbk]
        refine Run.one (ok_move rfl rfl) rfl rfl rfl ?_
        refine Run.one (ok_move rfl rfl) (gB rfl rfl rfl rfl) rfl rfl ?_
        refine Run.one ((ok_cmp rfl rfl rfl rfl).sub (bool_eq (c := false) (rfl))) (gB rfl rfl rfl rfl) rfl rfl ?_
        refine Run.one (ok_move rfl rfl) (gB rfl rfl rfl rfl) rfl rfl ?_
        refine Run.one (ok_load_own_agg 0 rfl rfl rfl rfl rfl) (gB rfl rfl rfl rfl) rfl rfl ?_
        refine Run.one (ok_load_agg rfl rfl rfl rfl) (gB rfl rfl rfl rfl) rfl rfl ?_
        refine Run.one (ok_call rfl rfl (rqNorm_spec (q := q) (k := 41) (by decide))) (gB rfl rfl rfl rfl) rfl rfl ?_
        refine Run.one ((ok_call rfl rfl toldq_spec).sub (bool_eq (c := true) (by simp))) (gB rfl rfl rfl rfl) rfl rfl ?_
        refine Run.one (ok_not rfl rfl) (gB rfl rfl rfl rfl) rfl rfl ?_
        refine Run.one (ok_pick rfl rfl rfl) (gB rfl rfl rfl rfl) rfl rfl ?_
        refine Run.one (ok_move rfl rfl) (gB rfl rfl rfl rfl) rfl rfl ?_
        refine Run.one (ok_move rfl rfl) (gB rfl rfl rfl rfl) rfl rfl ?_
        refine Run.one ((ok_cmp rfl rfl rfl rfl).sub (bool_eq (c := false) (decide_eq_false (show ¬ ((kD q : Nat) : Int) < 1 by omega)))) (gB rfl rfl rfl rfl) rfl rfl ?_
        refine Run.one (ok_pick rfl rfl rfl) (gB rfl rfl rfl rfl) rfl rfl ?_
        refine Run.one (ok_move rfl rfl) (gB rfl rfl rfl rfl) rfl rfl ?_
        refine Run.one (ok_move rfl rfl) (gB rfl rfl rfl rfl) rfl rfl ?_
        refine Run.one (ok_move rfl rfl) (gB rfl rfl rfl rfl) rfl rfl ?_
        refine Run.one (ok_len_str rfl rfl) (gB rfl rfl rfl rfl) rfl rfl ?_
        refine Run.one ((ok_cmp rfl rfl rfl rfl).sub (bool_eq (c := false) (decide_eq_false (show ¬ (((txtF q).length : Nat) : Int) < ((kD q : Nat) : Int) by omega)))) (gB rfl rfl rfl rfl) rfl rfl ?_
        refine Run.one (ok_pick rfl rfl rfl) (gB rfl rfl rfl rfl) rfl rfl ?_
        refine Run.one (ok_pick rfl rfl rfl) rfl rfl rfl ?_
        refine Run.nil ?_
        refine Run.nil ?_
        refine T_condF rfl rfl ?_
        refine T_skip ?_
        refine T_regionS ?_
        refine Run.one (ok_move rfl rfl) rfl rfl rfl ?_
        refine Run.one (ok_call rfl rfl (number_spec (by omega))) rfl rfl rfl ?_
        refine Run.one (ok_move rfl rfl) rfl rfl rfl ?_
        refine Run.one (ok_extract rfl rfl rfl) rfl rfl rfl ?_
        refine Run.one (ok_extract rfl rfl rfl) rfl rfl rfl ?_
        refine Run.one (ok_extract rfl rfl rfl) rfl rfl rfl ?_
        refine Run.alloc rfl rfl rfl rfl rfl fun b9 => ?_
        refine Run.store 0 rfl rfl rfl rfl rfl rfl rfl rfl rfl ?_
        refine Run.one (ok_assign rfl rfl) rfl rfl rfl ?_
        refine Run.one (ok_assign rfl rfl) rfl rfl rfl ?_
        refine Run.nil ?_
        refine T_seq ?_
        refine T_regionS ?_
        refine Run.one (ok_move rfl rfl) rfl rfl rfl ?_
        refine Run.one (ok_cmp rfl rfl rfl rfl) rfl rfl rfl ?_
        refine Run.nil ?_
        refine T_cond rfl rfl (fun h63 => ?_) (fun h63 => ?_)
        · have k63 := bne_iff_ne.1 h63
          have herr := (num3_err s).resolve_left k63
          refine T_regionS ?_
          refine Run.one (ok_move rfl rfl) rfl rfl rfl ?_
          refine Run.oneB (ok_cmp rfl rfl rfl rfl) rfl rfl rfl (fun h9_1 => ?_) (fun h9_1 => ?_)
          · have k9_1 := beq_iff_eq.1 h9_1
            have hz := (herr.resolve_left fun h => by rw [h] at k9_1; exact absurd k9_1 (by decide)).2
            refine Run.one (ok_move rfl rfl) rfl rfl rfl ?_
            refine Run.no (gB rfl rfl rfl rfl) rfl rfl ?_
            refine Run.no (gB rfl rfl rfl rfl) rfl rfl ?_
            refine Run.one (ok_pick rfl rfl rfl) rfl rfl rfl ?_
            refine Run.one (ok_move rfl rfl) rfl rfl rfl ?_
            refine Run.one (ok_move rfl rfl) (gB rfl rfl rfl rfl) rfl rfl ?_
            refine Run.one ((ok_cmp rfl rfl rfl rfl).sub (bool_eq (c := false) (by rw [k9_1]; rfl))) (gB rfl rfl rfl rfl) rfl rfl ?_
            refine Run.one (ok_move rfl rfl) (gB rfl rfl rfl rfl) rfl rfl ?_
            refine Run.one (ok_move rfl rfl) (gB rfl rfl rfl rfl) rfl rfl ?_
            refine Run.one ((ok_cmp rfl rfl rfl rfl).sub (bool_eq (c := true) (by rw [hz]; rfl))) (gB rfl rfl rfl rfl) rfl rfl ?_
            refine Run.one (ok_pick rfl rfl rfl) (gB rfl rfl rfl rfl) rfl rfl ?_
            refine Run.one (ok_pick rfl rfl rfl) rfl rfl rfl ?_
            refine Run.one (ok_move rfl rfl) rfl rfl rfl ?_
            refine Run.one (ok_call rfl rfl wakes11_spec) (gB rfl rfl rfl rfl) rfl rfl ?_
            refine Run.one (ok_pick rfl rfl rfl) rfl rfl rfl ?_
            refine Run.one (ok_assign rfl rfl) rfl rfl rfl ?_
            refine Run.nil ?_
            refine T_ret ?_
            exact ⟨_, [], .one (.tmp rfl), List.nil_sublist _, rfl, rfl⟩
          · have k9_1 := beq_eq_false_iff_ne.1 h9_1
            refine Run.one (ok_move rfl rfl) rfl rfl rfl ?_
            refine Run.one (ok_move rfl rfl) (gB rfl rfl rfl rfl) rfl rfl ?_
            refine Run.one ((ok_cmp rfl rfl rfl rfl).sub (bool_eq (c := true) (by rw [herr.resolve_right fun h => k9_1 h.1]; rfl))) (gB rfl rfl rfl rfl) rfl rfl ?_
            refine Run.one (ok_pick rfl rfl rfl) rfl rfl rfl ?_
            refine Run.one (ok_move rfl rfl) rfl rfl rfl ?_
            refine Run.one (ok_move rfl rfl) (gB rfl rfl rfl rfl) rfl rfl ?_
            refine Run.one ((ok_cmp rfl rfl rfl rfl).sub (bool_eq (c := true) (bne_iff_ne.2 k9_1))) (gB rfl rfl rfl rfl) rfl rfl ?_
            refine Run.one (ok_move rfl rfl) (gB rfl rfl rfl rfl) rfl rfl ?_
            refine Run.no (gB rfl rfl rfl rfl) rfl rfl ?_
            refine Run.no (gB rfl rfl rfl rfl) rfl rfl ?_
            refine Run.one (ok_pick rfl rfl rfl) (gB rfl rfl rfl rfl) rfl rfl ?_
            refine Run.one (ok_pick rfl rfl rfl) rfl rfl rfl ?_
            refine Run.one (ok_move rfl rfl) rfl rfl rfl ?_
            refine Run.one (ok_call rfl rfl wakes11_spec) (gB rfl rfl rfl rfl) rfl rfl ?_
            refine Run.one (ok_pick rfl rfl rfl) rfl rfl rfl ?_
            refine Run.one (ok_assign rfl rfl) rfl rfl rfl ?_
            refine Run.nil ?_
            refine T_ret ?_
            exact ⟨_, [], .one (.tmp rfl), List.nil_sublist _, rfl, rfl⟩
        · have k63 := bne_eq_false_iff_eq.1 h63
          obtain ⟨q2, k2, hn⟩ : ∃ q2 k2, num3 s = (q2, k2, 0) := ⟨_, _, Prod.ext rfl (Prod.ext rfl k63)⟩
          obtain ⟨hb2, hkk, hk60, hp1, hp2⟩ := num3_ok hn
          have ib2 : Bq q2 7 := ⟨hp1, hp2⟩
          have htl2 := txt_le ib2 (by decide)
          have hnb := number_spec (G := G) (s := txtF q2) (by omega)
          rw [hb2] at hnb
          rw [hn]
          refine T_skip ?_
          refine T_regionS ?_
          refine Run.one (ok_load_own_agg 0 rfl rfl rfl rfl rfl) rfl rfl rfl ?_
          refine Run.one (ok_call rfl rfl (ltext_spec (q := q2) (k := 7) (by decide))) rfl rfl rfl ?_
          refine Run.one (ok_call rfl rfl hnb) rfl rfl rfl ?_
          refine Run.one (ok_move rfl rfl) rfl rfl rfl ?_
          refine Run.one (ok_extract rfl rfl rfl) rfl rfl rfl ?_
          refine Run.one (ok_extract rfl rfl rfl) rfl rfl rfl ?_
          refine Run.one (ok_extract rfl rfl rfl) rfl rfl rfl ?_
          refine Run.alloc rfl rfl rfl rfl rfl fun b12 => ?_
          refine Run.store 0 rfl rfl rfl rfl rfl rfl rfl rfl rfl ?_
          refine Run.one (ok_assign rfl rfl) rfl rfl rfl ?_
          refine Run.one (ok_assign rfl rfl) rfl rfl rfl ?_
          refine Run.nil ?_
          refine T_regionS ?_
          refine Run.one (ok_move rfl rfl) rfl rfl rfl ?_
          refine Run.one ((ok_cmp rfl rfl rfl rfl).sub (bool_eq (c := true) (rfl))) rfl rfl rfl ?_
          refine Run.one (ok_move rfl rfl) rfl rfl rfl ?_
          refine Run.one (ok_load_own_agg 0 rfl rfl rfl rfl rfl) (gB rfl rfl rfl rfl) rfl rfl ?_
          refine Run.one (ok_load_own_agg 1 rfl rfl rfl rfl rfl) (gB rfl rfl rfl rfl) rfl rfl ?_
          refine Run.one ((ok_call rfl rfl toldq_spec).sub (bool_eq (c := true) (by simp))) (gB rfl rfl rfl rfl) rfl rfl ?_
          refine Run.one (ok_pick rfl rfl rfl) rfl rfl rfl ?_
          refine Run.one (ok_move rfl rfl) rfl rfl rfl ?_
          refine Run.one (ok_move rfl rfl) (gB rfl rfl rfl rfl) rfl rfl ?_
          refine Run.one (ok_move rfl rfl) (gB rfl rfl rfl rfl) rfl rfl ?_
          refine Run.one ((ok_cmp rfl rfl rfl rfl).sub (bool_eq (c := true) (decide_eq_true (by omega)))) (gB rfl rfl rfl rfl) rfl rfl ?_
          refine Run.one (ok_pick rfl rfl rfl) rfl rfl rfl ?_
          refine Run.one (ok_move rfl rfl) rfl rfl rfl ?_
          refine Run.one (ok_move rfl rfl) (gB rfl rfl rfl rfl) rfl rfl ?_
          refine Run.one ((ok_cmp rfl rfl rfl rfl).sub (bool_eq (c := true) (decide_eq_true (by omega)))) (gB rfl rfl rfl rfl) rfl rfl ?_
          refine Run.one (ok_pick rfl rfl rfl) rfl rfl rfl ?_
          refine Run.one (ok_move rfl rfl) rfl rfl rfl ?_
          refine Run.one (ok_call rfl rfl wakes11_spec) (gB rfl rfl rfl rfl) rfl rfl ?_
          refine Run.one (ok_pick rfl rfl rfl) rfl rfl rfl ?_
          refine Run.one (ok_assign rfl rfl) rfl rfl rfl ?_
          refine Run.nil ?_
          refine T_ret ?_
          exact ⟨_, [], .one (.tmp rfl), List.nil_sublist _, rfl, rfl⟩
      · have k5_2 := of_decide_eq_false h5_2
        refine Run.one (ok_move rfl rfl) rfl rfl rfl ?_
        refine Run.no (gB rfl rfl rfl rfl) rfl rfl ?_
        refine Run.no (gB rfl rfl rfl rfl) rfl rfl ?_
        refine Run.no (gB rfl rfl rfl rfl) rfl rfl ?_
        refine Run.no (gU rfl rfl rfl) rfl rfl ?_
        refine Run.no (gU rfl rfl rfl) rfl rfl ?_
        refine Run.no (gU rfl rfl rfl) rfl rfl ?_
        refine Run.no (gU rfl rfl rfl) rfl rfl ?_
        refine Run.no (gU rfl rfl rfl) rfl rfl ?_
        refine Run.no (gB rfl rfl rfl rfl) rfl rfl ?_
        refine Run.no (gB rfl rfl rfl rfl) rfl rfl ?_
        refine Run.no (gU rfl rfl rfl) rfl rfl ?_
        refine Run.no (gU rfl rfl rfl) rfl rfl ?_
        refine Run.no (gB rfl rfl rfl rfl) rfl rfl ?_
        refine Run.no (gB rfl rfl rfl rfl) rfl rfl ?_
        refine Run.no (gU rfl rfl rfl) rfl rfl ?_
        refine Run.no (gU rfl rfl rfl) rfl rfl ?_
        refine Run.no (gU rfl rfl rfl) rfl rfl ?_
        refine Run.no (gU rfl rfl rfl) rfl rfl ?_
        refine Run.no (gB rfl rfl rfl rfl) rfl rfl ?_
        refine Run.one (ok_pick rfl rfl rfl) rfl rfl rfl ?_
        refine Run.nil ?_
        refine Run.nil ?_
        refine T_condF rfl rfl ?_
        refine T_skip ?_
        refine T_regionS ?_
        refine Run.one (ok_move rfl rfl) rfl rfl rfl ?_
        refine Run.one (ok_call rfl rfl (number_spec (by omega))) rfl rfl rfl ?_
        refine Run.one (ok_move rfl rfl) rfl rfl rfl ?_
        refine Run.one (ok_extract rfl rfl rfl) rfl rfl rfl ?_
        refine Run.one (ok_extract rfl rfl rfl) rfl rfl rfl ?_
        refine Run.one (ok_extract rfl rfl rfl) rfl rfl rfl ?_
        refine Run.alloc rfl rfl rfl rfl rfl fun b9 => ?_
        refine Run.store 0 rfl rfl rfl rfl rfl rfl rfl rfl rfl ?_
        refine Run.one (ok_assign rfl rfl) rfl rfl rfl ?_
        refine Run.one (ok_assign rfl rfl) rfl rfl rfl ?_
        refine Run.nil ?_
        refine T_seq ?_
        refine T_regionS ?_
        refine Run.one (ok_move rfl rfl) rfl rfl rfl ?_
        refine Run.one (ok_cmp rfl rfl rfl rfl) rfl rfl rfl ?_
        refine Run.nil ?_
        refine T_cond rfl rfl (fun h63 => ?_) (fun h63 => ?_)
        · have k63 := bne_iff_ne.1 h63
          have herr := (num3_err s).resolve_left k63
          refine T_regionS ?_
          refine Run.one (ok_move rfl rfl) rfl rfl rfl ?_
          refine Run.oneB (ok_cmp rfl rfl rfl rfl) rfl rfl rfl (fun h9_1 => ?_) (fun h9_1 => ?_)
          · have k9_1 := beq_iff_eq.1 h9_1
            have hz := (herr.resolve_left fun h => by rw [h] at k9_1; exact absurd k9_1 (by decide)).2
            refine Run.one (ok_move rfl rfl) rfl rfl rfl ?_
            refine Run.no (gB rfl rfl rfl rfl) rfl rfl ?_
            refine Run.no (gB rfl rfl rfl rfl) rfl rfl ?_
            refine Run.one (ok_pick rfl rfl rfl) rfl rfl rfl ?_
            refine Run.one (ok_move rfl rfl) rfl rfl rfl ?_
            refine Run.one (ok_move rfl rfl) (gB rfl rfl rfl rfl) rfl rfl ?_
            refine Run.one ((ok_cmp rfl rfl rfl rfl).sub (bool_eq (c := false) (by rw [k9_1]; rfl))) (gB rfl rfl rfl rfl) rfl rfl ?_
            refine Run.one (ok_move rfl rfl) (gB rfl rfl rfl rfl) rfl rfl ?_
            refine Run.one (ok_move rfl rfl) (gB rfl rfl rfl rfl) rfl rfl ?_
            refine Run.one ((ok_cmp rfl rfl rfl rfl).sub (bool_eq (c := true) (by rw [hz]; rfl))) (gB rfl rfl rfl rfl) rfl rfl ?_
            refine Run.one (ok_pick rfl rfl rfl) (gB rfl rfl rfl rfl) rfl rfl ?_
            refine Run.one (ok_pick rfl rfl rfl) rfl rfl rfl ?_
            refine Run.one (ok_move rfl rfl) rfl rfl rfl ?_
            refine Run.one (ok_call rfl rfl wakes11_spec) (gB rfl rfl rfl rfl) rfl rfl ?_
            refine Run.one (ok_pick rfl rfl rfl) rfl rfl rfl ?_
            refine Run.one (ok_assign rfl rfl) rfl rfl rfl ?_
            refine Run.nil ?_
            refine T_ret ?_
            exact ⟨_, [], .one (.tmp rfl), List.nil_sublist _, rfl, rfl⟩
          · have k9_1 := beq_eq_false_iff_ne.1 h9_1
            refine Run.one (ok_move rfl rfl) rfl rfl rfl ?_
            refine Run.one (ok_move rfl rfl) (gB rfl rfl rfl rfl) rfl rfl ?_
            refine Run.one ((ok_cmp rfl rfl rfl rfl).sub (bool_eq (c := true) (by rw [herr.resolve_right fun h => k9_1 h.1]; rfl))) (gB rfl rfl rfl rfl) rfl rfl ?_
            refine Run.one (ok_pick rfl rfl rfl) rfl rfl rfl ?_
            refine Run.one (ok_move rfl rfl) rfl rfl rfl ?_
            refine Run.one (ok_move rfl rfl) (gB rfl rfl rfl rfl) rfl rfl ?_
            refine Run.one ((ok_cmp rfl rfl rfl rfl).sub (bool_eq (c := true) (bne_iff_ne.2 k9_1))) (gB rfl rfl rfl rfl) rfl rfl ?_
            refine Run.one (ok_move rfl rfl) (gB rfl rfl rfl rfl) rfl rfl ?_
            refine Run.no (gB rfl rfl rfl rfl) rfl rfl ?_
            refine Run.no (gB rfl rfl rfl rfl) rfl rfl ?_
            refine Run.one (ok_pick rfl rfl rfl) (gB rfl rfl rfl rfl) rfl rfl ?_
            refine Run.one (ok_pick rfl rfl rfl) rfl rfl rfl ?_
            refine Run.one (ok_move rfl rfl) rfl rfl rfl ?_
            refine Run.one (ok_call rfl rfl wakes11_spec) (gB rfl rfl rfl rfl) rfl rfl ?_
            refine Run.one (ok_pick rfl rfl rfl) rfl rfl rfl ?_
            refine Run.one (ok_assign rfl rfl) rfl rfl rfl ?_
            refine Run.nil ?_
            refine T_ret ?_
            exact ⟨_, [], .one (.tmp rfl), List.nil_sublist _, rfl, rfl⟩
        · have k63 := bne_eq_false_iff_eq.1 h63
          obtain ⟨q2, k2, hn⟩ : ∃ q2 k2, num3 s = (q2, k2, 0) := ⟨_, _, Prod.ext rfl (Prod.ext rfl k63)⟩
          obtain ⟨hb2, hkk, hk60, hp1, hp2⟩ := num3_ok hn
          have ib2 : Bq q2 7 := ⟨hp1, hp2⟩
          have htl2 := txt_le ib2 (by decide)
          have hnb := number_spec (G := G) (s := txtF q2) (by omega)
          rw [hb2] at hnb
          rw [hn]
          refine T_skip ?_
          refine T_regionS ?_
          refine Run.one (ok_load_own_agg 0 rfl rfl rfl rfl rfl) rfl rfl rfl ?_
          refine Run.one (ok_call rfl rfl (ltext_spec (q := q2) (k := 7) (by decide))) rfl rfl rfl ?_
          refine Run.one (ok_call rfl rfl hnb) rfl rfl rfl ?_
          refine Run.one (ok_move rfl rfl) rfl rfl rfl ?_
          refine Run.one (ok_extract rfl rfl rfl) rfl rfl rfl ?_
          refine Run.one (ok_extract rfl rfl rfl) rfl rfl rfl ?_
          refine Run.one (ok_extract rfl rfl rfl) rfl rfl rfl ?_
          refine Run.alloc rfl rfl rfl rfl rfl fun b12 => ?_
          refine Run.store 0 rfl rfl rfl rfl rfl rfl rfl rfl rfl ?_
          refine Run.one (ok_assign rfl rfl) rfl rfl rfl ?_
          refine Run.one (ok_assign rfl rfl) rfl rfl rfl ?_
          refine Run.nil ?_
          refine T_regionS ?_
          refine Run.one (ok_move rfl rfl) rfl rfl rfl ?_
          refine Run.one ((ok_cmp rfl rfl rfl rfl).sub (bool_eq (c := true) (rfl))) rfl rfl rfl ?_
          refine Run.one (ok_move rfl rfl) rfl rfl rfl ?_
          refine Run.one (ok_load_own_agg 0 rfl rfl rfl rfl rfl) (gB rfl rfl rfl rfl) rfl rfl ?_
          refine Run.one (ok_load_own_agg 1 rfl rfl rfl rfl rfl) (gB rfl rfl rfl rfl) rfl rfl ?_
          refine Run.one ((ok_call rfl rfl toldq_spec).sub (bool_eq (c := true) (by simp))) (gB rfl rfl rfl rfl) rfl rfl ?_
          refine Run.one (ok_pick rfl rfl rfl) rfl rfl rfl ?_
          refine Run.one (ok_move rfl rfl) rfl rfl rfl ?_
          refine Run.one (ok_move rfl rfl) (gB rfl rfl rfl rfl) rfl rfl ?_
          refine Run.one (ok_move rfl rfl) (gB rfl rfl rfl rfl) rfl rfl ?_
          refine Run.one ((ok_cmp rfl rfl rfl rfl).sub (bool_eq (c := true) (decide_eq_true (by omega)))) (gB rfl rfl rfl rfl) rfl rfl ?_
          refine Run.one (ok_pick rfl rfl rfl) rfl rfl rfl ?_
          refine Run.one (ok_move rfl rfl) rfl rfl rfl ?_
          refine Run.one (ok_move rfl rfl) (gB rfl rfl rfl rfl) rfl rfl ?_
          refine Run.one ((ok_cmp rfl rfl rfl rfl).sub (bool_eq (c := true) (decide_eq_true (by omega)))) (gB rfl rfl rfl rfl) rfl rfl ?_
          refine Run.one (ok_pick rfl rfl rfl) rfl rfl rfl ?_
          refine Run.one (ok_move rfl rfl) rfl rfl rfl ?_
          refine Run.one (ok_call rfl rfl wakes11_spec) (gB rfl rfl rfl rfl) rfl rfl ?_
          refine Run.one (ok_pick rfl rfl rfl) rfl rfl rfl ?_
          refine Run.one (ok_assign rfl rfl) rfl rfl rfl ?_
          refine Run.nil ?_
          refine T_ret ?_
          exact ⟨_, [], .one (.tmp rfl), List.nil_sublist _, rfl, rfl⟩
end Go.Proofs
