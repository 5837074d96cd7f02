/- Integers: sint. -/
import Derived.Test.YtcdlcfihjfhkgaaGreatDoorSnp
namespace Go.Proofs
open Go Go.Sv Num
variable {G : Imm}
theorem frz_spec {P : Program} {G : Imm} {f : FuncId} {args : List SV} {e : Nat} {cs : List SV} (h : CallSpec P G f args [] (fun s H' => ∃ b, s = eqS (.pointer (some ⟨b, 0, none⟩)) ∧ H' = [⟨some b, e, cs, 0⟩])) : PSpec P G f args (ptrS cs) := by
  refine ⟨h.enters, fun I W vs h1 h2 h3 => (h.main I W vs h1 h2 h3).mono fun ed W' ⟨v, I', s, H', he, ⟨b, hs, hH⟩, hv, hm, hh, hf⟩ => ?_⟩
  subst hs; subst hH
  have hb := (hh.mem ⟨some b, e, cs, 0⟩ (by simp)).some rfl
  obtain ⟨g1, c, g2, g3, g4, g5⟩ := hb
  simp only [Nat.add_zero] at g2 g3 g4 g5
  have hct : c.toList.take cs.length = c.toList := List.take_of_length_le (by simp [g3])
  rw [hct] at g4 g5
  have hle := Imm.with_le (c := c) g1
  refine ⟨v, I'.with b c, _, [], he, ⟨rfl, rfl⟩, ⟨b, 0, hv, c, by simp [Imm.with], fun i s hi => ?_⟩, ⟨Imm.le_trans hm.glob hle, fun k d hk => ?_⟩, ⟨by simp [bs], fun p hp => by simp at hp⟩, ?_⟩
  · obtain ⟨x, hx, hd⟩ := g5.get hi
    refine ⟨x, by rw [Nat.zero_add]; simpa using hx, s.mono _ _ _ hle hd, g4 x (List.mem_of_getElem? hx)⟩
  · unfold Imm.with at hk
    split at hk
    · rename_i e'; subst e'; cases hk; exact ⟨e, (0, 0), g2⟩
    · exact hm.mem _ _ hk
  · refine ⟨hf.os, hf.tape, hf.output, Imm.le_trans hf.imm hle, hf.size, fun k hk hn => hf.old k hk hn, fun k hk hk' => ?_, fun k hk => by simp [bs] at hk⟩
    unfold Imm.with at hk'
    split at hk'
    · rename_i e'; subst e'; exact hf.own _ (by simp [bs])
    · exact hf.new k hk hk'
abbrev canI (z : Int) : List SV := [boolS (decide (z < 0)), natS (dig z.natAbs)]
class Bz (z : Int) (k : outParam Nat) : Prop where
  h : z.natAbs < 4294967296 ^ k
class IsZ (b : Bool) (l : List Nat) (z : outParam Int) (k : outParam Nat) : Prop where
  lim : Lim l
  val : sgn b (Num.val l) = z
  len : l.length ≤ k
theorem Bz.len {z : Int} {k : Nat} (h : Bz z k) : (dig z.natAbs).length ≤ k := dig_length_le h.h
instance isZ_can {z : Int} {k : Nat} [h : Bz z k] : IsZ (decide (z < 0)) (dig z.natAbs) z k := ⟨lim_dig _, by rw [val_dig, sgn_self], h.len⟩
theorem IsZ.nat {b : Bool} {l : List Nat} {z : Int} {k : Nat} (h : IsZ b l z k) : IsNat l z.natAbs := ⟨h.lim, by rw [← h.val, sgn_natAbs]⟩
theorem IsZ.bz {b : Bool} {l : List Nat} {z : Int} {k : Nat} (h : IsZ b l z k) : Bz z k := ⟨by
  rw [← h.val, sgn_natAbs]; exact Nat.lt_of_lt_of_le (val_lt h.lim) (Nat.pow_le_pow_right (by decide) h.len)⟩
theorem IsZ.can {b : Bool} {l : List Nat} {z : Int} {k : Nat} (h : IsZ b l z k) : canI z = [boolS (b && decide (z.natAbs ≠ 0)), natS (dig z.natAbs)] := by
  have h1 := sgn_neg b (Num.val l)
  rw [h.val] at h1
  have h2 : z.natAbs = Num.val l := by rw [← h.val, sgn_natAbs]
  show [boolS (decide (z < 0)), _] = _
  rw [h1, h2]
instance isZ_not {b : Bool} {l : List Nat} {z : Int} {k : Nat} [h : IsZ b l z k] : IsZ (!b) l (-z) k := ⟨h.lim, by rw [sgn_not, h.val], h.len⟩
theorem isZ_of {b : Bool} {l : List Nat} (h : Lim l) : IsZ b l (sgn b (Num.val l)) l.length := ⟨h, rfl, Nat.le_refl _⟩
instance bz_neg {z : Int} {k : Nat} [h : Bz z k] : Bz (-z) k := ⟨by rw [Int.natAbs_neg]; exact h.h⟩
instance bz_add {x y : Int} {k l : Nat} [h : Bz x k] [h' : Bz y l] : Bz (x + y) (k + l + 1) := ⟨Nat.lt_of_le_of_lt (Int.natAbs_add_le x y) (bd_sum h.h h'.h)⟩
instance bz_sub {x y : Int} {k l : Nat} [h : Bz x k] [h' : Bz y l] : Bz (x - y) (k + l + 1) := ⟨Nat.lt_of_le_of_lt (Int.natAbs_sub_le x y) (bd_sum h.h h'.h)⟩
instance bz_mul {x y : Int} {k l : Nat} [h : Bz x k] [h' : Bz y l] : Bz (x * y) (k + l) := ⟨by
  rw [Int.natAbs_mul, Nat.pow_add]; exact Nat.mul_lt_mul'' h.h h'.h⟩
instance bz_zero : Bz 0 0 := ⟨by decide⟩
instance bz_one : Bz 1 1 := ⟨by decide⟩
instance bz_nat {n : Nat} {k : Nat} [h : Bd n k] : Bz (n : Int) k := ⟨h.h⟩
theorem bz_le {z : Int} {k l : Nat} (h : Bz z k) (hl : k ≤ l) : Bz z l := ⟨Nat.lt_of_lt_of_le h.h (Nat.pow_le_pow_right (by decide) hl)⟩
instance isZ_whole {l : List Nat} {n k : Nat} [h : IsNat l n] [hk : Sz l k] : IsZ false l (n : Int) k := ⟨h.lim, by rw [h.val]; rfl, hk.h⟩
abbrev zc (p : Bool × List Nat) : List SV := [boolS p.1, natS p.2]
def zv (p : Bool × List Nat) : Int := sgn p.1 (Num.val p.2)
theorem foldl_take {α β : Type} (f : β → α → β) (a : β) {l : List α} {i : Nat} {x : α} (h : l[i]? = some x) : (l.take (i + 1)).foldl f a = f ((l.take i).foldl f a) x := by
  rw [List.take_add_one, h]; simp
def szs (xs : List (Bool × List Nat)) (i : Nat) : Nat := ((xs.take i).map fun p => p.2.length + 1).sum
theorem szs_succ {xs : List (Bool × List Nat)} {i : Nat} {p : Bool × List Nat} (h : xs[i]? = some p) : szs xs (i + 1) = szs xs i + (p.2.length + 1) := by
  unfold szs; exact sum_take (fun p : Bool × List Nat => p.2.length + 1) h
theorem szs_le (xs : List (Bool × List Nat)) (i : Nat) : szs xs i ≤ szs xs xs.length := by
  have := sum_take_le (fun p : Bool × List Nat => p.2.length + 1) xs i
  unfold szs; rw [List.take_length]; exact this
theorem sl_pair {α : Type} {st : Nat} {f : α → List SV} (l : List α) {I : Imm} {v : Value} (h : (slS st id (l.map f)).den I v) : (slS st f l).den I v := by
  obtain ⟨a, cap, hv, h1, h2, h3⟩ := h
  simp only [List.length_map] at hv h1 h2
  refine ⟨a, cap, hv, h1, h2, ?_⟩
  rcases h3 with h3 | ⟨b, o, ha, h4⟩
  · exact .inl (List.map_eq_nil_iff.1 h3)
  · exact .inr ⟨b, o, ha, fun i x hx => h4 i (f x) (by rw [List.getElem?_map, hx]; rfl)⟩
theorem nilI : [boolS false, natS []] = canI 0 := by
  show _ = [boolS (decide ((0 : Int) < 0)), natS (dig (0 : Int).natAbs)]
  rw [show (0 : Int).natAbs = 0 from rfl, dig_zero]; rfl
theorem znorm_spec {b : Bool} {l : List Nat} {z : Int} {k bn : Nat} [h : IsZ b l z k] (hs : k ≤ cap := by decide) : CallSpec Tryz.prog G 188 [eqS (.pointer (some ⟨bn, 0, none⟩))] [⟨some bn, 189, [boolS b, natS l], 0⟩] (fun s H' => s = eqS (.pointer (some ⟨bn, 0, none⟩)) ∧ H' = [⟨some bn, 189, canI z, 0⟩]) := by
  have hn := h.nat
  have hlen := h.len
  have hcan := h.can
  refine fn_spec Tryz.func188 rfl rfl rfl ?_
  refine T_regionS ?_
  refine Run.one (ok_assign rfl rfl) rfl rfl rfl ?_
  refine Run.nil ?_
  refine T_regionS ?_
  iterate 2 refine Run.one (ok_move rfl rfl) rfl rfl rfl ?_
  refine Run.one (ok_nilCheck_eq rfl rfl) rfl rfl rfl ?_
  iterate 2 refine Run.one (ok_fieldAddr_eq rfl rfl rfl) rfl rfl rfl ?_
  refine Run.one (ok_load_own 0 rfl rfl rfl rfl) rfl rfl rfl ?_
  refine Run.one (ok_call rfl rfl (trim_spec (by omega))) rfl rfl rfl ?_
  refine Run.one (ok_nilCheck_eq rfl rfl) rfl rfl rfl ?_
  iterate 2 refine Run.one (ok_fieldAddr_eq rfl rfl rfl) rfl rfl rfl ?_
  refine Run.store 0 rfl rfl rfl rfl rfl rfl rfl rfl rfl ?_
  refine Run.nil ?_
  refine T_regionS ?_
  iterate 2 refine Run.one (ok_move rfl rfl) rfl rfl rfl ?_
  refine Run.one (ok_nilCheck_eq rfl rfl) rfl rfl rfl ?_
  iterate 2 refine Run.one (ok_fieldAddr_eq rfl rfl rfl) rfl rfl rfl ?_
  refine Run.oneB (ok_load_own 0 rfl rfl rfl rfl) rfl rfl rfl (fun h2_5 => ?_) (fun h2_5 => ?_)
  · refine Run.one (ok_move rfl rfl) rfl rfl rfl ?_
    refine Run.one (ok_move rfl rfl) (gB rfl rfl rfl rfl) rfl rfl ?_
    refine Run.one (ok_nilCheck_eq rfl rfl) (gB rfl rfl rfl rfl) rfl rfl ?_
    iterate 2 refine Run.one (ok_fieldAddr_eq rfl rfl rfl) (gB rfl rfl rfl rfl) rfl rfl ?_
    refine Run.one (ok_load_own 0 rfl rfl rfl rfl) (gB rfl rfl rfl rfl) rfl rfl ?_
    refine Run.one (ok_len rfl rfl) (gB rfl rfl rfl rfl) rfl rfl ?_
    refine Run.one (ok_cmp rfl rfl rfl rfl) (gB rfl rfl rfl rfl) rfl rfl ?_
    refine Run.one (ok_pick rfl rfl rfl) rfl rfl rfl ?_
    refine Run.one (ok_nilCheck_eq rfl rfl) rfl rfl rfl ?_
    iterate 2 refine Run.one (ok_fieldAddr_eq rfl rfl rfl) rfl rfl rfl ?_
    refine Run.store 0 rfl rfl rfl rfl rfl rfl rfl rfl rfl ?_
    refine Run.nil ?_
    refine T_regionS ?_
    refine Run.one (ok_move rfl rfl) rfl rfl rfl ?_
    refine Run.one (ok_assign rfl rfl) rfl rfl rfl ?_
    refine Run.nil ?_
    refine T_ret ?_
    exact ⟨_, [_], .one (.tmp rfl), List.Sublist.refl _, rfl, by rw [hcan, h2_5, Bool.true_and]; exact congrArg (fun x : Bool => [(⟨some bn, 189, [boolS x, natS (dig z.natAbs)], 0⟩ : HE)]) (decide_eq_decide.2 (by have := dig_len_zero (n := z.natAbs); omega))⟩
  · refine Run.one (ok_move rfl rfl) rfl rfl rfl ?_
    iterate 7 refine Run.no (gB rfl rfl rfl rfl) rfl rfl ?_
    refine Run.one (ok_pick rfl rfl rfl) rfl rfl rfl ?_
    refine Run.one (ok_nilCheck_eq rfl rfl) rfl rfl rfl ?_
    iterate 2 refine Run.one (ok_fieldAddr_eq rfl rfl rfl) rfl rfl rfl ?_
    refine Run.store 0 rfl rfl rfl rfl rfl rfl rfl rfl rfl ?_
    refine Run.nil ?_
    refine T_regionS ?_
    refine Run.one (ok_move rfl rfl) rfl rfl rfl ?_
    refine Run.one (ok_assign rfl rfl) rfl rfl rfl ?_
    refine Run.nil ?_
    refine T_ret ?_
    exact ⟨_, [_], .one (.tmp rfl), List.Sublist.refl _, rfl, by rw [hcan, h2_5]; rfl⟩
theorem zof_own {b : Bool} {l : List Nat} {z : Int} {k : Nat} [h : IsZ b l z k] (hs : k ≤ cap := by decide) : CallSpec Tryz.prog G 160 [aggS [boolS b, natS l]] [] (fun s H' => ∃ bn, s = eqS (.pointer (some ⟨bn, 0, none⟩)) ∧ H' = [⟨some bn, 189, canI z, 0⟩]) := by
  refine fn_spec Tryz.func160 rfl rfl rfl ?_
  refine T_regionS ?_
  refine Run.one (ok_box rfl rfl) rfl rfl rfl ?_
  refine Run.one (ok_assign rfl rfl) rfl rfl rfl ?_
  refine Run.nil ?_
  refine T_regionS ?_
  refine Run.one (ok_load_agg rfl rfl rfl rfl) rfl rfl rfl ?_
  refine Run.one (ok_build rfl rfl rfl) rfl rfl rfl ?_
  refine Run.box rfl rfl rfl rfl rfl rfl fun bn => ?_
  refine Run.call1 0 rfl rfl rfl rfl (znorm_spec hs) rfl rfl rfl ?_
  rintro s1 H1 ⟨rfl, rfl⟩
  refine Run.one (ok_assign rfl rfl) rfl rfl rfl ?_
  refine Run.nil ?_
  refine T_ret ?_
  exact ⟨_, [_], .one (.tmp rfl), List.Sublist.refl _, bn, rfl, rfl⟩
theorem zof_spec {b : Bool} {l : List Nat} {z : Int} {k : Nat} [h : IsZ b l z k] (hs : k ≤ cap := by decide) : PSpec Tryz.prog G 160 [aggS [boolS b, natS l]] (ptrS (canI z)) := frz_spec (zof_own hs)
theorem zNorm_spec {b : Bool} {l : List Nat} {z : Int} {k : Nat} [h : IsZ b l z k] (hs : k ≤ cap := by decide) : PSpec Tryz.prog G 131 [aggS [boolS b, natS l]] (aggS (canI z)) := by
  refine fn_spec Tryz.func131 rfl rfl rfl ?_
  refine T_regionS ?_
  refine Run.one (ok_box rfl rfl) rfl rfl rfl ?_
  refine Run.alloc rfl rfl rfl rfl rfl fun b2 => ?_
  refine Run.nil ?_
  refine T_regionS ?_
  refine Run.one (ok_load_agg rfl rfl rfl rfl) rfl rfl rfl ?_
  refine Run.one (ok_call rfl rfl (zof_spec hs)) rfl rfl rfl ?_
  refine Run.one (ok_nilCheck rfl rfl) rfl rfl rfl ?_
  refine Run.one (ok_fieldAddr rfl rfl rfl) rfl rfl rfl ?_
  refine Run.one (ok_load_agg rfl rfl rfl rfl) rfl rfl rfl ?_
  refine Run.store 0 rfl rfl rfl rfl rfl rfl rfl rfl rfl ?_
  refine Run.nil ?_
  refine T_ret ?_
  exact ⟨_, [], .one (.agg 0 inferInstance rfl rfl rfl rfl), List.nil_sublist _, rfl, rfl⟩
theorem zOf_spec {n : Int} (h1 : -9223372036854775808 ≤ n) (h2 : n ≤ 9223372036854775807) : PSpec Tryz.prog G 95 [intS .i64 n] (aggS (canI n)) := by
  refine fn_spec Tryz.func95 rfl rfl rfl ?_
  refine T_regionS ?_
  refine Run.alloc rfl rfl rfl rfl rfl fun b2 => ?_
  refine Run.nil ?_
  refine T_seq ?_
  refine T_regionS ?_
  refine Run.one (ok_move rfl rfl) rfl rfl rfl ?_
  refine Run.one (ok_cmp rfl rfl rfl rfl) rfl rfl rfl ?_
  refine Run.nil ?_
  refine T_cond rfl rfl (fun h4 => ?_) (fun h4 => ?_)
  · have k4 := of_decide_eq_true h4
    refine T_regionS ?_
    refine Run.one (ok_move rfl rfl) rfl rfl rfl ?_
    refine Run.one (ok_conv (z := 18446744073709551616 + n) rfl rfl (by rw [wrap_u64_mod]; omega)) rfl rfl rfl ?_
    refine Run.one ((ok_neg rfl rfl).sub (int_eq (n := ((n.natAbs : Nat) : Int)) (by rw [wrap_u64_mod]; omega))) rfl rfl rfl ?_
    refine Run.one (ok_call rfl rfl (of_spec (by omega))) rfl rfl rfl ?_
    refine Run.one (ok_build rfl rfl rfl) rfl rfl rfl ?_
    refine Run.store 0 rfl rfl rfl rfl rfl rfl rfl rfl rfl ?_
    refine Run.nil ?_
    refine T_ret ?_
    exact ⟨_, [], .one (.agg 0 inferInstance rfl rfl rfl rfl), List.nil_sublist _, by rw [show canI n = [boolS true, natS (dig n.natAbs)] by show [boolS (decide (n < 0)), _] = _; rw [decide_eq_true (by omega)]]; rfl, rfl⟩
  · have k4 := of_decide_eq_false h4
    refine T_skip ?_
    refine T_regionS ?_
    refine Run.one (ok_move rfl rfl) rfl rfl rfl ?_
    refine Run.one (ok_conv (z := ((n.natAbs : Nat) : Int)) rfl rfl (by rw [wrap_u64_mod]; omega)) rfl rfl rfl ?_
    refine Run.one (ok_call rfl rfl (of_spec (by omega))) rfl rfl rfl ?_
    refine Run.one (ok_build rfl rfl rfl) rfl rfl rfl ?_
    refine Run.store 0 rfl rfl rfl rfl rfl rfl rfl rfl rfl ?_
    refine Run.nil ?_
    refine T_ret ?_
    exact ⟨_, [], .one (.agg 0 inferInstance rfl rfl rfl rfl), List.nil_sublist _, by rw [show canI n = [boolS false, natS (dig n.natAbs)] by show [boolS (decide (n < 0)), _] = _; rw [decide_eq_false (by omega)]]; rfl, rfl⟩
end Go.Proofs
/- Integers: straitref05. -/
namespace Go.Proofs
open Go Go.Sv Num
variable {G : Imm}
theorem ghost_nilI {E : Env} {r : Option Nat} {n : Nat} {g : List (Nat × SV)} {b : Option Nat} {e k : Nat} {h : HL} {d : List Nat} {i : Nat × Bool} : Ghost G E r ⟨n, g, ⟨b, e, [eqS (.bool false), eqS (.slice none 0 0)], k⟩ :: h, d, i⟩ ⟨n, g, ⟨b, e, canI 0, k⟩ :: h, d, i⟩ :=
  ghost_heap ⟨rfl, rfl, rfl, rfl, fun I xs hd => by
    rw [← nilI]
    exact subL.dens (l := [eqS (.bool false), eqS (.slice none 0 0)]) (m := [boolS false, natS []]) ⟨fun _ _ h => h, nil_nat rfl, trivial⟩ hd, subH_refl h⟩
theorem rznorm_spec {b : Bool} {l : List Nat} {z : Int} {k : Nat} [h : IsZ b l z k] (hs : k ≤ cap := by decide) : PSpec Tryz.prog G 70 [aggS [boolS b, natS l]] (aggS (canI z)) := by
  have hn := h.nat
  have hlen := h.len
  have hcan := h.can
  refine fn_spec Tryz.func70 rfl rfl rfl ?_
  refine T_regionS ?_
  refine Run.one (ok_box rfl rfl) rfl rfl rfl ?_
  refine Run.alloc rfl rfl rfl rfl rfl fun b2 => ?_
  refine Run.nil ?_
  refine T_regionS ?_
  refine Run.one (ok_fieldAddr rfl rfl rfl) rfl rfl rfl ?_
  refine Run.one (ok_load rfl rfl) rfl rfl rfl ?_
  refine Run.one (ok_call rfl rfl (rtrim_spec (by omega))) rfl rfl rfl ?_
  refine Run.one (ok_assign rfl rfl) rfl rfl rfl ?_
  refine Run.nil ?_
  refine T_regionS ?_
  refine Run.one (ok_fieldAddr rfl rfl rfl) rfl rfl rfl ?_
  refine Run.oneB (ok_load rfl rfl) rfl rfl rfl (fun h2_1 => ?_) (fun h2_1 => ?_)
  · refine Run.one (ok_move rfl rfl) rfl rfl rfl ?_
    refine Run.one (ok_move rfl rfl) (gB rfl rfl rfl rfl) rfl rfl ?_
    refine Run.one (ok_len rfl rfl) (gB rfl rfl rfl rfl) rfl rfl ?_
    refine Run.one (ok_cmp rfl rfl rfl rfl) (gB rfl rfl rfl rfl) rfl rfl ?_
    refine Run.one (ok_pick rfl rfl rfl) rfl rfl rfl ?_
    refine Run.one (ok_move rfl rfl) rfl rfl rfl ?_
    refine Run.one (ok_build rfl rfl rfl) rfl rfl rfl ?_
    refine Run.store 0 rfl rfl rfl rfl rfl rfl rfl rfl rfl ?_
    refine Run.nil ?_
    refine T_ret ?_
    exact ⟨_, [], .one (.agg 0 inferInstance rfl rfl rfl rfl), List.nil_sublist _, by rw [hcan, h2_1, Bool.true_and]; exact congrArg (fun x : Bool => aggS [boolS x, natS (dig z.natAbs)]) (decide_eq_decide.2 (by have := dig_len_zero (n := z.natAbs); omega)), rfl⟩
  · refine Run.one (ok_move rfl rfl) rfl rfl rfl ?_
    iterate 3 refine Run.no (gB rfl rfl rfl rfl) rfl rfl ?_
    refine Run.one (ok_pick rfl rfl rfl) rfl rfl rfl ?_
    refine Run.one (ok_move rfl rfl) rfl rfl rfl ?_
    refine Run.one (ok_build rfl rfl rfl) rfl rfl rfl ?_
    refine Run.store 0 rfl rfl rfl rfl rfl rfl rfl rfl rfl ?_
    refine Run.nil ?_
    refine T_ret ?_
    exact ⟨_, [], .one (.agg 0 inferInstance rfl rfl rfl rfl), List.nil_sublist _, by rw [hcan, h2_1]; rfl, rfl⟩
theorem rzSign_spec {b : Bool} {l : List Nat} {z : Int} {k : Nat} [h : IsZ b l z k] (hs : k ≤ cap := by decide) : PSpec Tryz.prog G 75 [aggS [boolS b, natS l]] (intS .i64 z.sign) := by
  have hz := dig_len_zero (n := z.natAbs)
  refine fn_spec Tryz.func75 rfl rfl rfl ?_
  refine T_regionS ?_
  refine Run.box rfl rfl rfl rfl rfl rfl fun b1 => ?_
  refine Run.one (ok_assign rfl rfl) rfl rfl rfl ?_
  refine Run.nil ?_
  refine T_regionS ?_
  refine Run.one (ok_load_own_agg 0 rfl rfl rfl rfl rfl) rfl rfl rfl ?_
  refine Run.one (ok_call rfl rfl (rznorm_spec hs)) rfl rfl rfl ?_
  refine Run.store 0 rfl rfl rfl rfl rfl rfl rfl rfl rfl ?_
  refine Run.nil ?_
  refine T_seq ?_
  refine T_block ?_
  refine T_regionS ?_
  refine Run.one (ok_fieldAddr_eq rfl rfl rfl) rfl rfl rfl ?_
  refine Run.one (ok_load_own 0 rfl rfl rfl rfl) rfl rfl rfl ?_
  refine Run.one (ok_len rfl rfl) rfl rfl rfl ?_
  refine Run.one (ok_cmp rfl rfl rfl rfl) rfl rfl rfl ?_
  refine Run.one (ok_assign rfl rfl) rfl rfl rfl ?_
  refine Run.nil ?_
  refine T_cond rfl rfl (fun h5 => ?_) (fun h5 => ?_)
  · have k5 := beq_iff_eq.1 h5
    have hz0 : z = 0 := by omega
    refine T_regionS ?_
    refine Run.one (ok_assign rfl rfl) rfl rfl rfl ?_
    refine Run.nil ?_
    refine T_ret ?_
    exact ⟨_, [], .one (.tmp rfl), List.nil_sublist _, by rw [hz0]; rfl, rfl⟩
  · have k5 := beq_eq_false_iff_ne.1 h5
    have hz0 : z ≠ 0 := fun h => k5 (by rw [h]; exact congrArg (fun x : Nat => (x : Int)) (dig_len_zero.2 rfl))
    refine T_regionS ?_
    refine Run.one (ok_fieldAddr_eq rfl rfl rfl) rfl rfl rfl ?_
    refine Run.one (ok_load_own 0 rfl rfl rfl rfl) rfl rfl rfl ?_
    refine Run.one (ok_assign rfl rfl) rfl rfl rfl ?_
    refine Run.nil ?_
    refine T_cond rfl rfl (fun h10 => ?_) (fun h10 => ?_)
    · refine T_regionS ?_
      refine Run.one (ok_assign rfl rfl) rfl rfl rfl ?_
      refine Run.nil ?_
      refine T_ret ?_
      exact ⟨_, [], .one (.tmp rfl), List.nil_sublist _, by rw [Int.sign_eq_neg_one_of_neg (of_decide_eq_true h10)], rfl⟩
    · refine T_skip ?_
      refine T_regionS ?_
      refine Run.one (ok_assign rfl rfl) rfl rfl rfl ?_
      refine Run.nil ?_
      refine T_ret ?_
      exact ⟨_, [], .one (.tmp rfl), List.nil_sublist _, by rw [Int.sign_eq_one_of_pos (by have := of_decide_eq_false h10; omega)], rfl⟩
theorem rzOf_spec {n : Int} (h1 : -9223372036854775808 ≤ n) (h2 : n ≤ 9223372036854775807) : PSpec Tryz.prog G 27 [intS .i64 n] (aggS (canI n)) := by
  refine fn_spec Tryz.func27 rfl rfl rfl ?_
  refine T_regionS ?_
  refine Run.alloc rfl rfl rfl rfl rfl fun b2 => ?_
  refine Run.nil ?_
  refine T_seq ?_
  refine T_regionS ?_
  refine Run.one (ok_move rfl rfl) rfl rfl rfl ?_
  refine Run.one (ok_cmp rfl rfl rfl rfl) rfl rfl rfl ?_
  refine Run.nil ?_
  refine T_cond rfl rfl (fun h4 => ?_) (fun h4 => ?_)
  · have k4 := of_decide_eq_true h4
    refine T_regionS ?_
    refine Run.one (ok_move rfl rfl) rfl rfl rfl ?_
    refine Run.one (ok_ari (z := n + 1) rfl rfl rfl (congrArg some (by omega)) (wrap_i64 (by omega) (by omega))) rfl rfl rfl ?_
    refine Run.one ((ok_neg rfl rfl).sub (int_eq (n := -(n + 1)) ((wrap_i64 (by omega) (by omega)).trans (by omega)))) rfl rfl rfl ?_
    refine Run.one (ok_conv (z := -(n + 1)) rfl rfl (wrap_u64 (by omega) (by omega))) rfl rfl rfl ?_
    refine Run.one (ok_ari (z := ((n.natAbs : Nat) : Int)) rfl rfl rfl (congrArg some (by omega)) (wrap_u64 (by omega) (by omega))) rfl rfl rfl ?_
    refine Run.one (ok_call rfl rfl (rof_spec (by omega))) rfl rfl rfl ?_
    refine Run.one (ok_build rfl rfl rfl) rfl rfl rfl ?_
    refine Run.store 0 rfl rfl rfl rfl rfl rfl rfl rfl rfl ?_
    refine Run.nil ?_
    refine T_ret ?_
    exact ⟨_, [], .one (.agg 0 inferInstance rfl rfl rfl rfl), List.nil_sublist _, by rw [show canI n = [boolS true, natS (dig n.natAbs)] by show [boolS (decide (n < 0)), _] = _; rw [decide_eq_true (by omega)]]; rfl, rfl⟩
  · have k4 := of_decide_eq_false h4
    refine T_skip ?_
    refine T_regionS ?_
    refine Run.one (ok_move rfl rfl) rfl rfl rfl ?_
    refine Run.one (ok_conv (z := ((n.natAbs : Nat) : Int)) rfl rfl (by rw [wrap_u64_mod]; omega)) rfl rfl rfl ?_
    refine Run.one (ok_call rfl rfl (rof_spec (by omega))) rfl rfl rfl ?_
    refine Run.one (ok_build rfl rfl rfl) rfl rfl rfl ?_
    refine Run.store 0 rfl rfl rfl rfl rfl rfl rfl rfl rfl ?_
    refine Run.nil ?_
    refine T_ret ?_
    exact ⟨_, [], .one (.agg 0 inferInstance rfl rfl rfl rfl), List.nil_sublist _, by rw [show canI n = [boolS false, natS (dig n.natAbs)] by show [boolS (decide (n < 0)), _] = _; rw [decide_eq_false (by omega)]]; rfl, rfl⟩
theorem rzneg_spec {b : Bool} {l : List Nat} {z : Int} {k : Nat} [h : IsZ b l z k] (hs : k ≤ cap := by decide) : PSpec Tryz.prog G 179 [aggS [boolS b, natS l]] (aggS (canI (-z))) := by
  refine fn_spec Tryz.func179 rfl rfl rfl ?_
  refine T_regionS ?_
  refine Run.one (ok_box rfl rfl) rfl rfl rfl ?_
  refine Run.alloc rfl rfl rfl rfl rfl fun b2 => ?_
  refine Run.nil ?_
  refine T_regionS ?_
  refine Run.one (ok_fieldAddr rfl rfl rfl) rfl rfl rfl ?_
  refine Run.one (ok_load rfl rfl) rfl rfl rfl ?_
  refine Run.one (ok_not rfl rfl) rfl rfl rfl ?_
  refine Run.one (ok_fieldAddr rfl rfl rfl) rfl rfl rfl ?_
  refine Run.one (ok_load rfl rfl) rfl rfl rfl ?_
  refine Run.one (ok_build rfl rfl rfl) rfl rfl rfl ?_
  refine Run.one (ok_call rfl rfl (rznorm_spec hs)) rfl rfl rfl ?_
  refine Run.store 0 rfl rfl rfl rfl rfl rfl rfl rfl rfl ?_
  refine Run.nil ?_
  refine T_ret ?_
  exact ⟨_, [], .one (.agg 0 inferInstance rfl rfl rfl rfl), List.nil_sublist _, rfl, rfl⟩
theorem rztwo_spec {b c : Bool} {l m : List Nat} {x y : Int} {k j : Nat} [hx : IsZ b l x k] [hy : IsZ c m y j] (hs : k + j + 100 ≤ cap := by decide) : PSpec Tryz.prog G 205 [aggS [boolS b, natS l], aggS [boolS c, natS m]] (aggS (canI (x + y))) := by
  unfold cap at hs
  have hxn := hx.nat
  have hyn := hy.nat
  have hxl := hx.len
  have hyl := hy.len
  have i1 : Sz l k := ⟨hxl⟩
  have i2 : Sz m j := ⟨hyl⟩
  have hxb := hx.bz
  have hyb := hy.bz
  have hxe : sgn b x.natAbs = x := by have h1 := hx.val; rwa [hxn.val] at h1
  have hye : sgn c y.natAbs = y := by have h1 := hy.val; rwa [hyn.val] at h1
  have hd1 : (dig (x.natAbs + y.natAbs)).length ≤ k + j + 1 := dig_length_le (bd_sum hxb.h hyb.h)
  have hd2 : (dig (x.natAbs - y.natAbs)).length ≤ k := dig_length_le (Nat.lt_of_le_of_lt (Nat.sub_le _ _) hxb.h)
  have hd3 : (dig (y.natAbs - x.natAbs)).length ≤ j := dig_length_le (Nat.lt_of_le_of_lt (Nat.sub_le _ _) hyb.h)
  unfold sgn at hxe hye
  refine fn_spec Tryz.func205 rfl rfl rfl ?_
  refine T_regionS ?_
  iterate 2 refine Run.one (ok_box rfl rfl) rfl rfl rfl ?_
  refine Run.alloc rfl rfl rfl rfl rfl fun b4 => ?_
  refine Run.nil ?_
  refine T_seq ?_
  refine T_regionS ?_
  refine Run.one (ok_fieldAddr rfl rfl rfl) rfl rfl rfl ?_
  refine Run.one (ok_load rfl rfl) rfl rfl rfl ?_
  refine Run.one (ok_fieldAddr rfl rfl rfl) rfl rfl rfl ?_
  refine Run.one (ok_load rfl rfl) rfl rfl rfl ?_
  refine Run.one (ok_eql_bool rfl rfl rfl Tryz.isBool4) rfl rfl rfl ?_
  refine Run.nil ?_
  refine T_cond rfl rfl (fun h11 => ?_) (fun h11 => ?_)
  · have hbc : b = c := beq_iff_eq.1 h11
    have i3 : IsZ b (dig (x.natAbs + y.natAbs)) (x + y) (k + j + 1) := ⟨lim_dig _, by rw [val_dig]; unfold sgn; rw [← hbc] at hye; split at hxe <;> simp_all <;> omega, hd1⟩
    refine T_drawS 10 (by kernel_rfl) ?_
    refine Run.one (ok_fieldAddr rfl rfl rfl) rfl rfl rfl ?_
    refine Run.one (ok_load rfl rfl) rfl rfl rfl ?_
    refine Run.one (ok_fieldAddr rfl rfl rfl) rfl rfl rfl ?_
    refine Run.one (ok_load rfl rfl) rfl rfl rfl ?_
    refine Run.one (ok_fieldAddr rfl rfl rfl) rfl rfl rfl ?_
    refine Run.one (ok_load rfl rfl) rfl rfl rfl ?_
    refine Run.one (ok_buildSlice rfl rfl (by decide) rfl (by simp) rfl rfl) rfl rfl rfl ?_
    refine Run.one (ok_call rfl rfl (radd2_spec (by unfold cap; omega))) rfl rfl rfl ?_
    refine Run.one (ok_build rfl rfl rfl) rfl rfl rfl ?_
    refine Run.one (ok_call rfl rfl (rznorm_spec (by unfold cap; omega))) rfl rfl rfl ?_
    refine Run.nil ?_
    refine Run.store 0 rfl rfl rfl rfl rfl rfl rfl rfl rfl ?_
    refine Run.nil ?_
    refine T_ret ?_
    exact ⟨_, [], .one (.agg 0 inferInstance rfl rfl rfl rfl), List.nil_sublist _, rfl, rfl⟩
  · have hbc : b ≠ c := beq_eq_false_iff_ne.1 h11
    refine T_skip ?_
    refine T_regionS ?_
    refine Run.one (ok_fieldAddr rfl rfl rfl) rfl rfl rfl ?_
    refine Run.one (ok_load rfl rfl) rfl rfl rfl ?_
    refine Run.one (ok_fieldAddr rfl rfl rfl) rfl rfl rfl ?_
    refine Run.one (ok_load rfl rfl) rfl rfl rfl ?_
    refine Run.one (ok_call rfl rfl (rsub_spec (by unfold cap; omega))) rfl rfl rfl ?_
    refine Run.one (ok_move rfl rfl) rfl rfl rfl ?_
    iterate 2 refine Run.one (ok_extract rfl rfl rfl) rfl rfl rfl ?_
    iterate 2 refine Run.one (ok_assign rfl rfl) rfl rfl rfl ?_
    refine Run.nil ?_
    refine T_seq ?_
    refine T_regionS ?_
    refine Run.one (ok_move rfl rfl) rfl rfl rfl ?_
    refine Run.one (ok_cmp rfl rfl rfl rfl) rfl rfl rfl ?_
    refine Run.nil ?_
    refine T_cond rfl rfl (fun h31 => ?_) (fun h31 => ?_)
    · have k31 := beq_iff_eq.1 h31
      have hlt : y.natAbs ≤ x.natAbs := by rcases Nat.lt_or_ge x.natAbs y.natAbs with h | h; rw [if_pos h] at k31; cases k31; exact h
      have i3 : IsZ b (dig (x.natAbs - y.natAbs)) (x + y) k := ⟨lim_dig _, by rw [val_dig]; unfold sgn; cases b <;> cases c <;> simp_all <;> omega, hd2⟩
      refine T_regionS ?_
      refine Run.one (ok_fieldAddr rfl rfl rfl) rfl rfl rfl ?_
      refine Run.one (ok_load rfl rfl) rfl rfl rfl ?_
      refine Run.one (ok_move rfl rfl) rfl rfl rfl ?_
      refine Run.one (ok_build rfl rfl rfl) rfl rfl rfl ?_
      refine Run.one (ok_call rfl rfl (rznorm_spec (by unfold cap; omega))) rfl rfl rfl ?_
      refine Run.store 0 rfl rfl rfl rfl rfl rfl rfl rfl rfl ?_
      refine Run.nil ?_
      refine T_ret ?_
      exact ⟨_, [], .one (.agg 0 inferInstance rfl rfl rfl rfl), List.nil_sublist _, rfl, rfl⟩
    · have k31 := beq_eq_false_iff_ne.1 h31
      have hlt : x.natAbs < y.natAbs := by rcases Nat.lt_or_ge x.natAbs y.natAbs with h | h; exact h; rw [if_neg (by omega)] at k31; exact absurd rfl k31
      have i3 : IsZ c (dig (y.natAbs - x.natAbs)) (x + y) j := ⟨lim_dig _, by rw [val_dig]; unfold sgn; cases b <;> cases c <;> simp_all <;> omega, hd3⟩
      refine T_skip ?_
      refine T_regionS ?_
      refine Run.one (ok_fieldAddr rfl rfl rfl) rfl rfl rfl ?_
      refine Run.one (ok_load rfl rfl) rfl rfl rfl ?_
      refine Run.one (ok_fieldAddr rfl rfl rfl) rfl rfl rfl ?_
      refine Run.one (ok_load rfl rfl) rfl rfl rfl ?_
      refine Run.one (ok_call rfl rfl (rsub_spec (by unfold cap; omega))) rfl rfl rfl ?_
      refine Run.one (ok_move rfl rfl) rfl rfl rfl ?_
      iterate 2 refine Run.one (ok_extract rfl rfl rfl) rfl rfl rfl ?_
      refine Run.one (ok_assign rfl rfl) rfl rfl rfl ?_
      refine Run.nil ?_
      refine T_regionS ?_
      refine Run.one (ok_fieldAddr rfl rfl rfl) rfl rfl rfl ?_
      refine Run.one (ok_load rfl rfl) rfl rfl rfl ?_
      refine Run.one (ok_move rfl rfl) rfl rfl rfl ?_
      refine Run.one (ok_build rfl rfl rfl) rfl rfl rfl ?_
      refine Run.one (ok_call rfl rfl (rznorm_spec (by unfold cap; omega))) rfl rfl rfl ?_
      refine Run.store 0 rfl rfl rfl rfl rfl rfl rfl rfl rfl ?_
      refine Run.nil ?_
      refine T_ret ?_
      exact ⟨_, [], .one (.agg 0 inferInstance rfl rfl rfl rfl), List.nil_sublist _, rfl, rfl⟩
theorem rzadd_spec {xs : List (Bool × List Nat)} (hl : ∀ p ∈ xs, Lim p.2) (hs : szs xs xs.length + 1000 ≤ cap) : PSpec Tryz.prog G 178 [slS 2 zc xs] (aggS (canI (xs.foldl (fun z p => z + zv p) 0))) := by
  unfold cap at hs
  have hps : ∀ p ∈ xs, p.2.length ≤ cap := fun p hp => by
    obtain ⟨i, hi⟩ := List.getElem?_of_mem hp
    have h1 := szs_succ hi
    have h2 := szs_le xs (i + 1)
    unfold cap; omega
  refine fn_spec Tryz.func178 rfl rfl rfl ?_
  refine T_regionS ?_
  refine Run.alloc rfl rfl rfl rfl rfl fun b2 => ?_
  refine Run.nil ?_
  refine T_regionS ?_
  refine Run.alloc rfl rfl rfl rfl rfl fun b3 => ?_
  refine Run.nil ?_
  refine T_seq ?_
  refine T_regionS ?_
  refine Run.ghost _ rfl ghost_nilI ?_
  refine Run.one (ok_assign rfl rfl) rfl rfl rfl ?_
  refine Run.nil ?_
  refine T_block ?_
  refine T_len 0 rfl fun la => ?_
  unfold big at la
  refine T_loop2 (fun (i : Nat) (acc : Int) => ⟨_, [(4, intS .i64 (i : Nat)), (3, eqS (.pointer (some ⟨b3, 0, none⟩))), (2, eqS (.pointer (some ⟨b2, 0, none⟩))), (0, slS 2 zc xs)], [⟨some b3, 25, canI acc, 0⟩, ⟨some b2, 25, [eqS (.bool false), eqS (.slice none 0 0)], 0⟩], [], (0, false)⟩)
      (fun i acc => i ≤ xs.length ∧ acc = (xs.take i).foldl (fun z p => z + zv p) 0 ∧ Bz acc (szs xs i + 1)) (fun i acc => xs.length - i)
      0 0 ⟨Nat.zero_le _, rfl, bz_le (l := szs xs 0 + 1) (show Bz 0 1 from bz_le (l := 1) inferInstance (by decide)) (by omega)⟩ (ent_h (subG_cons rfl (subG_cons rfl (subG_cons rfl (subG_cons rfl (trivial))))) rfl) ?_
  rintro i acc ⟨hi, hacc, hbz⟩
  refine T_seq ?_
  refine T_regionS ?_
  iterate 2 refine Run.one (ok_move rfl rfl) rfl rfl rfl ?_
  refine Run.one (ok_len rfl rfl) rfl rfl rfl ?_
  refine Run.one (ok_cmp rfl rfl rfl rfl) rfl rfl rfl ?_
  refine Run.nil ?_
  refine T_cond rfl rfl (fun h8 => ?_) (fun h8 => ?_)
  · have k8 := of_decide_eq_true h8
    obtain ⟨⟨b, m⟩, hp⟩ : ∃ p, xs[i]? = some p := ⟨_, List.getElem?_eq_getElem (by omega)⟩
    have hpm : (b, m) ∈ xs := List.mem_of_getElem? hp
    have i1 : IsZ b m (zv (b, m)) m.length := isZ_of (hl _ hpm)
    have i2 := i1.bz
    have hsl := hps _ hpm
    have hs1 := szs_succ hp
    have hs2 := szs_le xs (i + 1)
    simp only at hs1 hsl
    refine T_skip ?_
    refine T_seq ?_
    refine T_block ?_
    refine T_draw 7 (by kernel_rfl) ?_
    refine Run.one (ok_load_own_agg 0 rfl rfl rfl rfl rfl) rfl rfl rfl ?_
    iterate 2 refine Run.one (ok_move rfl rfl) rfl rfl rfl ?_
    refine Run.one (ok_indexAddr rfl rfl rfl (by omega) (y := (b, m)) (hp)) rfl rfl rfl ?_
    refine Run.one ((show OpOK _ _ _ _ _ (aggS [boolS b, natS m]) from ok_load_agg rfl rfl rfl rfl)) rfl rfl rfl ?_
    refine Run.one (ok_call rfl rfl (rznorm_spec hsl)) rfl rfl rfl ?_
    refine Run.one (ok_call rfl rfl (rztwo_spec (by unfold cap; omega))) rfl rfl rfl ?_
    refine Run.nil ?_
    refine Run.store 0 rfl rfl rfl rfl rfl rfl rfl rfl rfl ?_
    refine Run.nil ?_
    refine T_region ?_
    refine Run.one (ok_move rfl rfl) rfl rfl rfl ?_
    refine Run.one (ok_ari rfl rfl rfl rfl (wrap_i64 (by omega) (by omega))) rfl rfl rfl ?_
    refine Run.one (ok_assign rfl rfl) rfl rfl rfl ?_
    refine Run.nil ?_
    exact ⟨i + 1, acc + zv (b, m), ⟨by omega, by rw [hacc, foldl_take (fun z p => z + zv p) 0 hp], bz_le (bz_add (h := hbz) (h' := i2)) (by omega)⟩, by omega, ent_h (subG_cons rfl (subG_cons rfl (subG_cons rfl (subG_cons rfl (trivial))))) rfl⟩
  · have k8 := of_decide_eq_false h8
    have hie : i = xs.length := by omega
    rw [hie, List.take_length] at hacc
    rw [hie] at hbz
    refine T_exit ?_
    refine T_regionS ?_
    refine Run.one (ok_load_own_agg 0 rfl rfl rfl rfl rfl) rfl rfl rfl ?_
    refine Run.one (ok_call rfl rfl (rznorm_spec (by unfold cap; omega))) rfl rfl rfl ?_
    refine Run.store 1 rfl rfl rfl rfl rfl rfl rfl rfl rfl ?_
    refine Run.nil ?_
    refine T_ret ?_
    exact ⟨_, [], .one (.agg 1 inferInstance rfl rfl rfl rfl), List.nil_sublist _, by rw [hacc]; rfl, rfl⟩
theorem rzadd2_spec {b c : Bool} {l m : List Nat} {x y : Int} {k j : Nat} [hx : IsZ b l x k] [hy : IsZ c m y j] (hs : k + j + 1100 ≤ cap := by decide) : PSpec Tryz.prog G 178 [slS 2 id [[boolS b, natS l], [boolS c, natS m]]] (aggS (canI (x + y))) := by
  have h := rzadd_spec (G := G) (xs := [(b, l), (c, m)]) (by intro p hp; rcases List.mem_cons.1 hp with rfl | hp; exact hx.lim; rw [List.mem_singleton.1 hp]; exact hy.lim) (by have := hx.len; have := hy.len; simp only [szs, List.length_cons, List.length_nil, List.take, List.map, List.sum_cons, List.sum_nil]; omega)
  have e : [(b, l), (c, m)].foldl (fun z p => z + zv p) 0 = x + y := by show 0 + sgn b (val l) + sgn c (val m) = _; rw [hx.val, hy.val, Int.zero_add]
  rw [e] at h
  exact h.args ⟨fun I v hv => sl_pair [(b, l), (c, m)] hv, trivial⟩
theorem rzsub_spec {b c : Bool} {l m : List Nat} {x y : Int} {k j : Nat} [hx : IsZ b l x k] [hy : IsZ c m y j] (hs : k + j + 1100 ≤ cap := by decide) : PSpec Tryz.prog G 145 [aggS [boolS b, natS l], aggS [boolS c, natS m]] (aggS (canI (x - y))) := by
  have i1 := hx.bz
  have i2 := hy.bz
  refine fn_spec Tryz.func145 rfl rfl rfl ?_
  refine T_regionS ?_
  iterate 2 refine Run.one (ok_box rfl rfl) rfl rfl rfl ?_
  refine Run.alloc rfl rfl rfl rfl rfl fun b4 => ?_
  refine Run.nil ?_
  refine T_drawS 5 (by kernel_rfl) ?_
  iterate 2 refine Run.one (ok_load_agg rfl rfl rfl rfl) rfl rfl rfl ?_
  refine Run.one (ok_call rfl rfl (rzneg_spec (by omega))) rfl rfl rfl ?_
  refine Run.one (ok_buildSlice rfl rfl (by decide) rfl (by simp) rfl rfl) rfl rfl rfl ?_
  refine Run.one ((ok_call rfl rfl (rzadd2_spec hs)).sub (show ∀ I v, (aggS (canI (x + -y))).den I v → (aggS (canI (x - y))).den I v from fun I v h => by rw [Int.sub_eq_add_neg]; exact h)) rfl rfl rfl ?_
  refine Run.nil ?_
  refine Run.store 0 rfl rfl rfl rfl rfl rfl rfl rfl rfl ?_
  refine Run.nil ?_
  refine T_ret ?_
  exact ⟨_, [], .one (.agg 0 inferInstance rfl rfl rfl rfl), List.nil_sublist _, rfl, rfl⟩
end Go.Proofs
/- Rationals: rat. -/
namespace Go.Proofs
open Go Go.Sv Num
variable {G : Imm}
abbrev canQ (q : Rat) : List SV := [boolS (decide (q.num < 0)), natS (dig q.num.natAbs), natS (dig q.den)]
class Bq (q : Rat) (k : outParam Nat) : Prop where
  num : q.num.natAbs < 4294967296 ^ k
  den : q.den < 4294967296 ^ k
class IsQ (b : Bool) (l d : List Nat) (q : outParam Rat) (k : outParam Nat) : Prop where
  lim : Lim l
  limd : Lim d
  val : mkRat (sgn b (Num.val l)) (Num.val d) = q
  len : l.length ≤ k
  lend : d.length ≤ k
  pos : 0 < k
theorem Bq.bz {q : Rat} {k : Nat} (h : Bq q k) : Bz q.num k := ⟨h.num⟩
theorem Bq.pos {q : Rat} {k : Nat} (h : Bq q k) : 0 < k := by
  rcases Nat.eq_zero_or_pos k with e | e
  · have h1 := h.den; rw [e, Nat.pow_zero] at h1; exact absurd q.den_pos (by omega)
  · exact e
theorem Bq.lens {q : Rat} {k : Nat} (h : Bq q k) : (dig q.num.natAbs).length ≤ k ∧ (dig q.den).length ≤ k := ⟨dig_length_le h.num, dig_length_le h.den⟩
instance isQ_can {q : Rat} {k : Nat} [h : Bq q k] : IsQ (decide (q.num < 0)) (dig q.num.natAbs) (dig q.den) q k :=
  ⟨lim_dig _, lim_dig _, by rw [val_dig, val_dig, sgn_self, Rat.mkRat_self], h.lens.1, h.lens.2, h.pos⟩
theorem mkRat_le {z : Int} {d : Nat} (hd : d ≠ 0) : (mkRat z d).num.natAbs ≤ z.natAbs ∧ (mkRat z d).den ≤ d := by
  have h1 := mkRat_abs (b := decide (z < 0)) (a := z.natAbs) hd
  have h2 := mkRat_den (b := decide (z < 0)) (a := z.natAbs) hd
  rw [sgn_self] at h1 h2
  exact ⟨by rw [h1]; exact Nat.div_le_self _ _, by rw [h2]; exact Nat.div_le_self _ _⟩
theorem bq_mkRat {z : Int} {d k : Nat} (hz : z.natAbs < 4294967296 ^ k) (hd : d < 4294967296 ^ k) (hk : 0 < k) : Bq (mkRat z d) k := by
  rcases Nat.eq_zero_or_pos d with e | e
  · rw [e, Rat.mkRat_zero]; exact ⟨Nat.pow_pos (by decide), Nat.one_lt_pow (by omega) (by decide)⟩
  · obtain ⟨h1, h2⟩ := mkRat_le (z := z) (d := d) (by omega)
    exact ⟨Nat.lt_of_le_of_lt h1 hz, Nat.lt_of_le_of_lt h2 hd⟩
theorem IsQ.bq {b : Bool} {l d : List Nat} {q : Rat} {k : Nat} (h : IsQ b l d q k) : Bq q k := by
  rw [← h.val]
  exact bq_mkRat (by rw [sgn_natAbs]; exact Nat.lt_of_lt_of_le (val_lt h.lim) (Nat.pow_le_pow_right (by decide) h.len)) (Nat.lt_of_lt_of_le (val_lt h.limd) (Nat.pow_le_pow_right (by decide) h.lend)) h.pos
theorem dbl_lt {x y k : Nat} (h : x < 4294967296 ^ k) (h' : y < 4294967296 ^ k) : x + y < 4294967296 ^ (k + 1) := by
  rw [pow_split]; exact Nat.lt_of_lt_of_le (Nat.add_lt_add h h') (by rw [← Nat.mul_two]; exact Nat.mul_le_mul_left _ (by decide))
theorem cross_lt {p q : Rat} {k j : Nat} (hp : Bq p k) (hq : Bq q j) : (p.num * (q.den : Int)).natAbs < 4294967296 ^ (k + j) ∧ (q.num * (p.den : Int)).natAbs < 4294967296 ^ (k + j) ∧ p.den * q.den < 4294967296 ^ (k + j) := by
  rw [Int.natAbs_mul, Int.natAbs_mul, Nat.pow_add, Int.natAbs_natCast, Int.natAbs_natCast]
  exact ⟨Nat.mul_lt_mul'' hp.num hq.den, by rw [Nat.mul_comm (4294967296 ^ k)]; exact Nat.mul_lt_mul'' hq.num hp.den, Nat.mul_lt_mul'' hp.den hq.den⟩
instance bq_add {p q : Rat} {k j : Nat} [hp : Bq p k] [hq : Bq q j] : Bq (p + q) (k + j + 1) := by
  obtain ⟨h1, h2, h3⟩ := cross_lt hp hq
  rw [Rat.add_def']
  exact bq_mkRat (Nat.lt_of_le_of_lt (Int.natAbs_add_le _ _) (dbl_lt h1 h2)) (Nat.lt_of_lt_of_le h3 (Nat.pow_le_pow_right (by decide) (by omega))) (by omega)
instance bq_sub {p q : Rat} {k j : Nat} [hp : Bq p k] [hq : Bq q j] : Bq (p - q) (k + j + 1) := by
  obtain ⟨h1, h2, h3⟩ := cross_lt hp hq
  rw [Rat.sub_def']
  exact bq_mkRat (Nat.lt_of_le_of_lt (Int.natAbs_sub_le _ _) (dbl_lt h1 h2)) (Nat.lt_of_lt_of_le h3 (Nat.pow_le_pow_right (by decide) (by omega))) (by omega)
instance bq_mul {p q : Rat} {k j : Nat} [hp : Bq p k] [hq : Bq q j] : Bq (p * q) (k + j) := by
  rw [Rat.mul_def']
  exact bq_mkRat (by rw [Int.natAbs_mul, Nat.pow_add]; exact Nat.mul_lt_mul'' hp.num hq.num) (cross_lt hp hq).2.2 (by have := hp.pos; omega)
instance bq_neg {q : Rat} {k : Nat} [h : Bq q k] : Bq (-q) k := ⟨by rw [Rat.neg_num, Int.natAbs_neg]; exact h.num, h.den⟩
instance bq_zero : Bq 0 1 := ⟨by decide, by decide⟩
instance bq_one : Bq 1 1 := ⟨by decide, by decide⟩
theorem dig_one : dig 1 = [1] := by rw [dig_pos (by decide), show 1 / 4294967296 = 0 from rfl, dig_zero]
theorem canQ_mk {z : Int} {d : Nat} (hd : d ≠ 0) : canQ (mkRat z d) = [boolS (decide (z < 0)), natS (dig (z.natAbs / Nat.gcd z.natAbs d)), natS (dig (d / Nat.gcd z.natAbs d))] := by
  have h1 := mkRat_abs (b := decide (z < 0)) (a := z.natAbs) hd
  have h2 := mkRat_den (b := decide (z < 0)) (a := z.natAbs) hd
  have h3 := mkRat_neg (b := decide (z < 0)) (a := z.natAbs) hd
  rw [sgn_self] at h1 h2 h3
  have h4 : decide ((mkRat z d).num < 0) = decide (z < 0) := by
    rw [h3]; by_cases h : z < 0
    · rw [decide_eq_true h, Bool.true_and]; exact decide_eq_true (by omega)
    · rw [decide_eq_false h, Bool.false_and]
  show [boolS (decide ((mkRat z d).num < 0)), natS (dig (mkRat z d).num.natAbs), natS (dig (mkRat z d).den)] = _
  rw [h4, h1, h2]
abbrev qc (p : Bool × List Nat × List Nat) : List SV := [boolS p.1, natS p.2.1, natS p.2.2]
def qv (p : Bool × List Nat × List Nat) : Rat := mkRat (sgn p.1 (Num.val p.2.1)) (Num.val p.2.2)
theorem qOf_spec {n : Int} {q : Rat} (h1 : -9223372036854775808 ≤ n) (h2 : n ≤ 9223372036854775807) (hq : (n : Rat) = q := by rfl) : PSpec Tryz.prog G 54 [intS .i64 n] (aggS (canQ q)) := by
  refine fn_spec Tryz.func54 rfl rfl rfl ?_
  refine T_regionS ?_
  refine Run.alloc rfl rfl rfl rfl rfl fun b2 => ?_
  refine Run.nil ?_
  refine T_regionS ?_
  refine Run.one (ok_move rfl rfl) rfl rfl rfl ?_
  refine Run.one (ok_call rfl rfl (zOf_spec h1 h2)) rfl rfl rfl ?_
  refine Run.one (ok_buildNat [1] rfl rfl (by decide) rfl (by simp) rfl rfl rfl) rfl rfl rfl ?_
  refine Run.one (ok_build rfl rfl rfl) rfl rfl rfl ?_
  refine Run.store 0 rfl rfl rfl rfl rfl rfl rfl rfl rfl ?_
  refine Run.nil ?_
  refine T_ret ?_
  exact ⟨_, [], .one (.agg 0 inferInstance rfl rfl rfl rfl), List.nil_sublist _, by rw [← hq]; show _ = aggS [boolS (decide (n < 0)), natS (dig n.natAbs), natS (dig 1)]; rw [dig_one]; rfl, rfl⟩
theorem qnorm_spec [Tab G] {b : Bool} {l d : List Nat} {q : Rat} {k bn : Nat} [h : IsQ b l d q k] (hs : 2 * k + 11000 ≤ cap := by decide) : CallSpec Tryz.prog G 100 [eqS (.pointer (some ⟨bn, 0, none⟩))] [⟨some bn, 128, [boolS b, natS l, natS d], 0⟩] (fun s H' => s = boolS (decide (val d ≠ 0)) ∧ H' = [⟨some bn, 128, canQ q, 0⟩]) := by
  have hlen := h.len
  have hlend := h.lend
  have hv := h.val
  have i1 : IsNat d (val d) := isNat_of h.limd
  have i2 : IsZ b l (sgn b (val l)) k := ⟨h.lim, rfl, hlen⟩
  have hz := i2.bz.len
  obtain ⟨z, hze⟩ : ∃ z, z = sgn b (val l) := ⟨_, rfl⟩
  rw [← hze] at hv hz i2
  refine fn_spec Tryz.func100 rfl rfl rfl ?_
  refine T_regionS ?_
  refine Run.one (ok_assign rfl rfl) rfl rfl rfl ?_
  refine Run.nil ?_
  refine T_seq ?_
  refine T_regionS ?_
  refine Run.one (ok_move rfl rfl) rfl rfl rfl ?_
  refine Run.one (ok_nilCheck_eq rfl rfl) rfl rfl rfl ?_
  iterate 2 refine Run.one (ok_fieldAddr_eq rfl rfl rfl) rfl rfl rfl ?_
  refine Run.one (ok_load_own 0 rfl rfl rfl rfl) rfl rfl rfl ?_
  refine Run.one (ok_call rfl rfl (trim_spec (by omega))) rfl rfl rfl ?_
  refine Run.one (ok_len rfl rfl) rfl rfl rfl ?_
  refine Run.one (ok_cmp rfl rfl rfl rfl) rfl rfl rfl ?_
  refine Run.nil ?_
  refine T_cond rfl rfl (fun h10 => ?_) (fun h10 => ?_)
  · have k10 := beq_iff_eq.1 h10
    have hd0 : val d = 0 := dig_len_zero.1 (by omega)
    rw [hd0, Rat.mkRat_zero] at hv
    refine T_regionS ?_
    refine Run.one (ok_move rfl rfl) rfl rfl rfl ?_
    refine Run.one (ok_call rfl rfl (qOf_spec (n := 0) (q := q) (by decide) (by decide) (by rw [← hv]; rfl))) rfl rfl rfl ?_
    refine Run.one (ok_nilCheck_eq rfl rfl) rfl rfl rfl ?_
    refine Run.one (ok_fieldAddr_eq rfl rfl rfl) rfl rfl rfl ?_
    refine Run.store 0 rfl rfl rfl rfl rfl rfl rfl rfl rfl ?_
    refine Run.nil ?_
    refine T_regionS ?_
    refine Run.one (ok_assign rfl rfl) rfl rfl rfl ?_
    refine Run.nil ?_
    refine T_ret ?_
    exact ⟨_, [_], .one (.tmp rfl), List.Sublist.refl _, congrArg boolS (decide_eq_false (by simp [hd0])).symm, rfl⟩
  · have k10 := beq_eq_false_iff_ne.1 h10
    have hd0 : val d ≠ 0 := fun h0 => k10 (by rw [h0, dig_zero]; rfl)
    refine T_skip ?_
    refine T_regionS ?_
    iterate 2 refine Run.one (ok_move rfl rfl) rfl rfl rfl ?_
    refine Run.one (ok_nilCheck_eq rfl rfl) rfl rfl rfl ?_
    iterate 2 refine Run.one (ok_fieldAddr_eq rfl rfl rfl) rfl rfl rfl ?_
    refine Run.one (ok_load_own_agg 0 rfl rfl rfl rfl rfl) rfl rfl rfl ?_
    refine Run.one (ok_call rfl rfl (zNorm_spec (by omega))) rfl rfl rfl ?_
    refine Run.one (ok_nilCheck_eq rfl rfl) rfl rfl rfl ?_
    iterate 2 refine Run.one (ok_fieldAddr_eq rfl rfl rfl) rfl rfl rfl ?_
    refine Run.store 0 rfl rfl rfl rfl rfl rfl rfl rfl rfl ?_
    refine Run.nil ?_
    refine T_drawES 21 _ (by kernel_rfl) rfl (.cons _ .slnil) ?_
    refine RunE.one (ok_move rfl rfl) rfl rfl rfl (by kernel_rfl) ?_
    refine RunE.lat (ok_move rfl rfl) rfl rfl rfl ?_
    refine RunE.one (ok_move rfl rfl) rfl rfl rfl (by kernel_rfl) ?_
    refine RunE.one (ok_nilCheck_eq rfl rfl) rfl rfl rfl (by kernel_rfl) ?_
    iterate 3 refine RunE.one (ok_fieldAddr_eq rfl rfl rfl) rfl rfl rfl (by kernel_rfl) ?_
    refine RunE.one (ok_load_own 0 rfl rfl rfl rfl) rfl rfl rfl (by kernel_rfl) ?_
    refine RunE.one (ok_move rfl rfl) rfl rfl rfl (by kernel_rfl) ?_
    refine RunE.one (ok_nilCheck_eq rfl rfl) rfl rfl rfl (by kernel_rfl) ?_
    iterate 2 refine RunE.one (ok_fieldAddr_eq rfl rfl rfl) rfl rfl rfl (by kernel_rfl) ?_
    refine RunE.one (ok_load_own 0 rfl rfl rfl rfl) rfl rfl rfl (by kernel_rfl) ?_
    refine RunE.one (ok_call rfl rfl (reduce_spec (by omega))) rfl rfl rfl (by kernel_rfl) ?_
    refine RunE.one (ok_move rfl rfl) rfl rfl rfl (by kernel_rfl) ?_
    refine RunE.one (ok_extract rfl rfl rfl) rfl rfl rfl (by kernel_rfl) ?_
    refine RunE.lat (ok_extract rfl rfl rfl) rfl rfl rfl ?_
    refine RunE.one (ok_nilCheck_eq rfl rfl) rfl rfl rfl (by kernel_rfl) ?_
    iterate 3 refine RunE.one (ok_fieldAddr_eq rfl rfl rfl) rfl rfl rfl (by kernel_rfl) ?_
    refine RunE.nil ?_
    refine EffAt.store 0 rfl rfl rfl rfl rfl rfl rfl rfl (.cons _ .slnil) ?_
    refine Run.one (ok_nilCheck_eq rfl rfl) rfl rfl rfl ?_
    iterate 2 refine Run.one (ok_fieldAddr_eq rfl rfl rfl) rfl rfl rfl ?_
    refine Run.store 0 rfl rfl rfl rfl rfl rfl rfl rfl rfl ?_
    refine Run.nil ?_
    refine T_regionS ?_
    refine Run.one (ok_assign rfl rfl) rfl rfl rfl ?_
    refine Run.nil ?_
    refine T_ret ?_
    exact ⟨_, [_], .one (.tmp rfl), List.Sublist.refl _, congrArg boolS (decide_eq_true hd0).symm, by rw [← hv, canQ_mk hd0]; rfl⟩
theorem qof_own [Tab G] {b : Bool} {l d : List Nat} {q : Rat} {k : Nat} [h : IsQ b l d q k] (hs : 2 * k + 11000 ≤ cap := by decide) : CallSpec Tryz.prog G 103 [aggS [boolS b, natS l, natS d]] [] (fun s H' => ∃ bn, s = eqS (.pointer (some ⟨bn, 0, none⟩)) ∧ H' = [⟨some bn, 128, canQ q, 0⟩]) := by
  refine fn_spec Tryz.func103 rfl rfl rfl ?_
  refine T_regionS ?_
  refine Run.one (ok_box rfl rfl) rfl rfl rfl ?_
  refine Run.one (ok_assign rfl rfl) rfl rfl rfl ?_
  refine Run.nil ?_
  refine T_regionS ?_
  refine Run.one (ok_load_agg rfl rfl rfl rfl) rfl rfl rfl ?_
  refine Run.one (ok_build rfl rfl rfl) rfl rfl rfl ?_
  refine Run.box rfl rfl rfl rfl rfl rfl fun bn => ?_
  refine Run.one (ok_assign rfl rfl) rfl rfl rfl ?_
  refine Run.nil ?_
  refine T_regionS ?_
  refine Run.one (ok_move rfl rfl) rfl rfl rfl ?_
  refine Run.call1 0 rfl rfl rfl rfl (qnorm_spec hs) rfl rfl rfl ?_
  rintro s1 H1 ⟨rfl, rfl⟩
  refine Run.nil ?_
  refine T_regionS ?_
  refine Run.one (ok_move rfl rfl) rfl rfl rfl ?_
  refine Run.one (ok_assign rfl rfl) rfl rfl rfl ?_
  refine Run.nil ?_
  refine T_ret ?_
  exact ⟨_, [_], .one (.tmp rfl), List.Sublist.refl _, bn, rfl, rfl⟩
theorem qof_spec [Tab G] {b : Bool} {l d : List Nat} {q : Rat} {k : Nat} [h : IsQ b l d q k] (hs : 2 * k + 11000 ≤ cap := by decide) : PSpec Tryz.prog G 103 [aggS [boolS b, natS l, natS d]] (ptrS (canQ q)) := frz_spec (qof_own hs)
theorem qNorm_spec [Tab G] {b : Bool} {l d : List Nat} {q : Rat} {k : Nat} [h : IsQ b l d q k] (hs : 2 * k + 11000 ≤ cap := by decide) : PSpec Tryz.prog G 62 [aggS [boolS b, natS l, natS d]] (aggS (canQ q)) := by
  refine fn_spec Tryz.func62 rfl rfl rfl ?_
  refine T_regionS ?_
  refine Run.one (ok_box rfl rfl) rfl rfl rfl ?_
  refine Run.alloc rfl rfl rfl rfl rfl fun b2 => ?_
  refine Run.nil ?_
  refine T_regionS ?_
  refine Run.one (ok_load_agg rfl rfl rfl rfl) rfl rfl rfl ?_
  refine Run.one (ok_call rfl rfl (qof_spec hs)) rfl rfl rfl ?_
  refine Run.one (ok_nilCheck rfl rfl) rfl rfl rfl ?_
  refine Run.one (ok_fieldAddr rfl rfl rfl) rfl rfl rfl ?_
  refine Run.one (ok_load_agg rfl rfl rfl rfl) rfl rfl rfl ?_
  refine Run.store 0 rfl rfl rfl rfl rfl rfl rfl rfl rfl ?_
  refine Run.nil ?_
  refine T_ret ?_
  exact ⟨_, [], .one (.agg 0 inferInstance rfl rfl rfl rfl), List.nil_sublist _, rfl, rfl⟩
end Go.Proofs
