/- line, straitref11: numbers. -/
import Derived.Test.YtofplgefmjojjaaGreatDoorSsl
import Derived.Test.YtofplgefmjojjaaGreatDoorSnv
namespace Num
open Go Go.Lib
def num3 (s : List UInt8) : Rat × Int × Int := numF (cut s [47]).1 (cut s [47]).2.1 (cut s [47]).2.2
theorem numF_bad1 {a b : List UInt8} {m : Bool} (h : okD (trimPrefix a [45]) = false) : numF a b m = (0, 0, 60) := by unfold numF; simp only [h]; rfl
theorem numF_bad2 {a b : List UInt8} (h : okD b = false) : numF a b true = (0, 0, 60) := by
 unfold numF
 simp only [h]
 split <;> rfl
theorem numF_one {a b : List UInt8} (h : okD (trimPrefix a [45]) = true) : numF a b false = (mkRat (zn (hasPrefix a [45]) (pvD (trimPrefix a [45]))) 1, (((trimPrefix a [45]).length : Nat) : Int), 0) := by
 unfold numF pvD
 simp only [h]
 rfl
theorem numF_two {a b : List UInt8} (h : okD (trimPrefix a [45]) = true) (h2 : okD b = true) : numF a b true = (mkRat (zn (hasPrefix a [45]) (pvD (trimPrefix a [45]))) (pvD b), ((max (trimPrefix a [45]).length b.length : Nat) : Int), if pvD b = 0 then 30 else 0) := by
 unfold numF pvD
 simp only [h, h2]
 by_cases hz : valD b = 0
 ·simp [hz, Rat.mkRat_zero]
 ·simp [hz]
theorem zn_sgn (b : Bool) (v : Nat) : sgn (b && decide (0 < v)) v = zn b v := by
 unfold sgn zn
 cases b
 ·rfl
 ·by_cases h : 0 < v
  ·rw [decide_eq_true h]; rfl
  ·have : v = 0 := by omega
   subst this; rfl
theorem spl_mem {c : UInt8} {s p : List UInt8} (h : p ∈ spl c s) : p.length ≤ s.length := by
  induction s generalizing p with
  | nil => simp [spl] at h; rw [h]; exact Nat.le_refl _
  | cons x r ih =>
    unfold spl at h
    split at h
    · rcases List.mem_cons.1 h with rfl | h
      · simp
      · exact Nat.le_succ_of_le (ih h)
    · cases hs : spl c r with
      | nil => exact absurd hs (spl_ne _ _)
      | cons q qs =>
        rw [hs] at h ih
        rcases List.mem_cons.1 h with rfl | h
        · exact Nat.succ_le_succ (ih (List.mem_cons_self ..))
        · exact Nat.le_succ_of_le (ih (List.mem_cons_of_mem _ h))
end Num
namespace Go.Proofs
open Go Go.Sv Num
variable {G : Imm}
theorem okD_of_pe {l : List UInt8} (h : peD l = 0) : okD l = true := by
 cases ho : okD l with
 | true => rfl
 | false => rw [(peD_bad ho).1] at h; exact absurd h (by decide)
instance isZ_parse {b : Bool} {v k : Nat} [h : Bd v k] : IsZ (b && decide (0 < v)) (dig v) (zn b v) k := ⟨lim_dig _, by rw [val_dig, zn_sgn], dig_length_le h.h⟩
theorem qnew_spec [Tab G] {b : Bool} {l d : List Nat} {z : Int} {n k j : Nat} [h : IsZ b l z k] [hd : IsNat d n] [hk : Sz d j] (hs : 2 * (k + j + 1) + 11000 ≤ cap := by decide) : PSpec Tryz.prog G 211 [aggS [boolS b, natS l], natS d] (tupS [aggS (canQ (mkRat z n)), intS .i64 (if n = 0 then 30 else 0)]) := by
 have iq : IsQ b l d (mkRat z n) (k + j + 1) := ⟨h.lim, hd.lim, by rw [h.val, hd.val], by have := h.len; omega, by have := hk.h; omega, by omega⟩
 have hdv := hd.val
 refine fn_spec Tryz.func211 rfl rfl rfl ?_
 refine T_regionS ?_
 refine Run.one (ok_box rfl rfl) rfl rfl rfl ?_
 refine Run.alloc rfl rfl rfl rfl rfl fun b4 => ?_
 refine Run.one (ok_assign rfl rfl) rfl rfl rfl ?_
 refine Run.nil ?_
 refine T_regionS ?_
 refine Run.one (ok_load_agg rfl rfl rfl rfl) rfl rfl rfl ?_
 refine Run.one (ok_move rfl rfl) rfl rfl rfl ?_
 iterate 2 refine Run.one (ok_build rfl rfl rfl) rfl rfl rfl ?_
 refine Run.box rfl rfl rfl rfl rfl rfl fun b11 => ?_
 refine Run.one (ok_assign rfl rfl) rfl rfl rfl ?_
 refine Run.nil ?_
 refine T_seq ?_
 refine T_regionS ?_
 refine Run.one (ok_move rfl rfl) rfl rfl rfl ?_
 refine Run.callH [] _ [_] rfl rfl rfl rfl (qnorm_spec (q := mkRat z n) hs) rfl rfl rfl ?_
 rintro s1 H1 ⟨rfl, rfl⟩
 rw [hdv]
 refine Run.one (ok_not rfl rfl) rfl rfl rfl ?_
 refine Run.nil ?_
 refine T_cond rfl rfl (fun h14 => ?_) (fun h14 => ?_)
 ·have hn0 : n = 0 := by simpa using h14
  refine T_regionS ?_
  refine Run.one (ok_move rfl rfl) rfl rfl rfl ?_
  refine Run.one (ok_nilCheck_eq rfl rfl) rfl rfl rfl ?_
  refine Run.one (ok_fieldAddr_eq rfl rfl rfl) rfl rfl rfl ?_
  refine Run.one (ok_load_own_agg 0 rfl rfl rfl rfl rfl) rfl rfl rfl ?_
  refine Run.store 1 rfl rfl rfl rfl rfl rfl rfl rfl rfl ?_
  refine Run.one (ok_assign rfl rfl) rfl rfl rfl ?_
  refine Run.nil ?_
  refine T_ret ?_
  exact ⟨_, [], .many (.cons (.agg 1 inferInstance rfl rfl rfl rfl) (.cons (.tmp rfl) (.nil))), List.nil_sublist _, by rw [if_pos hn0]; rfl, rfl⟩
 ·have hn0 : n ≠ 0 := by simpa using h14
  refine T_skip ?_
  refine T_regionS ?_
  refine Run.one (ok_move rfl rfl) rfl rfl rfl ?_
  refine Run.one (ok_nilCheck_eq rfl rfl) rfl rfl rfl ?_
  refine Run.one (ok_fieldAddr_eq rfl rfl rfl) rfl rfl rfl ?_
  refine Run.one (ok_load_own_agg 0 rfl rfl rfl rfl rfl) rfl rfl rfl ?_
  refine Run.store 1 rfl rfl rfl rfl rfl rfl rfl rfl rfl ?_
  refine Run.one (ok_assign rfl rfl) rfl rfl rfl ?_
  refine Run.nil ?_
  refine T_ret ?_
  exact ⟨_, [], .many (.cons (.agg 1 inferInstance rfl rfl rfl rfl) (.cons (.tmp rfl) (.nil))), List.nil_sublist _, by rw [if_neg hn0]; rfl, rfl⟩
theorem number_spec [Tab G] [MaxLen G] {s : List UInt8} (hs : s.length ≤ 1000000000) : PSpec Tryz.prog G 200 [strS s] (tupS [aggS (canQ (num3 s).1), intS .i64 (num3 s).2.1, intS .i64 (num3 s).2.2]) := by
 obtain ⟨a, b, m, hcut⟩ : ∃ a b m, Lib.cut s [47] = (a, b, m) := ⟨_, _, _, rfl⟩
 have hcs := cut_spec (G := G) (l := s) (m := [47]) (by omega)
 have hn3 : num3 s = numF a b m := by unfold num3; rw [hcut]
 rw [hcut] at hcs
 dsimp only at hcs
 obtain ⟨tl, htl⟩ : ∃ tl, tl = Lib.trimPrefix a [45] := ⟨_, rfl⟩
 have i1 : Bd (pvD tl) 7 := bd_dec (pvD_lt tl)
 have i2 : Bd (pvD b) 7 := bd_dec (pvD_lt b)
 have i3 := isNat_lit (d := 1) (by decide)
 have hps := parseInt_spec (G := G) (l := a)
 have htp := trimPrefix_spec (G := G) (l := a) (m := [45])
 rw [← htl] at hps htp
 refine fn_spec Tryz.func200 rfl rfl rfl ?_
 refine T_regionS ?_
 refine Run.alloc rfl rfl rfl rfl rfl fun b2 => ?_
 iterate 2 refine Run.one (ok_assign rfl rfl) rfl rfl rfl ?_
 refine Run.nil ?_
 refine T_regionS ?_
 refine Run.one (ok_move rfl rfl) rfl rfl rfl ?_
 refine Run.one (ok_call rfl rfl hcs) rfl rfl rfl ?_
 refine Run.one (ok_move rfl rfl) rfl rfl rfl ?_
 iterate 3 refine Run.one (ok_extract rfl rfl rfl) rfl rfl rfl ?_
 iterate 3 refine Run.one (ok_assign rfl rfl) rfl rfl rfl ?_
 refine Run.nil ?_
 refine T_regionS ?_
 refine Run.one (ok_move rfl rfl) rfl rfl rfl ?_
 refine Run.one (ok_call rfl rfl hps) rfl rfl rfl ?_
 refine Run.one (ok_move rfl rfl) rfl rfl rfl ?_
 iterate 2 refine Run.one (ok_extract rfl rfl rfl) rfl rfl rfl ?_
 refine Run.alloc rfl rfl rfl rfl rfl fun b8 => ?_
 refine Run.store 0 rfl rfl rfl rfl rfl rfl rfl rfl rfl ?_
 refine Run.one (ok_assign rfl rfl) rfl rfl rfl ?_
 refine Run.nil ?_
 refine T_seq ?_
 refine T_regionS ?_
 refine Run.one (ok_move rfl rfl) rfl rfl rfl ?_
 refine Run.one (ok_cmp rfl rfl rfl rfl) rfl rfl rfl ?_
 refine Run.nil ?_
 refine T_cond rfl rfl (fun h22 => ?_) (fun h22 => ?_)
 ·have k22 := bne_iff_ne.1 h22
  have hb := peD_ne k22
  rw [htl] at hb
  refine T_regionS ?_
  refine Run.one (ok_call rfl rfl (qOf_spec (n := 0) (q := 0) (by decide) (by decide))) rfl rfl rfl ?_
  refine Run.store 1 rfl rfl rfl rfl rfl rfl rfl rfl rfl ?_
  iterate 2 refine Run.one (ok_assign rfl rfl) rfl rfl rfl ?_
  refine Run.nil ?_
  refine T_ret ?_
  exact ⟨_, [], .many (.cons (.agg 1 inferInstance rfl rfl rfl rfl) (.cons (.tmp rfl) (.cons (.tmp rfl) (.nil)))), List.nil_sublist _, by rw [hn3, numF_bad1 hb]; rfl, rfl⟩
 ·have k22 := bne_eq_false_iff_eq.1 h22
  have hok := okD_of_pe k22
  rw [htl] at hok
  refine T_skip ?_
  refine T_regionS ?_
  refine Run.one (ok_move rfl rfl) rfl rfl rfl ?_
  refine Run.one (ok_call rfl rfl htp) rfl rfl rfl ?_
  refine Run.one (ok_len_str rfl rfl) rfl rfl rfl ?_
  refine Run.one (ok_assign rfl rfl) rfl rfl rfl ?_
  refine Run.nil ?_
  refine T_regionS ?_
  refine Run.one (ok_buildSlice rfl rfl (by decide) rfl (by simp) rfl rfl) rfl rfl rfl ?_
  refine Run.one (ok_assign rfl rfl) rfl rfl rfl ?_
  refine Run.nil ?_
  refine T_seq ?_
  refine T_regionS ?_
  refine Run.one (ok_move rfl rfl) rfl rfl rfl ?_
  refine Run.nil ?_
  refine T_cond rfl rfl (fun h28 => ?_) (fun h28 => ?_)
  ·obtain rfl : m = true := h28
   refine T_seq ?_
   refine T_regionS ?_
   refine Run.one (ok_move rfl rfl) rfl rfl rfl ?_
   refine Run.one (ok_call rfl rfl parse_spec) rfl rfl rfl ?_
   refine Run.one (ok_move rfl rfl) rfl rfl rfl ?_
   iterate 2 refine Run.one (ok_extract rfl rfl rfl) rfl rfl rfl ?_
   iterate 2 refine Run.one (ok_assign rfl rfl) rfl rfl rfl ?_
   refine Run.nil ?_
   refine T_regionS ?_
   refine Run.one (ok_move rfl rfl) rfl rfl rfl ?_
   refine Run.one (ok_cmp rfl rfl rfl rfl) rfl rfl rfl ?_
   refine Run.nil ?_
   refine T_cond rfl rfl (fun h35 => ?_) (fun h35 => ?_)
   ·have k35 := bne_iff_ne.1 h35
    have hb2 := peD_ne k35
    refine T_regionS ?_
    refine Run.one (ok_call rfl rfl (qOf_spec (n := 0) (q := 0) (by decide) (by decide))) rfl rfl rfl ?_
    refine Run.store 1 rfl rfl rfl rfl rfl rfl rfl rfl rfl ?_
    iterate 2 refine Run.one (ok_assign rfl rfl) rfl rfl rfl ?_
    refine Run.nil ?_
    refine T_ret ?_
    exact ⟨_, [], .many (.cons (.agg 1 inferInstance rfl rfl rfl rfl) (.cons (.tmp rfl) (.cons (.tmp rfl) (.nil)))), List.nil_sublist _, by rw [hn3, numF_bad2 hb2]; rfl, rfl⟩
   ·have k35 := bne_eq_false_iff_eq.1 h35
    have hok2 := okD_of_pe k35
    refine T_skip ?_
    refine T_region ?_
    iterate 2 refine Run.one (ok_move rfl rfl) rfl rfl rfl ?_
    refine Run.one (ok_len_str rfl rfl) rfl rfl rfl ?_
    refine Run.one ((ok_max rfl rfl rfl).sub (int_eq (n := ((max tl.length b.length : Nat) : Int)) (by omega))) rfl rfl rfl ?_
    refine Run.one (ok_assign rfl rfl) rfl rfl rfl ?_
    refine Run.nil ?_
    refine T_regionS ?_
    refine Run.one (ok_load_own_agg 0 rfl rfl rfl rfl rfl) rfl rfl rfl ?_
    refine Run.one (ok_move rfl rfl) rfl rfl rfl ?_
    refine Run.one (ok_call rfl rfl (qnew_spec (by decide))) rfl rfl rfl ?_
    refine Run.one (ok_move rfl rfl) rfl rfl rfl ?_
    iterate 2 refine Run.one (ok_extract rfl rfl rfl) rfl rfl rfl ?_
    refine Run.store 1 rfl rfl rfl rfl rfl rfl rfl rfl rfl ?_
    refine Run.one (ok_assign rfl rfl) rfl rfl rfl ?_
    refine Run.nil ?_
    refine T_regionS ?_
    refine Run.one (ok_load_own_agg 1 rfl rfl rfl rfl rfl) rfl rfl rfl ?_
    iterate 2 refine Run.one (ok_move rfl rfl) rfl rfl rfl ?_
    refine Run.store 1 rfl rfl rfl rfl rfl rfl rfl rfl rfl ?_
    iterate 2 refine Run.one (ok_assign rfl rfl) rfl rfl rfl ?_
    refine Run.nil ?_
    refine T_ret ?_
    exact ⟨_, [], .many (.cons (.agg 1 inferInstance rfl rfl rfl rfl) (.cons (.tmp rfl) (.cons (.tmp rfl) (.nil)))), List.nil_sublist _, by rw [hn3, numF_two hok hok2, ← htl]; rfl, rfl⟩
  ·obtain rfl : m = false := h28
   refine T_skip ?_
   refine T_regionS ?_
   refine Run.one (ok_load_own_agg 0 rfl rfl rfl rfl rfl) rfl rfl rfl ?_
   refine Run.one (ok_move rfl rfl) rfl rfl rfl ?_
   refine Run.one (ok_call rfl rfl ((qnew_spec (d := [1]) (n := 1) (j := 1) (by decide)).args ⟨fun _ _ h => h, fun I v h => natLit (l := [1]) I v h, trivial⟩)) rfl rfl rfl ?_
   refine Run.one (ok_move rfl rfl) rfl rfl rfl ?_
   iterate 2 refine Run.one (ok_extract rfl rfl rfl) rfl rfl rfl ?_
   refine Run.store 1 rfl rfl rfl rfl rfl rfl rfl rfl rfl ?_
   refine Run.one (ok_assign rfl rfl) rfl rfl rfl ?_
   refine Run.nil ?_
   refine T_regionS ?_
   refine Run.one (ok_load_own_agg 1 rfl rfl rfl rfl rfl) rfl rfl rfl ?_
   iterate 2 refine Run.one (ok_move rfl rfl) rfl rfl rfl ?_
   refine Run.store 1 rfl rfl rfl rfl rfl rfl rfl rfl rfl ?_
   iterate 2 refine Run.one (ok_assign rfl rfl) rfl rfl rfl ?_
   refine Run.nil ?_
   refine T_ret ?_
   exact ⟨_, [], .many (.cons (.agg 1 inferInstance rfl rfl rfl rfl) (.cons (.tmp rfl) (.cons (.tmp rfl) (.nil)))), List.nil_sublist _, by rw [hn3, numF_one hok, ← htl]; rfl, rfl⟩
end Go.Proofs
