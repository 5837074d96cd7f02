/- straitlaw06: what the document says of four texts; the laws DigitsOrder, DigitsParts, on the facts. -/
import Derived.Test.YtendklcoeengaaaGreatDoorSsd
namespace Go.Proofs
open Go Go.Sv Num
variable {G : Imm}
theorem wk_parse : PSpec Tryz.prog G 31 [strS [48, 48, 55]] (tupS [natS [7], intS .i64 0]) := by
  have h := parse_spec (G := G) (l := [48, 48, 55])
  rw [show pvD [48, 48, 55] = 7 by decide, show peD [48, 48, 55] = 0 by decide, show dig 7 = [7] by rw [dig_pos (by decide), show 7 / 4294967296 = 0 from rfl, dig_zero]] at h
  exact h
theorem wk_int0 : PSpec Tryz.prog G 33 [strS [45, 48]] (tupS [aggS [boolS false, natS []], intS .i64 0]) := by
  have h := parseInt_spec (G := G) (l := [45, 48])
  rw [show Lib.trimPrefix [45, 48] [45] = [48] by decide, show pvD [48] = 0 by decide, show peD [48] = 0 by decide, show (Lib.hasPrefix [45, 48] [45] && decide (0 < 0)) = false by decide, dig_zero] at h
  exact h
theorem wk_int1 : PSpec Tryz.prog G 33 [strS [43, 49]] (tupS [aggS [boolS false, natS []], intS .i64 60]) := by
  have h := parseInt_spec (G := G) (l := [43, 49])
  rw [show Lib.trimPrefix [43, 49] [45] = [43, 49] by decide, show pvD [43, 49] = 0 by decide, show peD [43, 49] = 60 by decide, show (Lib.hasPrefix [43, 49] [45] && decide (0 < 0)) = false by decide, dig_zero] at h
  exact h
instance isNat_bas : IsNat [0, 1] 4294967296 := ⟨lim_cons (by decide) (lim_cons (by decide) lim_nil), rfl⟩
instance sz_bas : Sz [0, 1] 2 := ⟨by decide⟩
theorem wk_text [Tab10 G] : PSpec Tryz.prog G 37 [slS 1 id [u32S 0, u32S 1]] (strS [52, 50, 57, 52, 57, 54, 55, 50, 57, 54]) := by
  have h := (text_spec (G := G) (l := [0, 1]) (k := 2) (by decide)).args (args' := [slS 1 id [u32S 0, u32S 1]]) ⟨fun I v h => natLit (l := [0, 1]) I v h, trivial⟩
  rw [show dec 4294967296 = [52, 50, 57, 52, 57, 54, 55, 50, 57, 54] by rw [show (4294967296 : Nat) = valD [52, 50, 57, 52, 57, 54, 55, 50, 57, 54] by decide]; exact dec_valD (by decide)] at h
  exact h
theorem tri_nat {m n : Nat} : (tri m n < 0 ↔ m < n) ∧ (tri m n = 0 ↔ m = n) := by
  unfold tri
  split <;> (try split) <;> constructor <;> constructor <;> intro h <;> first | omega | (exfalso; omega) | decide | rfl
theorem sz_of {l : List Nat} {k : Nat} (h : l.length ≤ k) : Sz l k := ⟨h⟩
theorem val_bd {l : List Nat} {k : Nat} (h : Lim l) (hk : l.length ≤ k) : Bd (val l) k := ⟨Nat.lt_of_lt_of_le (val_lt h) (Nat.pow_le_pow_right (by decide) hk)⟩
theorem get_dec {n : Nat} (h : n ≠ 0) : ∃ c, (dec n)[0]? = some c ∧ c ≠ 48 := by
  obtain ⟨c, r, h1, h2⟩ := dec_head h
  exact ⟨c, by show (Lib.decDigits n)[0]? = _; rw [h1]; rfl, h2⟩
theorem u8_ne {c : UInt8} (h : c ≠ 48) : ((c.toNat : Nat) : Int) ≠ 48 := fun e => h (UInt8.toNat_inj.1 (show c.toNat = (48 : UInt8).toNat by show c.toNat = 48; omega))
theorem parse_parts {m k : Nat} (hm : Lib.nDigits m ≤ 57) (hk : k < 1000) : PSpec Tryz.prog G 31 [strS (dec m ++ pd 3 k)] (tupS [natS (dig (m * 1000 + k)), intS .i64 0]) := by
  have h := parse_spec (G := G) (l := dec m ++ pd 3 k)
  have ho := peD_ok (l := dec m ++ pd 3 k) (okD_of (fun h => dec_ne m (List.append_eq_nil_iff.1 h).1) (by rw [List.length_append, dec_len, pd_length]; omega) (by rw [List.all_append, dec_all, all_pd]; rfl))
  rw [ho.1, ho.2, valD_append, valD_dec, pd_length, valD_pd 3 k hk] at h
  exact h
theorem wakes6_spec [Tab10 G] : PSpec Tryz.prog G 30 [] (boolS true) := by
  refine fn_spec Tryz.func30 rfl rfl rfl ?_
  refine T_regionS ?_
  refine Run.one (ok_assign rfl rfl) rfl rfl rfl ?_
  refine Run.nil ?_
  refine T_regionS ?_
  refine Run.one (ok_call rfl rfl wk_parse) rfl rfl rfl ?_
  refine Run.one (ok_move rfl rfl) rfl rfl rfl ?_
  refine Run.one (ok_extract rfl rfl rfl) rfl rfl rfl ?_
  refine Run.one (ok_extract rfl rfl rfl) rfl rfl rfl ?_
  refine Run.one (ok_assign rfl rfl) rfl rfl rfl ?_
  refine Run.one (ok_assign rfl rfl) rfl rfl rfl ?_
  refine Run.nil ?_
  refine T_regionS ?_
  refine Run.one (ok_call rfl rfl wk_int0) rfl rfl rfl ?_
  refine Run.one (ok_move rfl rfl) rfl rfl rfl ?_
  refine Run.one (ok_extract rfl rfl rfl) rfl rfl rfl ?_
  refine Run.one (ok_extract rfl rfl rfl) rfl rfl rfl ?_
  refine Run.alloc rfl rfl rfl rfl rfl fun b3 => ?_
  refine Run.store 0 rfl rfl rfl rfl rfl rfl rfl rfl rfl ?_
  refine Run.one (ok_assign rfl rfl) rfl rfl rfl ?_
  refine Run.nil ?_
  refine T_regionS ?_
  refine Run.one (ok_call rfl rfl wk_int1) rfl rfl rfl ?_
  refine Run.one (ok_move rfl rfl) rfl rfl rfl ?_
  refine Run.one (ok_extract rfl rfl rfl) rfl rfl rfl ?_
  refine Run.one (ok_extract rfl rfl rfl) rfl rfl rfl ?_
  refine Run.alloc rfl rfl rfl rfl rfl fun b5 => ?_
  refine Run.store 0 rfl rfl rfl rfl rfl rfl rfl rfl rfl ?_
  refine Run.one (ok_assign rfl rfl) rfl rfl rfl ?_
  refine Run.nil ?_
  refine T_regionS ?_
  refine Run.one (ok_buildSlice rfl rfl (by decide) rfl (by simp) rfl rfl) rfl rfl rfl ?_
  refine Run.one (ok_call rfl rfl wk_text) rfl rfl rfl ?_
  refine Run.one ((ok_cmp_str rfl rfl rfl rfl).sub (bool_eq (c := true) (rfl))) rfl rfl rfl ?_
  refine Run.one (ok_move rfl rfl) rfl rfl rfl ?_
  refine Run.one (ok_move rfl rfl) (gB rfl rfl rfl rfl) rfl rfl ?_
  refine Run.one ((ok_cmp rfl rfl rfl rfl).sub (bool_eq (c := true) (rfl))) (gB rfl rfl rfl rfl) rfl rfl ?_
  refine Run.one (ok_pick rfl rfl rfl) rfl rfl rfl ?_
  refine Run.one (ok_move rfl rfl) rfl rfl rfl ?_
  refine Run.one (ok_move rfl rfl) (gB rfl rfl rfl rfl) rfl rfl ?_
  refine Run.one (ok_len rfl rfl) (gB rfl rfl rfl rfl) rfl rfl ?_
  refine Run.one ((ok_cmp rfl rfl rfl rfl).sub (bool_eq (c := true) (rfl))) (gB rfl rfl rfl rfl) rfl rfl ?_
  refine Run.one (ok_pick rfl rfl rfl) rfl rfl rfl ?_
  refine Run.one (ok_move rfl rfl) rfl rfl rfl ?_
  refine Run.one (ok_move rfl rfl) (gB rfl rfl rfl rfl) rfl rfl ?_
  refine Run.one (ok_indexAddr rfl rfl rfl (by omega) (y := (7 : Nat)) (rfl)) (gB rfl rfl rfl rfl) rfl rfl ?_
  refine Run.one (ok_load rfl rfl) (gB rfl rfl rfl rfl) rfl rfl ?_
  refine Run.one ((ok_cmp rfl rfl rfl rfl).sub (bool_eq (c := true) (rfl))) (gB rfl rfl rfl rfl) rfl rfl ?_
  refine Run.one (ok_pick rfl rfl rfl) rfl rfl rfl ?_
  refine Run.one (ok_move rfl rfl) rfl rfl rfl ?_
  refine Run.one (ok_move rfl rfl) (gB rfl rfl rfl rfl) rfl rfl ?_
  refine Run.one ((ok_cmp rfl rfl rfl rfl).sub (bool_eq (c := true) (rfl))) (gB rfl rfl rfl rfl) rfl rfl ?_
  refine Run.one (ok_pick rfl rfl rfl) rfl rfl rfl ?_
  refine Run.one (ok_move rfl rfl) rfl rfl rfl ?_
  refine Run.one (ok_fieldAddr_eq rfl rfl rfl) (gB rfl rfl rfl rfl) rfl rfl ?_
  refine Run.one (ok_load_own 1 rfl rfl rfl rfl) (gB rfl rfl rfl rfl) rfl rfl ?_
  refine Run.one (ok_len rfl rfl) (gB rfl rfl rfl rfl) rfl rfl ?_
  refine Run.one ((ok_cmp rfl rfl rfl rfl).sub (bool_eq (c := true) (rfl))) (gB rfl rfl rfl rfl) rfl rfl ?_
  refine Run.one (ok_pick rfl rfl rfl) rfl rfl rfl ?_
  refine Run.one (ok_move rfl rfl) rfl rfl rfl ?_
  refine Run.one (ok_fieldAddr_eq rfl rfl rfl) (gB rfl rfl rfl rfl) rfl rfl ?_
  refine Run.one (ok_load_own 1 rfl rfl rfl rfl) (gB rfl rfl rfl rfl) rfl rfl ?_
  refine Run.one (ok_not rfl rfl) (gB rfl rfl rfl rfl) rfl rfl ?_
  refine Run.one (ok_pick rfl rfl rfl) rfl rfl rfl ?_
  refine Run.one (ok_move rfl rfl) rfl rfl rfl ?_
  refine Run.one (ok_move rfl rfl) (gB rfl rfl rfl rfl) rfl rfl ?_
  refine Run.one ((ok_cmp rfl rfl rfl rfl).sub (bool_eq (c := true) (rfl))) (gB rfl rfl rfl rfl) rfl rfl ?_
  refine Run.one (ok_pick rfl rfl rfl) rfl rfl rfl ?_
  refine Run.one (ok_assign rfl rfl) rfl rfl rfl ?_
  refine Run.nil ?_
  refine T_ret ?_
  exact ⟨_, [], .one (.tmp rfl), List.nil_sublist _, rfl, rfl⟩
end Go.Proofs
