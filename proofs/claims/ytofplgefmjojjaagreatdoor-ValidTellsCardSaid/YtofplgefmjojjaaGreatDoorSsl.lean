/- line, straitref11: lines and words. -/
import Derived.Test.YtofplgefmjojjaaGreatDoorSsh
namespace Num
open Go Go.Lib
def ful (ws : List (List UInt8)) : Bool := ws.all fun w => !w.isEmpty
theorem ful_take {ws : List (List UInt8)} {k : Nat} {w : List UInt8} (h : ws[k]? = some w) (hf : ful (ws.take k) = true) (hw : w ≠ []) : ful (ws.take (k + 1)) = true := by
 unfold ful at hf ⊢
 rw [List.take_add_one, h, List.all_append, hf]
 cases w with
 | nil => exact absurd rfl hw
 | cons x r => rfl
theorem ful_bad {ws : List (List UInt8)} {k : Nat} (h : ws[k]? = some []) : ful ws = false := List.all_eq_false.2 ⟨[], List.mem_of_getElem? h, by decide⟩
theorem spl_step {c : UInt8} {s : List UInt8} {f i : Nat} (hf : f ≤ i) (hi : i < s.length) (hn : ∀ j, f ≤ j → j < i → s[j]? ≠ some c) (h : s[i]? = some c) : spl c (s.drop f) = (s.take i).drop f :: spl c (s.drop (i + 1)) := by
 have h1 : s.drop f = (s.take i).drop f ++ c :: s.drop (i + 1) := by
  rw [← List.take_append_drop i s, List.drop_append_of_le_length (by rw [List.length_take]; omega), List.take_append_of_le_length (by rw [List.length_take]; omega), List.take_take, Nat.min_self]
  congr 1
  rw [List.drop_eq_getElem_cons hi]
  rw [List.getElem?_eq_getElem hi] at h
  rw [Option.some.inj h, List.drop_append, List.drop_of_length_le (show (s.take i).length ≤ i + 1 by rw [List.length_take]; omega), List.length_take, show i + 1 - min i s.length = 1 by omega]
  rfl
 rw [h1]
 refine spl_app _ fun x hx => ?_
 obtain ⟨j, hj⟩ := List.getElem?_of_mem hx
 rw [List.getElem?_drop, List.getElem?_take] at hj
 split at hj
 ·rename_i hlt
  intro e
  exact hn (f + j) (by omega) hlt (by rw [hj, e])
 ·cases hj
theorem spl_end {c : UInt8} {s : List UInt8} {f : Nat} (hn : ∀ j, f ≤ j → j < s.length → s[j]? ≠ some c) : spl c (s.drop f) = [s.drop f] := by
 refine spl_none fun x hx => ?_
 obtain ⟨j, hj⟩ := List.getElem?_of_mem hx
 rw [List.getElem?_drop] at hj
 intro e
 exact hn (f + j) (by omega) (by have := (List.getElem?_eq_some_iff.1 hj).1; exact this) (by rw [hj, e])
theorem spl_len (c : UInt8) (s : List UInt8) : (spl c s).length ≤ s.length + 1 := by
  induction s with
  | nil => simp [spl]
  | cons x r ih =>
    unfold spl
    split
    · simpa using ih
    · split
      · simp
      · rename_i h; rw [h] at ih; simp at ih ⊢; omega
theorem cut_cases (c : UInt8) (r : List UInt8) : ∃ p r2 m, cut r [c] = (p, r2, m) ∧ (m = false ∧ spl c r = [p] ∨ m = true ∧ spl c r = p :: spl c r2 ∧ r2.length < r.length) := by
 rcases spl_cases c r with h | ⟨p, q, rfl, h⟩
 ·exact ⟨_, _, _, cut_none h, .inl ⟨rfl, spl_none h⟩⟩
 ·exact ⟨_, _, _, cut_app q h, .inr ⟨rfl, spl_app q h, by simp; omega⟩⟩
theorem tw_all {ws : List (List UInt8)} (h : ful ws = true) : (ws.takeWhile fun w => !w.isEmpty) = ws := by
  induction ws with
  | nil => rfl
  | cons w ws ih =>
    have h1 : (!w.isEmpty) = true ∧ ful ws = true := by unfold ful at h ⊢; rw [List.all_cons, Bool.and_eq_true] at h; exact h
    rw [List.takeWhile_cons, if_pos h1.1, ih h1.2]
theorem tw_bad {ws : List (List UInt8)} {k : Nat} (h : ws[k]? = some []) (hf : ful (ws.take k) = true) : (ws.takeWhile fun w => !w.isEmpty) = ws.take k := by
 obtain ⟨hk, he⟩ := List.getElem?_eq_some_iff.1 h
 have h1 : ws = ws.take k ++ [] :: ws.drop (k + 1) := by
  rw [← he, ← List.drop_eq_getElem_cons hk, List.take_append_drop]
 have h2 := tw_all hf
 generalize ws.take k = v at h1 h2 hf
 rw [h1, List.takeWhile_append_of_pos fun w hw => List.all_eq_true.1 hf w hw]
 simp
theorem tw_len (ws : List (List UInt8)) : (ws.takeWhile fun w => !w.isEmpty).length ≤ ws.length := (List.takeWhile_sublist _).length_le
theorem ts_len (s : List UInt8) (c : UInt8) : (trimSuffix s [c]).length ≤ s.length := by
 unfold trimSuffix
 split
 ·rw [List.length_take]; omega
 ·exact Nat.le_refl _
def lnOk (s : List UInt8) : Bool := hasSuffix s [10] && ful (spl 10 (trimSuffix s [10]))
theorem suffix_cases (s : List UInt8) (c : UInt8) : (∃ r, s = r ++ [c] ∧ hasSuffix s [c] = true ∧ trimSuffix s [c] = r) ∨ (hasSuffix s [c] = false ∧ trimSuffix s [c] = s ∧ s.getLast? ≠ some c) := by
 rcases nil_or_snoc s with rfl | ⟨r, d, rfl⟩
 ·exact .inr ⟨rfl, rfl, by simp⟩
 ·by_cases h : d = c
  ·subst h
   have : hasSuffix (r ++ [d]) [d] = true := by simp [hasSuffix]
   exact .inl ⟨r, rfl, this, by unfold trimSuffix; rw [this]; simp⟩
  ·have : hasSuffix (r ++ [d]) [c] = false := by
    simp only [hasSuffix, ← Bool.not_eq_true, List.isSuffixOf_iff_suffix]
    rintro ⟨t, ht⟩
    have := List.append_inj_right' ht rfl
    exact h (by simpa using this.symm)
   exact .inr ⟨this, by unfold trimSuffix; rw [this]; rfl, by simpa using h⟩
theorem lines_same {s : List UInt8} (hs : s ≠ []) : ((spl 10 s).getLast? = some [] ∧ ful (spl 10 s).dropLast = true ↔ lnOk s = true) ∧ (lnOk s = true → (spl 10 s).dropLast = spl 10 (trimSuffix s [10])) := by
 unfold lnOk
 rcases suffix_cases s 10 with ⟨r, rfl, h1, h2⟩ | ⟨h1, h2, h3⟩
 ·rw [h1, h2, spl_snoc]; simp
 ·rw [h1, h2]
  rcases nil_or_snoc s with rfl | ⟨r, d, rfl⟩
  ·exact absurd rfl hs
  ·have hd : d ≠ 10 := by simpa using h3
   have := spl_last hd r
   simp [this]
end Num
namespace Go.Proofs
open Go Go.Sv Num
variable {G : Imm}
theorem tX_len {ws : List (List UInt8)} {ss : List SV} (h : ss ∈ ws.map tC) : ss.length = 1 := by
 obtain ⟨w, _, rfl⟩ := List.mem_map.1 h
 rfl
theorem tX_inv {ws : List (List UInt8)} {k : Nat} {ss : List SV} (h : (ws.map tC)[k]? = some ss) : ∃ w, ws[k]? = some w ∧ ss = [strS w] := by
 rw [List.getElem?_map, Option.map_eq_some_iff] at h
 obtain ⟨w, h1, rfl⟩ := h
 exact ⟨w, h1, rfl⟩
theorem nil_tx {l : List (List UInt8)} (h : l = []) (I : Imm) (v : Value) (hv : (eqS (.slice none 0 0)).den I v) : (slS 1 tC l).den I v := by rw [show v = .slice none 0 0 from hv, h]; exact nil_sl
theorem rcut_spec {s : List UInt8} {c : UInt8} (hs : s.length ≤ 1000000000) : PSpec Tryz.prog G 123 [strS s, intS .u8 (c.toNat : Nat)] (slS 1 tC (spl c s)) := by
 refine zs Tryz.func123 ?_;refine zr ?_;refine zz ?_;refine zx ?_;refine zz ?_;refine zx ?_;refine zz ?_;refine zzn ?_;refine T_seq ?_;refine zr ?_;refine zz ?_;refine zzn ?_;refine T_block ?_;refine T_ghost (ghost_row 9 1) ?_
 refine T_loop4 (fun (i f : Nat) (out : List (List UInt8)) (q : Option (Nat × Nat)) => ⟨_, [(7, intS .i64 (i : Nat)), (6, intS .i64 (f : Nat)), (5, eqS (rowV q out.length)), (1, intS .u8 (c.toNat : Nat)), (0, strS s)], [rowE q 9 1 out.length (out.flatMap tC)], [], (0, false)⟩) (fun i f out q => i ≤ s.length ∧ f ≤ i ∧ out.length ≤ i ∧ rowOk q out.length ∧ spl c s = out ++ spl c (s.drop f) ∧ ∀ j, f ≤ j → j < i → s[j]? ≠ some c) (fun i f out q => s.length - i) 0 0 [] none ⟨Nat.zero_le _, Nat.le_refl _, Nat.le_refl _, rfl, rfl, fun j h1 h2 => by omega⟩ (ent_h zk rfl) ?_
 rintro i f out q ⟨hi, hf, hol, hq, hsp, hn⟩
 refine T_seq ?_;refine zr ?_;(iterate 2 refine zz ?_);refine zo (ok_len_str rfl rfl) ?_;refine zz ?_;refine zzn ?_;refine zzc (fun h11 => ?_) fun h11 => ?_
 ·have k11 := of_decide_eq_true h11
  have hil : i < s.length := by omega
  have hg : s[i]? = some s[i] := List.getElem?_eq_getElem hil
  refine T_skip ?_;refine T_seq ?_;refine T_block ?_;refine zr ?_;(iterate 2 refine zz ?_);refine zo (ok_index_str rfl rfl rfl (by omega) (c := s[i]) hg) ?_;(iterate 2 refine zz ?_);refine zzn ?_;refine zzc (fun h18 => ?_) fun h18 => ?_
  ·have k18 := beq_iff_eq.1 h18
   have hc : s[i]? = some c := by rw [hg]; exact congrArg some (UInt8.toNat_inj.1 (by have := k18; omega))
   have hst := spl_step hf hil hn hc
   refine zr ?_;(iterate 4 refine zz ?_);refine zo (ok_slice_str (lo := f) (hi := i) rfl rfl (.inr ⟨_, _, rfl, rfl⟩) (.inr ⟨_, _, rfl, rfl⟩) hf hi) ?_;refine zo (ok_buildSlice rfl rfl (by decide) rfl (by simp) rfl rfl) ?_;refine Run.append 0 rfl rfl rfl rfl rfl rfl rfl rfl hq (by rw [flat_tC, Nat.mul_one]) (fun z hz => by rw [List.mem_singleton.1 hz]; rfl) (by unfold big; simp; omega) (by unfold big; simp; omega) fun q25 hq25 => ?_;refine zz ?_;refine zzn ?_;refine T_region ?_;refine zz ?_;refine za ((i + 1 : Nat) : Int) ?_;refine zz ?_;refine zzn ?_;refine T_region ?_;refine zz ?_;refine za ((i + 1 : Nat) : Int) ?_;refine zz ?_;refine zzn ?_
   exact ⟨i + 1, i + 1, out ++ [(s.take i).drop f], q25, ⟨by omega, Nat.le_refl _, by simp; omega, by rw [List.length_append]; exact hq25, by rw [hsp, hst]; simp, fun j h1 h2 => by omega⟩, by omega, ent_h (subG_cons rfl (subG_cons rfl (subG_as rfl (by rw [List.length_append]; rfl) (subG_cons rfl (subG_cons rfl (trivial)))))) (by rw [List.length_append, List.flatMap_append]; rfl)⟩
  ·have k18 := beq_eq_false_iff_ne.1 h18
   have hc : s[i]? ≠ some c := fun e => by rw [hg] at e; exact k18 (by rw [Option.some.inj e])
   refine T_skip ?_;refine T_region ?_;refine zz ?_;refine za ((i + 1 : Nat) : Int) ?_;refine zz ?_;refine zzn ?_
   exact ⟨i + 1, f, out, q, ⟨by omega, by omega, by omega, hq, hsp, fun j h1 h2 => by rcases Nat.lt_or_ge j i with h | h; exact hn j h1 h; rw [show j = i by omega]; exact hc⟩, by omega, ent_h (subG_cons rfl (subG_cons rfl (subG_cons rfl (subG_cons rfl (subG_cons rfl (trivial)))))) rfl⟩
 ·have k11 := of_decide_eq_false h11
  obtain rfl : i = s.length := by omega
  have hen := spl_end hn
  refine T_exit ?_;refine zr ?_;(iterate 3 refine zz ?_);refine zo ((ok_slice_str (lo := f) (hi := s.length) rfl rfl (.inr ⟨_, _, rfl, rfl⟩) (.inl ⟨rfl, rfl⟩) hf (Nat.le_refl _)).sub (str_eq (m := s.drop f) (by rw [List.take_length]))) ?_;refine zo (ok_buildSlice rfl rfl (by decide) rfl (by simp) rfl rfl) ?_;refine Run.append 0 rfl rfl rfl rfl rfl rfl rfl rfl hq (by rw [flat_tC, Nat.mul_one]) (fun z hz => by rw [List.mem_singleton.1 hz]; rfl) (by unfold big; simp; omega) (by unfold big; simp; omega) fun q33 hq33 => ?_;refine Run.ghost _ rfl (ghost_sl 0 33 rfl rfl hq33 (l := out ++ [s.drop f]) (f := tC) (by simp) (by rw [List.flatMap_append]; rfl) (fun _ _ => rfl) (by unfold big; simp; omega)) ?_;refine Run.ghost _ rfl (ghost_drop (List.nil_sublist _)) ?_;refine zz ?_;refine zzn ?_;refine T_ret ?_
  exact ⟨_, [], .one (.tmp rfl), List.nil_sublist _, by rw [hsp, hen], rfl⟩
theorem rfull_spec {ws : List (List UInt8)} : PSpec Tryz.prog G 124 [slS 1 tC ws] (boolS (ful ws)) := by
 refine zs Tryz.func124 ?_;refine T_len 0 rfl fun ha => ?_
 unfold big at ha
 refine zr ?_;refine zz ?_;refine zzn ?_;refine T_seq ?_;refine zr ?_;refine zz ?_;refine zzn ?_;refine T_block ?_;refine T_loop (γ := Nat) (fun g => ⟨_, [(3, intS .i64 g), (0, slS 1 tC ws)], [], [], (0, false)⟩) (fun g => g ≤ ws.length ∧ ful (ws.take g) = true) (fun g => ws.length - g) 0 ⟨Nat.zero_le _, rfl⟩ (ent_g zk) ?_
 rintro g ⟨hg, hz⟩
 refine T_seq ?_;refine zr ?_;(iterate 4 refine zz ?_);refine zzn ?_;refine zzc (fun h7 => ?_) fun h7 => ?_
 ·have k7 := of_decide_eq_true h7
  obtain ⟨w, hw⟩ : ∃ w, ws[g]? = some w := ⟨_, List.getElem?_eq_getElem (by omega)⟩
  refine T_skip ?_;refine T_seq ?_;refine T_block ?_;refine zr ?_;(iterate 2 refine zz ?_);refine zo (ok_indexAddr rfl rfl rfl (by omega) (y := w) (hw)) ?_;refine zz ?_;refine zo (ok_cmp_str rfl rfl rfl rfl) ?_;refine zzn ?_;refine zzc (fun h14 => ?_) fun h14 => ?_
  ·have hwe : w = [] := by simpa using h14
   rw [hwe] at hw
   refine zr ?_;refine zz ?_;refine zzn ?_;refine T_ret ?_
   exact ⟨_, [], .one (.tmp rfl), List.nil_sublist _, by rw [ful_bad hw], rfl⟩
  ·have hwe : w ≠ [] := by simpa using h14
   refine T_skip ?_;refine T_region ?_;refine zz ?_;refine za ((g + 1 : Nat) : Int) ?_;refine zz ?_;refine zzn ?_
   exact ⟨g + 1, ⟨by omega, ful_take hw hz hwe⟩, by omega, ent_g zk⟩
 ·have k7 := of_decide_eq_false h7
  obtain rfl : g = ws.length := by omega
  rw [List.take_length] at hz
  refine T_exit ?_;refine zr ?_;refine zz ?_;refine zzn ?_;refine T_ret ?_
  exact ⟨_, [], .one (.tmp rfl), List.nil_sublist _, by rw [hz], rfl⟩
theorem rwords_spec {s : List UInt8} (hs : s.length ≤ 1000000000) : PSpec Tryz.prog G 125 [strS s] (tupS [slS 1 tC (if ful (spl 32 s) then spl 32 s else []), intS .i64 (if ful (spl 32 s) then 0 else 110)]) := by
 refine zs Tryz.func125 ?_;refine zr ?_;(iterate 2 refine zz ?_);refine zx ?_;refine zz ?_;refine zf (rcut_spec (c := 32) hs) ?_;refine zz ?_;refine zzn ?_;refine T_seq ?_;refine zr ?_;refine zz ?_;refine zf rfull_spec ?_;refine zz ?_;refine zzn ?_;refine zzc (fun h9 => ?_) fun h9 => ?_
 ·have hf : ful (spl 32 s) = false := by simpa using h9
  refine zr ?_;refine zo ((ok_assign rfl rfl).sub (nil_tx (l := if ful (spl 32 s) then spl 32 s else []) (by rw [hf]; rfl))) ?_;refine zz ?_;refine zzn ?_;refine T_ret ?_
  exact ⟨_, [], .many (.cons (.tmp rfl) (.cons (.tmp rfl) (.nil))), List.nil_sublist _, by rw [hf]; rfl, rfl⟩
 ·have hf : ful (spl 32 s) = true := by simpa using h9
  refine T_skip ?_;refine zr ?_;(iterate 3 refine zz ?_);refine zzn ?_;refine T_ret ?_
  exact ⟨_, [], .many (.cons (.tmp rfl) (.cons (.tmp rfl) (.nil))), List.nil_sublist _, by rw [hf]; rfl, rfl⟩
theorem rlines_spec {s : List UInt8} (hs : s.length ≤ 1000000000) : PSpec Tryz.prog G 82 [strS s] (tupS [slS 1 tC (if lnOk s then spl 10 (Lib.trimSuffix s [10]) else []), intS .i64 (if s = [] ∨ lnOk s = true then 0 else 110)]) := by
 refine zs Tryz.func82 ?_;refine zr ?_;(iterate 2 refine zz ?_);refine zzn ?_;refine T_seq ?_;refine zr ?_;refine zz ?_;refine zo (ok_cmp_str rfl rfl rfl rfl) ?_;refine zzn ?_;refine zzc (fun h6 => ?_) fun h6 => ?_
 ·have hs0 : s = [] := by simpa using h6
  refine zr ?_;refine zo ((ok_assign rfl rfl).sub (nil_tx (l := if lnOk s then spl 10 (Lib.trimSuffix s [10]) else []) (by rw [hs0]; rfl))) ?_;refine zz ?_;refine zzn ?_;refine T_ret ?_
  exact ⟨_, [], .many (.cons (.tmp rfl) (.cons (.tmp rfl) (.nil))), List.nil_sublist _, by rw [if_pos (Or.inl hs0)], rfl⟩
 ·have hs0 : s ≠ [] := by simpa using h6
  refine T_skip ?_;refine zr ?_;refine zz ?_;refine zf (rcut_spec (c := 10) hs) ?_;refine zz ?_
  obtain ⟨ls, hls⟩ : ∃ ls, ls = spl 10 s := ⟨_, rfl⟩
  have hne := spl_ne 10 s
  have hll := spl_len 10 s
  obtain ⟨hsame, hdl⟩ := lines_same hs0
  rw [← hls, List.dropLast_eq_take] at hsame hdl
  rw [← hls] at hne hll ⊢
  have hlp : 0 < ls.length := List.length_pos_iff.2 hne
  have hgl : ls[ls.length - 1]? = ls.getLast? := (List.getLast?_eq_getElem?).symm
  obtain ⟨z, hz⟩ : ∃ z, ls.getLast? = some z := ⟨_, List.getLast?_eq_some_getLast hne⟩
  rw [hz] at hgl hsame
  refine zzn ?_;refine T_seq ?_;refine zr ?_;(iterate 3 refine zz ?_);refine za ((ls.length - 1 : Nat) : Int) ?_;refine zo (ok_indexAddr rfl rfl rfl (by omega) (y := z) (hgl)) ?_;refine zz ?_
  refine Run.oneB (ok_cmp_str rfl rfl rfl rfl) rfl rfl rfl (fun h4_6 => ?_) (fun h4_6 => ?_)
  ·have hz0 : z ≠ [] := by simpa using h4_6
   have hbad : lnOk s = false := by cases e : lnOk s; rfl; exact absurd (Option.some.inj (hsame.2 e).1) hz0
   refine zz ?_;(iterate 7 refine zq ?_);refine zz ?_;refine zzn ?_;refine T_condT rfl rfl ?_;refine zr ?_;refine zo ((ok_assign rfl rfl).sub (nil_tx (l := if lnOk s then spl 10 (Lib.trimSuffix s [10]) else []) (by rw [hbad]; rfl))) ?_;refine zz ?_;refine zzn ?_;refine T_ret ?_
   exact ⟨_, [], .many (.cons (.tmp rfl) (.cons (.tmp rfl) (.nil))), List.nil_sublist _, by rw [if_neg (show ¬ (s = [] ∨ lnOk s = true) by rw [hbad]; simp [hs0])], rfl⟩
  ·have hz0 : z = [] := by simpa using h4_6
   (iterate 4 refine zz ?_);refine za ((ls.length - 1 : Nat) : Int) ?_;refine zo ((ok_slice (lo := 0) (hi := ls.length - 1) (m := ls.length - 1) rfl rfl (.inl ⟨rfl, rfl⟩) (.inr ⟨_, _, rfl, rfl⟩) (.inl rfl) (by omega) (by omega))) ?_;refine zf (rfull_spec (ws := ls.take (ls.length - 1))) ?_;(iterate 2 refine zz ?_);refine zzn ?_;refine zzc (fun h24 => ?_) fun h24 => ?_
   ·have hbad : lnOk s = false := by cases e : lnOk s; rfl; exact absurd (hsame.2 e).2 (by simpa using h24)
    refine zr ?_;refine zo ((ok_assign rfl rfl).sub (nil_tx (l := if lnOk s then spl 10 (Lib.trimSuffix s [10]) else []) (by rw [hbad]; rfl))) ?_;refine zz ?_;refine zzn ?_;refine T_ret ?_
    exact ⟨_, [], .many (.cons (.tmp rfl) (.cons (.tmp rfl) (.nil))), List.nil_sublist _, by rw [if_neg (show ¬ (s = [] ∨ lnOk s = true) by rw [hbad]; simp [hs0])], rfl⟩
   ·have hok : lnOk s = true := hsame.1 ⟨by rw [hz0], by simpa using h24⟩
    have hdl := hdl hok
    refine T_skip ?_;refine zr ?_;(iterate 3 refine zz ?_);refine za ((ls.length - 1 : Nat) : Int) ?_;refine zo ((ok_slice (lo := 0) (hi := ls.length - 1) (m := ls.length - 1) rfl rfl (.inl ⟨rfl, rfl⟩) (.inr ⟨_, _, rfl, rfl⟩) (.inl rfl) (by omega) (by omega))) ?_;(iterate 2 refine zz ?_);refine zzn ?_;refine T_ret ?_
    exact ⟨_, [], .many (.cons (.tmp rfl) (.cons (.tmp rfl) (.nil))), List.nil_sublist _, by rw [if_pos hok, if_pos (Or.inr hok), ← hdl]; rfl, rfl⟩
theorem pieces1_spec [MaxLen G] {s : List UInt8} {c : UInt8} {b : Nat} (hs : s.length ≤ 1000000000) : IterSpecH Tryz.prog G 198 [eqS (.pointer (some ⟨b, 0, none⟩)), ptrS [strS [c]]] ((spl c s).map tC) [⟨some b, 9, [strS s], 0⟩] (fun _ H' => H' = []) := by
  refine iter_specH Tryz.func198 rfl rfl rfl rfl fun l0 E hy => ?_;refine T_block ?_;refine T_loop2 (fun k r => ⟨_, [(0, yieldS l0), (1, eqS (.pointer (some ⟨b, 0, none⟩))), (2, ptrS [strS [c]])], [⟨some b, 9, [strS r], 0⟩], [], (k, false)⟩) (fun k r => (spl c s).drop k = spl c r ∧ r.length ≤ s.length) (fun _ r => r.length) 0 s ⟨List.drop_zero, Nat.le_refl _⟩ (ent_g zk) ?_
  rintro k r ⟨hdr, hrl⟩
  obtain ⟨p, r2, m, hcut, hm⟩ := cut_cases c r
  have hcs := cut_spec (G := G) (l := r) (m := [c]) (by omega)
  rw [hcut] at hcs
  have hk : (spl c s)[k]? = some p := by rw [← List.head?_drop, hdr]; rcases hm with ⟨_, h⟩ | ⟨_, h, _⟩ <;> rw [h] <;> rfl
  refine T_block ?_;refine zr ?_;(iterate 2 refine zz ?_);refine zf hcs ?_;(iterate 7 refine zz ?_);refine zzn ?_;refine T_seq ?_;refine zr ?_;(iterate 2 refine zz ?_);refine Run.yield rfl hy rfl rfl rfl (show ((spl c s).map tC)[k]? = some [strS p] by rw [List.getElem?_map, hk]; rfl) (subL_refl _) rfl rfl rfl fun y => ?_
  refine Run.oneB (ok_not rfl rfl) rfl rfl rfl (fun h1_3 => ?_) (fun h1_3 => ?_)
  · refine zz ?_;(iterate 2 refine zq ?_);refine zz ?_;refine zzn ?_;refine T_condT rfl rfl ?_;refine T_ret ?_
    exact ⟨.inl rfl, [], List.nil_sublist _, rfl, .inr (by simpa using h1_3)⟩
  · refine zz ?_;(iterate 3 refine zz ?_);refine zzn ?_;refine zzc (fun h21 => ?_) fun h21 => ?_
    · refine T_ret ?_
      exact ⟨.inl rfl, [], List.nil_sublist _, rfl, .inl (by have h1 := hm.resolve_right fun h => by rw [h.1] at h21; simp at h21
                                                             rw [h1.2] at hdr; have h2 := congrArg List.length hdr; rw [List.length_drop] at h2; simp only [List.length_map, List.length_singleton] at h2 ⊢; rw [show y = true by simpa using h1_3, show k + 1 = (spl c s).length by omega]; rfl)⟩
    · refine T_skip ?_;refine T_region ?_;refine zz ?_;refine zw ?_;refine zzn ?_
      have h1 := hm.resolve_left fun h => by rw [h.1] at h21; simp at h21
      exact ⟨k + 1, r2, ⟨by rw [← List.drop_drop, hdr, h1.2.1]; rfl, by omega⟩, h1.2.2, rfl, subG_cons rfl (subG_cons rfl (subG_cons rfl (trivial))), subH_refl _, rfl, by simp only; rw [show y = true by simpa using h1_3]; rfl⟩
theorem pieces_spec {s : List UInt8} {c : UInt8} : CallSpec Tryz.prog G 157 [strS s, strS [c]] [] (fun v H' => ∃ b, v = fnS 198 [eqS (.pointer (some ⟨b, 0, none⟩)), ptrS [strS [c]]] ∧ H' = [⟨some b, 9, [strS s], 0⟩]) := by
 refine zs Tryz.func157 ?_;refine zr ?_;refine Run.box rfl rfl rfl rfl rfl rfl fun b1 => ?_;(iterate 2 refine zz ?_);refine zx ?_;(iterate 2 refine zz ?_);refine zzn ?_;refine T_ret ?_
 exact ⟨_, [_], .one (.tmp rfl), List.Sublist.refl _, b1, rfl, rfl⟩
theorem full_spec [MaxLen G] {s : List UInt8} {c : UInt8} {b : Nat} (hs : s.length ≤ 1000000000) : CallSpec Tryz.prog G 156 [fnS 198 [eqS (.pointer (some ⟨b, 0, none⟩)), ptrS [strS [c]]]] [⟨some b, 9, [strS s], 0⟩] (fun v H' => v = tupS [slS 1 tC ((spl c s).takeWhile fun w => !w.isEmpty), boolS (ful (spl c s))] ∧ H' = []) := by
 have hll := spl_len c s
 refine zs Tryz.func156 ?_;refine zr ?_;refine zzv fun b2 => ?_;refine zzv fun b3 => ?_;refine zzn ?_;refine T_scope ?_;refine zr ?_;refine zw ?_;refine zzn ?_;refine T_seq ?_;refine T_label ?_;refine T_seqQ (K := fun S1 => ∃ q D, rowOk q ((spl c s).takeWhile fun w => !w.isEmpty).length ∧ Ent S1 ⟨17, [(3, eqS (.pointer (some ⟨b3, 0, none⟩))), (2, eqS (.pointer (some ⟨b2, 0, none⟩)))], [rowE q 9 1 ((spl c s).takeWhile fun w => !w.isEmpty).length (((spl c s).takeWhile fun w => !w.isEmpty).flatMap tC), ⟨some b3, 4, [boolS (ful (spl c s))], 0⟩, ⟨some b2, 102, [eqS (rowV q ((spl c s).takeWhile fun w => !w.isEmpty).length)], 0⟩], D, (0, false)⟩) ?_ ?_
 ·refine T_ghost (ghost_row 9 1) ?_;refine zr ?_;refine zz ?_;refine zzn ?_;refine T_block ?_
  refine T_rngH (H0 := [⟨some b, 9, [strS s], 0⟩]) (h1 := [rowE none 9 1 0 (([] : List (List UInt8)).flatMap tC), ⟨some b3, 4, [boolS true], 0⟩, ⟨some b2, 102, [eqS (rowV none 0)], 0⟩]) rfl rfl (pieces1_spec hs) (List.perm_append_comm (l₁ := [_, _, _]) (l₂ := [_])) (fun ss h => tX_len h) (by decide) rfl
    (fun k h i => i = (0, false) ∧ ∃ q, rowOk q k ∧ k ≤ (spl c s).length ∧ ful ((spl c s).take k) = true ∧ h = [rowE q 9 1 k (((spl c s).take k).flatMap tC), ⟨some b3, 4, [boolS true], 0⟩, ⟨some b2, 102, [eqS (rowV q k)], 0⟩])
    (fun e h i => e = .exit 0 ∧ i = (0, false) ∧ ∃ q k, rowOk q k ∧ (spl c s)[k]? = some [] ∧ ful ((spl c s).take k) = true ∧ h = [rowE q 9 1 k (((spl c s).take k).flatMap tC), ⟨some b3, 4, [boolS false], 0⟩, ⟨some b2, 102, [eqS (rowV q k)], 0⟩]) ⟨rfl, none, rfl, Nat.zero_le _, rfl, rfl⟩ ?_ ?_ ?_
  ·rintro l1 k ss h i hk1 ⟨rfl, q, hq, hkn, hfl, rfl⟩
   obtain ⟨w, hw, rfl⟩ := tX_inv hk1
   have hklt := lt_of_get hw
   refine T_region ?_;refine zz ?_;refine zzn ?_
   refine ⟨rfl, ?_⟩
   refine T_block ?_;refine T_seq ?_;refine zr ?_;refine zz ?_;refine zo (ok_cmp_str rfl rfl rfl rfl) ?_;refine zw ?_;refine zx ?_;(iterate 2 refine zz ?_);refine zzn ?_;refine zzc (fun h10 => ?_) fun h10 => ?_
   ·have hwe : w = [] := by simpa using h10
    rw [hwe] at hw
    refine T_exit ?_
    exact ⟨rfl, rfl, q, k, hq, hw, hfl, by rw [hwe]; rfl⟩
   ·have hwe : w ≠ [] := by simpa using h10
    have hwt : (!w == []) = true := by simpa using hwe
    refine T_skip ?_;refine T_region ?_;(iterate 2 refine zz ?_);refine zo (ok_buildSlice rfl rfl (by decide) rfl (by simp) rfl rfl) ?_;refine Run.append 0 rfl rfl rfl rfl rfl rfl rfl rfl hq (by rw [flat_tC, List.length_take]; omega) (fun z hz => by rw [List.mem_singleton.1 hz]; rfl) (by unfold big; simp; omega) (by unfold big; simp; omega) fun q14 hq14 => ?_;refine zw ?_;refine zzn ?_
    exact ⟨rfl, q14, hq14, by omega, ful_take hw hfl hwe, by rw [List.take_add_one, hw, List.flatMap_append, hwt]; rfl⟩
  ·rintro h H' i D ⟨rfl, q, hq, _, hfl, rfl⟩ rfl
   rw [List.length_map] at hq hfl ⊢
   rw [List.take_length] at hfl ⊢
   have hW := tw_all hfl
   rw [hfl]
   exact ⟨q, _, by rw [hW]; exact hq, by rw [hW]; exact ent_h (subG_cons rfl (subG_cons rfl trivial)) rfl⟩
  ·rintro h H' i j D e c2 hc2 ⟨rfl, rfl, q, k, hq, hw, hfl, rfl⟩ rfl
   have hW := tw_bad hw hfl
   have hbad := ful_bad hw
   have hlk : ((spl c s).take k).length = k := by rw [List.length_take]; have := lt_of_get hw; omega
   show ∃ q D, _
   exact ⟨q, _, by rw [hW, hlk]; exact hq, by rw [hW, hlk, hbad]; exact ent_h (subG_cons rfl (subG_cons rfl trivial)) rfl⟩
 ·rintro S1 ⟨q, D, hq, hS1⟩
  refine T_pre hS1 ?_;refine T_ghost (ghost_slc [] [_] [] hq (l := ((spl c s).takeWhile fun w => !w.isEmpty)) (f := tC) rfl rfl (fun _ _ => rfl) (by have := tw_len (spl c s); unfold big; omega)) ?_;refine T_drawMS 4 [2, 3] _ (by kernel_rfl) (.cons_cons _ (.cons _ .slnil)) ?_;refine RunE.one (ok_load_own 1 rfl rfl rfl rfl) rfl rfl rfl (by kernel_rfl) ?_;refine RunE.lat (ok_load_own 0 rfl rfl rfl rfl) rfl rfl rfl ?_
  refine RunE.nil ⟨_, rfl, ?_⟩
  refine .loc1n 1 (l_store rfl rfl rfl rfl (by first | decide | (simp; done) | (simp; omega))) rfl rfl rfl ?_
  rintro s1 H1 ⟨rfl, rfl⟩
  refine ⟨(.cons_cons _ (.cons _ .slnil)), ?_⟩
  refine RunE.nil ⟨_, rfl, ?_⟩
  refine .loc1n 0 (l_store rfl rfl rfl rfl (by first | decide | (simp; done) | (simp; omega))) rfl rfl rfl ?_
  rintro s1 H1 ⟨rfl, rfl⟩
  refine ⟨(.cons_cons _ (.cons _ .slnil)), ?_⟩
  refine RunE.nil ?_;refine zzn ?_;refine T_ret ?_
  exact ⟨_, [], .many (.cons (.own 1 inferInstance rfl rfl rfl) (.cons (.own 0 inferInstance rfl rfl rfl) (.nil))), List.nil_sublist _, rfl, rfl⟩
theorem words_spec [MaxLen G] {s : List UInt8} (hs : s.length ≤ 1000000000) : PSpec Tryz.prog G 158 [strS s] (tupS [slS 1 tC (if ful (spl 32 s) then spl 32 s else []), intS .i64 (if ful (spl 32 s) then 0 else 110)]) := by
 refine zs Tryz.func158 ?_;refine zr ?_;(iterate 2 refine zz ?_);refine zzn ?_;refine T_seq ?_;refine zr ?_;refine zz ?_;refine Run.call0 rfl rfl rfl (pieces_spec (s := s) (c := 32)) rfl rfl rfl ?_
 rintro s1 H1 ⟨b8, rfl, rfl⟩
 refine Run.callH [] _ [] rfl rfl rfl rfl (full_spec hs) rfl rfl rfl ?_
 rintro s2 H2 ⟨rfl, rfl⟩
 (iterate 5 refine zz ?_);refine zx ?_;refine zz ?_;refine zzn ?_;refine zzc (fun h12 => ?_) fun h12 => ?_
 ·have hf : ful (spl 32 s) = true := by simpa using h12
  refine zr ?_;(iterate 3 refine zz ?_);refine zzn ?_;refine T_ret ?_
  exact ⟨_, [], .many (.cons (.tmp rfl) (.cons (.tmp rfl) (.nil))), List.nil_sublist _, by rw [tw_all hf, if_pos hf, if_pos hf], rfl⟩
 ·have hf : ful (spl 32 s) = false := by simpa using h12
  refine T_skip ?_;refine zr ?_;refine zo ((ok_assign rfl rfl).sub (nil_tx (l := if ful (spl 32 s) then spl 32 s else []) (by rw [hf]; rfl))) ?_;refine zz ?_;refine zzn ?_;refine T_ret ?_
  exact ⟨_, [], .many (.cons (.tmp rfl) (.cons (.tmp rfl) (.nil))), List.nil_sublist _, by rw [hf]; rfl, rfl⟩
theorem lines_spec [MaxLen G] {s : List UInt8} (hs : s.length ≤ 1000000000) : PSpec Tryz.prog G 115 [strS s] (tupS [slS 1 tC (if lnOk s then spl 10 (Lib.trimSuffix s [10]) else []), intS .i64 (if s = [] ∨ lnOk s = true then 0 else 110)]) := by
 refine zs Tryz.func115 ?_;refine zr ?_;(iterate 2 refine zz ?_);refine zzn ?_;refine T_seq ?_;refine zr ?_;refine zz ?_;refine zo (ok_cmp_str rfl rfl rfl rfl) ?_;refine zzn ?_;refine zzc (fun h9 => ?_) fun h9 => ?_
 ·have hs0 : s = [] := by simpa using h9
  refine zr ?_;refine zo ((ok_assign rfl rfl).sub (nil_tx (l := if lnOk s then spl 10 (Lib.trimSuffix s [10]) else []) (by rw [hs0]; rfl))) ?_;refine zz ?_;refine zzn ?_;refine T_ret ?_
  exact ⟨_, [], .many (.cons (.tmp rfl) (.cons (.tmp rfl) (.nil))), List.nil_sublist _, by rw [if_pos (Or.inl hs0)], rfl⟩
 ·have hs0 : s ≠ [] := by simpa using h9
  refine T_skip ?_;refine zr ?_;refine zz ?_;refine zo (ok_call rfl rfl (cutSuffix_spec (by omega))) ?_;(iterate 5 refine zz ?_)
  have hts := ts_len s 10
  refine zzn ?_;refine T_seq ?_;refine zr ?_;refine zz ?_;refine Run.call0 rfl rfl rfl (pieces_spec (s := Lib.trimSuffix s [10]) (c := 10)) rfl rfl rfl ?_
  rintro s1 H1 ⟨b17, rfl, rfl⟩
  refine Run.callH [] _ [] rfl rfl rfl rfl (full_spec (by omega)) rfl rfl rfl ?_
  rintro s2 H2 ⟨rfl, rfl⟩
  (iterate 5 refine zz ?_);refine zx ?_
  refine Run.oneB (ok_move rfl rfl) rfl rfl rfl (fun h5_0 => ?_) (fun h5_0 => ?_)
  ·refine zz ?_;refine zz ?_;refine zo ((ok_pick rfl rfl rfl).sub (bool_eq (c := lnOk s) (by unfold lnOk; rw [show ful _ = _ from h5_0]; simp))) ?_;refine zzn ?_;refine zzc (fun h24 => ?_) fun h24 => ?_
   ·have hok : lnOk s = true := h24
    have hf : ful (spl 10 (Lib.trimSuffix s [10])) = true := by unfold lnOk at hok; rw [Bool.and_eq_true] at hok; exact hok.2
    refine zr ?_;(iterate 3 refine zz ?_);refine zzn ?_;refine T_ret ?_
    exact ⟨_, [], .many (.cons (.tmp rfl) (.cons (.tmp rfl) (.nil))), List.nil_sublist _, by first | (rw [tw_all hf, if_pos hok, if_pos (Or.inr hok)]) | (rw [if_neg (show ¬ (s = [] ∨ lnOk s = true) by rw [hbad]; simp [hs0])]), rfl⟩
   ·have hbad : lnOk s = false := h24
    refine T_skip ?_;refine zr ?_;refine zo ((ok_assign rfl rfl).sub (nil_tx (l := if lnOk s then spl 10 (Lib.trimSuffix s [10]) else []) (by rw [hbad]; rfl))) ?_;refine zz ?_;refine zzn ?_;refine T_ret ?_
    exact ⟨_, [], .many (.cons (.tmp rfl) (.cons (.tmp rfl) (.nil))), List.nil_sublist _, by first | (rw [tw_all hf, if_pos hok, if_pos (Or.inr hok)]) | (rw [if_neg (show ¬ (s = [] ∨ lnOk s = true) by rw [hbad]; simp [hs0])]), rfl⟩
  ·refine zz ?_;refine zq ?_;refine zo ((ok_pick rfl rfl rfl).sub (bool_eq (c := lnOk s) (by unfold lnOk; rw [show ful _ = _ from h5_0]; simp))) ?_;refine zzn ?_;refine zzc (fun h24 => ?_) fun h24 => ?_
   ·have hok : lnOk s = true := h24
    have hf : ful (spl 10 (Lib.trimSuffix s [10])) = true := by unfold lnOk at hok; rw [Bool.and_eq_true] at hok; exact hok.2
    refine zr ?_;(iterate 3 refine zz ?_);refine zzn ?_;refine T_ret ?_
    exact ⟨_, [], .many (.cons (.tmp rfl) (.cons (.tmp rfl) (.nil))), List.nil_sublist _, by first | (rw [tw_all hf, if_pos hok, if_pos (Or.inr hok)]) | (rw [if_neg (show ¬ (s = [] ∨ lnOk s = true) by rw [hbad]; simp [hs0])]), rfl⟩
   ·have hbad : lnOk s = false := h24
    refine T_skip ?_;refine zr ?_;refine zo ((ok_assign rfl rfl).sub (nil_tx (l := if lnOk s then spl 10 (Lib.trimSuffix s [10]) else []) (by rw [hbad]; rfl))) ?_;refine zz ?_;refine zzn ?_;refine T_ret ?_
    exact ⟨_, [], .many (.cons (.tmp rfl) (.cons (.tmp rfl) (.nil))), List.nil_sublist _, by first | (rw [tw_all hf, if_pos hok, if_pos (Or.inr hok)]) | (rw [if_neg (show ¬ (s = [] ∨ lnOk s = true) by rw [hbad]; simp [hs0])]), rfl⟩
end Go.Proofs
