/- line, straitref11: numbers. -/
import Derived.Test.YtofplgefmjojjaaGreatDoorSsl
import Derived.Test.YtofplgefmjojjaaGreatDoorSnv
namespace Num
open Go Go.Lib
def num3 (s : List UInt8) : Rat × Int × Int := numF (cut s [47]).1 (cut s [47]).2.1 (cut s [47]).2.2
theorem numF_bad1 {a b : List UInt8} {m : Bool} (h : okD (trimPrefix a [45]) = false) : numF a b m = (0, 0, 60) := by unfold numF; simp only [h]; rfl
theorem numF_bad2 {a b : List UInt8} (h : okD b = false) : numF a b true = (0, 0, 60) := by
 unfold numF
 simp only [h]
 split <;> rfl
theorem numF_one {a b : List UInt8} (h : okD (trimPrefix a [45]) = true) : numF a b false = (mkRat (zn (hasPrefix a [45]) (pvD (trimPrefix a [45]))) 1, (((trimPrefix a [45]).length : Nat) : Int), 0) := by
 unfold numF pvD
 simp only [h]
 rfl
theorem numF_two {a b : List UInt8} (h : okD (trimPrefix a [45]) = true) (h2 : okD b = true) : numF a b true = (mkRat (zn (hasPrefix a [45]) (pvD (trimPrefix a [45]))) (pvD b), ((max (trimPrefix a [45]).length b.length : Nat) : Int), if pvD b = 0 then 30 else 0) := by
 unfold numF pvD
 simp only [h, h2]
 by_cases hz : valD b = 0
 ·simp [hz, Rat.mkRat_zero]
 ·simp [hz]
theorem zn_sgn (b : Bool) (v : Nat) : sgn (b && decide (0 < v)) v = zn b v := by
 unfold sgn zn
 cases b
 ·rfl
 ·by_cases h : 0 < v
  ·rw [decide_eq_true h]; rfl
  ·have : v = 0 := by omega
   subst this; rfl
theorem spl_mem {c : UInt8} {s p : List UInt8} (h : p ∈ spl c s) : p.length ≤ s.length := by
  induction s generalizing p with
  | nil => simp [spl] at h; rw [h]; exact Nat.le_refl _
  | cons x r ih =>
    unfold spl at h
    split at h
    · rcases List.mem_cons.1 h with rfl | h
      · simp
      · exact Nat.le_succ_of_le (ih h)
    · cases hs : spl c r with
      | nil => exact absurd hs (spl_ne _ _)
      | cons q qs =>
        rw [hs] at h ih
        rcases List.mem_cons.1 h with rfl | h
        · exact Nat.succ_le_succ (ih (List.mem_cons_self ..))
        · exact Nat.le_succ_of_le (ih (List.mem_cons_of_mem _ h))
theorem rnum_facts (s : List UInt8) : ∃ a, (spl 47 s)[0]? = some a ∧ (2 < (spl 47 s).length → num3 s = (0, 0, 60)) ∧ (okD (trimPrefix a [45]) = false → num3 s = (0, 0, 60)) ∧ ((spl 47 s).length = 1 → num3 s = numF a [] false) ∧ ∀ b, (spl 47 s).length ≤ 2 → (spl 47 s)[1]? = some b → num3 s = numF a b true := by
 rcases cut_spl s with ⟨a, rfl, h1, h2⟩ | ⟨a, b, h1, h2, rfl, h3⟩
 ·have hn : num3 s = numF s [] false := by unfold num3; rw [h1]
  rw [h2]
  exact ⟨s, rfl, fun h => by simp at h, fun h => by rw [hn, numF_bad1 h], fun _ => hn, fun b _ h => by simp at h⟩
 ·have hn : num3 (a ++ 47 :: b) = numF a b true := by unfold num3; rw [h1]
  rw [h2]
  rcases spl_cases 47 b with hb | ⟨p, r, rfl, hb⟩
  ·rw [spl_none hb]
   exact ⟨a, rfl, fun h => by simp at h, fun h => by rw [hn, numF_bad1 h], fun h => by simp at h, fun c _ h => by simp at h; rw [hn, h]⟩
  ·have hbad := numF_bad2 (a := a) (okD_sign (c := 47) (by decide) p r)
   have hl := List.length_pos_iff.2 (spl_ne 47 r)
   rw [spl_app r hb]
   exact ⟨a, rfl, fun _ => by rw [hn, hbad], fun _ => by rw [hn, hbad], fun h => by simp at h, fun c h _ => by rw [List.length_cons, List.length_cons] at h; omega⟩
theorem hd_len {a : List UInt8} (h : okD (trimPrefix a [45]) = true) : a ≠ [] := fun e => by rw [e] at h; exact absurd h (by decide)
end Num
namespace Go.Proofs
open Go Go.Sv Num
variable {G : Imm}
theorem okD_of_pe {l : List UInt8} (h : peD l = 0) : okD l = true := by
 cases ho : okD l with
 | true => rfl
 | false => rw [(peD_bad ho).1] at h; exact absurd h (by decide)
theorem can_one (hp : Bool) (v : Nat) : canQ (mkRat (zn hp v) 1) = [boolS (hp && decide (0 < v)), natS (dig v), natS [1]] := by
 have h1 : (mkRat (zn hp v) 1).num = zn hp v ∧ (mkRat (zn hp v) 1).den = 1 := by
  have h := Rat.mkRat_self (zn hp v : Rat)
  rw [Rat.den_intCast, Rat.num_intCast] at h
  rw [h]; exact ⟨Rat.num_intCast _, Rat.den_intCast _⟩
 unfold canQ
 rw [h1.1, h1.2, zn_abs, show dig 1 = [1] by rw [dig_pos (by decide), show 1 / 4294967296 = 0 from rfl, dig_zero]]
 congr 2
 unfold zn
 cases hp
 ·simp <;> omega
 ·by_cases h : 0 < v
  ·rw [decide_eq_true h]; simp <;> omega
  ·simp <;> omega
theorem one_den {hp : Bool} {v : Nat} (I : Imm) (x : Value) (h : (aggS [boolS (hp && decide (0 < v)), natS (dig v), slS 1 id [[intS .u32 1]]]).den I x) : (aggS (canQ (mkRat (zn hp v) 1))).den I x := by
 rw [can_one]
 obtain ⟨xs, hv, hd, h1⟩ := h
 refine ⟨xs, hv, ?_, h1⟩
 obtain ⟨x, y, z, rfl, hx, hy, hz⟩ := dens_three hd
 exact dens_cons hx (dens_cons hy (dens_cons (natLit (l := [1]) I z hz) dens_nil))
instance isZ_parse {b : Bool} {v k : Nat} [h : Bd v k] : IsZ (b && decide (0 < v)) (dig v) (zn b v) k := ⟨lim_dig _, by rw [val_dig, zn_sgn], dig_length_le h.h⟩
theorem qnew_spec [Tab G] {b : Bool} {l d : List Nat} {z : Int} {n k j : Nat} [h : IsZ b l z k] [hd : IsNat d n] [hk : Sz d j] (hs : 2 * (k + j + 1) + 11000 ≤ cap := by decide) : PSpec Tryz.prog G 211 [aggS [boolS b, natS l], natS d] (tupS [aggS (canQ (mkRat z n)), intS .i64 (if n = 0 then 30 else 0)]) := by
 have iq : IsQ b l d (mkRat z n) (k + j + 1) := ⟨h.lim, hd.lim, by rw [h.val, hd.val], by have := h.len; omega, by have := hk.h; omega, by omega⟩
 have hdv := hd.val
 refine zs Tryz.func211 ?_;refine zr ?_;refine zz ?_;refine zzv fun b4 => ?_;refine zz ?_;refine zx ?_;(iterate 4 refine zz ?_);refine Run.box rfl rfl rfl rfl rfl rfl fun b11 => ?_;refine zz ?_;refine zzn ?_;refine T_seq ?_;refine zr ?_;refine zz ?_;refine Run.callH [] _ [_] rfl rfl rfl rfl (qnorm_spec (q := mkRat z n) hs) rfl rfl rfl ?_
 rintro s1 H1 ⟨rfl, rfl⟩
 rw [hdv]
 refine zz ?_;refine zzn ?_;refine zzc (fun h14 => ?_) fun h14 => ?_
 ·have hn0 : n = 0 := by simpa using h14
  refine zr ?_;(iterate 4 refine zz ?_);refine zw ?_;refine zz ?_;refine zzn ?_;refine T_ret ?_
  exact ⟨_, [], .many (.cons (.agg 1 inferInstance rfl rfl rfl rfl) (.cons (.tmp rfl) (.nil))), List.nil_sublist _, by rw [if_pos hn0]; rfl, rfl⟩
 ·have hn0 : n ≠ 0 := by simpa using h14
  refine T_skip ?_;refine zr ?_;(iterate 4 refine zz ?_);refine zw ?_;refine zz ?_;refine zzn ?_;refine T_ret ?_
  exact ⟨_, [], .many (.cons (.agg 1 inferInstance rfl rfl rfl rfl) (.cons (.tmp rfl) (.nil))), List.nil_sublist _, by rw [if_neg hn0]; rfl, rfl⟩
theorem number_spec [Tab G] [MaxLen G] {s : List UInt8} (hs : s.length ≤ 1000000000) : PSpec Tryz.prog G 200 [strS s] (tupS [aggS (canQ (num3 s).1), intS .i64 (num3 s).2.1, intS .i64 (num3 s).2.2]) := by
 obtain ⟨a, b, m, hcut⟩ : ∃ a b m, Lib.cut s [47] = (a, b, m) := ⟨_, _, _, rfl⟩
 have hcs := cut_spec (G := G) (l := s) (m := [47]) (by omega)
 have hn3 : num3 s = numF a b m := by unfold num3; rw [hcut]
 rw [hcut] at hcs
 dsimp only at hcs
 obtain ⟨tl, htl⟩ : ∃ tl, tl = Lib.trimPrefix a [45] := ⟨_, rfl⟩
 have i1 : Bd (pvD tl) 7 := bd_dec (pvD_lt tl)
 have i2 : Bd (pvD b) 7 := bd_dec (pvD_lt b)
 have i3 := isNat_lit (d := 1) (by decide)
 have hps := parseInt_spec (G := G) (l := a)
 have htp := trimPrefix_spec (G := G) (l := a) (m := [45])
 rw [← htl] at hps htp
 refine zs Tryz.func200 ?_;refine zr ?_;refine zzv fun b2 => ?_;(iterate 2 refine zz ?_);refine zx ?_;refine zz ?_;refine zf hcs ?_;(iterate 7 refine zz ?_);refine zx ?_;refine zz ?_;refine zf hps ?_;(iterate 3 refine zz ?_);refine zzv fun b8 => ?_;refine zw ?_;refine zz ?_;refine zzn ?_;refine T_seq ?_;refine zr ?_;(iterate 2 refine zz ?_);refine zzn ?_;refine zzc (fun h22 => ?_) fun h22 => ?_
 ·have k22 := bne_iff_ne.1 h22
  have hb := peD_ne k22
  rw [htl] at hb
  refine zr ?_;refine zo (ok_call rfl rfl (qOf_spec (n := 0) (q := 0) (by decide) (by decide))) ?_;refine zw ?_;(iterate 2 refine zz ?_);refine zzn ?_;refine T_ret ?_
  exact ⟨_, [], .many (.cons (.agg 1 inferInstance rfl rfl rfl rfl) (.cons (.tmp rfl) (.cons (.tmp rfl) (.nil)))), List.nil_sublist _, by rw [hn3, numF_bad1 hb]; rfl, rfl⟩
 ·have k22 := bne_eq_false_iff_eq.1 h22
  have hok := okD_of_pe k22
  rw [htl] at hok
  refine T_skip ?_;refine zr ?_;refine zz ?_;refine zf htp ?_;refine zo (ok_len_str rfl rfl) ?_;refine zz ?_;refine zx ?_;refine zo (ok_buildSlice rfl rfl (by decide) rfl (by simp) rfl rfl) ?_;refine zz ?_;refine zzn ?_;refine T_seq ?_;refine zr ?_;refine zz ?_;refine zzn ?_;refine zzc (fun h28 => ?_) fun h28 => ?_
  ·obtain rfl : m = true := h28
   refine T_seq ?_;refine zr ?_;refine zz ?_;refine zf parse_spec ?_;(iterate 5 refine zz ?_);refine zx ?_;(iterate 2 refine zz ?_);refine zzn ?_;refine zzc (fun h35 => ?_) fun h35 => ?_
   ·have k35 := bne_iff_ne.1 h35
    have hb2 := peD_ne k35
    refine zr ?_;refine zo (ok_call rfl rfl (qOf_spec (n := 0) (q := 0) (by decide) (by decide))) ?_;refine zw ?_;(iterate 2 refine zz ?_);refine zzn ?_;refine T_ret ?_
    exact ⟨_, [], .many (.cons (.agg 1 inferInstance rfl rfl rfl rfl) (.cons (.tmp rfl) (.cons (.tmp rfl) (.nil)))), List.nil_sublist _, by rw [hn3, numF_bad2 hb2]; rfl, rfl⟩
   ·have k35 := bne_eq_false_iff_eq.1 h35
    have hok2 := okD_of_pe k35
    refine T_skip ?_;refine T_region ?_;(iterate 2 refine zz ?_);refine zo (ok_len_str rfl rfl) ?_;refine zo ((ok_max rfl rfl rfl).sub (int_eq (n := ((max tl.length b.length : Nat) : Int)) (by omega))) ?_;refine zz ?_;refine zx ?_;(iterate 2 refine zz ?_);refine zo (ok_call rfl rfl (qnew_spec (by decide))) ?_;(iterate 3 refine zz ?_);refine zw ?_;refine zz ?_;refine zx ?_;(iterate 3 refine zz ?_);refine zw ?_;(iterate 2 refine zz ?_);refine zzn ?_;refine T_ret ?_
    exact ⟨_, [], .many (.cons (.agg 1 inferInstance rfl rfl rfl rfl) (.cons (.tmp rfl) (.cons (.tmp rfl) (.nil)))), List.nil_sublist _, by rw [hn3, numF_two hok hok2, ← htl]; rfl, rfl⟩
  ·obtain rfl : m = false := h28
   refine T_skip ?_;refine zr ?_;(iterate 2 refine zz ?_);refine zo (ok_call rfl rfl ((qnew_spec (d := [1]) (n := 1) (j := 1) (by decide)).args ⟨fun _ _ h => h, fun I v h => natLit (l := [1]) I v h, trivial⟩)) ?_;(iterate 3 refine zz ?_);refine zw ?_;refine zz ?_;refine zx ?_;(iterate 3 refine zz ?_);refine zw ?_;(iterate 2 refine zz ?_);refine zzn ?_;refine T_ret ?_
   exact ⟨_, [], .many (.cons (.agg 1 inferInstance rfl rfl rfl rfl) (.cons (.tmp rfl) (.cons (.tmp rfl) (.nil)))), List.nil_sublist _, by rw [hn3, numF_one hok, ← htl]; rfl, rfl⟩
theorem rnumber_spec {s : List UInt8} (hs : s.length ≤ 2000) : PSpec Tryz.prog G 127 [strS s] (tupS [aggS (canQ (num3 s).1), intS .i64 (num3 s).2.1, intS .i64 (num3 s).2.2]) := by
 obtain ⟨a, ha, hC, hD, hA, hB⟩ := rnum_facts s
 have hll := spl_len 47 s
 have hal := spl_mem (List.mem_of_getElem? ha)
 obtain ⟨ls, hls⟩ : ∃ ls, ls = spl 47 s := ⟨_, rfl⟩
 obtain ⟨tl, htl⟩ : ∃ tl, tl = Lib.trimPrefix a [45] := ⟨_, rfl⟩
 obtain ⟨hp, hhp⟩ : ∃ hp, hp = Lib.hasPrefix a [45] := ⟨_, rfl⟩
 have hcut := rcut_spec (G := G) (s := s) (c := 47) (by omega)
 have i1 : Bd (pvD tl) 7 := bd_dec (pvD_lt tl)
 have i3 := isNat_lit (d := 1) (by decide)
 have hps := rparseInt_spec (G := G) (l := a) (by omega)
 have hpc := pre_cases a
 rw [← htl] at hps hD hpc
 rw [← hhp] at hps hpc
 rw [← hls] at ha hC hA hB hll hcut
 refine zs Tryz.func127 ?_;refine zr ?_;refine zzv fun b2 => ?_;(iterate 2 refine zz ?_);refine zx ?_;refine zz ?_;refine zf hcut ?_;refine zz ?_;refine zzn ?_;refine T_seq ?_;refine zr ?_;(iterate 3 refine zz ?_);refine zzn ?_;refine zzc (fun h15 => ?_) fun h15 => ?_
 ·have k15 := of_decide_eq_true h15
  have hn := hC (by omega)
  refine zr ?_;refine zo (ok_call rfl rfl (rqOf_spec (n := 0) (q := 0) (by decide) (by decide))) ?_;refine zw ?_;(iterate 2 refine zz ?_);refine zzn ?_;refine T_ret ?_
  exact ⟨_, [], .many (.cons (.agg 0 inferInstance rfl rfl rfl rfl) (.cons (.tmp rfl) (.cons (.tmp rfl) (.nil)))), List.nil_sublist _, by rw [hn]; rfl, rfl⟩
 ·have k15 := of_decide_eq_false h15
  refine T_skip ?_;refine zr ?_;refine zz ?_;refine zo (ok_indexAddr rfl rfl rfl (by omega) (y := a) (ha)) ?_;refine zz ?_;refine zf hps ?_;(iterate 3 refine zz ?_);refine zzv fun b6 => ?_;refine zw ?_;refine zz ?_;refine zzn ?_;refine T_seq ?_;refine zr ?_;(iterate 2 refine zz ?_);refine zzn ?_;refine zzc (fun h25 => ?_) fun h25 => ?_
  ·have k25 := bne_iff_ne.1 h25
   have hn := hD (peD_ne k25)
   refine zr ?_;refine zo (ok_call rfl rfl (rqOf_spec (n := 0) (q := 0) (by decide) (by decide))) ?_;refine zw ?_;(iterate 2 refine zz ?_);refine zzn ?_;refine T_ret ?_
   exact ⟨_, [], .many (.cons (.agg 1 inferInstance rfl rfl rfl rfl) (.cons (.tmp rfl) (.cons (.tmp rfl) (.nil)))), List.nil_sublist _, by rw [hn]; rfl, rfl⟩
  ·have k25 := bne_eq_false_iff_eq.1 h25
   have hok := okD_of_pe k25
   have hne : a ≠ [] := hd_len (htl ▸ hok)
   have hap : 0 < a.length := List.length_pos_iff.2 hne
   refine T_skip ?_;refine zr ?_;refine zz ?_;refine zo (ok_indexAddr rfl rfl rfl (by omega) (y := a) (ha)) ?_;refine zz ?_;refine zo (ok_len_str rfl rfl) ?_;refine zz ?_;refine zzn ?_;refine T_seqQ (K := fun S1 => Ent S1 (⟨69, [(8, intS .i64 (tl.length : Nat)), (6, eqS (.pointer (some ⟨b6, 0, none⟩))), (5, slS 1 tC ls), (2, eqS (.pointer (some ⟨b2, 0, none⟩)))], [⟨some b6, 26, [boolS (hp && decide (0 < pvD tl)), natS (dig (pvD tl))], 0⟩, ⟨some b2, 28, [eqS (.bool false), eqS (.slice none 0 0), eqS (.slice none 0 0)], 0⟩], [], (0, false)⟩)) ?_ ?_
   ·refine zr ?_;refine zz ?_;refine zo (ok_indexAddr rfl rfl rfl (by omega) (y := a) (ha)) ?_;refine zz ?_;refine zo (ok_index_str rfl rfl rfl (by omega) (c := a.getD 0 0) (getD_get (by omega))) ?_;refine zo ((ok_cmp rfl rfl rfl rfl).sub (bool_eq (c := hp) (hp_pos' hhp hap))) ?_;refine zzn ?_;refine zzc (fun h35 => ?_) fun h35 => ?_
    ·have htl1 : tl.length + 1 = a.length := by rcases hpc with ⟨r, h1, h2, h3⟩ | ⟨h1, h2, h3⟩; rw [h1, h3]; rfl; rw [h35] at h2; cases h2
     refine T_region ?_;refine zz ?_;refine za ((tl.length : Nat) : Int) ?_;refine zz ?_;refine zzn ?_
     exact ent_h zk rfl
    ·have htl1 : tl = a := by rcases hpc with ⟨r, h1, h2, h3⟩ | ⟨h1, h2, h3⟩; rw [h35] at h2; cases h2; exact h3
     refine T_skip ?_
     exact ent_h (subG_as rfl (by rw [htl1]) (subG_cons rfl (subG_cons rfl (subG_cons rfl (trivial))))) rfl
   ·intro S1 hS1
    refine T_pre hS1 ?_;refine T_seq ?_;refine zr ?_;(iterate 3 refine zz ?_);refine zzn ?_;refine zzc (fun h40 => ?_) fun h40 => ?_
    ·have k40 := beq_iff_eq.1 h40
     have hn := hA (by omega)
     rw [numF_one (htl ▸ hok), ← htl, ← hhp] at hn
     refine zr ?_;refine zz ?_;refine zo (ok_buildSlice rfl rfl (by decide) rfl (by simp) rfl rfl) ?_;refine zo ((ok_build rfl rfl rfl).sub one_den) ?_;refine zz ?_;refine zw ?_;(iterate 2 refine zz ?_);refine zzn ?_;refine T_ret ?_
     exact ⟨_, [], .many (.cons (.agg 1 inferInstance rfl rfl rfl rfl) (.cons (.tmp rfl) (.cons (.tmp rfl) (.nil)))), List.nil_sublist _, by rw [hn]; rfl, rfl⟩
    ·have k40 := beq_eq_false_iff_ne.1 h40
     obtain ⟨b, hb⟩ : ∃ b, ls[1]? = some b := ⟨_, List.getElem?_eq_getElem (by have := (List.getElem?_eq_some_iff.1 ha).1; omega)⟩
     have hn := hB b (by omega) hb
     have i2 : Bd (pvD b) 7 := bd_dec (pvD_lt b)
     refine T_skip ?_;refine zr ?_;refine zz ?_;refine zo (ok_indexAddr rfl rfl rfl (by omega) (y := b) (hb)) ?_;refine zz ?_;refine zf rparse_spec ?_;(iterate 5 refine zz ?_);refine zzn ?_;refine T_seq ?_;refine zr ?_;(iterate 2 refine zz ?_);refine zzn ?_;refine zzc (fun h53 => ?_) fun h53 => ?_
     ·have k53 := bne_iff_ne.1 h53
      rw [numF_bad2 (peD_ne k53)] at hn
      refine zr ?_;refine zo (ok_call rfl rfl (rqOf_spec (n := 0) (q := 0) (by decide) (by decide))) ?_;refine zw ?_;(iterate 2 refine zz ?_);refine zzn ?_;refine T_ret ?_
      exact ⟨_, [], .many (.cons (.agg 1 inferInstance rfl rfl rfl rfl) (.cons (.tmp rfl) (.cons (.tmp rfl) (.nil)))), List.nil_sublist _, by rw [hn]; rfl, rfl⟩
     ·have k53 := bne_eq_false_iff_eq.1 h53
      rw [numF_two (htl ▸ hok) (okD_of_pe k53), ← htl, ← hhp] at hn
      refine T_skip ?_;refine zr ?_;(iterate 2 refine zz ?_);refine zo (ok_call rfl rfl (rnew_spec (j := 7) (by decide))) ?_;(iterate 3 refine zz ?_);refine zzv fun b10 => ?_;refine zw ?_;refine zz ?_;refine zzn ?_;refine T_drawMS 10 [8] _ (by kernel_rfl) (.cons_cons _ (.cons_cons _ (.cons _ .slnil))) ?_;refine RunE.one (ok_load_own_agg 0 rfl rfl rfl rfl rfl) rfl rfl rfl (by kernel_rfl) ?_;(iterate 2 refine RunE.lat (ok_move rfl rfl) rfl rfl rfl ?_);refine RunE.lat (ok_indexAddr rfl rfl rfl (by omega) (y := b) (hb)) rfl rfl rfl ?_;refine RunE.lat (ok_load rfl rfl) rfl rfl rfl ?_;refine RunE.lat (ok_len_str rfl rfl) rfl rfl rfl ?_;refine RunE.lat ((ok_max rfl rfl rfl).sub (int_eq (n := ((max tl.length b.length : Nat) : Int)) (by omega))) rfl rfl rfl ?_;refine RunE.lat (ok_move rfl rfl) rfl rfl rfl ?_
      refine RunE.nil ⟨_, rfl, ?_⟩
      refine .loc1n 2 (l_store rfl rfl rfl rfl (by first | decide | (simp; done) | (simp; omega))) rfl rfl rfl ?_
      rintro s1 H1 ⟨rfl, rfl⟩
      refine ⟨(.cons_cons _ (.cons_cons _ (.cons _ .slnil))), ?_⟩
      refine RunE.lat (ok_assign rfl rfl) rfl rfl rfl ?_;refine RunE.nil ?_;refine zz ?_;refine zzn ?_;refine T_ret ?_
      exact ⟨_, [], .many (.cons (.agg 2 inferInstance rfl rfl rfl rfl) (.cons (.tmp rfl) (.cons (.tmp rfl) (.nil)))), List.nil_sublist _, by rw [hn]; rfl, rfl⟩
end Go.Proofs
