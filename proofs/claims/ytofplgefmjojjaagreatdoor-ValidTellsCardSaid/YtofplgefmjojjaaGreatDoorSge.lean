/- How two segments meet: rat.New, rat.Quo, meet. -/
import Derived.Test.YtofplgefmjojjaaGreatDoorSn2
import Derived.Test.YtofplgefmjojjaaGreatDoorSga
import Derived.Test.YtofplgefmjojjaaGreatDoorSv1
namespace Go.Proofs
open Go Go.Sv Num
variable {G : Imm}
theorem cmpR [Tab G] {p q : RawP} {k : Nat} (hk : 0 < k) (hp : PtOk k p) (hq : PtOk k q) (hs : 400 * k + 21000 ≤ cap) : PSpec Tryz.prog G 94 [aggS (pc p), aggS (pc q)] (intS .i64 (cmp2 (pv p) (pv q))) := by
 have i1 := isQ_lim (b := p.1.1) hp.1 hk
 have i2 := isQ_lim (b := p.2.1) hp.2 hk
 have i3 := isQ_lim (b := q.1.1) hq.1 hk
 have i4 := isQ_lim (b := q.2.1) hq.2 hk
 exact vCmp_spec (hx1 := i1) (hy1 := i2) (hx2 := i3) (hy2 := i4) (by omega)
theorem subR [Tab G] {p q : RawP} {k : Nat} (hk : 0 < k) (hp : PtOk k p) (hq : PtOk k q) (hs : 400 * k + 21000 ≤ cap) : PSpec Tryz.prog G 148 [aggS (pc p), aggS (pc q)] (aggS (pcan (sub2 (pv p) (pv q)))) := by
 have i1 := isQ_lim (b := p.1.1) hp.1 hk
 have i2 := isQ_lim (b := p.2.1) hp.2 hk
 have i3 := isQ_lim (b := q.1.1) hq.1 hk
 have i4 := isQ_lim (b := q.2.1) hq.2 hk
 exact vSub_spec (hx1 := i1) (hy1 := i2) (hx2 := i3) (hy2 := i4) (by omega)
class Bp (v : V2) (k : outParam Nat) : Prop where
 x : Bq v.1 k
 y : Bq v.2 k
theorem bp_raw {p : RawP} {k : Nat} (hk : 0 < k) (hp : PtOk k p) : Bp (pv p) k :=
 ⟨(isQ_lim (b := p.1.1) hp.1 hk).bq, (isQ_lim (b := p.2.1) hp.2 hk).bq⟩
theorem bp_sub {u v : V2} {k j : Nat} (h : Bp u k) (h' : Bp v j) : Bp (sub2 u v) (k + j + 1) := by
 have := h.x; have := h.y; have := h'.x; have := h'.y
 exact ⟨(bq_sub : Bq (u.1 - v.1) _), (bq_sub : Bq (u.2 - v.2) _)⟩
theorem bp_rep {v : V2} {k : Nat} (h : Bp v k) : PtOk k (rep v) := ptOk_rep h.x h.y
theorem ptOk_mono {p : RawP} {k j : Nat} (h : PtOk k p) (hl : k ≤ j) : PtOk j p := ⟨⟨h.1.1, h.1.2.1, Nat.le_trans h.1.2.2.1 hl, Nat.le_trans h.1.2.2.2 hl⟩, h.2.1, h.2.2.1, Nat.le_trans h.2.2.2.1 hl, Nat.le_trans h.2.2.2.2 hl⟩
theorem crossV [Tab G] {u v : V2} {k j : Nat} (h : Bp u k) (h' : Bp v j) (hs : 200 * (k + j) + 21000 ≤ cap) : PSpec Tryz.prog G 54 [aggS (pcan u), aggS (pcan v)] (aggS (canQ (u.1 * v.2 - u.2 * v.1))) := by
 have := h.x; have := h.y; have := h'.x; have := h'.y
 exact vCross_spec (by omega)
theorem bq_cross {u v : V2} {k j : Nat} (h : Bp u k) (h' : Bp v j) : Bq (u.1 * v.2 - u.2 * v.1) (2 * (k + j) + 1) := by
 have := h.x; have := h.y; have := h'.x; have := h'.y
 exact bq_le (k := k + j + (k + j) + 1) inferInstance (by omega)
abbrev RSg := RawP × RawP
abbrev sgc (s : RSg) : List SV := pc s.1 ++ pc s.2
def sgv (s : RSg) : Sg := (pv s.1, pv s.2)
abbrev SgOk (k : Nat) (s : RSg) : Prop := PtOk k s.1 ∧ PtOk k s.2
def fr (a b : RawP) : RSg := if 0 < cmp2 (pv a) (pv b) then (b, a) else (a, b)
theorem fr_v (a b : RawP) : sgv (fr a b) = fromF (pv a) (pv b) := by unfold fr fromF; split <;> rfl
theorem fr_ok {a b : RawP} {k : Nat} (ha : PtOk k a) (hb : PtOk k b) : SgOk k (fr a b) := by unfold fr; split; exact ⟨hb, ha⟩; exact ⟨ha, hb⟩
abbrev mtC (m : Int × V2 × V2) : List SV := intS .i8 m.1 :: (pcan m.2.1 ++ pcan m.2.2)
theorem bp_lnP {a b c d : V2} {k : Nat} (hk : 0 < k) (ha : Bp a k) (hb : Bp b k) (hc : Bp c k) (hd : Bp d k) : Bp (if den a b c d = 0 then (0, 0) else lnP a b c d) (32 * k) := by
 have := ha.x; have := ha.y; have := hb.x; have := hb.y; have := hc.x; have := hc.y; have := hd.x; have := hd.y
 split
 ·exact ⟨bq_le bq_zero (by omega), bq_le bq_zero (by omega)⟩
 ·have hn : Bq (lnR a b c d) (16 * k + 10) := by
   unfold lnR den
   exact bq_le (k := (k + k + 1 + (k + k + 1) + (k + k + 1 + (k + k + 1)) + 1) + (k + k + 1 + (k + k + 1) + (k + k + 1 + (k + k + 1)) + 1)) inferInstance (by omega)
  exact ⟨bq_le (k := k + (k + k + 1 + (16 * k + 10)) + 1) (q := a.1 + (b.1 - a.1) * lnR a b c d) inferInstance (by omega), bq_le (k := k + (k + k + 1 + (16 * k + 10)) + 1) (q := a.2 + (b.2 - a.2) * lnR a b c d) inferInstance (by omega)⟩
theorem mt_rest {s t : Sg} {P Q : V2} (hP : P = if den s.1 s.2 t.1 t.2 = 0 then (0, 0) else lnP s.1 s.2 t.1 t.2) (hQ : Q = P) (c1 : ¬ 0 < cmp2 (loF s t) (hiF s t)) (c2 : (hasB s (loF s t) && hasB t (loF s t) && hasB s (hiF s t) && hasB t (hiF s t)) = false) :
  mtF s t = if (!(!decide (den s.1 s.2 t.1 t.2 = 0)) || !spnB s Q || !spnB t Q) = true then noMt else (1, P, P) := by
 subst hQ
 unfold mtF
 rw [if_neg c1, if_neg (by rw [c2]; decide)]
 by_cases hd : den s.1 s.2 t.1 t.2 = 0
 ·rw [if_pos hd, decide_eq_true hd]; rfl
 ·rw [if_neg hd] at hP ⊢
  rw [← hP, decide_eq_false hd]
  cases spnB s Q <;> cases spnB t Q <;> rfl
theorem qmk_spec [Tab G] {b : Bool} {l d : List Nat} {z : Int} {n k j : Nat} [h : IsZ b l z k] [hd : IsNat d n] [hk : Sz d j] (hs : 2 * (k + j + 1) + 11000 ≤ cap) : PSpec Tryz.prog G 211 [aggS [boolS b, natS l], natS d] (tupS [aggS (canQ (mkRat z n)), intS .i64 (if n = 0 then 30 else 0)]) := by
 have iq : IsQ b l d (mkRat z n) (k + j + 1) := ⟨h.lim, hd.lim, by rw [h.val, hd.val], by have := h.len; omega, by have := hk.h; omega, by omega⟩
 have hdv := hd.val
 refine zs Tryz.func211 ?_;refine zr ?_;refine zz ?_;refine zzv fun b4 => ?_;refine zz ?_;refine zx ?_;(iterate 4 refine zz ?_);refine Run.box rfl rfl rfl rfl rfl rfl fun b11 => ?_;refine zz ?_;refine zzn ?_;refine T_seq ?_;refine zr ?_;refine zz ?_;refine Run.callH [] _ [_] rfl rfl rfl rfl (qnorm_spec (q := mkRat z n) hs) rfl rfl rfl ?_
 rintro s1 H1 ⟨rfl, rfl⟩
 rw [hdv]
 refine zz ?_;refine zzn ?_;refine zzc (fun h14 => ?_) fun h14 => ?_
 ·have hn0 : n = 0 := by simpa using h14
  refine zr ?_;(iterate 4 refine zz ?_);refine zw ?_;refine zz ?_;refine zzn ?_;refine T_ret ?_
  exact ⟨_, [], .many (.cons (.agg 1 inferInstance rfl rfl rfl rfl) (.cons (.tmp rfl) (.nil))), List.nil_sublist _, by rw [if_pos hn0]; rfl, rfl⟩
 ·have hn0 : n ≠ 0 := by simpa using h14
  refine T_skip ?_;refine zr ?_;(iterate 4 refine zz ?_);refine zw ?_;refine zz ?_;refine zzn ?_;refine T_ret ?_
  exact ⟨_, [], .many (.cons (.agg 1 inferInstance rfl rfl rfl rfl) (.cons (.tmp rfl) (.nil))), List.nil_sublist _, by rw [if_neg hn0]; rfl, rfl⟩
theorem qquo_spec [Tab G] {b c : Bool} {l d m e : List Nat} {p q : Rat} {k j : Nat} [hx : IsQ b l d p k] [hy : IsQ c m e q j] (hs : 100 * (k + j) + 21000 ≤ cap) : PSpec Tryz.prog G 178 [aggS [boolS b, natS l, natS d], aggS [boolS c, natS m, natS e]] (tupS [aggS (canQ (p / q)), intS .i64 (if q = 0 then 30 else 0)]) := by
 have hxb := hx.bq
 have hyb := hy.bq
 have i1 := hxb.bz
 have i2 := hxb.bd
 have i3 := hyb.bz
 have i4 := hyb.bd
 have i5 : Bd q.num.natAbs j := ⟨hyb.num⟩
 have i6 : IsZ (decide (q.num < 0)) (dig q.den) (sgn (decide (q.num < 0)) q.den) j := ⟨lim_dig _, by rw [val_dig], hyb.lens.2⟩
 have i7 := i6.bz
 have hpl := hxb.lens
 have hql := hyb.lens
 refine zs Tryz.func178 ?_;refine zr ?_;(iterate 2 refine zz ?_);refine zzv fun b4 => ?_;refine zz ?_;refine zzn ?_;refine T_drawS 6 (by kernel_rfl) ?_;refine zz ?_;refine zo (ok_call rfl rfl (qof_spec (by omega))) ?_;refine zz ?_;refine zo (ok_call rfl rfl (qof_spec (by omega))) ?_;(iterate 2 refine zz ?_);(iterate 2 refine zzn ?_);refine T_drawS 34 (by kernel_rfl) ?_;(iterate 17 refine zz ?_);refine zo (ok_buildSlice rfl rfl (by decide) rfl (by simp) rfl rfl) ?_;refine zo (ok_call rfl rfl (zmul2_spec (by omega))) ?_;(iterate 11 refine zz ?_);refine zo (ok_call rfl rfl (mul_spec (by omega))) ?_;refine zo (ok_call rfl rfl (qmk_spec (by omega))) ?_;refine zz ?_
 refine zo ((ok_extract rfl rfl rfl).sub (int_eq (n := (if q = 0 then 30 else 0)) (by by_cases h : q = 0; rw [if_pos h, if_pos (by rw [h]; exact Nat.mul_zero _)]; rw [if_neg h, if_neg (Nat.mul_ne_zero p.den_nz (fun h0 => h (Rat.num_eq_zero.1 (Int.natAbs_eq_zero.1 h0))))]))) ?_
 refine zzn ?_;refine zw ?_;refine zz ?_;refine zzn ?_;refine T_ret ?_
 exact ⟨_, [], .many (.cons (.agg 0 inferInstance rfl rfl rfl rfl) (.cons (.tmp rfl) (.nil))), List.nil_sublist _, by rw [← quo_mk]; rfl, rfl⟩
theorem from_spec [Tab G] {a b : RawP} {k : Nat} (hk : 0 < k) (ha : PtOk k a) (hb : PtOk k b) (hs : 400 * k + 21000 ≤ cap) : PSpec Tryz.prog G 95 [aggS (pc a), aggS (pc b)] (aggS (sgc (fr a b))) := by
 refine zs Tryz.func95 ?_;refine zr ?_;refine Run.box rfl rfl rfl rfl rfl rfl fun b2 => ?_;refine Run.box rfl rfl rfl rfl rfl rfl fun b3 => ?_;refine zzv fun b4 => ?_;refine zzn ?_;refine T_seq ?_;refine zr ?_;refine zo ((show OpOK _ _ _ _ _ (aggS (pc a)) from ok_load_own_agg 2 rfl rfl rfl (by kernel_rfl) rfl)) ?_;refine zo ((show OpOK _ _ _ _ _ (aggS (pc b)) from ok_load_own_agg 1 rfl rfl rfl (by kernel_rfl) rfl)) ?_;refine zf (cmpR (p := a) (q := b) hk ha hb hs) ?_;refine zz ?_;refine zzn ?_;refine zzc (fun h8 => ?_) fun h8 => ?_
 ·have k8 := of_decide_eq_true h8
  refine T_region ?_;refine zo ((show OpOK _ _ _ _ _ (aggS (pc b)) from ok_load_own_agg 1 rfl rfl rfl (by kernel_rfl) rfl)) ?_;refine zo ((show OpOK _ _ _ _ _ (aggS (pc a)) from ok_load_own_agg 2 rfl rfl rfl (by kernel_rfl) rfl)) ?_;(iterate 2 refine zw ?_);refine zx ?_;refine zo (ok_load_own_agg 2 rfl rfl rfl rfl rfl) ?_;refine zz ?_;refine zo ((show OpOK _ _ _ _ _ (aggS (sgc (b, a))) from ok_build rfl rfl (by kernel_rfl))) ?_;refine zw ?_;refine zzn ?_;refine T_ret ?_
  exact ⟨_, [], .one (.agg 0 inferInstance rfl rfl rfl rfl), List.nil_sublist _, by unfold fr; rw [if_pos k8]; rfl, rfl⟩
 ·have k8 := of_decide_eq_false h8
  refine T_skip ?_;refine zr ?_;refine zo (ok_load_own_agg 2 rfl rfl rfl rfl rfl) ?_;refine zz ?_;refine zo ((show OpOK _ _ _ _ _ (aggS (sgc (a, b))) from ok_build rfl rfl (by kernel_rfl))) ?_;refine zw ?_;refine zzn ?_;refine T_ret ?_
  exact ⟨_, [], .one (.agg 0 inferInstance rfl rfl rfl rfl), List.nil_sublist _, by unfold fr; rw [if_neg k8]; rfl, rfl⟩
theorem along_spec [Tab G] {s : RSg} {k : Nat} (hk : 0 < k) (hs1 : SgOk k s) (hs : 400 * k + 21000 ≤ cap) : PSpec Tryz.prog G 210 [aggS (sgc s)] (aggS (pcan (sub2 (pv s.2) (pv s.1)))) := by
 refine zs Tryz.func210 ?_;refine zr ?_;refine zz ?_;refine zzv fun b2 => ?_;refine zx ?_;refine zz ?_;refine zo ((show OpOK _ _ _ _ _ (aggS (pc s.2)) from ok_load_agg rfl rfl rfl rfl)) ?_;refine zz ?_;refine zo ((show OpOK _ _ _ _ _ (aggS (pc s.1)) from ok_load_agg rfl rfl rfl rfl)) ?_;refine zf (subR (p := s.2) (q := s.1) hk hs1.2 hs1.1 hs) ?_;refine zw ?_;refine zzn ?_;refine T_ret ?_
 exact ⟨_, [], .one (.agg 0 inferInstance rfl rfl rfl rfl), List.nil_sublist _, rfl, rfl⟩
theorem mside_spec [Tab G] {s : RSg} {p : RawP} {k : Nat} (hk : 0 < k) (hs1 : SgOk k s) (hp : PtOk k p) (hs : 2000 * k + 30000 ≤ cap) : PSpec Tryz.prog G 176 [aggS (sgc s), aggS (pc p)] (intS .i64 (tri (cr (pv s.1) (pv s.2) (pv p)) 0)) := by
 have c1 := bp_sub (bp_raw hk hs1.2) (bp_raw hk hs1.1)
 have c2 := bp_sub (bp_raw hk hp) (bp_raw hk hs1.1)
 have c3 := bq_cross c1 c2
 refine zs Tryz.func176 ?_;refine zr ?_;(iterate 3 refine zz ?_);refine zzn ?_;refine T_drawS 9 (by kernel_rfl) ?_;refine zo ((show OpOK _ _ _ _ _ (aggS (sgc s)) from ok_load_agg rfl rfl rfl rfl)) ?_;refine zo (ok_call rfl rfl (along_spec hk hs1 (by omega))) ?_;refine zo ((show OpOK _ _ _ _ _ (aggS (pc p)) from ok_load_agg rfl rfl rfl rfl)) ?_;refine zz ?_;refine zo ((show OpOK _ _ _ _ _ (aggS (pc s.1)) from ok_load_agg rfl rfl rfl rfl)) ?_;refine zo (ok_call rfl rfl (subR (p := p) (q := s.1) hk hp hs1.1 (by omega))) ?_;refine zo (ok_call rfl rfl (crossV c1 c2 (by omega))) ?_;refine zo (ok_call rfl rfl (qSign_spec (by omega))) ?_;refine zz ?_;(iterate 2 refine zzn ?_);refine T_ret ?_
 exact ⟨_, [], .one (.tmp rfl), List.nil_sublist _, rfl, rfl⟩
theorem spans_spec [Tab G] {s : RSg} {p : RawP} {k : Nat} (hk : 0 < k) (hs1 : SgOk k s) (hp : PtOk k p) (hs : 400 * k + 21000 ≤ cap) : PSpec Tryz.prog G 137 [aggS (sgc s), aggS (pc p)] (boolS (spnB (sgv s) (pv p))) := by
 refine zs Tryz.func137 ?_;refine zr ?_;(iterate 3 refine zz ?_);refine zx ?_;refine zz ?_;refine zo ((show OpOK _ _ _ _ _ (aggS (pc s.1)) from ok_load_agg rfl rfl rfl rfl)) ?_;refine zo ((show OpOK _ _ _ _ _ (aggS (pc p)) from ok_load_agg rfl rfl rfl rfl)) ?_;refine zf (cmpR (p := s.1) (q := p) hk hs1.1 hp hs) ?_
 refine Run.oneB (ok_cmp rfl rfl rfl rfl) rfl rfl rfl (fun h1_4 => ?_) (fun h1_4 => ?_)
 ·have k1_4 := of_decide_eq_true h1_4
  refine zz ?_;refine zo ((show OpOK _ _ _ _ _ (aggS (pc p)) from ok_load_agg rfl rfl rfl rfl)) ?_;refine zz ?_;refine zo ((show OpOK _ _ _ _ _ (aggS (pc s.2)) from ok_load_agg rfl rfl rfl rfl)) ?_;refine zf (cmpR (p := p) (q := s.2) hk hp hs1.2 hs) ?_;(iterate 3 refine zz ?_);refine zzn ?_;refine T_ret ?_
  exact ⟨_, [], .one (.tmp rfl), List.nil_sublist _, by unfold spnB; rw [show decide (cmp2 (sgv s).1 (pv p) ≤ 0) = true from h1_4]; rfl, rfl⟩
 ·have k1_4 := of_decide_eq_false h1_4
  refine zz ?_;(iterate 5 refine zq ?_);(iterate 2 refine zz ?_);refine zzn ?_;refine T_ret ?_
  exact ⟨_, [], .one (.tmp rfl), List.nil_sublist _, by unfold spnB; rw [show decide (cmp2 (sgv s).1 (pv p) ≤ 0) = false from h1_4]; rfl, rfl⟩
theorem has_spec [Tab G] {s : RSg} {p : RawP} {k : Nat} (hk : 0 < k) (hs1 : SgOk k s) (hp : PtOk k p) (hs : 2000 * k + 30000 ≤ cap) : PSpec Tryz.prog G 134 [aggS (sgc s), aggS (pc p)] (boolS (hasB (sgv s) (pv p))) := by
 refine zs Tryz.func134 ?_;refine zr ?_;(iterate 3 refine zz ?_);refine zx ?_;refine zo ((show OpOK _ _ _ _ _ (aggS (sgc s)) from ok_load_agg rfl rfl rfl rfl)) ?_;refine zo ((show OpOK _ _ _ _ _ (aggS (pc p)) from ok_load_agg rfl rfl rfl rfl)) ?_
 refine Run.oneB (ok_call rfl rfl (spans_spec hk hs1 hp (by omega))) rfl rfl rfl (fun h1_2 => ?_) (fun h1_2 => ?_)
 ·refine zz ?_;refine zo ((show OpOK _ _ _ _ _ (aggS (sgc s)) from ok_load_agg rfl rfl rfl rfl)) ?_;refine zo ((show OpOK _ _ _ _ _ (aggS (pc p)) from ok_load_agg rfl rfl rfl rfl)) ?_;refine zf (mside_spec hk hs1 hp hs) ?_;(iterate 3 refine zz ?_);refine zzn ?_;refine T_ret ?_
  exact ⟨_, [], .one (.tmp rfl), List.nil_sublist _, by unfold hasB; rw [h1_2]; rfl, rfl⟩
 ·refine zz ?_;(iterate 4 refine zq ?_);(iterate 2 refine zz ?_);refine zzn ?_;refine T_ret ?_
  exact ⟨_, [], .one (.tmp rfl), List.nil_sublist _, by unfold hasB; rw [h1_2]; rfl, rfl⟩
theorem none_spec : PSpec Tryz.prog G 133 [] (aggS (mtC noMt)) := by
 refine zs Tryz.func133 ?_;refine zr ?_;refine zzv fun b0 => ?_;refine zx ?_;(iterate 2 refine zo (ok_call rfl rfl (vOf_spec (p := 0) (q := 0) (by decide) (by decide) (by decide) (by decide))) ?_);refine zo ((show OpOK _ _ _ _ _ (aggS (mtC noMt)) from ok_build rfl rfl (by kernel_rfl))) ?_;refine zw ?_;refine zzn ?_;refine T_ret ?_
 exact ⟨_, [], .one (.agg 0 inferInstance rfl rfl rfl rfl), List.nil_sublist _, rfl, rfl⟩
theorem mLines_spec [Tab G] {a b c d : RawP} {k : Nat} (hk : 0 < k) (ha : PtOk k a) (hb : PtOk k b) (hc : PtOk k c) (hd : PtOk k d) (hs : 10000 * k + 100000 ≤ cap) : PSpec Tryz.prog G 136 [aggS (pc a), aggS (pc b), aggS (pc c), aggS (pc d)] (tupS [aggS (pcan (if den (pv a) (pv b) (pv c) (pv d) = 0 then (0, 0) else lnP (pv a) (pv b) (pv c) (pv d))), boolS (!decide (den (pv a) (pv b) (pv c) (pv d) = 0))]) := by
 have c1 := bp_sub (bp_raw hk hd) (bp_raw hk hc)
 have c2 := bp_sub (bp_raw hk hc) (bp_raw hk ha)
 have c3 := bp_sub (bp_raw hk hb) (bp_raw hk ha)
 have c4 := bq_cross c2 c1
 have c5 := bq_cross c3 c1
 have c6 : Bq (lnR (pv a) (pv b) (pv c) (pv d)) _ := bq_div (hp := c4) (hq := c5)
 have a1 := isQ_lim (b := a.1.1) ha.1 hk
 have b1 := isQ_lim (b := b.1.1) hb.1 hk
 have a2 := isQ_lim (b := a.2.1) ha.2 hk
 have b2 := isQ_lim (b := b.2.1) hb.2 hk
 refine zs Tryz.func136 ?_;refine zr ?_;(iterate 4 refine zz ?_);refine zzv fun b8 => ?_;refine zz ?_;refine zx ?_;refine zo ((show OpOK _ _ _ _ _ (aggS (pc d)) from ok_load_agg rfl rfl rfl rfl)) ?_;refine zo ((show OpOK _ _ _ _ _ (aggS (pc c)) from ok_load_agg rfl rfl rfl rfl)) ?_;refine zo (ok_call rfl rfl (subR (p := d) (q := c) hk hd hc (by omega))) ?_;refine zzv fun b10 => ?_;refine zw ?_;refine zzn ?_;refine T_drawAS 14 (by kernel_rfl) rfl rfl ?_;refine RunE.lat ((show OpOK _ _ _ _ _ (aggS (pc c)) from ok_load_agg rfl rfl rfl rfl)) rfl rfl rfl ?_;refine RunE.lat ((show OpOK _ _ _ _ _ (aggS (pc a)) from ok_load_agg rfl rfl rfl rfl)) rfl rfl rfl ?_;refine RunE.lat (ok_call rfl rfl (subR (p := c) (q := a) hk hc ha (by omega))) rfl rfl rfl ?_;refine RunE.lat ((show OpOK _ _ _ _ _ (aggS (pcan (sub2 (pv d) (pv c)))) from ok_load_own_agg 0 rfl rfl rfl (by kernel_rfl) rfl)) rfl rfl rfl ?_;refine RunE.lat (ok_call rfl rfl (crossV c2 c1 (by omega))) rfl rfl rfl ?_;refine RunE.lat ((show OpOK _ _ _ _ _ (aggS (pc b)) from ok_load_agg rfl rfl rfl rfl)) rfl rfl rfl ?_;refine RunE.lat ((show OpOK _ _ _ _ _ (aggS (pc a)) from ok_load_agg rfl rfl rfl rfl)) rfl rfl rfl ?_;refine RunE.lat (ok_call rfl rfl (subR (p := b) (q := a) hk hb ha (by omega))) rfl rfl rfl ?_;refine RunE.lat ((show OpOK _ _ _ _ _ (aggS (pcan (sub2 (pv d) (pv c)))) from ok_load_own_agg 0 rfl rfl rfl (by kernel_rfl) rfl)) rfl rfl rfl ?_;refine RunE.lat (ok_call rfl rfl (crossV c3 c1 (by omega))) rfl rfl rfl ?_;refine RunE.lat (ok_call rfl rfl (show PSpec _ _ _ _ (tupS [aggS (canQ (lnR (pv a) (pv b) (pv c) (pv d))), intS .i64 (if den (pv a) (pv b) (pv c) (pv d) = 0 then 30 else 0)]) from qquo_spec (hx := isQ_can (h := c4)) (hy := isQ_can (h := c5)) (by omega))) rfl rfl rfl ?_;refine RunE.lat (ok_move rfl rfl) rfl rfl rfl ?_;(iterate 2 refine RunE.lat (ok_extract rfl rfl rfl) rfl rfl rfl ?_);refine RunE.nil ?_;refine EffAA.mk1 rfl rfl rfl rfl rfl rfl rfl rfl (by intro h; cases h) rfl rfl rfl fun b11 => ?_;refine zz ?_;refine zzn ?_;refine T_seq ?_;refine zr ?_;(iterate 2 refine zz ?_);refine zzn ?_;refine zzc (fun h31 => ?_) fun h31 => ?_
 ·have k31 := bne_iff_ne.1 h31
  have hd0 : den (pv a) (pv b) (pv c) (pv d) = 0 := Classical.byContradiction fun h => k31 (if_neg h)
  refine zr ?_;refine zo (ok_call rfl rfl (vOf_spec (p := 0) (q := 0) (by decide) (by decide) (by decide) (by decide))) ?_;refine zw ?_;refine zz ?_;refine zzn ?_;refine T_ret ?_
  exact ⟨_, [], .many (.cons (.agg 2 inferInstance rfl rfl rfl rfl) (.cons (.tmp rfl) (.nil))), List.nil_sublist _, by rw [if_pos hd0, decide_eq_true hd0]; rfl, rfl⟩
 ·have k31 := bne_eq_false_iff_eq.1 h31
  have hd0 : ¬ den (pv a) (pv b) (pv c) (pv d) = 0 := fun h => by rw [if_pos h] at k31; exact absurd k31 (by decide)
  refine T_skip ?_;refine zr ?_;refine zo ((show OpOK _ _ _ _ _ (aggS (pc a)) from ok_load_agg rfl rfl rfl rfl)) ?_;refine zo ((show OpOK _ _ _ _ _ (aggS (pc b)) from ok_load_agg rfl rfl rfl rfl)) ?_;refine zo ((show OpOK _ _ _ _ _ (aggS (canQ (lnR (pv a) (pv b) (pv c) (pv d)))) from ok_load_own_agg 0 rfl rfl rfl (by kernel_rfl) rfl)) ?_;refine zo (ok_call rfl rfl (show PSpec _ _ _ _ (aggS (pcan (lnP (pv a) (pv b) (pv c) (pv d)))) from vAt_spec (by omega))) ?_;refine zw ?_;refine zz ?_;refine zzn ?_;refine T_ret ?_
  exact ⟨_, [], .many (.cons (.agg 2 inferInstance rfl rfl rfl rfl) (.cons (.tmp rfl) (.nil))), List.nil_sublist _, by rw [if_neg hd0, decide_eq_false hd0]; rfl, rfl⟩
theorem meets_spec [Tab G] {s t : RSg} {k : Nat} (hk : 0 < k) (hs1 : SgOk k s) (ht1 : SgOk k t) (hs : 100000 * k + 100000 ≤ cap) : PSpec Tryz.prog G 96 [aggS (sgc s), aggS (sgc t)] (aggS (mtC (mtF (sgv s) (sgv t)))) := by
 refine zs Tryz.func96 ?_;refine zr ?_;(iterate 2 refine zz ?_);refine zzv fun b4 => ?_;refine zzn ?_;refine T_draw2S 4 (by kernel_rfl) rfl rfl rfl rfl ?_;refine RunE.lat (ok_fieldAddr rfl rfl rfl) rfl rfl rfl ?_;refine RunE.lat ((show OpOK _ _ _ _ _ (aggS (pc s.1)) from ok_load_agg rfl rfl rfl rfl)) rfl rfl rfl ?_;refine RunE.lat (ok_fieldAddr rfl rfl rfl) rfl rfl rfl ?_;refine RunE.lat ((show OpOK _ _ _ _ _ (aggS (pc s.2)) from ok_load_agg rfl rfl rfl rfl)) rfl rfl rfl ?_;refine RunE.nil ?_
 refine ⟨⟨_, _, _, _, _, _, _, _, (show 5 ≠ 6 by decide), NewB.mk1 rfl rfl rfl rfl rfl rfl rfl (by intro h; cases h) (by intro h; cases h) rfl rfl rfl, NewB.mk1 rfl rfl rfl rfl rfl rfl rfl (by intro h; cases h) (by intro h; cases h) rfl rfl rfl, fun b5 b6 => ?_⟩⟩
 refine zzn ?_;refine T_seqQ (K := fun S1 => ∃ lo : RawP, pv lo = loF (sgv s) (sgv t) ∧ PtOk k lo ∧ Ent S1 ⟨103, [(6, eqS (.pointer (some ⟨b6, 0, none⟩))), (5, eqS (.pointer (some ⟨b5, 0, none⟩))), (4, eqS (.pointer (some ⟨b4, 0, none⟩))), (3, ptrS (sgc t)), (2, ptrS (sgc s))], [⟨some b6, 30, pc s.2, 0⟩, ⟨some b5, 30, pc lo, 0⟩, ⟨some b4, 79, [intS .i8 0, eqS (.bool false), eqS (.slice none 0 0), eqS (.slice none 0 0), eqS (.bool false), eqS (.slice none 0 0), eqS (.slice none 0 0), eqS (.bool false), eqS (.slice none 0 0), eqS (.slice none 0 0), eqS (.bool false), eqS (.slice none 0 0), eqS (.slice none 0 0)], 0⟩], [], (0, false)⟩) ?_ ?_
 ·refine zr ?_;refine zz ?_;refine zo ((show OpOK _ _ _ _ _ (aggS (pc t.1)) from ok_load_agg rfl rfl rfl rfl)) ?_;refine zo ((show OpOK _ _ _ _ _ (aggS (pc s.1)) from ok_load_own_agg 1 rfl rfl rfl (by kernel_rfl) rfl)) ?_;refine zo (ok_call rfl rfl (cmpR (p := t.1) (q := s.1) hk ht1.1 hs1.1 (by omega))) ?_;refine zz ?_;refine zzn ?_;refine zzc (fun h19 => ?_) fun h19 => ?_
  ·have k19 := of_decide_eq_true h19
   refine T_region ?_;refine zz ?_;refine zo ((show OpOK _ _ _ _ _ (aggS (pc t.1)) from ok_load_agg rfl rfl rfl rfl)) ?_;refine zw ?_;refine zzn ?_
   exact ⟨t.1, (if_pos k19).symm, ht1.1, ent_h zk rfl⟩
  ·have k19 := of_decide_eq_false h19
   refine T_skip ?_
   exact ⟨s.1, (if_neg k19).symm, hs1.1, ent_h zk rfl⟩
 ·rintro S1 ⟨lo, hlo, olo, hS1⟩
  refine T_pre hS1 ?_;refine T_seqQ (K := fun S1 => ∃ hi : RawP, pv hi = hiF (sgv s) (sgv t) ∧ PtOk k hi ∧ Ent S1 ⟨103, [(6, eqS (.pointer (some ⟨b6, 0, none⟩))), (5, eqS (.pointer (some ⟨b5, 0, none⟩))), (4, eqS (.pointer (some ⟨b4, 0, none⟩))), (3, ptrS (sgc t)), (2, ptrS (sgc s))], [⟨some b6, 30, pc hi, 0⟩, ⟨some b5, 30, pc lo, 0⟩, ⟨some b4, 79, [intS .i8 0, eqS (.bool false), eqS (.slice none 0 0), eqS (.slice none 0 0), eqS (.bool false), eqS (.slice none 0 0), eqS (.slice none 0 0), eqS (.bool false), eqS (.slice none 0 0), eqS (.slice none 0 0), eqS (.bool false), eqS (.slice none 0 0), eqS (.slice none 0 0)], 0⟩], [], (0, false)⟩) ?_ ?_
  ·refine zr ?_;refine zz ?_;refine zo ((show OpOK _ _ _ _ _ (aggS (pc t.2)) from ok_load_agg rfl rfl rfl rfl)) ?_;refine zo ((show OpOK _ _ _ _ _ (aggS (pc s.2)) from ok_load_own_agg 0 rfl rfl rfl (by kernel_rfl) rfl)) ?_;refine zo (ok_call rfl rfl (cmpR (p := t.2) (q := s.2) hk ht1.2 hs1.2 (by omega))) ?_;refine zz ?_;refine zzn ?_;refine zzc (fun h26 => ?_) fun h26 => ?_
   ·have k26 := of_decide_eq_true h26
    refine T_region ?_;refine zz ?_;refine zo ((show OpOK _ _ _ _ _ (aggS (pc t.2)) from ok_load_agg rfl rfl rfl rfl)) ?_;refine zw ?_;refine zzn ?_
    exact ⟨t.2, (if_pos k26).symm, ht1.2, ent_h zk rfl⟩
   ·have k26 := of_decide_eq_false h26
    refine T_skip ?_
    exact ⟨s.2, (if_neg k26).symm, hs1.2, ent_h zk rfl⟩
  ·rintro S1 ⟨hi, hhi, ohi, hS1⟩
   refine T_pre hS1 ?_;refine zr ?_;refine zo ((show OpOK _ _ _ _ _ (aggS (pc lo)) from ok_load_own_agg 1 rfl rfl rfl (by kernel_rfl) rfl)) ?_;refine zo ((show OpOK _ _ _ _ _ (aggS (pc hi)) from ok_load_own_agg 0 rfl rfl rfl (by kernel_rfl) rfl)) ?_;refine zo (ok_call rfl rfl (cmpR (p := lo) (q := hi) hk olo ohi (by omega))) ?_;refine zz ?_;refine zzn ?_;refine T_seq ?_;refine zr ?_;(iterate 2 refine zz ?_);refine zzn ?_;refine zzc (fun h33 => ?_) fun h33 => ?_
   ·have k33 := of_decide_eq_true h33
    have e0 : mtF (sgv s) (sgv t) = noMt := by unfold mtF; rw [← hlo, ← hhi, if_pos k33]
    refine zr ?_;refine zf none_spec ?_;refine zw ?_;refine zzn ?_;refine T_ret ?_
    exact ⟨_, [], .one (.agg 2 inferInstance rfl rfl rfl rfl), List.nil_sublist _, by rw [e0]; rfl, rfl⟩
   ·have k33 := of_decide_eq_false h33
    refine T_skip ?_;refine T_seq ?_;refine T_seqQ (K := fun S1 => Ent S1 ⟨103, [(52, boolS (hasB (sgv s) (pv lo) && hasB (sgv t) (pv lo) && hasB (sgv s) (pv hi) && hasB (sgv t) (pv hi))), (7, intS .i64 (cmp2 (pv lo) (pv hi))), (6, eqS (.pointer (some ⟨b6, 0, none⟩))), (5, eqS (.pointer (some ⟨b5, 0, none⟩))), (4, eqS (.pointer (some ⟨b4, 0, none⟩))), (3, ptrS (sgc t)), (2, ptrS (sgc s))], [⟨some b6, 30, pc hi, 0⟩, ⟨some b5, 30, pc lo, 0⟩, ⟨some b4, 79, [intS .i8 0, eqS (.bool false), eqS (.slice none 0 0), eqS (.slice none 0 0), eqS (.bool false), eqS (.slice none 0 0), eqS (.slice none 0 0), eqS (.bool false), eqS (.slice none 0 0), eqS (.slice none 0 0), eqS (.bool false), eqS (.slice none 0 0), eqS (.slice none 0 0)], 0⟩], [], (0, false)⟩) ?_ ?_
    ·refine T_region ?_;refine zo ((show OpOK _ _ _ _ _ (aggS (sgc s)) from ok_load_agg rfl rfl rfl rfl)) ?_;refine zo ((show OpOK _ _ _ _ _ (aggS (pc lo)) from ok_load_own_agg 1 rfl rfl rfl (by kernel_rfl) rfl)) ?_
     refine Run.oneB (ok_call rfl rfl (has_spec (s := s) (p := lo) hk hs1 olo (by omega))) rfl rfl rfl (fun h9_2 => ?_) (fun h9_2 => ?_)
     ·refine zz ?_;refine zo ((show OpOK _ _ _ _ _ (aggS (sgc t)) from ok_load_agg rfl rfl rfl rfl)) ?_;refine zo ((show OpOK _ _ _ _ _ (aggS (pc lo)) from ok_load_own_agg 1 rfl rfl rfl (by kernel_rfl) rfl)) ?_;refine zo (ok_call rfl rfl (has_spec (s := t) (p := lo) hk ht1 olo (by omega))) ?_
      refine Run.oneB (ok_pick rfl rfl rfl) rfl rfl rfl (fun h9_7 => ?_) (fun h9_7 => ?_)
      ·refine zz ?_;refine zo ((show OpOK _ _ _ _ _ (aggS (sgc s)) from ok_load_agg rfl rfl rfl rfl)) ?_;refine zo ((show OpOK _ _ _ _ _ (aggS (pc hi)) from ok_load_own_agg 0 rfl rfl rfl (by kernel_rfl) rfl)) ?_;refine zo (ok_call rfl rfl (has_spec (s := s) (p := hi) hk hs1 ohi (by omega))) ?_
       refine Run.oneB (ok_pick rfl rfl rfl) rfl rfl rfl (fun h9_12 => ?_) (fun h9_12 => ?_)
       ·refine zz ?_;refine zo ((show OpOK _ _ _ _ _ (aggS (sgc t)) from ok_load_agg rfl rfl rfl rfl)) ?_;refine zo ((show OpOK _ _ _ _ _ (aggS (pc hi)) from ok_load_own_agg 0 rfl rfl rfl (by kernel_rfl) rfl)) ?_;refine zo (ok_call rfl rfl (has_spec (s := t) (p := hi) hk ht1 ohi (by omega))) ?_;refine zz ?_;refine zzn ?_
        exact (by rw [h9_2, h9_7, h9_12]; exact ent_h (subG_cons rfl (subG_cons rfl (subG_cons rfl (subG_cons rfl (subG_cons rfl (subG_cons rfl (subG_cons rfl (trivial)))))))) rfl)
       ·refine zz ?_;(iterate 3 refine zq ?_);refine zz ?_;refine zzn ?_
        exact (by rw [h9_2, h9_7, h9_12]; exact ent_h (subG_cons rfl (subG_cons rfl (subG_cons rfl (subG_cons rfl (subG_cons rfl (subG_cons rfl (subG_cons rfl (trivial)))))))) rfl)
      ·refine zz ?_;(iterate 3 refine zq ?_);(iterate 2 refine zz ?_);(iterate 3 refine zq ?_);refine zz ?_;refine zzn ?_
       exact (by rw [h9_2, h9_7]; exact ent_h (subG_cons rfl (subG_cons rfl (subG_cons rfl (subG_cons rfl (subG_cons rfl (subG_cons rfl (subG_cons rfl (trivial)))))))) rfl)
     ·refine zz ?_;(iterate 3 refine zq ?_);(iterate 2 refine zz ?_);(iterate 3 refine zq ?_);(iterate 2 refine zz ?_);(iterate 3 refine zq ?_);refine zz ?_;refine zzn ?_
      exact (by rw [h9_2]; exact ent_h (subG_cons rfl (subG_cons rfl (subG_cons rfl (subG_cons rfl (subG_cons rfl (subG_cons rfl (subG_cons rfl (trivial)))))))) rfl)
    ·intro S1 hS1
     refine T_pre hS1 ?_;refine zzc (fun h52 => ?_) fun h52 => ?_
     ·refine zr ?_;refine zo ((show OpOK _ _ _ _ _ (aggS (pc lo)) from ok_load_own_agg 1 rfl rfl rfl (by kernel_rfl) rfl)) ?_;refine zo ((show OpOK _ _ _ _ _ (aggS (pc hi)) from ok_load_own_agg 0 rfl rfl rfl (by kernel_rfl) rfl)) ?_;refine zo (ok_buildSlice rfl rfl (by decide) rfl (by simp) (by kernel_rfl) (by kernel_rfl)) ?_;refine zo (ok_call rfl rfl (show PSpec _ _ _ [slS 6 id [pc lo, pc hi]] (slS 6 pcan [pv lo, pv hi]) from vNormL (ps := [lo, hi]) hk (by intro p hp; rcases List.mem_cons.1 hp with rfl | hp; exact olo; rw [List.mem_singleton.1 hp]; exact ohi) (by omega) (show 2 ≤ cap by decide))) ?_;refine zz ?_;refine zzn ?_;refine T_seq ?_;refine zr ?_;(iterate 2 refine zz ?_);refine zzn ?_;refine zzc (fun h58 => ?_) fun h58 => ?_
      ·have k58 := beq_iff_eq.1 h58
       have e1 : mtF (sgv s) (sgv t) = (1, pv lo, pv hi) := by unfold mtF; rw [← hlo, ← hhi, if_neg k33, if_pos h52, if_pos k58]
       refine T_drawS 7 (by kernel_rfl) ?_;refine zz ?_;refine zo (ok_indexAddr rfl rfl rfl (by omega) (y := pv lo) (rfl)) ?_;refine zo ((show OpOK _ _ _ _ _ (aggS (pcan (pv lo))) from ok_load_agg rfl rfl rfl rfl)) ?_;refine zz ?_;refine zo (ok_indexAddr rfl rfl rfl (by omega) (y := pv hi) (rfl)) ?_;refine zo ((show OpOK _ _ _ _ _ (aggS (pcan (pv hi))) from ok_load_agg rfl rfl rfl rfl)) ?_;refine zo ((show OpOK _ _ _ _ _ (aggS (mtC (1, pv lo, pv hi))) from ok_build rfl rfl (by kernel_rfl))) ?_;refine zzn ?_;refine zw ?_;refine zzn ?_;refine T_ret ?_
       exact ⟨_, [], .one (.agg 2 inferInstance rfl rfl rfl rfl), List.nil_sublist _, by rw [e1]; rfl, rfl⟩
      ·have k58 := beq_eq_false_iff_ne.1 h58
       have e1 : mtF (sgv s) (sgv t) = (2, pv lo, pv hi) := by unfold mtF; rw [← hlo, ← hhi, if_neg k33, if_pos h52, if_neg k58]
       refine T_skip ?_;refine T_drawS 7 (by kernel_rfl) ?_;refine zz ?_;refine zo (ok_indexAddr rfl rfl rfl (by omega) (y := pv lo) (rfl)) ?_;refine zo ((show OpOK _ _ _ _ _ (aggS (pcan (pv lo))) from ok_load_agg rfl rfl rfl rfl)) ?_;refine zz ?_;refine zo (ok_indexAddr rfl rfl rfl (by omega) (y := pv hi) (rfl)) ?_;refine zo ((show OpOK _ _ _ _ _ (aggS (pcan (pv hi))) from ok_load_agg rfl rfl rfl rfl)) ?_;refine zo ((show OpOK _ _ _ _ _ (aggS (mtC (2, pv lo, pv hi))) from ok_build rfl rfl (by kernel_rfl))) ?_;refine zzn ?_;refine zw ?_;refine zzn ?_;refine T_ret ?_
       exact ⟨_, [], .one (.agg 2 inferInstance rfl rfl rfl rfl), List.nil_sublist _, by rw [e1]; rfl, rfl⟩
     ·refine T_skip ?_
      obtain ⟨P, hP⟩ : ∃ P, P = (if den (sgv s).1 (sgv s).2 (sgv t).1 (sgv t).2 = 0 then (0, 0) else lnP (sgv s).1 (sgv s).2 (sgv t).1 (sgv t).2) := ⟨_, rfl⟩
      have bP := bp_lnP hk (bp_raw hk hs1.1) (bp_raw hk hs1.2) (bp_raw hk ht1.1) (bp_raw hk ht1.2)
      have oP : PtOk (32 * k) (rep P) := by rw [hP]; exact bp_rep bP
      have hln : PSpec Tryz.prog G 136 [aggS (pc s.1), aggS (pc s.2), aggS (pc t.1), aggS (pc t.2)] (tupS [aggS (pcan P), boolS (!decide (den (sgv s).1 (sgv s).2 (sgv t).1 (sgv t).2 = 0))]) := by rw [hP]; exact mLines_spec hk hs1.1 hs1.2 ht1.1 ht1.2 (by omega)
      have e2 := mt_rest (s := sgv s) (t := sgv t) hP (pv_rep P) (by rw [← hlo, ← hhi]; exact k33) (by rw [← hlo, ← hhi]; exact h52)
      refine zr ?_;refine zz ?_;refine zo ((show OpOK _ _ _ _ _ (aggS (pc s.1)) from ok_load_agg rfl rfl rfl rfl)) ?_;refine zz ?_;refine zo ((show OpOK _ _ _ _ _ (aggS (pc s.2)) from ok_load_agg rfl rfl rfl rfl)) ?_;refine zz ?_;refine zo ((show OpOK _ _ _ _ _ (aggS (pc t.1)) from ok_load_agg rfl rfl rfl rfl)) ?_;refine zz ?_;refine zo ((show OpOK _ _ _ _ _ (aggS (pc t.2)) from ok_load_agg rfl rfl rfl rfl)) ?_;refine zf hln ?_;(iterate 3 refine zz ?_);refine zzv fun b9 => ?_;refine zw ?_;refine zz ?_;refine zzn ?_;refine T_seq ?_;refine T_seqQ (K := fun S1 => Ent S1 ⟨103, [(98, boolS (!(!decide (den (sgv s).1 (sgv s).2 (sgv t).1 (sgv t).2 = 0)) || !spnB (sgv s) (pv (rep P)) || !spnB (sgv t) (pv (rep P)))), (9, eqS (.pointer (some ⟨b9, 0, none⟩))), (6, eqS (.pointer (some ⟨b6, 0, none⟩))), (5, eqS (.pointer (some ⟨b5, 0, none⟩))), (4, eqS (.pointer (some ⟨b4, 0, none⟩))), (3, ptrS (sgc t)), (2, ptrS (sgc s))], ⟨some b9, 30, pcan P, 0⟩ :: [⟨some b6, 30, pc hi, 0⟩, ⟨some b5, 30, pc lo, 0⟩, ⟨some b4, 79, [intS .i8 0, eqS (.bool false), eqS (.slice none 0 0), eqS (.slice none 0 0), eqS (.bool false), eqS (.slice none 0 0), eqS (.slice none 0 0), eqS (.bool false), eqS (.slice none 0 0), eqS (.slice none 0 0), eqS (.bool false), eqS (.slice none 0 0), eqS (.slice none 0 0)], 0⟩], [], (0, false)⟩) ?_ ?_
      ·refine T_region ?_;refine zz ?_
       refine Run.oneB (ok_not rfl rfl) rfl rfl rfl (fun h15_1 => ?_) (fun h15_1 => ?_)
       ·refine zz ?_;(iterate 4 refine zq ?_);(iterate 2 refine zz ?_);(iterate 4 refine zq ?_);refine zz ?_;refine zzn ?_
        exact (by rw [h15_1]; exact ent_h (subG_cons rfl (subG_cons rfl (subG_cons rfl (subG_cons rfl (subG_cons rfl (subG_cons rfl (subG_cons rfl (trivial)))))))) rfl)
       ·refine zz ?_;refine zo ((show OpOK _ _ _ _ _ (aggS (sgc s)) from ok_load_agg rfl rfl rfl rfl)) ?_;refine zo ((show OpOK _ _ _ _ _ (aggS (pc (rep P))) from ok_load_own_agg 0 rfl rfl rfl (by kernel_rfl) rfl)) ?_;refine zo (ok_call rfl rfl (spans_spec (s := s) (p := rep P) (k := 32 * k) (by omega) ⟨ptOk_mono hs1.1 (by omega), ptOk_mono hs1.2 (by omega)⟩ oP (by omega))) ?_;refine zz ?_
        refine Run.oneB (ok_pick rfl rfl rfl) rfl rfl rfl (fun h15_7 => ?_) (fun h15_7 => ?_)
        ·refine zz ?_;(iterate 4 refine zq ?_);refine zz ?_;refine zzn ?_
         exact (by rw [h15_1, h15_7]; exact ent_h (subG_cons rfl (subG_cons rfl (subG_cons rfl (subG_cons rfl (subG_cons rfl (subG_cons rfl (subG_cons rfl (trivial)))))))) rfl)
        ·refine zz ?_;refine zo ((show OpOK _ _ _ _ _ (aggS (sgc t)) from ok_load_agg rfl rfl rfl rfl)) ?_;refine zo ((show OpOK _ _ _ _ _ (aggS (pc (rep P))) from ok_load_own_agg 0 rfl rfl rfl (by kernel_rfl) rfl)) ?_;refine zo (ok_call rfl rfl (spans_spec (s := t) (p := rep P) (k := 32 * k) (by omega) ⟨ptOk_mono ht1.1 (by omega), ptOk_mono ht1.2 (by omega)⟩ oP (by omega))) ?_;(iterate 2 refine zz ?_);refine zzn ?_
         exact (by rw [h15_1, h15_7]; exact ent_h (subG_cons rfl (subG_cons rfl (subG_cons rfl (subG_cons rfl (subG_cons rfl (subG_cons rfl (subG_cons rfl (trivial)))))))) rfl)
      ·intro S1 hS1
       refine T_pre hS1 ?_;refine zzc (fun h98 => ?_) fun h98 => ?_
       ·rw [if_pos h98] at e2
        refine zr ?_;refine zf none_spec ?_;refine zw ?_;refine zzn ?_;refine T_ret ?_
        exact ⟨_, [], .one (.agg 3 inferInstance rfl rfl rfl rfl), List.nil_sublist _, by rw [e2]; rfl, rfl⟩
       ·rw [if_neg (by rw [h98]; decide)] at e2
        refine T_skip ?_;refine zr ?_;(iterate 2 refine zo ((show OpOK _ _ _ _ _ (aggS (pcan P)) from ok_load_own_agg 0 rfl rfl rfl (by kernel_rfl) rfl)) ?_);refine zo ((show OpOK _ _ _ _ _ (aggS (mtC (1, P, P))) from ok_build rfl rfl (by kernel_rfl))) ?_;refine zw ?_;refine zzn ?_;refine T_ret ?_
        exact ⟨_, [], .one (.agg 3 inferInstance rfl rfl rfl rfl), List.nil_sublist _, by rw [e2]; rfl, rfl⟩
theorem segs_spec [Tab G] {a b c d : RawP} {k : Nat} (hk : 0 < k) (ha : PtOk k a) (hb : PtOk k b) (hc : PtOk k c) (hd : PtOk k d) (hs : 100000 * k + 100000 ≤ cap) : PSpec Tryz.prog G 51 [aggS (pc a), aggS (pc b), aggS (pc c), aggS (pc d)] (aggS (mtC (mtF (fromF (pv a) (pv b)) (fromF (pv c) (pv d))))) := by
 refine zs Tryz.func51 ?_;refine zr ?_;(iterate 4 refine zz ?_);refine zzv fun b8 => ?_;refine zzn ?_;refine T_drawS 7 (by kernel_rfl) ?_;refine zo ((show OpOK _ _ _ _ _ (aggS (pc a)) from ok_load_agg rfl rfl rfl rfl)) ?_;refine zo ((show OpOK _ _ _ _ _ (aggS (pc b)) from ok_load_agg rfl rfl rfl rfl)) ?_;refine zo (ok_call rfl rfl (from_spec hk ha hb (by omega))) ?_;refine zo ((show OpOK _ _ _ _ _ (aggS (pc c)) from ok_load_agg rfl rfl rfl rfl)) ?_;refine zo ((show OpOK _ _ _ _ _ (aggS (pc d)) from ok_load_agg rfl rfl rfl rfl)) ?_;refine zo (ok_call rfl rfl (from_spec hk hc hd (by omega))) ?_;refine zf (meets_spec hk (fr_ok ha hb) (fr_ok hc hd) hs) ?_;refine zzn ?_;refine zw ?_;refine zzn ?_;refine T_ret ?_
 exact ⟨_, [], .one (.agg 0 inferInstance rfl rfl rfl rfl), List.nil_sublist _, by rw [fr_v, fr_v]; rfl, rfl⟩
end Go.Proofs
/- Polygons: their edges, each two of these, whether they are simple. -/
namespace Go.Sv
open Go Go.RowKit
theorem ok_field {P : Program} {G : Imm} {H : HL} {o : Oper} {g : List (Nat × SV)} {st ft k : Nat} {fs : Array Field} {f : Field} {x : Operand} {cs : List SV} {s : SV} [IsScalar P ft] (hu : P.underlying st = some (.struct fs)) (hf : fs[k]? = some f) (hft : f.type = ft) (hop : o.op = .field st x k) (hx : opE g x = some (aggS cs)) (hd : cs[f.offset]? = some s) : OpOK P G H o g s :=
 ok_pure (by simp [hop]) fun I W a _ _ hr => by
  obtain ⟨xs, hv, hxs, h1⟩ := hr.get (by simp [hop, Op.operands]) hx
  obtain ⟨d, hd', hm⟩ := IsScalar.h (P := P) (t := ft)
  have h2 : (isAgg ft).run P W = .ok false W := by
   unfold isAgg; simp only [Sem.run_bind, run_underlying hd', Result.andThen_ok]
   cases d <;> simp_all
  obtain ⟨y, hy, hys⟩ := hxs.get hd
  have h4 : xs.toArray[f.offset]? = some y := by simp [hy]
  refine ⟨y, ?_, hys⟩
  simp only [execOp, hop, hv, Instr.field, Sem.run_bind, run_underlying hu, Result.andThen_ok, hf, asAgg, Sem.run_pure, part, hft, h2, h4, if_false, Bool.false_eq_true]
instance {l : Nat} : One (yieldS l) := ⟨one_eqS rfl⟩
end Go.Sv
namespace Num
open Go Go.Proofs
def prA (n a b : Nat) : List (Nat × Nat) := ((List.range a).flatMap fun i => ((List.range n).filter fun j => decide (i < j)).map fun j => (i, j)) ++ ((List.range b).filter fun j => decide (a < j)).map fun j => (a, j)
theorem prA_succ (n a b : Nat) : prA n a (b + 1) = if a < b then prA n a b ++ [(a, b)] else prA n a b := by
 unfold prA
 rw [List.range_succ, List.filter_append, List.map_append, ← List.append_assoc]
 split
 ·rename_i h; rw [List.filter_cons, if_pos (decide_eq_true h)]; rfl
 ·rename_i h; rw [List.filter_cons, if_neg (by simpa using h)]; simp
theorem prA_next (n a : Nat) : prA n a n = prA n (a + 1) 0 := by
 unfold prA
 rw [List.range_succ, List.flatMap_append, List.flatMap_singleton]; simp
theorem prA_all (n : Nat) : prA n n 0 = prs n := by unfold prA prs; simp
theorem pre_app {α : Type} (a b : List α) : a <+: a ++ b := ⟨b, rfl⟩
theorem prA_pre {n a b : Nat} (ha : a < n) (hb : b ≤ n) : prA n a b <+: prs n := by
  have h1 : ∀ d, b + d = n → prA n a b <+: prA n a n := fun d => by
    induction d generalizing b with
    | zero => intro h; rw [show b = n by omega]; exact List.prefix_refl _
    | succ d ih =>
      intro h
      refine List.IsPrefix.trans ?_ (ih (b := b + 1) (by omega) (by omega))
      rw [prA_succ]; split
      · exact pre_app _ _
      · exact List.prefix_refl _
  refine (h1 (n - b) (by omega)).trans ?_
  rw [prA_next, ← prA_all]
  obtain ⟨m, rfl⟩ : ∃ m, n = a + 1 + m := ⟨n - (a + 1), by omega⟩
  unfold prA
  rw [List.range_add, List.flatMap_append]
  simp only [List.range_zero, List.filter_nil, List.map_nil, List.append_nil]
  exact pre_app _ _
theorem pre_get {α : Type} {a b : List α} {x : α} (h : a ++ [x] <+: b) : b[a.length]? = some x := by
 obtain ⟨c, rfl⟩ := h
 rw [List.append_assoc, List.getElem?_append_right (Nat.le_refl _)]; simp
theorem prs_small {n : Nat} (h : n < 2) : prs n = [] := by
 have : n = 0 ∨ n = 1 := by omega
 rcases this with rfl | rfl <;> rfl
end Num
namespace Go.Proofs
open Go Go.Sv Num
variable {G : Imm}
abbrev ra (xs : List RawP) (i : Nat) : RawP := xs.getD i default
abbrev rb (xs : List RawP) (i : Nat) : RawP := xs.getD ((i + 1) % xs.length) default
abbrev edC (xs : List RawP) (i : Nat) : List SV := intS .i64 (i : Nat) :: (pc (ra xs i) ++ pc (rb xs i))
def edN (xs : List RawP) (k : Nat) : Nat := if xs.length < 2 then 0 else k
def edX (xs : List RawP) : List (List SV) := (List.range (edN xs xs.length)).map fun i => [aggS (edC xs i)]
theorem edX_length (xs : List RawP) : (edX xs).length = edN xs xs.length := by simp [edX]
theorem edX_get {xs : List RawP} {i : Nat} (h : i < xs.length) (h2 : ¬ xs.length < 2) : (edX xs)[i]? = some [aggS (edC xs i)] := by simp [edX, edN, h, h2]
theorem edX_inv {xs : List RawP} {i : Nat} {ss : List SV} (h : (edX xs)[i]? = some ss) : i < xs.length ∧ ¬ xs.length < 2 ∧ ss = [aggS (edC xs i)] := by
 have hl := lt_of_get h
 rw [edX_length] at hl
 unfold edN at hl
 by_cases h2 : xs.length < 2
 ·rw [if_pos h2] at hl; omega
 ·rw [if_neg h2] at hl
  rw [edX_get hl h2] at h
  exact ⟨hl, h2, (Option.some.inj h).symm⟩
theorem edX_ss {xs : List RawP} {ss : List SV} (h : ss ∈ edX xs) : ss.length = 1 := by
 simp only [edX, List.mem_map] at h
 obtain ⟨i, _, rfl⟩ := h
 rfl
def prX (xs : List RawP) : List (List SV) := (prs xs.length).map fun x => [aggS (edC xs x.1), aggS (edC xs x.2)]
theorem prX_length (xs : List RawP) : (prX xs).length = (prs xs.length).length := by simp [prX]
theorem prX_get {xs : List RawP} {a b : Nat} (h1 : a < b) (h2 : b < xs.length) : (prX xs)[(prA xs.length a b).length]? = some [aggS (edC xs a), aggS (edC xs b)] := by
 have h := prA_pre (n := xs.length) (a := a) (b := b + 1) (by omega) (by omega)
 rw [prA_succ, if_pos h1] at h
 unfold prX
 rw [List.getElem?_map, pre_get h]; rfl
theorem prX_inv {xs : List RawP} {k : Nat} {ss : List SV} (h : (prX xs)[k]? = some ss) : ∃ a b, (prs xs.length)[k]? = some (a, b) ∧ a < b ∧ b < xs.length ∧ ss = [aggS (edC xs a), aggS (edC xs b)] := by
 simp only [prX, List.getElem?_map, Option.map_eq_some_iff] at h
 obtain ⟨⟨a, b⟩, h1, h2⟩ := h
 have := mem_prs.1 (List.mem_of_getElem? h1)
 exact ⟨a, b, h1, this.1, this.2, h2.symm⟩
theorem prX_ss {xs : List RawP} {ss : List SV} (h : ss ∈ prX xs) : ss.length = 2 := by
 simp only [prX, List.mem_map] at h
 obtain ⟨i, _, rfl⟩ := h
 rfl
abbrev pvs2 (xs : List RawP) : List V2 := xs.map pv
theorem cor_pv {xs : List RawP} {i : Nat} (h : i < xs.length) : cor (pvs2 xs) i = pv (ra xs i) := by
 unfold cor
 rw [List.length_map, Nat.mod_eq_of_lt h, List.getD_eq_getElem?_getD, List.getElem?_map, get_getD h]; rfl
theorem cor_pv1 {xs : List RawP} {i : Nat} (h : i < xs.length) : cor (pvs2 xs) (i + 1) = pv (rb xs i) := by
 have hm : (i + 1) % xs.length < xs.length := Nat.mod_lt _ (by omega)
 unfold cor
 rw [List.length_map, List.getD_eq_getElem?_getD, List.getElem?_map, get_getD hm]; rfl
theorem nilP_sub : subL [eqS (.bool false), eqS (.slice none 0 0), eqS (.slice none 0 0), eqS (.bool false), eqS (.slice none 0 0), eqS (.slice none 0 0)] (pc default) := ⟨fun _ _ h => h, nil_nat rfl, nil_nat rfl, fun _ _ h => h, nil_nat rfl, nil_nat rfl, trivial⟩
abbrev edOk (xs : List RawP) (i : Nat) : Prop := ¬ xs.length < 2 ∧ i < xs.length
theorem sameR [Tab G] {p q : RawP} {k : Nat} (hk : 0 < k) (hp : PtOk k p) (hq : PtOk k q) (hs : 400 * k + 21000 ≤ cap) : PSpec Tryz.prog G 50 [aggS (pc p), aggS (pc q)] (boolS (decide (pv p = pv q))) := by
 have i1 := isQ_lim (b := p.1.1) hp.1 hk
 have i2 := isQ_lim (b := p.2.1) hp.2 hk
 have i3 := isQ_lim (b := q.1.1) hq.1 hk
 have i4 := isQ_lim (b := q.2.1) hq.2 hk
 have h : PSpec Tryz.prog G 50 [aggS (pc p), aggS (pc q)] (boolS (decide ((pv p).1 = (pv q).1 ∧ (pv p).2 = (pv q).2))) := vSame_spec (hx1 := i1) (hy1 := i2) (hx2 := i3) (hy2 := i4) (by omega)
 rw [decide_eq_decide.2 (show pv p = pv q ↔ _ from Prod.ext_iff)]
 exact h
def simT (xs : List RawP) (k : Nat) : Bool := decide (3 ≤ xs.length) && ((prs xs.length).take k).all (prOk (pvs2 xs))
theorem simT_zero (xs : List RawP) : simT xs 0 = decide (3 ≤ xs.length) := by unfold simT; simp
theorem simT_succ {xs : List RawP} {k : Nat} {x : Nat × Nat} (h : (prs xs.length)[k]? = some x) : simT xs (k + 1) = (simT xs k && prOk (pvs2 xs) x) := by
 unfold simT; rw [List.take_add_one, h]; simp [Bool.and_assoc]
theorem simT_all (xs : List RawP) : simT xs (prs xs.length).length = simB (pvs2 xs) := by unfold simT simB; rw [List.take_length, List.length_map]
theorem simT_false {xs : List RawP} {k : Nat} (h : simT xs k = false) : simB (pvs2 xs) = false := by
 unfold simT at h; unfold simB
 rw [List.length_map]
 rcases Bool.and_eq_false_iff.1 h with h | h
 ·rw [h]; rfl
 ·have : (prs xs.length).all (prOk (pvs2 xs)) = false := by
   rw [← List.take_append_drop k (prs xs.length), List.all_append, h]; rfl
  rw [this, Bool.and_false]
theorem prOk_raw {xs : List RawP} {a b : Nat} (ha : a < xs.length) (hb : b < xs.length) : prOk (pvs2 xs) (a, b) = (!decide (pv (ra xs a) = pv (ra xs b)) && decide ((mtF (fromF (pv (ra xs a)) (pv (rb xs a))) (fromF (pv (ra xs b)) (pv (rb xs b)))).1 = wantF xs.length a b)) := by
 unfold prOk kin
 rw [cor_pv ha, cor_pv hb, cor_pv1 ha, cor_pv1 hb, List.length_map]
theorem edge_spec {xs : List RawP} {i : Nat} (hi : i < 4611686018427387904) : PSpec Tryz.prog G 21 [slS 6 pc xs, intS .i64 (i : Nat)] (tupS [aggS (pc (if edOk xs i then ra xs i else default)), aggS (pc (if edOk xs i then rb xs i else default)), boolS (decide (edOk xs i))]) := by
 refine zs Tryz.func21 ?_;refine zr ?_;refine zzv fun b4 => ?_;refine zzv fun b5 => ?_;refine zz ?_;refine zzn ?_;refine T_seq ?_;refine T_seqQ (K := fun S1 => Ent S1 ⟨34, [(19, boolS (!decide (edOk xs i))), (5, eqS (.pointer (some ⟨b5, 0, none⟩))), (4, eqS (.pointer (some ⟨b4, 0, none⟩))), (1, intS .i64 (i : Nat)), (0, slS 6 pc xs)], [⟨some b5, 30, [eqS (.bool false), eqS (.slice none 0 0), eqS (.slice none 0 0), eqS (.bool false), eqS (.slice none 0 0), eqS (.slice none 0 0)], 0⟩, ⟨some b4, 30, [eqS (.bool false), eqS (.slice none 0 0), eqS (.slice none 0 0), eqS (.bool false), eqS (.slice none 0 0), eqS (.slice none 0 0)], 0⟩], [], (0, false)⟩) ?_ ?_
 ·refine T_region ?_;(iterate 2 refine zz ?_)
  refine Run.oneB (ok_cmp rfl rfl rfl rfl) rfl rfl rfl (fun h1_2 => ?_) (fun h1_2 => ?_)
  ·have k1_2 := of_decide_eq_true h1_2
   refine zz ?_;(iterate 2 refine zq ?_);(iterate 2 refine zz ?_);(iterate 4 refine zq ?_);refine zz ?_;refine zzn ?_
   exact (by rw [decide_eq_false (fun h => h.1 (by omega))]; exact ent_h (subG_cons rfl (subG_cons rfl (subG_cons rfl (subG_cons rfl (subG_cons rfl (trivial)))))) rfl)
  ·have k1_2 := of_decide_eq_false h1_2
   iterate 3 refine zz ?_
   refine Run.oneB (ok_pick rfl rfl rfl) rfl rfl rfl (fun h1_6 => ?_) (fun h1_6 => ?_)
   ·have k1_6 := of_decide_eq_true h1_6
    refine zz ?_;(iterate 4 refine zq ?_);refine zz ?_;refine zzn ?_
    exact (by rw [decide_eq_false (fun h => by omega)]; exact ent_h (subG_cons rfl (subG_cons rfl (subG_cons rfl (subG_cons rfl (subG_cons rfl (trivial)))))) rfl)
   ·have k1_6 := of_decide_eq_false h1_6
    (iterate 6 refine zz ?_);refine zzn ?_
    exact (by rw [show (!decide (edOk xs i)) = decide ((xs.length : Int) ≤ (i : Int)) by rw [Bool.eq_iff_iff, Bool.not_eq_true', decide_eq_false_iff_not, decide_eq_true_iff]; omega]; exact ent_h (subG_cons rfl (subG_cons rfl (subG_cons rfl (subG_cons rfl (subG_cons rfl (trivial)))))) rfl)
 ·intro S1 hS1
  refine T_pre hS1 ?_;refine zzc (fun h19 => ?_) fun h19 => ?_
  ·have hno : ¬ edOk xs i := by rw [Bool.not_eq_true'] at h19; exact of_decide_eq_false h19
   refine T_drawMS 4 [2, 3] _ (by kernel_rfl) (.cons_cons _ (.cons_cons _ .slnil)) ?_;refine RunE.one (ok_load_own_agg 1 rfl rfl rfl rfl rfl) rfl rfl rfl (by kernel_rfl) ?_;refine RunE.lat (ok_load_own_agg 0 rfl rfl rfl rfl rfl) rfl rfl rfl ?_
   refine RunE.nil ⟨_, rfl, ?_⟩
   refine .loc1n 1 (l_store rfl rfl rfl rfl (by first | decide | (simp; done) | (simp; omega))) rfl rfl rfl ?_
   rintro s1 H1 ⟨rfl, rfl⟩
   refine ⟨(.cons_cons _ (.cons_cons _ .slnil)), ?_⟩
   refine RunE.nil ⟨_, rfl, ?_⟩
   refine .loc1n 0 (l_store rfl rfl rfl rfl (by first | decide | (simp; done) | (simp; omega))) rfl rfl rfl ?_
   rintro s1 H1 ⟨rfl, rfl⟩
   refine ⟨(.cons_cons _ (.cons_cons _ .slnil)), ?_⟩
   refine RunE.nil ?_;refine zz ?_;refine Run.ghost _ rfl (ghost_heap (show subH [⟨some b5, 30, [eqS (.bool false), eqS (.slice none 0 0), eqS (.slice none 0 0), eqS (.bool false), eqS (.slice none 0 0), eqS (.slice none 0 0)], 0⟩, ⟨some b4, 30, [eqS (.bool false), eqS (.slice none 0 0), eqS (.slice none 0 0), eqS (.bool false), eqS (.slice none 0 0), eqS (.slice none 0 0)], 0⟩] [⟨some b5, 30, pc default, 0⟩, ⟨some b4, 30, pc default, 0⟩] from ⟨rfl, rfl, rfl, rfl, fun I xs hd => nilP_sub.dens hd, rfl, rfl, rfl, rfl, fun I xs hd => nilP_sub.dens hd, trivial⟩)) ?_;refine zzn ?_;refine T_ret ?_
   exact ⟨_, [], .many (.cons (.agg 1 inferInstance rfl rfl rfl rfl) (.cons (.agg 0 inferInstance rfl rfl rfl rfl) (.cons (.tmp rfl) (.nil)))), List.nil_sublist _, by rw [if_neg hno, if_neg hno, decide_eq_false hno]; rfl, rfl⟩
  ·have hok : edOk xs i := by rw [Bool.not_eq_false'] at h19; exact of_decide_eq_true h19
   obtain ⟨hok1, hok2⟩ := hok
   have hm : (i + 1) % xs.length < xs.length := Nat.mod_lt _ (by omega)
   refine T_skip ?_;refine T_drawMS 14 [12, 13] _ (by kernel_rfl) (.cons _ (.cons _ .slnil)) ?_;(iterate 2 refine RunE.one (ok_move rfl rfl) rfl rfl rfl (by kernel_rfl) ?_);refine RunE.one (ok_indexAddr rfl rfl rfl (by omega) (y := ra xs i) (get_getD hok2)) rfl rfl rfl (by kernel_rfl) ?_;refine RunE.one ((show OpOK _ _ _ _ _ (aggS (pc (ra xs i))) from ok_load_agg rfl rfl rfl rfl)) rfl rfl rfl (by kernel_rfl) ?_;(iterate 2 refine RunE.lat (ok_move rfl rfl) rfl rfl rfl ?_);refine RunE.lat (ok_ari (z := ((i + 1 : Nat) : Int)) rfl rfl rfl (congrArg some (by omega)) (wrap_i64 (by omega) (by omega))) rfl rfl rfl ?_;refine RunE.lat (ok_move rfl rfl) rfl rfl rfl ?_;refine RunE.lat (ok_len rfl rfl) rfl rfl rfl ?_;refine RunE.lat ((ok_rem rfl rfl rfl (by omega) (by omega)).sub (int_eq (n := (((i + 1) % xs.length : Nat) : Int)) (by simp))) rfl rfl rfl ?_;refine RunE.lat (ok_indexAddr rfl rfl rfl (by omega) (y := rb xs i) (get_getD hm)) rfl rfl rfl ?_;refine RunE.lat ((show OpOK _ _ _ _ _ (aggS (pc (rb xs i))) from ok_load_agg rfl rfl rfl rfl)) rfl rfl rfl ?_
   refine RunE.nil ⟨_, rfl, ?_⟩
   refine .loc1n 1 (l_store rfl rfl rfl rfl (by first | decide | (simp; done) | (simp; omega))) rfl rfl rfl ?_
   rintro s1 H1 ⟨rfl, rfl⟩
   refine ⟨(.cons _ (.cons _ .slnil)), ?_⟩
   refine RunE.nil ⟨_, rfl, ?_⟩
   refine .loc1n 0 (l_store rfl rfl rfl rfl (by first | decide | (simp; done) | (simp; omega))) rfl rfl rfl ?_
   rintro s1 H1 ⟨rfl, rfl⟩
   refine ⟨(.cons _ (.cons _ .slnil)), ?_⟩
   refine RunE.nil ?_;refine zz ?_;refine zzn ?_;refine T_ret ?_
   exact ⟨_, [], .many (.cons (.agg 1 inferInstance rfl rfl rfl rfl) (.cons (.agg 0 inferInstance rfl rfl rfl rfl) (.cons (.tmp rfl) (.nil)))), List.nil_sublist _, by rw [if_pos ⟨hok1, hok2⟩, if_pos ⟨hok1, hok2⟩, decide_eq_true ⟨hok1, hok2⟩]; rfl, rfl⟩
theorem edges1_spec {xs : List RawP} : IterSpec Tryz.prog G 131 [ptrS [slS 6 pc xs]] (edX xs) := by
 refine iter_spec Tryz.func131 rfl rfl rfl rfl fun l E hy => ?_;refine zr ?_;(iterate 3 refine zz ?_);refine zzn ?_;refine T_block ?_;refine T_len 7 rfl fun la => ?_
 unfold big at la
 refine T_loop (γ := Nat) (fun g => ⟨30, [(9, intS .i64 (g : Nat)), (8, intS .i64 xs.length), (0, yieldS l), (1, ptrS [slS 6 pc xs])], [], [], (edN xs g, false)⟩) (fun g => g ≤ xs.length) (fun g => xs.length - g) 0 (Nat.zero_le _) ?_ ?_
 ·rw [show edN xs 0 = 0 by unfold edN; split <;> rfl]; exact ent_g (subG_cons rfl (subG_cons rfl (subG_cons rfl (subG_cons rfl (trivial)))))
 intro g hg
 refine zr ?_;refine zz ?_;refine zzn ?_;refine T_seq ?_;refine zzc (fun h10 => ?_) fun h10 => ?_
 ·have k10 := of_decide_eq_true h10
  have hg1 : g < xs.length := by omega
  refine T_skip ?_;refine T_seq ?_;refine T_block ?_;refine zr ?_;(iterate 2 refine zz ?_);refine zx ?_;(iterate 2 refine zz ?_);refine zo (ok_call rfl rfl (edge_spec (by omega))) ?_;(iterate 4 refine zz ?_);refine zzv fun b4 => ?_;refine zzv fun b5 => ?_;(iterate 2 refine zw ?_);refine zz ?_;refine zx ?_
  refine Run.oneB (ok_move rfl rfl) rfl rfl rfl (fun h4_0 => ?_) (fun h4_0 => ?_)
  ·have hok : edOk xs g := of_decide_eq_true h4_0
   have hee : edN xs g = g := if_neg hok.1
   rw [show (if edOk xs g then ra xs g else default) = ra xs g from if_pos hok, show (if edOk xs g then rb xs g else default) = rb xs g from if_pos hok]
   (iterate 5 refine zz ?_);refine zo ((show OpOK _ _ _ _ _ (aggS (edC xs g)) from ok_build rfl rfl (by kernel_rfl))) ?_
   rw [hee]
   refine Run.yield rfl hy rfl rfl rfl (edX_get hg1 hok.1) (subL_refl _) (gB rfl rfl rfl rfl) rfl rfl fun y => ?_;(iterate 2 refine zz ?_);refine zzn ?_;refine zzc (fun h28 => ?_) fun h28 => ?_
   ·refine T_ret ?_
    exact ⟨.inl rfl, .inr h28⟩
   ·refine T_skip ?_;refine T_region ?_;refine za ((g + 1 : Nat) : Int) ?_;refine zz ?_;refine Run.ghost _ rfl (ghost_drop (List.nil_sublist _)) ?_;refine zzn ?_
    exact ⟨g + 1, (by omega : g + 1 ≤ xs.length), by omega, rfl, subG_cons rfl (subG_cons rfl (subG_cons rfl (subG_cons rfl (trivial)))), subH_refl _, rfl, by simp only; rw [h28, show edN xs (g + 1) = g + 1 from if_neg hok.1]⟩
  ·have hno : ¬ edOk xs g := of_decide_eq_false h4_0
   have hlt : xs.length < 2 := Classical.byContradiction fun h => hno ⟨h, hg1⟩
   refine zz ?_;(iterate 7 refine zq ?_);refine zz ?_;refine zzn ?_;refine T_condF rfl rfl ?_;refine T_skip ?_;refine T_region ?_;refine za ((g + 1 : Nat) : Int) ?_;refine zz ?_;refine Run.ghost _ rfl (ghost_drop (List.nil_sublist _)) ?_;refine zzn ?_
   exact ⟨g + 1, (by omega : g + 1 ≤ xs.length), by omega, rfl, subG_cons rfl (subG_cons rfl (subG_cons rfl (subG_cons rfl (trivial)))), subH_refl _, rfl, by simp only; rw [show edN xs (g + 1) = 0 from if_pos hlt, show edN xs g = 0 from if_pos hlt]⟩
 ·have k10 := of_decide_eq_false h10
  refine T_exit ?_
  exact ⟨.inr rfl, .inl (by rw [edX_length, show g = xs.length by omega])⟩
theorem edges_spec {xs : List RawP} : PSpec Tryz.prog G 93 [slS 6 pc xs] (fnS 131 [ptrS [slS 6 pc xs]]) := by
 refine zs Tryz.func93 ?_;refine zr ?_;(iterate 2 refine zz ?_);refine zx ?_;(iterate 2 refine zz ?_);refine zzn ?_;refine T_ret ?_
 exact ⟨_, [], .one (.tmp rfl), List.nil_sublist _, rfl, rfl⟩
theorem sPairs1_spec {xs : List RawP} : IterSpec Tryz.prog G 92 [ptrS [slS 6 pc xs]] (prX xs) := by
 refine iter_spec Tryz.func92 rfl rfl rfl rfl fun l E hy => ?_;refine zr ?_;refine zz ?_;refine zx ?_;refine zz ?_;refine zf edges_spec ?_;refine zzn ?_;refine T_block ?_
 refine T_rng rfl rfl edges1_spec (fun ss h => edX_ss h) (by decide) rfl
  (fun k _ i => i = ((prA xs.length k 0).length, false))
  (fun e _ i => e = .ret ∧ i.2 = true) rfl ?_ ?_ ?_
 ·rintro l1 a ss h i ha rfl
  obtain ⟨han, hl2, rfl⟩ := edX_inv ha
  refine T_region ?_;refine zzv fun b3 => ?_;refine zw ?_;refine zzn ?_
  refine ⟨rfl, ?_⟩
  refine T_block ?_;refine zr ?_;refine zz ?_;refine zf edges_spec ?_;refine zzn ?_;refine T_block ?_
  refine T_rng rfl rfl edges1_spec (fun ss h => edX_ss h) (by decide) rfl
   (fun k h2 i => i = ((prA xs.length a k).length, false) ∧ h2 = ⟨some b3, 75, edC xs a, 0⟩ :: h)
   (fun e _ i => e = .ret ∧ i.2 = true) ⟨rfl, rfl⟩ ?_ ?_ ?_
  ·rintro l2 b ss h2 i hb ⟨rfl, rfl⟩
   obtain ⟨hbn, _, rfl⟩ := edX_inv hb
   refine T_region ?_;refine zzv fun b4 => ?_;refine zw ?_;refine zzn ?_
   refine ⟨rfl, ?_⟩
   refine T_block ?_;refine zr ?_;(iterate 4 refine zz ?_)
   refine Run.oneB (ok_cmp rfl rfl rfl rfl) rfl rfl rfl (fun h5_4 => ?_) (fun h5_4 => ?_)
   ·have k5_4 := of_decide_eq_true h5_4
    (iterate 2 refine zz ?_);refine zo ((show OpOK _ _ _ _ _ (aggS (edC xs a)) from ok_load_own_agg 1 rfl rfl rfl (by kernel_rfl) rfl)) ?_;refine zo ((show OpOK _ _ _ _ _ (aggS (edC xs b)) from ok_load_own_agg 0 rfl rfl rfl (by kernel_rfl) rfl)) ?_;refine Run.yield rfl hy rfl rfl rfl (prX_get (by omega) hbn) (subL_refl _) (gB rfl rfl rfl rfl) rfl rfl fun y => ?_;(iterate 2 refine zz ?_);refine Run.ghost _ rfl (ghost_drop (List.sublist_cons_self _ _)) ?_;refine zzn ?_;refine zzc (fun h22 => ?_) fun h22 => ?_
    ·refine T_ret ?_
     exact ⟨rfl, h22⟩
    ·refine T_skip ?_
     exact ⟨by rw [h22, prA_succ, if_pos (by omega)]; simp, rfl⟩
   ·have k5_4 := of_decide_eq_false h5_4
    refine zz ?_;(iterate 5 refine zq ?_);refine zz ?_;refine Run.ghost _ rfl (ghost_drop (List.sublist_cons_self _ _)) ?_;refine zzn ?_;refine T_condF rfl rfl ?_;refine T_skip ?_
    exact ⟨by rw [prA_succ, if_neg (by omega)], rfl⟩
  ·rintro h2 i D ⟨rfl, rfl⟩
   exact (show (_, false) = (_, false) by rw [edX_length, show edN xs xs.length = xs.length from if_neg hl2, prA_next])
  ·rintro h2 i D e c hc ⟨rfl, hi⟩; exact ⟨rfl, hi⟩
 ·rintro h i D rfl
  exact ⟨.inr rfl, .inl (by rw [edX_length, prX_length]; unfold edN; split; rw [prs_small (by assumption)]; rfl; rw [prA_all])⟩
 ·rintro h i D e c hc ⟨rfl, hi⟩; exact ⟨.inl rfl, .inr hi⟩
theorem sPairs_spec {xs : List RawP} : PSpec Tryz.prog G 49 [slS 6 pc xs] (fnS 92 [ptrS [slS 6 pc xs]]) := by
 refine zs Tryz.func49 ?_;refine zr ?_;(iterate 2 refine zz ?_);refine zx ?_;(iterate 2 refine zz ?_);refine zzn ?_;refine T_ret ?_
 exact ⟨_, [], .one (.tmp rfl), List.nil_sublist _, rfl, rfl⟩
theorem simple_spec [Tab G] {xs : List RawP} {k : Nat} (hk : 0 < k) (hl : ∀ p ∈ xs, PtOk k p) (hs : 100000 * k + 100000 ≤ cap) : PSpec Tryz.prog G 13 [slS 6 pc xs] (boolS (simB (pvs2 xs))) := by
 refine zs Tryz.func13 ?_;refine zr ?_;(iterate 2 refine zz ?_);refine zzn ?_;refine T_scope ?_;refine zr ?_;(iterate 2 refine zz ?_);refine zo ((ok_cmp rfl rfl rfl rfl).sub (bool_eq (c := simT xs 0) (by rw [simT_zero]; exact decide_eq_decide.2 (by omega)))) ?_;refine zzv fun b3 => ?_;refine zw ?_;refine zzn ?_;refine T_seq ?_;refine T_label ?_;refine T_seqQ (K := fun S1 => ∃ D, Ent S1 ⟨59, [(3, eqS (.pointer (some ⟨b3, 0, none⟩)))], [⟨some b3, 4, [boolS (simB (pvs2 xs))], 0⟩], D, (0, false)⟩) ?_ ?_
 ·refine T_len 7 rfl fun la => ?_
  unfold big at la
  refine zr ?_;refine zz ?_;refine zf sPairs_spec ?_;refine zzn ?_;refine T_block ?_
  refine T_rng rfl rfl sPairs1_spec (fun ss h => prX_ss h) (by decide) rfl
   (fun m h i => i = (0, false) ∧ h = [⟨some b3, 4, [boolS (simT xs m)], 0⟩])
   (fun e h i => e = .exit 0 ∧ i = (0, false) ∧ ∃ m, simT xs m = false ∧ h = [⟨some b3, 4, [boolS false], 0⟩]) ⟨rfl, rfl⟩ ?_ ?_ ?_
  ·rintro l m ss h i hm ⟨rfl, rfl⟩
   obtain ⟨a, b, hab, hlt, hbn, rfl⟩ := prX_inv hm
   have han : a < xs.length := by omega
   have hsu := simT_succ hab
   rw [prOk_raw han hbn] at hsu
   refine zr ?_;refine zzv fun b4 => ?_;refine zw ?_;refine zzn ?_;refine T_region ?_;refine zzv fun b5 => ?_;refine zw ?_;refine zzn ?_
   refine ⟨rfl, ?_⟩
   refine T_block ?_;refine zr ?_;refine zz ?_;refine zzn ?_;refine T_seqQ (K := fun S1 => Ent S1 ⟨59, [(6, intS .i8 (wantF xs.length a b)), (5, eqS (.pointer (some ⟨b5, 0, none⟩))), (4, eqS (.pointer (some ⟨b4, 0, none⟩))), (3, eqS (.pointer (some ⟨b3, 0, none⟩))), (1, ptrS [slS 6 pc xs])], [⟨some b5, 75, edC xs b, 0⟩, ⟨some b4, 75, edC xs a, 0⟩, ⟨some b3, 4, [boolS (simT xs m)], 0⟩], [], (0, false)⟩) ?_ ?_
   ·refine T_seqQ (K := fun S1 => ∃ w : Bool, (w = true ↔ (b = a + 1 ∨ (a = 0 ∧ b + 1 = xs.length))) ∧ Ent S1 ⟨59, [(32, boolS w), (6, intS .i8 0), (5, eqS (.pointer (some ⟨b5, 0, none⟩))), (4, eqS (.pointer (some ⟨b4, 0, none⟩))), (3, eqS (.pointer (some ⟨b3, 0, none⟩))), (1, ptrS [slS 6 pc xs])], [⟨some b5, 75, edC xs b, 0⟩, ⟨some b4, 75, edC xs a, 0⟩, ⟨some b3, 4, [boolS (simT xs m)], 0⟩], [], (0, false)⟩) ?_ ?_
    ·refine T_region ?_;(iterate 4 refine zz ?_);refine za ((a + 1 : Nat) : Int) ?_
     refine Run.oneB (ok_cmp rfl rfl rfl rfl) rfl rfl rfl (fun h6_5 => ?_) (fun h6_5 => ?_)
     ·have k6_5 := beq_iff_eq.1 h6_5
      refine zz ?_;(iterate 11 refine zq ?_);refine zz ?_;refine zzn ?_
      exact ⟨true, ⟨fun _ => .inl (by omega), fun _ => rfl⟩, ent_h zk rfl⟩
     ·have k6_5 := beq_eq_false_iff_ne.1 h6_5
      iterate 3 refine zz ?_
      refine Run.oneB (ok_cmp rfl rfl rfl rfl) (gB rfl rfl rfl rfl) rfl rfl (fun h6_9 => ?_) (fun h6_9 => ?_)
      ·have k6_9 := beq_iff_eq.1 h6_9
       (iterate 5 refine zz ?_);refine za ((xs.length - 1 : Nat) : Int) ?_;(iterate 3 refine zz ?_);refine zzn ?_
       exact ⟨decide ((b : Int) = ((xs.length - 1 : Nat) : Int)), (by rw [decide_eq_true_iff]; omega), ent_h (subG_cons rfl (subG_cons rfl (subG_cons rfl (subG_cons rfl (subG_cons rfl (subG_cons rfl (trivial))))))) rfl⟩
      ·have k6_9 := beq_eq_false_iff_ne.1 h6_9
       refine zz ?_;(iterate 6 refine zq ?_);(iterate 2 refine zz ?_);refine zzn ?_
       exact ⟨false, ⟨fun h => (by cases h), fun h => by omega⟩, ent_h (subG_cons rfl (subG_cons rfl (subG_cons rfl (subG_cons rfl (subG_cons rfl (subG_cons rfl (trivial))))))) rfl⟩
    ·rintro S1 ⟨w, hw, hS1⟩
     refine T_pre hS1 ?_;refine zzc (fun h32 => ?_) fun h32 => ?_
     ·refine T_region ?_;refine zz ?_;refine zzn ?_
      exact (by rw [show wantF xs.length a b = 1 from if_pos (hw.1 h32)]; exact ent_h (subG_cons rfl (subG_cons rfl (subG_cons rfl (subG_cons rfl (subG_cons rfl (trivial)))))) rfl)
     ·refine T_skip ?_
      exact (by rw [show wantF xs.length a b = 0 from if_neg (fun x => by rw [hw.2 x] at h32; cases h32)]; exact ent_h (subG_cons rfl (subG_cons rfl (subG_cons rfl (subG_cons rfl (subG_cons rfl (trivial)))))) rfl)
   ·intro S1 hS1
    refine T_pre hS1 ?_;refine T_seqQ (K := fun S1 => Ent S1 ⟨59, [(3, eqS (.pointer (some ⟨b3, 0, none⟩))), (1, ptrS [slS 6 pc xs])], [⟨some b3, 4, [boolS (simT xs (m + 1))], 0⟩], [], (0, false)⟩) ?_ ?_
    ·refine T_region ?_
     refine Run.oneB (ok_load_own 2 rfl rfl rfl rfl) rfl rfl rfl (fun h8_0 => ?_) (fun h8_0 => ?_)
     ·refine zz ?_;refine zz ?_;refine zo ((show OpOK _ _ _ _ _ (aggS (pc (ra xs a))) from ok_load_own_agg 1 rfl rfl rfl (by kernel_rfl) rfl)) ?_;refine zz ?_;refine zo ((show OpOK _ _ _ _ _ (aggS (pc (ra xs b))) from ok_load_own_agg 0 rfl rfl rfl (by kernel_rfl) rfl)) ?_;refine zo (ok_call rfl rfl (sameR (p := ra xs a) (q := ra xs b) hk (hl _ (getD_mem han)) (hl _ (getD_mem hbn)) (by omega))) ?_;refine zz ?_
      refine Run.oneB (ok_pick rfl rfl rfl) rfl rfl rfl (fun h8_8 => ?_) (fun h8_8 => ?_)
      ·refine zz ?_;refine zz ?_;refine zo ((show OpOK _ _ _ _ _ (aggS (pc (ra xs a))) from ok_load_own_agg 1 rfl rfl rfl (by kernel_rfl) rfl)) ?_;refine zz ?_;refine zo ((show OpOK _ _ _ _ _ (aggS (pc (rb xs a))) from ok_load_own_agg 1 rfl rfl rfl (by kernel_rfl) rfl)) ?_;refine zz ?_;refine zo ((show OpOK _ _ _ _ _ (aggS (pc (ra xs b))) from ok_load_own_agg 0 rfl rfl rfl (by kernel_rfl) rfl)) ?_;refine zz ?_;refine zo ((show OpOK _ _ _ _ _ (aggS (pc (rb xs b))) from ok_load_own_agg 0 rfl rfl rfl (by kernel_rfl) rfl)) ?_;refine zo (ok_call rfl rfl (segs_spec (a := ra xs a) (b := rb xs a) (c := ra xs b) (d := rb xs b) hk (hl _ (getD_mem han)) (hl _ (getD_mem (Nat.mod_lt _ (by omega)))) (hl _ (getD_mem hbn)) (hl _ (getD_mem (Nat.mod_lt _ (by omega)))) hs)) ?_;refine zo ((show OpOK _ _ _ _ _ (intS .i8 (mtF (fromF (pv (ra xs a)) (pv (rb xs a))) (fromF (pv (ra xs b)) (pv (rb xs b)))).1) from ok_field (ft := 76) Tryz.underlying79 rfl rfl rfl rfl rfl)) ?_;(iterate 3 refine zz ?_);refine zw ?_;refine Run.ghost _ rfl (ghost_drop (List.Sublist.cons _ (List.Sublist.cons _ (List.Sublist.refl _)))) ?_;refine zzn ?_
       exact (by rw [hsu, h8_0, h8_8]; exact ent_h (subG_cons rfl (subG_cons rfl (trivial))) rfl)
      ·refine zz ?_;(iterate 12 refine zq ?_);refine zz ?_;refine zw ?_;refine Run.ghost _ rfl (ghost_drop (List.Sublist.cons _ (List.Sublist.cons _ (List.Sublist.refl _)))) ?_;refine zzn ?_
       exact (by rw [hsu, h8_0, h8_8]; exact ent_h (subG_cons rfl (subG_cons rfl (trivial))) rfl)
     ·refine zz ?_;(iterate 6 refine zq ?_);(iterate 2 refine zz ?_);(iterate 12 refine zq ?_);refine zz ?_;refine zw ?_;refine Run.ghost _ rfl (ghost_drop (List.Sublist.cons _ (List.Sublist.cons _ (List.Sublist.refl _)))) ?_;refine zzn ?_
      exact (by rw [hsu, h8_0]; exact ent_h (subG_cons rfl (subG_cons rfl (trivial))) rfl)
    ·intro S1 hS1
     refine T_pre hS1 ?_;refine zr ?_;(iterate 2 refine zz ?_);refine zzn ?_;refine zzc (fun h57 => ?_) fun h57 => ?_
     ·refine T_exit ?_
      exact ⟨rfl, rfl, m + 1, by simpa using h57, by rw [show simT xs (m + 1) = false by simpa using h57]⟩
     ·refine T_skip ?_
      exact ⟨rfl, rfl⟩
  ·rintro h i D ⟨rfl, rfl⟩
   exact ⟨_, by rw [prX_length, simT_all]; exact ent_h (subG_cons rfl (trivial)) rfl⟩
  ·rintro h i D e c hc ⟨rfl, rfl, m, hm, rfl⟩
   show ∃ D, _
   exact ⟨_, by rw [simT_false hm]; exact ent_h (subG_cons rfl (trivial)) rfl⟩
 ·rintro S1 ⟨D, hS1⟩
  refine T_pre hS1 ?_;refine zr ?_;(iterate 2 refine zz ?_);refine zzn ?_;refine T_ret ?_
  exact ⟨_, [], .one (.tmp rfl), List.nil_sublist _, rfl, rfl⟩
end Go.Proofs
/- Polygons: strictly convex, area, which way about, flat corners. -/
namespace Num
open Go Go.Proofs
def idxF {α : Type} (p : α → Bool) (l : List α) : Int := if l.any p = true then (l.findIdx p : Nat) else -1
theorem any_succ {α : Type} {p : α → Bool} {l : List α} {g : Nat} {x : α} (h : l[g]? = some x) (hp : p x = false) (hn : (l.take g).any p = false) : (l.take (g + 1)).any p = false := by
 rw [List.take_add_one, h, List.any_append, hn]; simp [hp]
theorem idx_hit {α : Type} {p : α → Bool} {l : List α} {g : Nat} {x : α} (h : l[g]? = some x) (hp : p x = true) (hn : (l.take g).any p = false) : idxF p l = (g : Nat) := by
 obtain ⟨hg, he⟩ := List.getElem?_eq_some_iff.1 h
 have h1 : l.any p = true := List.any_eq_true.2 ⟨x, List.mem_of_getElem? h, hp⟩
 unfold idxF
 rw [if_pos h1, (List.findIdx_eq hg).2 ⟨by rw [he]; exact hp, fun j hj => ?_⟩]
 have hm : l[j] ∈ l.take g := List.mem_of_getElem? (i := j) (by rw [List.getElem?_take_of_lt hj, List.getElem?_eq_getElem])
 have h2 := List.any_eq_false.1 hn _ hm
 simpa using h2
theorem idx_none {α : Type} {p : α → Bool} {l : List α} (hn : l.any p = false) : idxF p l = -1 := by unfold idxF; rw [hn]; rfl
theorem idx_ge {α : Type} (p : α → Bool) (l : List α) : decide (0 ≤ idxF p l) = l.any p := by
 unfold idxF
 cases h : l.any p with
 | true => rw [if_pos rfl]; exact decide_eq_true (Int.natCast_nonneg _)
 | false => rfl
end Num
namespace Go.Proofs
open Go Go.Sv Num
variable {G : Imm}
theorem turnsV_eq (xs : List RawP) : turnsV xs = turnL (pvs2 xs) := by
 unfold turnsV turnL
 rw [List.length_map]
 split
 ·rfl
 ·refine List.map_congr_left fun i hi => ?_
  have hi := List.mem_range.1 hi
  have hm : (i + xs.length - 1) % xs.length < xs.length := Nat.mod_lt _ (by omega)
  unfold turnV trn
  have h1 : cor (pvs2 xs) (i + xs.length - 1) = pv (ring3 xs i).1 := by
   have := cor_per (pvs2 xs) (i + xs.length - 1)
   rw [List.length_map] at this
   rw [← this, cor_pv hm]; rfl
  rw [h1, cor_pv hi, cor_pv1 hi]; rfl
theorem idxI_spec {ns : List (Int)} {f : FuncId} {caps : List SV} {p : Int → Bool} (hb : ns.length ≤ 2000000000) (h : ∀ n ∈ ns, PSpec Tryz.prog G f ([intS .i64 n] ++ caps) (boolS (p n))) : PSpec Tryz.prog G 103 [slS 1 i64C ns, fnS f caps] (intS .i64 (idxF p ns)) := by
 refine zs Tryz.func103 ?_;refine zr ?_;refine zz ?_;refine zzn ?_;refine T_seq ?_;refine zr ?_;(iterate 3 refine zz ?_);refine zzn ?_;refine T_block ?_;refine T_loop (γ := Nat) (fun g => ⟨_, [(8, intS .i64 (g : Nat)), (7, intS .i64 ns.length), (1, fnS f caps), (0, slS 1 i64C ns)], [], [], (0, false)⟩) (fun g => g ≤ ns.length ∧ (ns.take g).any p = false) (fun g => ns.length - g) 0 ⟨Nat.zero_le _, rfl⟩ (ent_g zk) ?_
 rintro g ⟨hg, hn⟩
 refine zr ?_;refine zz ?_;refine zzn ?_;refine T_seq ?_;refine zzc (fun h9 => ?_) fun h9 => ?_
 ·have k9 := of_decide_eq_true h9
  obtain ⟨x, hx⟩ : ∃ x, ns[g]? = some x := ⟨_, List.getElem?_eq_getElem (by omega)⟩
  refine T_skip ?_;refine T_seq ?_;refine T_block ?_;refine zr ?_;(iterate 2 refine zz ?_);refine zx ?_;(iterate 3 refine zz ?_);refine zo (ok_indexAddr rfl rfl rfl (by omega) (y := x) (hx)) ?_;refine zz ?_;refine zo ((ok_callV rfl rfl rfl (h x (List.mem_of_getElem? hx)))) ?_;refine zzn ?_;refine zzc (fun h16 => ?_) fun h16 => ?_
  ·refine zr ?_;(iterate 2 refine zz ?_);refine zzn ?_;refine T_ret ?_
   exact ⟨_, [], .one (.tmp rfl), List.nil_sublist _, by rw [idx_hit hx h16 hn], rfl⟩
  ·refine T_skip ?_;refine T_region ?_;refine za ((g + 1 : Nat) : Int) ?_;refine zz ?_;refine zzn ?_
   exact ⟨g + 1, ⟨by omega, any_succ hx h16 hn⟩, by omega, ent_g zk⟩
 ·have k9 := of_decide_eq_false h9
  refine T_exit ?_;refine zr ?_;refine zz ?_;refine zzn ?_;refine T_ret ?_
  exact ⟨_, [], .one (.tmp rfl), List.nil_sublist _, by rw [idx_none (l := ns) (by rw [← show ns.take g = ns by rw [show g = ns.length by omega, List.take_length]]; exact hn)], rfl⟩
theorem hasI_spec {ns : List (Int)} {f : FuncId} {caps : List SV} {p : Int → Bool} (hb : ns.length ≤ 2000000000) (h : ∀ n ∈ ns, PSpec Tryz.prog G f ([intS .i64 n] ++ caps) (boolS (p n))) : PSpec Tryz.prog G 56 [slS 1 i64C ns, fnS f caps] (boolS (ns.any p)) := by
 refine zs Tryz.func56 ?_;refine zr ?_;refine zz ?_;refine zx ?_;(iterate 2 refine zz ?_);refine zf (idxI_spec hb h) ?_;(iterate 2 refine zz ?_);refine zzn ?_;refine T_ret ?_
 exact ⟨_, [], .one (.tmp rfl), List.nil_sublist _, congrArg boolS (idx_ge p ns), rfl⟩
theorem idxR_spec {ns : List (List RawP)} {f : FuncId} {caps : List SV} {p : List RawP → Bool} (hb : ns.length ≤ 2000000000) (h : ∀ n ∈ ns, PSpec Tryz.prog G f ([slS 6 pc n] ++ caps) (boolS (p n))) : PSpec Tryz.prog G 122 [slS 1 (fun r => [slS 6 pc r]) ns, fnS f caps] (intS .i64 (idxF p ns)) := by
 refine zs Tryz.func122 ?_;refine zr ?_;refine zz ?_;refine zzn ?_;refine T_seq ?_;refine zr ?_;(iterate 3 refine zz ?_);refine zzn ?_;refine T_block ?_;refine T_loop (γ := Nat) (fun g => ⟨_, [(8, intS .i64 (g : Nat)), (7, intS .i64 ns.length), (1, fnS f caps), (0, slS 1 (fun r => [slS 6 pc r]) ns)], [], [], (0, false)⟩) (fun g => g ≤ ns.length ∧ (ns.take g).any p = false) (fun g => ns.length - g) 0 ⟨Nat.zero_le _, rfl⟩ (ent_g zk) ?_
 rintro g ⟨hg, hn⟩
 refine zr ?_;refine zz ?_;refine zzn ?_;refine T_seq ?_;refine zzc (fun h9 => ?_) fun h9 => ?_
 ·have k9 := of_decide_eq_true h9
  obtain ⟨x, hx⟩ : ∃ x, ns[g]? = some x := ⟨_, List.getElem?_eq_getElem (by omega)⟩
  refine T_skip ?_;refine T_seq ?_;refine T_block ?_;refine zr ?_;(iterate 2 refine zz ?_);refine zx ?_;(iterate 3 refine zz ?_);refine zo (ok_indexAddr rfl rfl rfl (by omega) (y := x) (hx)) ?_;refine zz ?_;refine zo ((ok_callV rfl rfl rfl (h x (List.mem_of_getElem? hx)))) ?_;refine zzn ?_;refine zzc (fun h16 => ?_) fun h16 => ?_
  ·refine zr ?_;(iterate 2 refine zz ?_);refine zzn ?_;refine T_ret ?_
   exact ⟨_, [], .one (.tmp rfl), List.nil_sublist _, by rw [idx_hit hx h16 hn], rfl⟩
  ·refine T_skip ?_;refine T_region ?_;refine za ((g + 1 : Nat) : Int) ?_;refine zz ?_;refine zzn ?_
   exact ⟨g + 1, ⟨by omega, any_succ hx h16 hn⟩, by omega, ent_g zk⟩
 ·have k9 := of_decide_eq_false h9
  refine T_exit ?_;refine zr ?_;refine zz ?_;refine zzn ?_;refine T_ret ?_
  exact ⟨_, [], .one (.tmp rfl), List.nil_sublist _, by rw [idx_none (l := ns) (by rw [← show ns.take g = ns by rw [show g = ns.length by omega, List.take_length]]; exact hn)], rfl⟩
theorem hasR_spec {ns : List (List RawP)} {f : FuncId} {caps : List SV} {p : List RawP → Bool} (hb : ns.length ≤ 2000000000) (h : ∀ n ∈ ns, PSpec Tryz.prog G f ([slS 6 pc n] ++ caps) (boolS (p n))) : PSpec Tryz.prog G 80 [slS 1 (fun r => [slS 6 pc r]) ns, fnS f caps] (boolS (ns.any p)) := by
 refine zs Tryz.func80 ?_;refine zr ?_;refine zz ?_;refine zx ?_;(iterate 2 refine zz ?_);refine zf (idxR_spec hb h) ?_;(iterate 2 refine zz ?_);refine zzn ?_;refine T_ret ?_
 exact ⟨_, [], .one (.tmp rfl), List.nil_sublist _, congrArg boolS (idx_ge p ns), rfl⟩
theorem convex1_spec {n : Int} : PSpec Tryz.prog G 58 [intS .i64 n] (boolS (n != 1)) := by
 refine zs Tryz.func58 ?_;refine zr ?_;refine zz ?_;refine zx ?_;(iterate 3 refine zz ?_);refine zzn ?_;refine T_ret ?_
 exact ⟨_, [], .one (.tmp rfl), List.nil_sublist _, rfl, rfl⟩
theorem cvx_ok {xs : List RawP} (hxl : xs.length ≤ cap) : PSpec Tryz.prog G 56 [slS 1 i64C (turnsV xs), eqS (.func (.func 58) #[] #[])] (boolS ((turnsV xs).any fun n => n != 1)) :=
 (hasI_spec (caps := []) (by unfold turnsV; split; exact Nat.zero_le _; rw [List.length_map, List.length_range]; unfold cap at hxl; omega) fun n _ => convex1_spec).args ⟨fun _ _ h => h, fn_eq, trivial⟩
theorem convex_spec [Tab G] {xs : List RawP} {k : Nat} (hk : 0 < k) (hl : ∀ p ∈ xs, PtOk k p) (hs : 100000 * k + 100000 ≤ cap) (hxl : xs.length ≤ cap) : PSpec Tryz.prog G 16 [slS 6 pc xs] (boolS (cvxB (pvs2 xs))) := by
 have hal : ((turnsV xs).all fun n => decide (n = 1)) = !((turnsV xs).any fun n => n != 1) := by
  rw [List.not_any_eq_all_not]; congr 1; funext n; by_cases h : n = 1 <;> simp [h]
 refine zs Tryz.func16 ?_;refine zr ?_;refine zz ?_;refine zx ?_;refine zz ?_;refine zo (ok_call rfl rfl (sTurns_spec hk hl (by omega) hxl)) ?_;refine zf (cvx_ok hxl) ?_
 refine Run.oneB (ok_not rfl rfl) rfl rfl rfl (fun h1_3 => ?_) (fun h1_3 => ?_)
 ·refine zz ?_;refine zz ?_;refine zf (simple_spec hk hl hs) ?_;(iterate 2 refine zz ?_);refine zzn ?_;refine T_ret ?_
  exact ⟨_, [], .one (.tmp rfl), List.nil_sublist _, by unfold cvxB; rw [← turnsV_eq, hal, h1_3]; rfl, rfl⟩
 ·refine zz ?_;(iterate 2 refine zq ?_);(iterate 2 refine zz ?_);refine zzn ?_;refine T_ret ?_
  exact ⟨_, [], .one (.tmp rfl), List.nil_sublist _, by unfold cvxB; rw [← turnsV_eq, hal, h1_3]; rfl, rfl⟩
end Go.Proofs
/- straitlaw13: how great polygons are, what the document says of a spike and of a flat corner; the law SimpleTwice, on the facts. -/
namespace Num
open Go Go.Proofs
end Num
namespace Go.Sv
open Go Go.RowKit
end Go.Sv
namespace Go.Proofs
open Go Go.Sv Num
variable {G : Imm}
abbrev LimR (p : RawP) : Prop := (Lim p.1.2.1 ∧ Lim p.1.2.2) ∧ Lim p.2.2.1 ∧ Lim p.2.2.2
theorem isQ_sz {b : Bool} {l d : List Nat} (h : Lim l) (h' : Lim d) : IsQ b l d (qv (b, l, d)) (l.length + d.length + 1) := isQ_lim ⟨h, h', by omega, by omega⟩ (by omega)
abbrev W1 : List V2 := [(0, 0), (1, 0), (2, 0), (0, 2)]
abbrev W2 : List V2 := [(0, 0), (2, 0), (1, 0), (1, 1)]
theorem ok_rep {l : List V2} (h : ∀ p ∈ l, Bq p.1 1 ∧ Bq p.2 1) : ∀ p ∈ l.map rep, PtOk 1 p := fun p hp => by
 obtain ⟨v, hv, rfl⟩ := List.mem_map.1 hp
 exact ptOk_rep (h v hv).1 (h v hv).2
theorem wk_cap : 100000 * 1 + 100000 ≤ cap := by decide
section
end
theorem great13_spec {xs : List RawP} : PSpec Tryz.prog G 11 [slS 6 pc xs] (boolS (decide (20 < xs.length ∨ 80 < gs tsz xs xs.length))) := by
 refine zs Tryz.func11 ?_;refine zr ?_;refine zz ?_;refine zx ?_;refine zz ?_;refine zzn ?_;refine T_seq ?_;refine zr ?_;refine zz ?_;refine zzn ?_;refine T_block ?_;refine T_len 0 rfl fun ha => T_cells 0 rfl fun hc => ?_
 unfold big at ha
 refine T_loop (γ := Nat) (fun i => ⟨_, [(4, intS .i64 (i : Nat)), (3, intS .i64 (gs tsz xs i : Nat)), (0, slS 6 pc xs)], [], [], (0, false)⟩) (fun i => i ≤ xs.length ∧ i ≤ 21) (fun i => xs.length - i) 0 ⟨Nat.zero_le _, by decide⟩ (ent_g zk) ?_
 rintro i ⟨hi, hi2⟩
 have hgl := gs_le tsz xs i
 refine T_seq ?_;refine zr ?_;(iterate 3 refine zz ?_)
 refine Run.oneB (ok_cmp rfl rfl rfl rfl) rfl rfl rfl (fun h3_3 => ?_) (fun h3_3 => ?_)
 ·have k3_3 := of_decide_eq_true h3_3
  (iterate 4 refine zz ?_);refine zzn ?_;refine zzc (fun h12 => ?_) fun h12 => ?_
  ·have k12 := of_decide_eq_true h12
   refine T_skip ?_;refine T_seq ?_;refine T_block ?_;refine T_draw 37 (by kernel_rfl) ?_
   obtain ⟨⟨⟨b, l, d⟩, ⟨c, m, e⟩⟩, hp⟩ : ∃ p, xs[i]? = some p := ⟨_, List.getElem?_eq_getElem (by omega)⟩
   have hgs := gs_succ (sz := tsz) hp
   obtain ⟨I0, hcc⟩ := hc _ (List.mem_of_getElem? hp)
   have hbl : l.length ≤ big := nat_big (hcc 1 _ rfl)
   have hbd : d.length ≤ big := nat_big (hcc 2 _ rfl)
   have hbm : m.length ≤ big := nat_big (hcc 4 _ rfl)
   have hbe : e.length ≤ big := nat_big (hcc 5 _ rfl)
   unfold big at hbl hbd hbm hbe
   simp only [tsz] at hgs
   (iterate 3 refine zz ?_);refine zo (ok_indexAddr rfl rfl rfl (by omega) (y := ((b, l, d), (c, m, e))) (hp)) ?_;(iterate 4 refine zz ?_);refine zo ((ok_len rfl rfl).sub (int_eq (n := ((l.length : Nat) : Int)) rfl)) ?_;(iterate 2 refine zz ?_);refine zo (ok_indexAddr rfl rfl rfl (by omega) (y := ((b, l, d), (c, m, e))) (hp)) ?_;(iterate 3 refine zz ?_);refine zo ((ok_len rfl rfl).sub (int_eq (n := ((d.length : Nat) : Int)) rfl)) ?_;refine za ((l.length + d.length : Nat) : Int) ?_;(iterate 2 refine zz ?_);refine zo (ok_indexAddr rfl rfl rfl (by omega) (y := ((b, l, d), (c, m, e))) (hp)) ?_;(iterate 4 refine zz ?_);refine zo ((ok_len rfl rfl).sub (int_eq (n := ((m.length : Nat) : Int)) rfl)) ?_;refine za ((l.length + d.length + m.length : Nat) : Int) ?_;(iterate 2 refine zz ?_);refine zo (ok_indexAddr rfl rfl rfl (by omega) (y := ((b, l, d), (c, m, e))) (hp)) ?_;(iterate 3 refine zz ?_);refine zo ((ok_len rfl rfl).sub (int_eq (n := ((e.length : Nat) : Int)) rfl)) ?_;refine za ((l.length + d.length + m.length + e.length : Nat) : Int) ?_;refine zz ?_;refine za ((gs tsz xs (i + 1) : Nat) : Int) ?_;refine zz ?_;(iterate 2 refine zzn ?_);refine T_region ?_;refine zz ?_;refine za ((i + 1 : Nat) : Int) ?_;refine zz ?_;refine zzn ?_
   exact ⟨i + 1, ⟨by omega, by omega⟩, by omega, ent_g zk⟩
  ·have k12 := of_decide_eq_false h12
   refine T_exit ?_;refine zr ?_;(iterate 2 refine zz ?_);refine zo ((ok_cmp rfl rfl rfl rfl).sub (bool_eq (c := true) (decide_eq_true (by omega)))) ?_;refine zz ?_;(iterate 2 refine zq ?_);(iterate 2 refine zz ?_);refine zzn ?_;refine T_ret ?_
   exact ⟨_, [], .one (.tmp rfl), List.nil_sublist _, congrArg boolS (decide_eq_true (.inl (by omega))).symm, rfl⟩
 ·have k3_3 := of_decide_eq_false h3_3
  refine zz ?_;(iterate 2 refine zq ?_);refine zz ?_;refine zzn ?_;refine T_condF rfl rfl ?_;refine T_exit ?_;refine zr ?_;(iterate 2 refine zz ?_)
  refine Run.oneB (ok_cmp rfl rfl rfl rfl) rfl rfl rfl (fun h6_2 => ?_) (fun h6_2 => ?_)
  ·have k6_2 := of_decide_eq_true h6_2
   refine zz ?_;(iterate 2 refine zq ?_);(iterate 2 refine zz ?_);refine zzn ?_;refine T_ret ?_
   exact ⟨_, [], .one (.tmp rfl), List.nil_sublist _, congrArg boolS (decide_eq_true (.inl (by omega))).symm, rfl⟩
  ·have k6_2 := of_decide_eq_false h6_2
   (iterate 2 refine zz ?_);refine zo ((ok_cmp rfl rfl rfl rfl).sub (bool_eq (c := decide (20 < xs.length ∨ 80 < gs tsz xs xs.length)) (by rw [show xs.length = i by omega]; exact decide_eq_decide.2 (by omega)))) ?_;(iterate 2 refine zz ?_);refine zzn ?_;refine T_ret ?_
   exact ⟨_, [], .one (.tmp rfl), List.nil_sublist _, rfl, rfl⟩
end Go.Proofs
/- straitref09.Side. -/
namespace Go.Proofs
open Go Go.Sv Num
variable {G : Imm}
theorem crossP3 {u v : V2} {k j : Nat} (h : Bp u k) (h' : Bp v j) (hs : 128 * (k + j) + 23000 ≤ 131072) : PSpec Tryz.prog G 62 [aggS (pcan u), aggS (pcan v)] (aggS (canQ (u.1 * v.2 - u.2 * v.1))) := by
 have := h.x; have := h.y; have := h'.x; have := h'.y
 exact rpCross_spec (by omega)
theorem bp_sub3 {p q : RawP} (hp : LimR p) (hq : LimR q) : Bp (sub2 (pv p) (pv q)) (tsz p + tsz q + 3) := by
 have i1 := (isQ_sz (b := p.1.1) hp.1.1 hp.1.2).bq
 have i2 := (isQ_sz (b := p.2.1) hp.2.1 hp.2.2).bq
 have i3 := (isQ_sz (b := q.1.1) hq.1.1 hq.1.2).bq
 have i4 := (isQ_sz (b := q.2.1) hq.2.1 hq.2.2).bq
 unfold tsz
 exact ⟨bq_le (bq_sub (hp := i1) (hq := i3)) (by omega), bq_le (bq_sub (hp := i2) (hq := i4)) (by omega)⟩
theorem subP3 {p q : RawP} (hp : LimR p) (hq : LimR q) (hs : 64 * (tsz p + tsz q + 4) + 23000 ≤ 65536) : PSpec Tryz.prog G 42 [aggS (pc p), aggS (pc q)] (aggS (pcan (sub2 (pv p) (pv q)))) := by
 have i1 := isQ_sz (b := p.1.1) hp.1.1 hp.1.2
 have i2 := isQ_sz (b := p.2.1) hp.2.1 hp.2.2
 have i3 := isQ_sz (b := q.1.1) hq.1.1 hq.1.2
 have i4 := isQ_sz (b := q.2.1) hq.2.1 hq.2.2
 exact rpSub_spec (hx1 := i1) (hy1 := i2) (hx2 := i3) (hy2 := i4) (by unfold tsz at hs; omega)
theorem rSide_spec {a b p : RawP} (ha : LimR a) (hb : LimR b) (hp : LimR p) (hs : 128 * (tsz a + tsz b + tsz p + tsz a + 6) + 23000 ≤ 65536) : PSpec Tryz.prog G 22 [aggS (pc a), aggS (pc b), aggS (pc p)] (intS .i64 (tri (cr (pv a) (pv b) (pv p)) 0)) := by
 have b1 := bp_sub3 hb ha
 have b2 := bp_sub3 hp ha
 have b3 := bq_cross b1 b2
 refine zs Tryz.func22 ?_;refine zr ?_;(iterate 4 refine zz ?_);refine zzn ?_;refine T_drawS 9 (by kernel_rfl) ?_;refine zo ((show OpOK _ _ _ _ _ (aggS (pc (b))) from ok_load_agg rfl rfl rfl rfl)) ?_;refine zo ((show OpOK _ _ _ _ _ (aggS (pc (a))) from ok_load_agg rfl rfl rfl rfl)) ?_;refine zo (ok_call rfl rfl (subP3 hb ha (by omega))) ?_;refine zo ((show OpOK _ _ _ _ _ (aggS (pc (p))) from ok_load_agg rfl rfl rfl rfl)) ?_;refine zo ((show OpOK _ _ _ _ _ (aggS (pc (a))) from ok_load_agg rfl rfl rfl rfl)) ?_;refine zo (ok_call rfl rfl (subP3 hp ha (by omega))) ?_;refine zo (ok_call rfl rfl (crossP3 b1 b2 (by omega))) ?_;refine zo (ok_call rfl rfl (show PSpec _ _ _ _ (intS .i64 (tri (cr (pv a) (pv b) (pv p)) 0)) from rqSign_spec (by omega))) ?_;refine zz ?_;(iterate 2 refine zzn ?_);refine T_ret ?_
 exact ⟨_, [], .one (.tmp rfl), List.nil_sublist _, rfl, rfl⟩
end Go.Proofs
