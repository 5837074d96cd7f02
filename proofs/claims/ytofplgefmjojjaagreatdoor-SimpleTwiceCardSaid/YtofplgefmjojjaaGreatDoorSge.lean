/- How two segments meet: rat.New, rat.Quo, meet. -/
import Derived.Test.YtofplgefmjojjaaGreatDoorSn2
import Derived.Test.YtofplgefmjojjaaGreatDoorSgd
namespace Go.Proofs
open Go Go.Sv Num
variable {G : Imm}
theorem cmpR [Tab G] {p q : RawP} {k : Nat} (hk : 0 < k) (hp : PtOk k p) (hq : PtOk k q) (hs : 400 * k + 21000 ≤ cap) : PSpec Tryz.prog G 94 [aggS (pc p), aggS (pc q)] (intS .i64 (cmp2 (pv p) (pv q))) := by
  have i1 := isQ_lim (b := p.1.1) hp.1 hk
  have i2 := isQ_lim (b := p.2.1) hp.2 hk
  have i3 := isQ_lim (b := q.1.1) hq.1 hk
  have i4 := isQ_lim (b := q.2.1) hq.2 hk
  exact vCmp_spec (hx1 := i1) (hy1 := i2) (hx2 := i3) (hy2 := i4) (by omega)
theorem subR [Tab G] {p q : RawP} {k : Nat} (hk : 0 < k) (hp : PtOk k p) (hq : PtOk k q) (hs : 400 * k + 21000 ≤ cap) : PSpec Tryz.prog G 148 [aggS (pc p), aggS (pc q)] (aggS (pcan (sub2 (pv p) (pv q)))) := by
  have i1 := isQ_lim (b := p.1.1) hp.1 hk
  have i2 := isQ_lim (b := p.2.1) hp.2 hk
  have i3 := isQ_lim (b := q.1.1) hq.1 hk
  have i4 := isQ_lim (b := q.2.1) hq.2 hk
  exact vSub_spec (hx1 := i1) (hy1 := i2) (hx2 := i3) (hy2 := i4) (by omega)
class Bp (v : V2) (k : outParam Nat) : Prop where
  x : Bq v.1 k
  y : Bq v.2 k
theorem bp_raw {p : RawP} {k : Nat} (hk : 0 < k) (hp : PtOk k p) : Bp (pv p) k :=
  ⟨(isQ_lim (b := p.1.1) hp.1 hk).bq, (isQ_lim (b := p.2.1) hp.2 hk).bq⟩
theorem bp_sub {u v : V2} {k j : Nat} (h : Bp u k) (h' : Bp v j) : Bp (sub2 u v) (k + j + 1) := by
  have := h.x; have := h.y; have := h'.x; have := h'.y
  exact ⟨(bq_sub : Bq (u.1 - v.1) _), (bq_sub : Bq (u.2 - v.2) _)⟩
theorem bp_rep {v : V2} {k : Nat} (h : Bp v k) : PtOk k (rep v) := ptOk_rep h.x h.y
theorem ptOk_le {p : RawP} {k j : Nat} (h : PtOk k p) (hl : k ≤ j) : PtOk j p := ⟨⟨h.1.1, h.1.2.1, Nat.le_trans h.1.2.2.1 hl, Nat.le_trans h.1.2.2.2 hl⟩, h.2.1, h.2.2.1, Nat.le_trans h.2.2.2.1 hl, Nat.le_trans h.2.2.2.2 hl⟩
theorem crossV [Tab G] {u v : V2} {k j : Nat} (h : Bp u k) (h' : Bp v j) (hs : 200 * (k + j) + 21000 ≤ cap) : PSpec Tryz.prog G 54 [aggS (pcan u), aggS (pcan v)] (aggS (canQ (u.1 * v.2 - u.2 * v.1))) := by
  have := h.x; have := h.y; have := h'.x; have := h'.y
  exact vCross_spec (by omega)
theorem bq_cross {u v : V2} {k j : Nat} (h : Bp u k) (h' : Bp v j) : Bq (u.1 * v.2 - u.2 * v.1) (2 * (k + j) + 1) := by
  have := h.x; have := h.y; have := h'.x; have := h'.y
  exact bq_le (k := k + j + (k + j) + 1) inferInstance (by omega)
abbrev RSg := RawP × RawP
abbrev sgc (s : RSg) : List SV := pc s.1 ++ pc s.2
def sgv (s : RSg) : Sg := (pv s.1, pv s.2)
abbrev SgOk (k : Nat) (s : RSg) : Prop := PtOk k s.1 ∧ PtOk k s.2
def fr (a b : RawP) : RSg := if 0 < cmp2 (pv a) (pv b) then (b, a) else (a, b)
theorem fr_v (a b : RawP) : sgv (fr a b) = fromF (pv a) (pv b) := by unfold fr fromF; split <;> rfl
theorem fr_ok {a b : RawP} {k : Nat} (ha : PtOk k a) (hb : PtOk k b) : SgOk k (fr a b) := by unfold fr; split; exact ⟨hb, ha⟩; exact ⟨ha, hb⟩
abbrev mtC (m : Int × V2 × V2) : List SV := intS .i8 m.1 :: (pcan m.2.1 ++ pcan m.2.2)
theorem bp_lnP {a b c d : V2} {k : Nat} (hk : 0 < k) (ha : Bp a k) (hb : Bp b k) (hc : Bp c k) (hd : Bp d k) : Bp (if den a b c d = 0 then (0, 0) else lnP a b c d) (32 * k) := by
  have := ha.x; have := ha.y; have := hb.x; have := hb.y; have := hc.x; have := hc.y; have := hd.x; have := hd.y
  split
  · exact ⟨bq_le bq_zero (by omega), bq_le bq_zero (by omega)⟩
  · have hn : Bq (lnT a b c d) (16 * k + 10) := by
      unfold lnT den
      exact bq_le (k := (k + k + 1 + (k + k + 1) + (k + k + 1 + (k + k + 1)) + 1) + (k + k + 1 + (k + k + 1) + (k + k + 1 + (k + k + 1)) + 1)) inferInstance (by omega)
    exact ⟨bq_le (k := k + (k + k + 1 + (16 * k + 10)) + 1) (q := a.1 + (b.1 - a.1) * lnT a b c d) inferInstance (by omega), bq_le (k := k + (k + k + 1 + (16 * k + 10)) + 1) (q := a.2 + (b.2 - a.2) * lnT a b c d) inferInstance (by omega)⟩
theorem mt_rest {s t : Sg} {P Q : V2} (hP : P = if den s.1 s.2 t.1 t.2 = 0 then (0, 0) else lnP s.1 s.2 t.1 t.2) (hQ : Q = P) (c1 : ¬ 0 < cmp2 (loF s t) (hiF s t)) (c2 : (hasB s (loF s t) && hasB t (loF s t) && hasB s (hiF s t) && hasB t (hiF s t)) = false) :
    mtF s t = if (!(!decide (den s.1 s.2 t.1 t.2 = 0)) || !spnB s Q || !spnB t Q) = true then noMt else (1, P, P) := by
  subst hQ
  unfold mtF
  rw [if_neg c1, if_neg (by rw [c2]; decide)]
  by_cases hd : den s.1 s.2 t.1 t.2 = 0
  · rw [if_pos hd, decide_eq_true hd]; rfl
  · rw [if_neg hd] at hP ⊢
    rw [← hP, decide_eq_false hd]
    cases spnB s Q <;> cases spnB t Q <;> rfl
theorem qmk_spec [Tab G] {b : Bool} {l d : List Nat} {z : Int} {n k j : Nat} [h : IsZ b l z k] [hd : IsNat d n] [hk : Sz d j] (hs : 2 * (k + j + 1) + 11000 ≤ cap) : PSpec Tryz.prog G 211 [aggS [boolS b, natS l], natS d] (tupS [aggS (canQ (mkRat z n)), intS .i64 (if n = 0 then 30 else 0)]) := by
  have iq : IsQ b l d (mkRat z n) (k + j + 1) := ⟨h.lim, hd.lim, by rw [h.val, hd.val], by have := h.len; omega, by have := hk.h; omega, by omega⟩
  have hdv := hd.val
  refine fn_spec Tryz.func211 rfl rfl rfl ?_
  refine T_regionS ?_
  refine Run.one (ok_box rfl rfl) rfl rfl rfl ?_
  refine Run.alloc rfl rfl rfl rfl rfl fun b4 => ?_
  refine Run.one (ok_assign rfl rfl) rfl rfl rfl ?_
  refine Run.nil ?_
  refine T_regionS ?_
  refine Run.one (ok_load_agg rfl rfl rfl rfl) rfl rfl rfl ?_
  refine Run.one (ok_move rfl rfl) rfl rfl rfl ?_
  iterate 2 refine Run.one (ok_build rfl rfl rfl) rfl rfl rfl ?_
  refine Run.box rfl rfl rfl rfl rfl rfl fun b11 => ?_
  refine Run.one (ok_assign rfl rfl) rfl rfl rfl ?_
  refine Run.nil ?_
  refine T_seq ?_
  refine T_regionS ?_
  refine Run.one (ok_move rfl rfl) rfl rfl rfl ?_
  refine Run.callH [] _ [_] rfl rfl rfl rfl (qnorm_spec (q := mkRat z n) hs) rfl rfl rfl ?_
  rintro s1 H1 ⟨rfl, rfl⟩
  rw [hdv]
  refine Run.one (ok_not rfl rfl) rfl rfl rfl ?_
  refine Run.nil ?_
  refine T_cond rfl rfl (fun h14 => ?_) (fun h14 => ?_)
  · have hn0 : n = 0 := by simpa using h14
    refine T_regionS ?_
    refine Run.one (ok_move rfl rfl) rfl rfl rfl ?_
    refine Run.one (ok_nilCheck_eq rfl rfl) rfl rfl rfl ?_
    refine Run.one (ok_fieldAddr_eq rfl rfl rfl) rfl rfl rfl ?_
    refine Run.one (ok_load_own_agg 0 rfl rfl rfl rfl rfl) rfl rfl rfl ?_
    refine Run.store 1 rfl rfl rfl rfl rfl rfl rfl rfl rfl ?_
    refine Run.one (ok_assign rfl rfl) rfl rfl rfl ?_
    refine Run.nil ?_
    refine T_ret ?_
    exact ⟨_, [], .many (.cons (.agg 1 inferInstance rfl rfl rfl rfl) (.cons (.tmp rfl) (.nil))), List.nil_sublist _, by rw [if_pos hn0]; rfl, rfl⟩
  · have hn0 : n ≠ 0 := by simpa using h14
    refine T_skip ?_
    refine T_regionS ?_
    refine Run.one (ok_move rfl rfl) rfl rfl rfl ?_
    refine Run.one (ok_nilCheck_eq rfl rfl) rfl rfl rfl ?_
    refine Run.one (ok_fieldAddr_eq rfl rfl rfl) rfl rfl rfl ?_
    refine Run.one (ok_load_own_agg 0 rfl rfl rfl rfl rfl) rfl rfl rfl ?_
    refine Run.store 1 rfl rfl rfl rfl rfl rfl rfl rfl rfl ?_
    refine Run.one (ok_assign rfl rfl) rfl rfl rfl ?_
    refine Run.nil ?_
    refine T_ret ?_
    exact ⟨_, [], .many (.cons (.agg 1 inferInstance rfl rfl rfl rfl) (.cons (.tmp rfl) (.nil))), List.nil_sublist _, by rw [if_neg hn0]; rfl, rfl⟩
theorem qquo_spec [Tab G] {b c : Bool} {l d m e : List Nat} {p q : Rat} {k j : Nat} [hx : IsQ b l d p k] [hy : IsQ c m e q j] (hs : 100 * (k + j) + 21000 ≤ cap) : PSpec Tryz.prog G 178 [aggS [boolS b, natS l, natS d], aggS [boolS c, natS m, natS e]] (tupS [aggS (canQ (p / q)), intS .i64 (if q = 0 then 30 else 0)]) := by
  have hxb := hx.bq
  have hyb := hy.bq
  have i1 := hxb.bz
  have i2 := hxb.bd
  have i3 := hyb.bz
  have i4 := hyb.bd
  have i5 : Bd q.num.natAbs j := ⟨hyb.num⟩
  have i6 : IsZ (decide (q.num < 0)) (dig q.den) (sgn (decide (q.num < 0)) q.den) j := ⟨lim_dig _, by rw [val_dig], hyb.lens.2⟩
  have i7 := i6.bz
  have hpl := hxb.lens
  have hql := hyb.lens
  refine fn_spec Tryz.func178 rfl rfl rfl ?_
  refine T_regionS ?_
  iterate 2 refine Run.one (ok_box rfl rfl) rfl rfl rfl ?_
  refine Run.alloc rfl rfl rfl rfl rfl fun b4 => ?_
  refine Run.one (ok_assign rfl rfl) rfl rfl rfl ?_
  refine Run.nil ?_
  refine T_drawS 6 (by kernel_rfl) ?_
  refine Run.one (ok_load_agg rfl rfl rfl rfl) rfl rfl rfl ?_
  refine Run.one (ok_call rfl rfl (qof_spec (by omega))) rfl rfl rfl ?_
  refine Run.one (ok_load_agg rfl rfl rfl rfl) rfl rfl rfl ?_
  refine Run.one (ok_call rfl rfl (qof_spec (by omega))) rfl rfl rfl ?_
  iterate 2 refine Run.one (ok_assign rfl rfl) rfl rfl rfl ?_
  iterate 2 refine Run.nil ?_
  refine T_drawS 34 (by kernel_rfl) ?_
  refine Run.one (ok_move rfl rfl) rfl rfl rfl ?_
  refine Run.one (ok_nilCheck rfl rfl) rfl rfl rfl ?_
  iterate 2 refine Run.one (ok_fieldAddr rfl rfl rfl) rfl rfl rfl ?_
  refine Run.one (ok_load_agg rfl rfl rfl rfl) rfl rfl rfl ?_
  refine Run.one (ok_move rfl rfl) rfl rfl rfl ?_
  refine Run.one (ok_nilCheck rfl rfl) rfl rfl rfl ?_
  iterate 3 refine Run.one (ok_fieldAddr rfl rfl rfl) rfl rfl rfl ?_
  refine Run.one (ok_load rfl rfl) rfl rfl rfl ?_
  refine Run.one (ok_move rfl rfl) rfl rfl rfl ?_
  refine Run.one (ok_nilCheck rfl rfl) rfl rfl rfl ?_
  iterate 2 refine Run.one (ok_fieldAddr rfl rfl rfl) rfl rfl rfl ?_
  refine Run.one (ok_load rfl rfl) rfl rfl rfl ?_
  refine Run.one (ok_build rfl rfl rfl) rfl rfl rfl ?_
  refine Run.one (ok_buildSlice rfl rfl (by decide) rfl (by simp) rfl rfl) rfl rfl rfl ?_
  refine Run.one (ok_call rfl rfl (zmul2_spec (by omega))) rfl rfl rfl ?_
  refine Run.one (ok_move rfl rfl) rfl rfl rfl ?_
  refine Run.one (ok_nilCheck rfl rfl) rfl rfl rfl ?_
  iterate 2 refine Run.one (ok_fieldAddr rfl rfl rfl) rfl rfl rfl ?_
  refine Run.one (ok_load rfl rfl) rfl rfl rfl ?_
  refine Run.one (ok_move rfl rfl) rfl rfl rfl ?_
  refine Run.one (ok_nilCheck rfl rfl) rfl rfl rfl ?_
  iterate 3 refine Run.one (ok_fieldAddr rfl rfl rfl) rfl rfl rfl ?_
  refine Run.one (ok_load rfl rfl) rfl rfl rfl ?_
  refine Run.one (ok_call rfl rfl (mul_spec (by omega))) rfl rfl rfl ?_
  refine Run.one (ok_call rfl rfl (qmk_spec (by omega))) rfl rfl rfl ?_
  refine Run.one (ok_extract rfl rfl rfl) rfl rfl rfl ?_
  refine Run.one ((ok_extract rfl rfl rfl).sub (int_eq (n := (if q = 0 then 30 else 0)) (by by_cases h : q = 0; rw [if_pos h, if_pos (by rw [h]; exact Nat.mul_zero _)]; rw [if_neg h, if_neg (Nat.mul_ne_zero p.den_nz (fun h0 => h (Rat.num_eq_zero.1 (Int.natAbs_eq_zero.1 h0))))]))) rfl rfl rfl ?_
  refine Run.nil ?_
  refine Run.store 0 rfl rfl rfl rfl rfl rfl rfl rfl rfl ?_
  refine Run.one (ok_assign rfl rfl) rfl rfl rfl ?_
  refine Run.nil ?_
  refine T_ret ?_
  exact ⟨_, [], .many (.cons (.agg 0 inferInstance rfl rfl rfl rfl) (.cons (.tmp rfl) (.nil))), List.nil_sublist _, by rw [← quo_mk]; rfl, rfl⟩
theorem from_spec [Tab G] {a b : RawP} {k : Nat} (hk : 0 < k) (ha : PtOk k a) (hb : PtOk k b) (hs : 400 * k + 21000 ≤ cap) : PSpec Tryz.prog G 95 [aggS (pc a), aggS (pc b)] (aggS (sgc (fr a b))) := by
  refine fn_spec Tryz.func95 rfl rfl rfl ?_
  refine T_regionS ?_
  refine Run.box rfl rfl rfl rfl rfl rfl fun b2 => ?_
  refine Run.box rfl rfl rfl rfl rfl rfl fun b3 => ?_
  refine Run.alloc rfl rfl rfl rfl rfl fun b4 => ?_
  refine Run.nil ?_
  refine T_seq ?_
  refine T_regionS ?_
  refine Run.one ((show OpOK _ _ _ _ _ (aggS (pc a)) from ok_load_own_agg 2 rfl rfl rfl (by kernel_rfl) rfl)) rfl rfl rfl ?_
  refine Run.one ((show OpOK _ _ _ _ _ (aggS (pc b)) from ok_load_own_agg 1 rfl rfl rfl (by kernel_rfl) rfl)) rfl rfl rfl ?_
  refine Run.one (ok_call rfl rfl (cmpR (p := a) (q := b) hk ha hb hs)) rfl rfl rfl ?_
  refine Run.one (ok_cmp rfl rfl rfl rfl) rfl rfl rfl ?_
  refine Run.nil ?_
  refine T_cond rfl rfl (fun h8 => ?_) (fun h8 => ?_)
  · have k8 := of_decide_eq_true h8
    refine T_region ?_
    refine Run.one ((show OpOK _ _ _ _ _ (aggS (pc b)) from ok_load_own_agg 1 rfl rfl rfl (by kernel_rfl) rfl)) rfl rfl rfl ?_
    refine Run.one ((show OpOK _ _ _ _ _ (aggS (pc a)) from ok_load_own_agg 2 rfl rfl rfl (by kernel_rfl) rfl)) rfl rfl rfl ?_
    refine Run.store 2 rfl rfl rfl rfl rfl rfl rfl rfl rfl ?_
    refine Run.store 1 rfl rfl rfl rfl rfl rfl rfl rfl rfl ?_
    refine Run.nil ?_
    refine T_regionS ?_
    refine Run.one (ok_load_own_agg 2 rfl rfl rfl rfl rfl) rfl rfl rfl ?_
    refine Run.one (ok_load_own_agg 1 rfl rfl rfl rfl rfl) rfl rfl rfl ?_
    refine Run.one ((show OpOK _ _ _ _ _ (aggS (sgc (b, a))) from ok_build rfl rfl (by kernel_rfl))) rfl rfl rfl ?_
    refine Run.store 0 rfl rfl rfl rfl rfl rfl rfl rfl rfl ?_
    refine Run.nil ?_
    refine T_ret ?_
    exact ⟨_, [], .one (.agg 0 inferInstance rfl rfl rfl rfl), List.nil_sublist _, by unfold fr; rw [if_pos k8]; rfl, rfl⟩
  · have k8 := of_decide_eq_false h8
    refine T_skip ?_
    refine T_regionS ?_
    refine Run.one (ok_load_own_agg 2 rfl rfl rfl rfl rfl) rfl rfl rfl ?_
    refine Run.one (ok_load_own_agg 1 rfl rfl rfl rfl rfl) rfl rfl rfl ?_
    refine Run.one ((show OpOK _ _ _ _ _ (aggS (sgc (a, b))) from ok_build rfl rfl (by kernel_rfl))) rfl rfl rfl ?_
    refine Run.store 0 rfl rfl rfl rfl rfl rfl rfl rfl rfl ?_
    refine Run.nil ?_
    refine T_ret ?_
    exact ⟨_, [], .one (.agg 0 inferInstance rfl rfl rfl rfl), List.nil_sublist _, by unfold fr; rw [if_neg k8]; rfl, rfl⟩
theorem along_spec [Tab G] {s : RSg} {k : Nat} (hk : 0 < k) (hs1 : SgOk k s) (hs : 400 * k + 21000 ≤ cap) : PSpec Tryz.prog G 210 [aggS (sgc s)] (aggS (pcan (sub2 (pv s.2) (pv s.1)))) := by
  refine fn_spec Tryz.func210 rfl rfl rfl ?_
  refine T_regionS ?_
  refine Run.one (ok_box rfl rfl) rfl rfl rfl ?_
  refine Run.alloc rfl rfl rfl rfl rfl fun b2 => ?_
  refine Run.nil ?_
  refine T_regionS ?_
  refine Run.one (ok_fieldAddr rfl rfl rfl) rfl rfl rfl ?_
  refine Run.one ((show OpOK _ _ _ _ _ (aggS (pc s.2)) from ok_load_agg rfl rfl rfl rfl)) rfl rfl rfl ?_
  refine Run.one (ok_fieldAddr rfl rfl rfl) rfl rfl rfl ?_
  refine Run.one ((show OpOK _ _ _ _ _ (aggS (pc s.1)) from ok_load_agg rfl rfl rfl rfl)) rfl rfl rfl ?_
  refine Run.one (ok_call rfl rfl (subR (p := s.2) (q := s.1) hk hs1.2 hs1.1 hs)) rfl rfl rfl ?_
  refine Run.store 0 rfl rfl rfl rfl rfl rfl rfl rfl rfl ?_
  refine Run.nil ?_
  refine T_ret ?_
  exact ⟨_, [], .one (.agg 0 inferInstance rfl rfl rfl rfl), List.nil_sublist _, rfl, rfl⟩
theorem mside_spec [Tab G] {s : RSg} {p : RawP} {k : Nat} (hk : 0 < k) (hs1 : SgOk k s) (hp : PtOk k p) (hs : 2000 * k + 30000 ≤ cap) : PSpec Tryz.prog G 176 [aggS (sgc s), aggS (pc p)] (intS .i64 (tri (cr (pv s.1) (pv s.2) (pv p)) 0)) := by
  have c1 := bp_sub (bp_raw hk hs1.2) (bp_raw hk hs1.1)
  have c2 := bp_sub (bp_raw hk hp) (bp_raw hk hs1.1)
  have c3 := bq_cross c1 c2
  refine fn_spec Tryz.func176 rfl rfl rfl ?_
  refine T_regionS ?_
  iterate 2 refine Run.one (ok_box rfl rfl) rfl rfl rfl ?_
  refine Run.one (ok_assign rfl rfl) rfl rfl rfl ?_
  refine Run.nil ?_
  refine T_drawS 9 (by kernel_rfl) ?_
  refine Run.one ((show OpOK _ _ _ _ _ (aggS (sgc s)) from ok_load_agg rfl rfl rfl rfl)) rfl rfl rfl ?_
  refine Run.one (ok_call rfl rfl (along_spec hk hs1 (by omega))) rfl rfl rfl ?_
  refine Run.one ((show OpOK _ _ _ _ _ (aggS (pc p)) from ok_load_agg rfl rfl rfl rfl)) rfl rfl rfl ?_
  refine Run.one (ok_fieldAddr rfl rfl rfl) rfl rfl rfl ?_
  refine Run.one ((show OpOK _ _ _ _ _ (aggS (pc s.1)) from ok_load_agg rfl rfl rfl rfl)) rfl rfl rfl ?_
  refine Run.one (ok_call rfl rfl (subR (p := p) (q := s.1) hk hp hs1.1 (by omega))) rfl rfl rfl ?_
  refine Run.one (ok_call rfl rfl (crossV c1 c2 (by omega))) rfl rfl rfl ?_
  refine Run.one (ok_call rfl rfl (qSign_spec (by omega))) rfl rfl rfl ?_
  refine Run.one (ok_assign rfl rfl) rfl rfl rfl ?_
  iterate 2 refine Run.nil ?_
  refine T_ret ?_
  exact ⟨_, [], .one (.tmp rfl), List.nil_sublist _, rfl, rfl⟩
theorem spans_spec [Tab G] {s : RSg} {p : RawP} {k : Nat} (hk : 0 < k) (hs1 : SgOk k s) (hp : PtOk k p) (hs : 400 * k + 21000 ≤ cap) : PSpec Tryz.prog G 137 [aggS (sgc s), aggS (pc p)] (boolS (spnB (sgv s) (pv p))) := by
  refine fn_spec Tryz.func137 rfl rfl rfl ?_
  refine T_regionS ?_
  iterate 2 refine Run.one (ok_box rfl rfl) rfl rfl rfl ?_
  refine Run.one (ok_assign rfl rfl) rfl rfl rfl ?_
  refine Run.nil ?_
  refine T_regionS ?_
  refine Run.one (ok_fieldAddr rfl rfl rfl) rfl rfl rfl ?_
  refine Run.one ((show OpOK _ _ _ _ _ (aggS (pc s.1)) from ok_load_agg rfl rfl rfl rfl)) rfl rfl rfl ?_
  refine Run.one ((show OpOK _ _ _ _ _ (aggS (pc p)) from ok_load_agg rfl rfl rfl rfl)) rfl rfl rfl ?_
  refine Run.one (ok_call rfl rfl (cmpR (p := s.1) (q := p) hk hs1.1 hp hs)) rfl rfl rfl ?_
  refine Run.oneB (ok_cmp rfl rfl rfl rfl) rfl rfl rfl (fun h1_4 => ?_) (fun h1_4 => ?_)
  · have k1_4 := of_decide_eq_true h1_4
    refine Run.one (ok_move rfl rfl) rfl rfl rfl ?_
    refine Run.one ((show OpOK _ _ _ _ _ (aggS (pc p)) from ok_load_agg rfl rfl rfl rfl)) (gB rfl rfl rfl rfl) rfl rfl ?_
    refine Run.one (ok_fieldAddr rfl rfl rfl) (gB rfl rfl rfl rfl) rfl rfl ?_
    refine Run.one ((show OpOK _ _ _ _ _ (aggS (pc s.2)) from ok_load_agg rfl rfl rfl rfl)) (gB rfl rfl rfl rfl) rfl rfl ?_
    refine Run.one (ok_call rfl rfl (cmpR (p := p) (q := s.2) hk hp hs1.2 hs)) (gB rfl rfl rfl rfl) rfl rfl ?_
    refine Run.one (ok_cmp rfl rfl rfl rfl) (gB rfl rfl rfl rfl) rfl rfl ?_
    refine Run.one (ok_pick rfl rfl rfl) rfl rfl rfl ?_
    refine Run.one (ok_assign rfl rfl) rfl rfl rfl ?_
    refine Run.nil ?_
    refine T_ret ?_
    exact ⟨_, [], .one (.tmp rfl), List.nil_sublist _, by unfold spnB; rw [show decide (cmp2 (sgv s).1 (pv p) ≤ 0) = true from h1_4]; rfl, rfl⟩
  · have k1_4 := of_decide_eq_false h1_4
    refine Run.one (ok_move rfl rfl) rfl rfl rfl ?_
    iterate 5 refine Run.no (gB rfl rfl rfl rfl) rfl rfl ?_
    refine Run.one (ok_pick rfl rfl rfl) rfl rfl rfl ?_
    refine Run.one (ok_assign rfl rfl) rfl rfl rfl ?_
    refine Run.nil ?_
    refine T_ret ?_
    exact ⟨_, [], .one (.tmp rfl), List.nil_sublist _, by unfold spnB; rw [show decide (cmp2 (sgv s).1 (pv p) ≤ 0) = false from h1_4]; rfl, rfl⟩
theorem has_spec [Tab G] {s : RSg} {p : RawP} {k : Nat} (hk : 0 < k) (hs1 : SgOk k s) (hp : PtOk k p) (hs : 2000 * k + 30000 ≤ cap) : PSpec Tryz.prog G 134 [aggS (sgc s), aggS (pc p)] (boolS (hasB (sgv s) (pv p))) := by
  refine fn_spec Tryz.func134 rfl rfl rfl ?_
  refine T_regionS ?_
  iterate 2 refine Run.one (ok_box rfl rfl) rfl rfl rfl ?_
  refine Run.one (ok_assign rfl rfl) rfl rfl rfl ?_
  refine Run.nil ?_
  refine T_regionS ?_
  refine Run.one ((show OpOK _ _ _ _ _ (aggS (sgc s)) from ok_load_agg rfl rfl rfl rfl)) rfl rfl rfl ?_
  refine Run.one ((show OpOK _ _ _ _ _ (aggS (pc p)) from ok_load_agg rfl rfl rfl rfl)) rfl rfl rfl ?_
  refine Run.oneB (ok_call rfl rfl (spans_spec hk hs1 hp (by omega))) rfl rfl rfl (fun h1_2 => ?_) (fun h1_2 => ?_)
  · refine Run.one (ok_move rfl rfl) rfl rfl rfl ?_
    refine Run.one ((show OpOK _ _ _ _ _ (aggS (sgc s)) from ok_load_agg rfl rfl rfl rfl)) (gB rfl rfl rfl rfl) rfl rfl ?_
    refine Run.one ((show OpOK _ _ _ _ _ (aggS (pc p)) from ok_load_agg rfl rfl rfl rfl)) (gB rfl rfl rfl rfl) rfl rfl ?_
    refine Run.one (ok_call rfl rfl (mside_spec hk hs1 hp hs)) (gB rfl rfl rfl rfl) rfl rfl ?_
    refine Run.one (ok_cmp rfl rfl rfl rfl) (gB rfl rfl rfl rfl) rfl rfl ?_
    refine Run.one (ok_pick rfl rfl rfl) rfl rfl rfl ?_
    refine Run.one (ok_assign rfl rfl) rfl rfl rfl ?_
    refine Run.nil ?_
    refine T_ret ?_
    exact ⟨_, [], .one (.tmp rfl), List.nil_sublist _, by unfold hasB; rw [h1_2]; rfl, rfl⟩
  · refine Run.one (ok_move rfl rfl) rfl rfl rfl ?_
    iterate 4 refine Run.no (gB rfl rfl rfl rfl) rfl rfl ?_
    refine Run.one (ok_pick rfl rfl rfl) rfl rfl rfl ?_
    refine Run.one (ok_assign rfl rfl) rfl rfl rfl ?_
    refine Run.nil ?_
    refine T_ret ?_
    exact ⟨_, [], .one (.tmp rfl), List.nil_sublist _, by unfold hasB; rw [h1_2]; rfl, rfl⟩
theorem none_spec : PSpec Tryz.prog G 133 [] (aggS (mtC noMt)) := by
  refine fn_spec Tryz.func133 rfl rfl rfl ?_
  refine T_regionS ?_
  refine Run.alloc rfl rfl rfl rfl rfl fun b0 => ?_
  refine Run.nil ?_
  refine T_regionS ?_
  iterate 2 refine Run.one (ok_call rfl rfl (vOf_spec (p := 0) (q := 0) (by decide) (by decide) (by decide) (by decide))) rfl rfl rfl ?_
  refine Run.one ((show OpOK _ _ _ _ _ (aggS (mtC noMt)) from ok_build rfl rfl (by kernel_rfl))) rfl rfl rfl ?_
  refine Run.store 0 rfl rfl rfl rfl rfl rfl rfl rfl rfl ?_
  refine Run.nil ?_
  refine T_ret ?_
  exact ⟨_, [], .one (.agg 0 inferInstance rfl rfl rfl rfl), List.nil_sublist _, rfl, rfl⟩
theorem lines_spec [Tab G] {a b c d : RawP} {k : Nat} (hk : 0 < k) (ha : PtOk k a) (hb : PtOk k b) (hc : PtOk k c) (hd : PtOk k d) (hs : 10000 * k + 100000 ≤ cap) : PSpec Tryz.prog G 136 [aggS (pc a), aggS (pc b), aggS (pc c), aggS (pc d)] (tupS [aggS (pcan (if den (pv a) (pv b) (pv c) (pv d) = 0 then (0, 0) else lnP (pv a) (pv b) (pv c) (pv d))), boolS (!decide (den (pv a) (pv b) (pv c) (pv d) = 0))]) := by
  have c1 := bp_sub (bp_raw hk hd) (bp_raw hk hc)
  have c2 := bp_sub (bp_raw hk hc) (bp_raw hk ha)
  have c3 := bp_sub (bp_raw hk hb) (bp_raw hk ha)
  have c4 := bq_cross c2 c1
  have c5 := bq_cross c3 c1
  have c6 : Bq (lnT (pv a) (pv b) (pv c) (pv d)) _ := bq_div (hp := c4) (hq := c5)
  have a1 := isQ_lim (b := a.1.1) ha.1 hk
  have b1 := isQ_lim (b := b.1.1) hb.1 hk
  have a2 := isQ_lim (b := a.2.1) ha.2 hk
  have b2 := isQ_lim (b := b.2.1) hb.2 hk
  refine fn_spec Tryz.func136 rfl rfl rfl ?_
  refine T_regionS ?_
  iterate 4 refine Run.one (ok_box rfl rfl) rfl rfl rfl ?_
  refine Run.alloc rfl rfl rfl rfl rfl fun b8 => ?_
  refine Run.one (ok_assign rfl rfl) rfl rfl rfl ?_
  refine Run.nil ?_
  refine T_regionS ?_
  refine Run.one ((show OpOK _ _ _ _ _ (aggS (pc d)) from ok_load_agg rfl rfl rfl rfl)) rfl rfl rfl ?_
  refine Run.one ((show OpOK _ _ _ _ _ (aggS (pc c)) from ok_load_agg rfl rfl rfl rfl)) rfl rfl rfl ?_
  refine Run.one (ok_call rfl rfl (subR (p := d) (q := c) hk hd hc (by omega))) rfl rfl rfl ?_
  refine Run.alloc rfl rfl rfl rfl rfl fun b10 => ?_
  refine Run.store 0 rfl rfl rfl rfl rfl rfl rfl rfl rfl ?_
  refine Run.nil ?_
  refine T_drawAS 14 (by kernel_rfl) rfl rfl ?_
  refine RunE.lat ((show OpOK _ _ _ _ _ (aggS (pc c)) from ok_load_agg rfl rfl rfl rfl)) rfl rfl rfl ?_
  refine RunE.lat ((show OpOK _ _ _ _ _ (aggS (pc a)) from ok_load_agg rfl rfl rfl rfl)) rfl rfl rfl ?_
  refine RunE.lat (ok_call rfl rfl (subR (p := c) (q := a) hk hc ha (by omega))) rfl rfl rfl ?_
  refine RunE.lat ((show OpOK _ _ _ _ _ (aggS (pcan (sub2 (pv d) (pv c)))) from ok_load_own_agg 0 rfl rfl rfl (by kernel_rfl) rfl)) rfl rfl rfl ?_
  refine RunE.lat (ok_call rfl rfl (crossV c2 c1 (by omega))) rfl rfl rfl ?_
  refine RunE.lat ((show OpOK _ _ _ _ _ (aggS (pc b)) from ok_load_agg rfl rfl rfl rfl)) rfl rfl rfl ?_
  refine RunE.lat ((show OpOK _ _ _ _ _ (aggS (pc a)) from ok_load_agg rfl rfl rfl rfl)) rfl rfl rfl ?_
  refine RunE.lat (ok_call rfl rfl (subR (p := b) (q := a) hk hb ha (by omega))) rfl rfl rfl ?_
  refine RunE.lat ((show OpOK _ _ _ _ _ (aggS (pcan (sub2 (pv d) (pv c)))) from ok_load_own_agg 0 rfl rfl rfl (by kernel_rfl) rfl)) rfl rfl rfl ?_
  refine RunE.lat (ok_call rfl rfl (crossV c3 c1 (by omega))) rfl rfl rfl ?_
  refine RunE.lat (ok_call rfl rfl (show PSpec _ _ _ _ (tupS [aggS (canQ (lnT (pv a) (pv b) (pv c) (pv d))), intS .i64 (if den (pv a) (pv b) (pv c) (pv d) = 0 then 30 else 0)]) from qquo_spec (hx := isQ_can (h := c4)) (hy := isQ_can (h := c5)) (by omega))) rfl rfl rfl ?_
  refine RunE.lat (ok_move rfl rfl) rfl rfl rfl ?_
  iterate 2 refine RunE.lat (ok_extract rfl rfl rfl) rfl rfl rfl ?_
  refine RunE.nil ?_
  refine EffAA.mk1 rfl rfl rfl rfl rfl rfl rfl rfl (by intro h; cases h) rfl rfl rfl fun b11 => ?_
  refine Run.one (ok_assign rfl rfl) rfl rfl rfl ?_
  refine Run.nil ?_
  refine T_seq ?_
  refine T_regionS ?_
  refine Run.one (ok_move rfl rfl) rfl rfl rfl ?_
  refine Run.one (ok_cmp rfl rfl rfl rfl) rfl rfl rfl ?_
  refine Run.nil ?_
  refine T_cond rfl rfl (fun h31 => ?_) (fun h31 => ?_)
  · have k31 := bne_iff_ne.1 h31
    have hd0 : den (pv a) (pv b) (pv c) (pv d) = 0 := Classical.byContradiction fun h => k31 (if_neg h)
    refine T_regionS ?_
    refine Run.one (ok_call rfl rfl (vOf_spec (p := 0) (q := 0) (by decide) (by decide) (by decide) (by decide))) rfl rfl rfl ?_
    refine Run.store 2 rfl rfl rfl rfl rfl rfl rfl rfl rfl ?_
    refine Run.one (ok_assign rfl rfl) rfl rfl rfl ?_
    refine Run.nil ?_
    refine T_ret ?_
    exact ⟨_, [], .many (.cons (.agg 2 inferInstance rfl rfl rfl rfl) (.cons (.tmp rfl) (.nil))), List.nil_sublist _, by rw [if_pos hd0, decide_eq_true hd0]; rfl, rfl⟩
  · have k31 := bne_eq_false_iff_eq.1 h31
    have hd0 : ¬ den (pv a) (pv b) (pv c) (pv d) = 0 := fun h => by rw [if_pos h] at k31; exact absurd k31 (by decide)
    refine T_skip ?_
    refine T_regionS ?_
    refine Run.one ((show OpOK _ _ _ _ _ (aggS (pc a)) from ok_load_agg rfl rfl rfl rfl)) rfl rfl rfl ?_
    refine Run.one ((show OpOK _ _ _ _ _ (aggS (pc b)) from ok_load_agg rfl rfl rfl rfl)) rfl rfl rfl ?_
    refine Run.one ((show OpOK _ _ _ _ _ (aggS (canQ (lnT (pv a) (pv b) (pv c) (pv d)))) from ok_load_own_agg 0 rfl rfl rfl (by kernel_rfl) rfl)) rfl rfl rfl ?_
    refine Run.one (ok_call rfl rfl (show PSpec _ _ _ _ (aggS (pcan (lnP (pv a) (pv b) (pv c) (pv d)))) from vAt_spec (by omega))) rfl rfl rfl ?_
    refine Run.store 2 rfl rfl rfl rfl rfl rfl rfl rfl rfl ?_
    refine Run.one (ok_assign rfl rfl) rfl rfl rfl ?_
    refine Run.nil ?_
    refine T_ret ?_
    exact ⟨_, [], .many (.cons (.agg 2 inferInstance rfl rfl rfl rfl) (.cons (.tmp rfl) (.nil))), List.nil_sublist _, by rw [if_neg hd0, decide_eq_false hd0]; rfl, rfl⟩
theorem meets_spec [Tab G] {s t : RSg} {k : Nat} (hk : 0 < k) (hs1 : SgOk k s) (ht1 : SgOk k t) (hs : 100000 * k + 100000 ≤ cap) : PSpec Tryz.prog G 96 [aggS (sgc s), aggS (sgc t)] (aggS (mtC (mtF (sgv s) (sgv t)))) := by
  refine fn_spec Tryz.func96 rfl rfl rfl ?_
  refine T_regionS ?_
  iterate 2 refine Run.one (ok_box rfl rfl) rfl rfl rfl ?_
  refine Run.alloc rfl rfl rfl rfl rfl fun b4 => ?_
  refine Run.nil ?_
  refine T_draw2S 4 (by kernel_rfl) rfl rfl rfl rfl ?_
  refine RunE.lat (ok_fieldAddr rfl rfl rfl) rfl rfl rfl ?_
  refine RunE.lat ((show OpOK _ _ _ _ _ (aggS (pc s.1)) from ok_load_agg rfl rfl rfl rfl)) rfl rfl rfl ?_
  refine RunE.lat (ok_fieldAddr rfl rfl rfl) rfl rfl rfl ?_
  refine RunE.lat ((show OpOK _ _ _ _ _ (aggS (pc s.2)) from ok_load_agg rfl rfl rfl rfl)) rfl rfl rfl ?_
  refine RunE.nil ?_
  refine ⟨⟨_, _, _, _, _, _, _, _, (show 5 ≠ 6 by decide), NewB.mk1 rfl rfl rfl rfl rfl rfl rfl (by intro h; cases h) (by intro h; cases h) rfl rfl rfl, NewB.mk1 rfl rfl rfl rfl rfl rfl rfl (by intro h; cases h) (by intro h; cases h) rfl rfl rfl, fun b5 b6 => ?_⟩⟩
  refine Run.nil ?_
  refine T_seqQ (K := fun S1 => ∃ lo : RawP, pv lo = loF (sgv s) (sgv t) ∧ PtOk k lo ∧ Ent S1 ⟨103, [(6, eqS (.pointer (some ⟨b6, 0, none⟩))), (5, eqS (.pointer (some ⟨b5, 0, none⟩))), (4, eqS (.pointer (some ⟨b4, 0, none⟩))), (3, ptrS (sgc t)), (2, ptrS (sgc s))], [⟨some b6, 30, pc s.2, 0⟩, ⟨some b5, 30, pc lo, 0⟩, ⟨some b4, 79, [intS .i8 0, eqS (.bool false), eqS (.slice none 0 0), eqS (.slice none 0 0), eqS (.bool false), eqS (.slice none 0 0), eqS (.slice none 0 0), eqS (.bool false), eqS (.slice none 0 0), eqS (.slice none 0 0), eqS (.bool false), eqS (.slice none 0 0), eqS (.slice none 0 0)], 0⟩], [], (0, false)⟩) ?_ ?_
  · refine T_regionS ?_
    refine Run.one (ok_fieldAddr rfl rfl rfl) rfl rfl rfl ?_
    refine Run.one ((show OpOK _ _ _ _ _ (aggS (pc t.1)) from ok_load_agg rfl rfl rfl rfl)) rfl rfl rfl ?_
    refine Run.one ((show OpOK _ _ _ _ _ (aggS (pc s.1)) from ok_load_own_agg 1 rfl rfl rfl (by kernel_rfl) rfl)) rfl rfl rfl ?_
    refine Run.one (ok_call rfl rfl (cmpR (p := t.1) (q := s.1) hk ht1.1 hs1.1 (by omega))) rfl rfl rfl ?_
    refine Run.one (ok_cmp rfl rfl rfl rfl) rfl rfl rfl ?_
    refine Run.nil ?_
    refine T_cond rfl rfl (fun h19 => ?_) (fun h19 => ?_)
    · have k19 := of_decide_eq_true h19
      refine T_region ?_
      refine Run.one (ok_fieldAddr rfl rfl rfl) rfl rfl rfl ?_
      refine Run.one ((show OpOK _ _ _ _ _ (aggS (pc t.1)) from ok_load_agg rfl rfl rfl rfl)) rfl rfl rfl ?_
      refine Run.store 1 rfl rfl rfl rfl rfl rfl rfl rfl rfl ?_
      refine Run.nil ?_
      exact ⟨t.1, (if_pos k19).symm, ht1.1, ent_h (subG_cons rfl (subG_cons rfl (subG_cons rfl (subG_cons rfl (subG_cons rfl (trivial)))))) rfl⟩
    · have k19 := of_decide_eq_false h19
      refine T_skip ?_
      exact ⟨s.1, (if_neg k19).symm, hs1.1, ent_h (subG_cons rfl (subG_cons rfl (subG_cons rfl (subG_cons rfl (subG_cons rfl (trivial)))))) rfl⟩
  · rintro S1 ⟨lo, hlo, olo, hS1⟩
    refine T_pre hS1 ?_
    refine T_seqQ (K := fun S1 => ∃ hi : RawP, pv hi = hiF (sgv s) (sgv t) ∧ PtOk k hi ∧ Ent S1 ⟨103, [(6, eqS (.pointer (some ⟨b6, 0, none⟩))), (5, eqS (.pointer (some ⟨b5, 0, none⟩))), (4, eqS (.pointer (some ⟨b4, 0, none⟩))), (3, ptrS (sgc t)), (2, ptrS (sgc s))], [⟨some b6, 30, pc hi, 0⟩, ⟨some b5, 30, pc lo, 0⟩, ⟨some b4, 79, [intS .i8 0, eqS (.bool false), eqS (.slice none 0 0), eqS (.slice none 0 0), eqS (.bool false), eqS (.slice none 0 0), eqS (.slice none 0 0), eqS (.bool false), eqS (.slice none 0 0), eqS (.slice none 0 0), eqS (.bool false), eqS (.slice none 0 0), eqS (.slice none 0 0)], 0⟩], [], (0, false)⟩) ?_ ?_
    · refine T_regionS ?_
      refine Run.one (ok_fieldAddr rfl rfl rfl) rfl rfl rfl ?_
      refine Run.one ((show OpOK _ _ _ _ _ (aggS (pc t.2)) from ok_load_agg rfl rfl rfl rfl)) rfl rfl rfl ?_
      refine Run.one ((show OpOK _ _ _ _ _ (aggS (pc s.2)) from ok_load_own_agg 0 rfl rfl rfl (by kernel_rfl) rfl)) rfl rfl rfl ?_
      refine Run.one (ok_call rfl rfl (cmpR (p := t.2) (q := s.2) hk ht1.2 hs1.2 (by omega))) rfl rfl rfl ?_
      refine Run.one (ok_cmp rfl rfl rfl rfl) rfl rfl rfl ?_
      refine Run.nil ?_
      refine T_cond rfl rfl (fun h26 => ?_) (fun h26 => ?_)
      · have k26 := of_decide_eq_true h26
        refine T_region ?_
        refine Run.one (ok_fieldAddr rfl rfl rfl) rfl rfl rfl ?_
        refine Run.one ((show OpOK _ _ _ _ _ (aggS (pc t.2)) from ok_load_agg rfl rfl rfl rfl)) rfl rfl rfl ?_
        refine Run.store 0 rfl rfl rfl rfl rfl rfl rfl rfl rfl ?_
        refine Run.nil ?_
        exact ⟨t.2, (if_pos k26).symm, ht1.2, ent_h (subG_cons rfl (subG_cons rfl (subG_cons rfl (subG_cons rfl (subG_cons rfl (trivial)))))) rfl⟩
      · have k26 := of_decide_eq_false h26
        refine T_skip ?_
        exact ⟨s.2, (if_neg k26).symm, hs1.2, ent_h (subG_cons rfl (subG_cons rfl (subG_cons rfl (subG_cons rfl (subG_cons rfl (trivial)))))) rfl⟩
    · rintro S1 ⟨hi, hhi, ohi, hS1⟩
      refine T_pre hS1 ?_
      refine T_regionS ?_
      refine Run.one ((show OpOK _ _ _ _ _ (aggS (pc lo)) from ok_load_own_agg 1 rfl rfl rfl (by kernel_rfl) rfl)) rfl rfl rfl ?_
      refine Run.one ((show OpOK _ _ _ _ _ (aggS (pc hi)) from ok_load_own_agg 0 rfl rfl rfl (by kernel_rfl) rfl)) rfl rfl rfl ?_
      refine Run.one (ok_call rfl rfl (cmpR (p := lo) (q := hi) hk olo ohi (by omega))) rfl rfl rfl ?_
      refine Run.one (ok_assign rfl rfl) rfl rfl rfl ?_
      refine Run.nil ?_
      refine T_seq ?_
      refine T_regionS ?_
      refine Run.one (ok_move rfl rfl) rfl rfl rfl ?_
      refine Run.one (ok_cmp rfl rfl rfl rfl) rfl rfl rfl ?_
      refine Run.nil ?_
      refine T_cond rfl rfl (fun h33 => ?_) (fun h33 => ?_)
      · have k33 := of_decide_eq_true h33
        have e0 : mtF (sgv s) (sgv t) = noMt := by unfold mtF; rw [← hlo, ← hhi, if_pos k33]
        refine T_regionS ?_
        refine Run.one (ok_call rfl rfl none_spec) rfl rfl rfl ?_
        refine Run.store 2 rfl rfl rfl rfl rfl rfl rfl rfl rfl ?_
        refine Run.nil ?_
        refine T_ret ?_
        exact ⟨_, [], .one (.agg 2 inferInstance rfl rfl rfl rfl), List.nil_sublist _, by rw [e0]; rfl, rfl⟩
      · have k33 := of_decide_eq_false h33
        refine T_skip ?_
        refine T_seq ?_
        refine T_seqQ (K := fun S1 => Ent S1 ⟨103, [(52, boolS (hasB (sgv s) (pv lo) && hasB (sgv t) (pv lo) && hasB (sgv s) (pv hi) && hasB (sgv t) (pv hi))), (7, intS .i64 (cmp2 (pv lo) (pv hi))), (6, eqS (.pointer (some ⟨b6, 0, none⟩))), (5, eqS (.pointer (some ⟨b5, 0, none⟩))), (4, eqS (.pointer (some ⟨b4, 0, none⟩))), (3, ptrS (sgc t)), (2, ptrS (sgc s))], [⟨some b6, 30, pc hi, 0⟩, ⟨some b5, 30, pc lo, 0⟩, ⟨some b4, 79, [intS .i8 0, eqS (.bool false), eqS (.slice none 0 0), eqS (.slice none 0 0), eqS (.bool false), eqS (.slice none 0 0), eqS (.slice none 0 0), eqS (.bool false), eqS (.slice none 0 0), eqS (.slice none 0 0), eqS (.bool false), eqS (.slice none 0 0), eqS (.slice none 0 0)], 0⟩], [], (0, false)⟩) ?_ ?_
        · refine T_region ?_
          refine Run.one ((show OpOK _ _ _ _ _ (aggS (sgc s)) from ok_load_agg rfl rfl rfl rfl)) rfl rfl rfl ?_
          refine Run.one ((show OpOK _ _ _ _ _ (aggS (pc lo)) from ok_load_own_agg 1 rfl rfl rfl (by kernel_rfl) rfl)) rfl rfl rfl ?_
          refine Run.oneB (ok_call rfl rfl (has_spec (s := s) (p := lo) hk hs1 olo (by omega))) rfl rfl rfl (fun h9_2 => ?_) (fun h9_2 => ?_)
          · refine Run.one (ok_move rfl rfl) rfl rfl rfl ?_
            refine Run.one ((show OpOK _ _ _ _ _ (aggS (sgc t)) from ok_load_agg rfl rfl rfl rfl)) (gB rfl rfl rfl rfl) rfl rfl ?_
            refine Run.one ((show OpOK _ _ _ _ _ (aggS (pc lo)) from ok_load_own_agg 1 rfl rfl rfl (by kernel_rfl) rfl)) (gB rfl rfl rfl rfl) rfl rfl ?_
            refine Run.one (ok_call rfl rfl (has_spec (s := t) (p := lo) hk ht1 olo (by omega))) (gB rfl rfl rfl rfl) rfl rfl ?_
            refine Run.oneB (ok_pick rfl rfl rfl) rfl rfl rfl (fun h9_7 => ?_) (fun h9_7 => ?_)
            · refine Run.one (ok_move rfl rfl) rfl rfl rfl ?_
              refine Run.one ((show OpOK _ _ _ _ _ (aggS (sgc s)) from ok_load_agg rfl rfl rfl rfl)) (gB rfl rfl rfl rfl) rfl rfl ?_
              refine Run.one ((show OpOK _ _ _ _ _ (aggS (pc hi)) from ok_load_own_agg 0 rfl rfl rfl (by kernel_rfl) rfl)) (gB rfl rfl rfl rfl) rfl rfl ?_
              refine Run.one (ok_call rfl rfl (has_spec (s := s) (p := hi) hk hs1 ohi (by omega))) (gB rfl rfl rfl rfl) rfl rfl ?_
              refine Run.oneB (ok_pick rfl rfl rfl) rfl rfl rfl (fun h9_12 => ?_) (fun h9_12 => ?_)
              · refine Run.one (ok_move rfl rfl) rfl rfl rfl ?_
                refine Run.one ((show OpOK _ _ _ _ _ (aggS (sgc t)) from ok_load_agg rfl rfl rfl rfl)) (gB rfl rfl rfl rfl) rfl rfl ?_
                refine Run.one ((show OpOK _ _ _ _ _ (aggS (pc hi)) from ok_load_own_agg 0 rfl rfl rfl (by kernel_rfl) rfl)) (gB rfl rfl rfl rfl) rfl rfl ?_
                refine Run.one (ok_call rfl rfl (has_spec (s := t) (p := hi) hk ht1 ohi (by omega))) (gB rfl rfl rfl rfl) rfl rfl ?_
                refine Run.one (ok_pick rfl rfl rfl) rfl rfl rfl ?_
                refine Run.nil ?_
                exact (by rw [h9_2, h9_7, h9_12]; exact ent_h (subG_cons rfl (subG_cons rfl (subG_cons rfl (subG_cons rfl (subG_cons rfl (subG_cons rfl (subG_cons rfl (trivial)))))))) rfl)
              · refine Run.one (ok_move rfl rfl) rfl rfl rfl ?_
                iterate 3 refine Run.no (gB rfl rfl rfl rfl) rfl rfl ?_
                refine Run.one (ok_pick rfl rfl rfl) rfl rfl rfl ?_
                refine Run.nil ?_
                exact (by rw [h9_2, h9_7, h9_12]; exact ent_h (subG_cons rfl (subG_cons rfl (subG_cons rfl (subG_cons rfl (subG_cons rfl (subG_cons rfl (subG_cons rfl (trivial)))))))) rfl)
            · refine Run.one (ok_move rfl rfl) rfl rfl rfl ?_
              iterate 3 refine Run.no (gB rfl rfl rfl rfl) rfl rfl ?_
              refine Run.one (ok_pick rfl rfl rfl) rfl rfl rfl ?_
              refine Run.one (ok_move rfl rfl) rfl rfl rfl ?_
              iterate 3 refine Run.no (gB rfl rfl rfl rfl) rfl rfl ?_
              refine Run.one (ok_pick rfl rfl rfl) rfl rfl rfl ?_
              refine Run.nil ?_
              exact (by rw [h9_2, h9_7]; exact ent_h (subG_cons rfl (subG_cons rfl (subG_cons rfl (subG_cons rfl (subG_cons rfl (subG_cons rfl (subG_cons rfl (trivial)))))))) rfl)
          · refine Run.one (ok_move rfl rfl) rfl rfl rfl ?_
            iterate 3 refine Run.no (gB rfl rfl rfl rfl) rfl rfl ?_
            refine Run.one (ok_pick rfl rfl rfl) rfl rfl rfl ?_
            refine Run.one (ok_move rfl rfl) rfl rfl rfl ?_
            iterate 3 refine Run.no (gB rfl rfl rfl rfl) rfl rfl ?_
            refine Run.one (ok_pick rfl rfl rfl) rfl rfl rfl ?_
            refine Run.one (ok_move rfl rfl) rfl rfl rfl ?_
            iterate 3 refine Run.no (gB rfl rfl rfl rfl) rfl rfl ?_
            refine Run.one (ok_pick rfl rfl rfl) rfl rfl rfl ?_
            refine Run.nil ?_
            exact (by rw [h9_2]; exact ent_h (subG_cons rfl (subG_cons rfl (subG_cons rfl (subG_cons rfl (subG_cons rfl (subG_cons rfl (subG_cons rfl (trivial)))))))) rfl)
        · intro S1 hS1
          refine T_pre hS1 ?_
          refine T_cond rfl rfl (fun h52 => ?_) (fun h52 => ?_)
          · refine T_regionS ?_
            refine Run.one ((show OpOK _ _ _ _ _ (aggS (pc lo)) from ok_load_own_agg 1 rfl rfl rfl (by kernel_rfl) rfl)) rfl rfl rfl ?_
            refine Run.one ((show OpOK _ _ _ _ _ (aggS (pc hi)) from ok_load_own_agg 0 rfl rfl rfl (by kernel_rfl) rfl)) rfl rfl rfl ?_
            refine Run.one (ok_buildSlice rfl rfl (by decide) rfl (by simp) (by kernel_rfl) (by kernel_rfl)) rfl rfl rfl ?_
            refine Run.one (ok_call rfl rfl (show PSpec _ _ _ [slS 6 id [pc lo, pc hi]] (slS 6 pcan [pv lo, pv hi]) from vNormL (ps := [lo, hi]) hk (by intro p hp; rcases List.mem_cons.1 hp with rfl | hp; exact olo; rw [List.mem_singleton.1 hp]; exact ohi) (by omega) (show 2 ≤ cap by decide))) rfl rfl rfl ?_
            refine Run.one (ok_assign rfl rfl) rfl rfl rfl ?_
            refine Run.nil ?_
            refine T_seq ?_
            refine T_regionS ?_
            refine Run.one (ok_move rfl rfl) rfl rfl rfl ?_
            refine Run.one (ok_cmp rfl rfl rfl rfl) rfl rfl rfl ?_
            refine Run.nil ?_
            refine T_cond rfl rfl (fun h58 => ?_) (fun h58 => ?_)
            · have k58 := beq_iff_eq.1 h58
              have e1 : mtF (sgv s) (sgv t) = (1, pv lo, pv hi) := by unfold mtF; rw [← hlo, ← hhi, if_neg k33, if_pos h52, if_pos k58]
              refine T_drawS 7 (by kernel_rfl) ?_
              refine Run.one (ok_move rfl rfl) rfl rfl rfl ?_
              refine Run.one (ok_indexAddr rfl rfl rfl (by omega) (y := pv lo) (rfl)) rfl rfl rfl ?_
              refine Run.one ((show OpOK _ _ _ _ _ (aggS (pcan (pv lo))) from ok_load_agg rfl rfl rfl rfl)) rfl rfl rfl ?_
              refine Run.one (ok_move rfl rfl) rfl rfl rfl ?_
              refine Run.one (ok_indexAddr rfl rfl rfl (by omega) (y := pv hi) (rfl)) rfl rfl rfl ?_
              refine Run.one ((show OpOK _ _ _ _ _ (aggS (pcan (pv hi))) from ok_load_agg rfl rfl rfl rfl)) rfl rfl rfl ?_
              refine Run.one ((show OpOK _ _ _ _ _ (aggS (mtC (1, pv lo, pv hi))) from ok_build rfl rfl (by kernel_rfl))) rfl rfl rfl ?_
              refine Run.nil ?_
              refine Run.store 2 rfl rfl rfl rfl rfl rfl rfl rfl rfl ?_
              refine Run.nil ?_
              refine T_ret ?_
              exact ⟨_, [], .one (.agg 2 inferInstance rfl rfl rfl rfl), List.nil_sublist _, by rw [e1]; rfl, rfl⟩
            · have k58 := beq_eq_false_iff_ne.1 h58
              have e1 : mtF (sgv s) (sgv t) = (2, pv lo, pv hi) := by unfold mtF; rw [← hlo, ← hhi, if_neg k33, if_pos h52, if_neg k58]
              refine T_skip ?_
              refine T_drawS 7 (by kernel_rfl) ?_
              refine Run.one (ok_move rfl rfl) rfl rfl rfl ?_
              refine Run.one (ok_indexAddr rfl rfl rfl (by omega) (y := pv lo) (rfl)) rfl rfl rfl ?_
              refine Run.one ((show OpOK _ _ _ _ _ (aggS (pcan (pv lo))) from ok_load_agg rfl rfl rfl rfl)) rfl rfl rfl ?_
              refine Run.one (ok_move rfl rfl) rfl rfl rfl ?_
              refine Run.one (ok_indexAddr rfl rfl rfl (by omega) (y := pv hi) (rfl)) rfl rfl rfl ?_
              refine Run.one ((show OpOK _ _ _ _ _ (aggS (pcan (pv hi))) from ok_load_agg rfl rfl rfl rfl)) rfl rfl rfl ?_
              refine Run.one ((show OpOK _ _ _ _ _ (aggS (mtC (2, pv lo, pv hi))) from ok_build rfl rfl (by kernel_rfl))) rfl rfl rfl ?_
              refine Run.nil ?_
              refine Run.store 2 rfl rfl rfl rfl rfl rfl rfl rfl rfl ?_
              refine Run.nil ?_
              refine T_ret ?_
              exact ⟨_, [], .one (.agg 2 inferInstance rfl rfl rfl rfl), List.nil_sublist _, by rw [e1]; rfl, rfl⟩
          · refine T_skip ?_
            obtain ⟨P, hP⟩ : ∃ P, P = (if den (sgv s).1 (sgv s).2 (sgv t).1 (sgv t).2 = 0 then (0, 0) else lnP (sgv s).1 (sgv s).2 (sgv t).1 (sgv t).2) := ⟨_, rfl⟩
            have bP := bp_lnP hk (bp_raw hk hs1.1) (bp_raw hk hs1.2) (bp_raw hk ht1.1) (bp_raw hk ht1.2)
            have oP : PtOk (32 * k) (rep P) := by rw [hP]; exact bp_rep bP
            have hln : PSpec Tryz.prog G 136 [aggS (pc s.1), aggS (pc s.2), aggS (pc t.1), aggS (pc t.2)] (tupS [aggS (pcan P), boolS (!decide (den (sgv s).1 (sgv s).2 (sgv t).1 (sgv t).2 = 0))]) := by rw [hP]; exact lines_spec hk hs1.1 hs1.2 ht1.1 ht1.2 (by omega)
            have e2 := mt_rest (s := sgv s) (t := sgv t) hP (pv_rep P) (by rw [← hlo, ← hhi]; exact k33) (by rw [← hlo, ← hhi]; exact h52)
            refine T_regionS ?_
            refine Run.one (ok_fieldAddr rfl rfl rfl) rfl rfl rfl ?_
            refine Run.one ((show OpOK _ _ _ _ _ (aggS (pc s.1)) from ok_load_agg rfl rfl rfl rfl)) rfl rfl rfl ?_
            refine Run.one (ok_fieldAddr rfl rfl rfl) rfl rfl rfl ?_
            refine Run.one ((show OpOK _ _ _ _ _ (aggS (pc s.2)) from ok_load_agg rfl rfl rfl rfl)) rfl rfl rfl ?_
            refine Run.one (ok_fieldAddr rfl rfl rfl) rfl rfl rfl ?_
            refine Run.one ((show OpOK _ _ _ _ _ (aggS (pc t.1)) from ok_load_agg rfl rfl rfl rfl)) rfl rfl rfl ?_
            refine Run.one (ok_fieldAddr rfl rfl rfl) rfl rfl rfl ?_
            refine Run.one ((show OpOK _ _ _ _ _ (aggS (pc t.2)) from ok_load_agg rfl rfl rfl rfl)) rfl rfl rfl ?_
            refine Run.one (ok_call rfl rfl hln) rfl rfl rfl ?_
            refine Run.one (ok_move rfl rfl) rfl rfl rfl ?_
            iterate 2 refine Run.one (ok_extract rfl rfl rfl) rfl rfl rfl ?_
            refine Run.alloc rfl rfl rfl rfl rfl fun b9 => ?_
            refine Run.store 0 rfl rfl rfl rfl rfl rfl rfl rfl rfl ?_
            refine Run.one (ok_assign rfl rfl) rfl rfl rfl ?_
            refine Run.nil ?_
            refine T_seq ?_
            refine T_seqQ (K := fun S1 => Ent S1 ⟨103, [(98, boolS (!(!decide (den (sgv s).1 (sgv s).2 (sgv t).1 (sgv t).2 = 0)) || !spnB (sgv s) (pv (rep P)) || !spnB (sgv t) (pv (rep P)))), (9, eqS (.pointer (some ⟨b9, 0, none⟩))), (6, eqS (.pointer (some ⟨b6, 0, none⟩))), (5, eqS (.pointer (some ⟨b5, 0, none⟩))), (4, eqS (.pointer (some ⟨b4, 0, none⟩))), (3, ptrS (sgc t)), (2, ptrS (sgc s))], ⟨some b9, 30, pcan P, 0⟩ :: [⟨some b6, 30, pc hi, 0⟩, ⟨some b5, 30, pc lo, 0⟩, ⟨some b4, 79, [intS .i8 0, eqS (.bool false), eqS (.slice none 0 0), eqS (.slice none 0 0), eqS (.bool false), eqS (.slice none 0 0), eqS (.slice none 0 0), eqS (.bool false), eqS (.slice none 0 0), eqS (.slice none 0 0), eqS (.bool false), eqS (.slice none 0 0), eqS (.slice none 0 0)], 0⟩], [], (0, false)⟩) ?_ ?_
            · refine T_region ?_
              refine Run.one (ok_move rfl rfl) rfl rfl rfl ?_
              refine Run.oneB (ok_not rfl rfl) rfl rfl rfl (fun h15_1 => ?_) (fun h15_1 => ?_)
              · refine Run.one (ok_move rfl rfl) rfl rfl rfl ?_
                iterate 4 refine Run.no (gB rfl rfl rfl rfl) rfl rfl ?_
                refine Run.one (ok_pick rfl rfl rfl) rfl rfl rfl ?_
                refine Run.one (ok_move rfl rfl) rfl rfl rfl ?_
                iterate 4 refine Run.no (gB rfl rfl rfl rfl) rfl rfl ?_
                refine Run.one (ok_pick rfl rfl rfl) rfl rfl rfl ?_
                refine Run.nil ?_
                exact (by rw [h15_1]; exact ent_h (subG_cons rfl (subG_cons rfl (subG_cons rfl (subG_cons rfl (subG_cons rfl (subG_cons rfl (subG_cons rfl (trivial)))))))) rfl)
              · refine Run.one (ok_move rfl rfl) rfl rfl rfl ?_
                refine Run.one ((show OpOK _ _ _ _ _ (aggS (sgc s)) from ok_load_agg rfl rfl rfl rfl)) (gB rfl rfl rfl rfl) rfl rfl ?_
                refine Run.one ((show OpOK _ _ _ _ _ (aggS (pc (rep P))) from ok_load_own_agg 0 rfl rfl rfl (by kernel_rfl) rfl)) (gB rfl rfl rfl rfl) rfl rfl ?_
                refine Run.one (ok_call rfl rfl (spans_spec (s := s) (p := rep P) (k := 32 * k) (by omega) ⟨ptOk_le hs1.1 (by omega), ptOk_le hs1.2 (by omega)⟩ oP (by omega))) (gB rfl rfl rfl rfl) rfl rfl ?_
                refine Run.one (ok_not rfl rfl) (gB rfl rfl rfl rfl) rfl rfl ?_
                refine Run.oneB (ok_pick rfl rfl rfl) rfl rfl rfl (fun h15_7 => ?_) (fun h15_7 => ?_)
                · refine Run.one (ok_move rfl rfl) rfl rfl rfl ?_
                  iterate 4 refine Run.no (gB rfl rfl rfl rfl) rfl rfl ?_
                  refine Run.one (ok_pick rfl rfl rfl) rfl rfl rfl ?_
                  refine Run.nil ?_
                  exact (by rw [h15_1, h15_7]; exact ent_h (subG_cons rfl (subG_cons rfl (subG_cons rfl (subG_cons rfl (subG_cons rfl (subG_cons rfl (subG_cons rfl (trivial)))))))) rfl)
                · refine Run.one (ok_move rfl rfl) rfl rfl rfl ?_
                  refine Run.one ((show OpOK _ _ _ _ _ (aggS (sgc t)) from ok_load_agg rfl rfl rfl rfl)) (gB rfl rfl rfl rfl) rfl rfl ?_
                  refine Run.one ((show OpOK _ _ _ _ _ (aggS (pc (rep P))) from ok_load_own_agg 0 rfl rfl rfl (by kernel_rfl) rfl)) (gB rfl rfl rfl rfl) rfl rfl ?_
                  refine Run.one (ok_call rfl rfl (spans_spec (s := t) (p := rep P) (k := 32 * k) (by omega) ⟨ptOk_le ht1.1 (by omega), ptOk_le ht1.2 (by omega)⟩ oP (by omega))) (gB rfl rfl rfl rfl) rfl rfl ?_
                  refine Run.one (ok_not rfl rfl) (gB rfl rfl rfl rfl) rfl rfl ?_
                  refine Run.one (ok_pick rfl rfl rfl) rfl rfl rfl ?_
                  refine Run.nil ?_
                  exact (by rw [h15_1, h15_7]; exact ent_h (subG_cons rfl (subG_cons rfl (subG_cons rfl (subG_cons rfl (subG_cons rfl (subG_cons rfl (subG_cons rfl (trivial)))))))) rfl)
            · intro S1 hS1
              refine T_pre hS1 ?_
              refine T_cond rfl rfl (fun h98 => ?_) (fun h98 => ?_)
              · rw [if_pos h98] at e2
                refine T_regionS ?_
                refine Run.one (ok_call rfl rfl none_spec) rfl rfl rfl ?_
                refine Run.store 3 rfl rfl rfl rfl rfl rfl rfl rfl rfl ?_
                refine Run.nil ?_
                refine T_ret ?_
                exact ⟨_, [], .one (.agg 3 inferInstance rfl rfl rfl rfl), List.nil_sublist _, by rw [e2]; rfl, rfl⟩
              · rw [if_neg (by rw [h98]; decide)] at e2
                refine T_skip ?_
                refine T_regionS ?_
                iterate 2 refine Run.one ((show OpOK _ _ _ _ _ (aggS (pcan P)) from ok_load_own_agg 0 rfl rfl rfl (by kernel_rfl) rfl)) rfl rfl rfl ?_
                refine Run.one ((show OpOK _ _ _ _ _ (aggS (mtC (1, P, P))) from ok_build rfl rfl (by kernel_rfl))) rfl rfl rfl ?_
                refine Run.store 3 rfl rfl rfl rfl rfl rfl rfl rfl rfl ?_
                refine Run.nil ?_
                refine T_ret ?_
                exact ⟨_, [], .one (.agg 3 inferInstance rfl rfl rfl rfl), List.nil_sublist _, by rw [e2]; rfl, rfl⟩
theorem segs_spec [Tab G] {a b c d : RawP} {k : Nat} (hk : 0 < k) (ha : PtOk k a) (hb : PtOk k b) (hc : PtOk k c) (hd : PtOk k d) (hs : 100000 * k + 100000 ≤ cap) : PSpec Tryz.prog G 51 [aggS (pc a), aggS (pc b), aggS (pc c), aggS (pc d)] (aggS (mtC (mtF (fromF (pv a) (pv b)) (fromF (pv c) (pv d))))) := by
  refine fn_spec Tryz.func51 rfl rfl rfl ?_
  refine T_regionS ?_
  iterate 4 refine Run.one (ok_box rfl rfl) rfl rfl rfl ?_
  refine Run.alloc rfl rfl rfl rfl rfl fun b8 => ?_
  refine Run.nil ?_
  refine T_drawS 7 (by kernel_rfl) ?_
  refine Run.one ((show OpOK _ _ _ _ _ (aggS (pc a)) from ok_load_agg rfl rfl rfl rfl)) rfl rfl rfl ?_
  refine Run.one ((show OpOK _ _ _ _ _ (aggS (pc b)) from ok_load_agg rfl rfl rfl rfl)) rfl rfl rfl ?_
  refine Run.one (ok_call rfl rfl (from_spec hk ha hb (by omega))) rfl rfl rfl ?_
  refine Run.one ((show OpOK _ _ _ _ _ (aggS (pc c)) from ok_load_agg rfl rfl rfl rfl)) rfl rfl rfl ?_
  refine Run.one ((show OpOK _ _ _ _ _ (aggS (pc d)) from ok_load_agg rfl rfl rfl rfl)) rfl rfl rfl ?_
  refine Run.one (ok_call rfl rfl (from_spec hk hc hd (by omega))) rfl rfl rfl ?_
  refine Run.one (ok_call rfl rfl (meets_spec hk (fr_ok ha hb) (fr_ok hc hd) hs)) rfl rfl rfl ?_
  refine Run.nil ?_
  refine Run.store 0 rfl rfl rfl rfl rfl rfl rfl rfl rfl ?_
  refine Run.nil ?_
  refine T_ret ?_
  exact ⟨_, [], .one (.agg 0 inferInstance rfl rfl rfl rfl), List.nil_sublist _, by rw [fr_v, fr_v]; rfl, rfl⟩
end Go.Proofs
