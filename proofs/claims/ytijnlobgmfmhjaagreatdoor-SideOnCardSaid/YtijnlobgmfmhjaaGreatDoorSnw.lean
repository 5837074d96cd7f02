/- Points: vec, straitref08. -/
import Derived.Test.YtijnlobgmfmhjaaGreatDoorSnv
namespace Go.Proofs
open Go Go.Sv Num
variable {G : Imm}
theorem ok_max4 {P : Program} {G : Imm} {H : HL} {o : Oper} {g : List (Nat × SV)} {x y z w : Operand} {ts : Array TypeId} {k : IntKind} {m n p q : Int} (hop : o.op = .call { callee := .builtin .max, args := #[x, y, z, w], argTypes := ts }) (hx : opE g x = some (intS k m)) (hy : opE g y = some (intS k n)) (hz : opE g z = some (intS k p)) (hw : opE g w = some (intS k q)) : OpOK P G H o g (intS k (max (max (max m n) p) q)) :=
  ok_pure (by simp [hop]) fun I W a _ _ hr => by
    have h1 : a.eval x = .int k m := hr.get (by simp [hop, Op.operands, Call.operands]) hx
    have h2 : a.eval y = .int k n := hr.get (by simp [hop, Op.operands, Call.operands]) hy
    have h3 : a.eval z = .int k p := hr.get (by simp [hop, Op.operands, Call.operands]) hz
    have h4 : a.eval w = .int k q := hr.get (by simp [hop, Op.operands, Call.operands]) hw
    refine ⟨_, ?_, rfl⟩
    have e : ∀ u v : Int, (if v > u then v else u) = max u v := fun u v => by rw [Int.max_def]; split <;> split <;> omega
    simp [execOp, hop, resolve, invoke, builtin, Builtin.max_, Builtin.max2, h1, h2, h3, h4, e]
theorem fn_eq {f : FuncId} (I : Imm) (v : Value) (h : (eqS (.func (.func f) #[] #[])).den I v) : (fnS f []).den I v := ⟨[], h, dens_nil⟩
abbrev canP (x y : Rat) : List SV := [boolS (decide (x.num < 0)), natS (dig x.num.natAbs), natS (dig x.den), boolS (decide (y.num < 0)), natS (dig y.num.natAbs), natS (dig y.den)]
def dist (x y : Rat) : Rat := if x < y then y - x else x - y
instance bq_dist {p q : Rat} {k j : Nat} [hp : Bq p k] [hq : Bq q j] : Bq (dist p q) (k + j + 1) := by
  unfold dist; split
  · rw [Nat.add_comm k j]; exact bq_sub
  · exact bq_sub
def triP (x y u v : Rat) : Int := if tri x u = 0 then tri y v else tri x u
theorem tri_eq {p q : Rat} : tri p q = 0 ↔ p = q := by
  have := tri_zero (p := p) (q := q)
  by_cases h : p = q
  · rw [decide_eq_true h] at this; exact ⟨fun _ => h, fun _ => beq_iff_eq.1 this⟩
  · rw [decide_eq_false h] at this; exact ⟨fun h1 => absurd h1 (beq_eq_false_iff_ne.1 this), fun h1 => absurd h1 h⟩
theorem triP_zero {x y u v : Rat} : (triP x y u v == 0) = decide (x = u ∧ y = v) := by
  unfold triP
  by_cases h : tri x u = 0
  · rw [if_pos h, tri_zero]; exact decide_eq_decide.2 ⟨fun h1 => ⟨tri_eq.1 h, h1⟩, fun h1 => h1.2⟩
  · rw [if_neg h, beq_eq_false_iff_ne.2 h]; exact (decide_eq_false fun h1 => h (tri_eq.2 h1.1)).symm
theorem canQ_inj {p q : Rat} : ((decide (p.num < 0) = decide (q.num < 0) ∧ dig p.num.natAbs = dig q.num.natAbs) ∧ dig p.den = dig q.den) ↔ p = q := by
  constructor
  · rintro ⟨⟨h1, h2⟩, h3⟩
    refine Rat.ext ?_ (dig_inj.1 h3)
    have h2 := dig_inj.1 h2
    rw [← sgn_self p.num, ← sgn_self q.num, h1, h2]
  · rintro rfl; exact ⟨⟨rfl, rfl⟩, rfl⟩
theorem neg_sub0 (x : Rat) : 0 - x = -x := by grind
abbrev pc (p : (Bool × List Nat × List Nat) × (Bool × List Nat × List Nat)) : List SV := [boolS p.1.1, natS p.1.2.1, natS p.1.2.2, boolS p.2.1, natS p.2.2.1, natS p.2.2.2]
abbrev pcan (p : Rat × Rat) : List SV := canP p.1 p.2
def pv (p : (Bool × List Nat × List Nat) × (Bool × List Nat × List Nat)) : Rat × Rat := (qv p.1, qv p.2)
abbrev PtOk (k : Nat) (p : (Bool × List Nat × List Nat) × (Bool × List Nat × List Nat)) : Prop := (Lim p.1.2.1 ∧ Lim p.1.2.2 ∧ p.1.2.1.length ≤ k ∧ p.1.2.2.length ≤ k) ∧ Lim p.2.2.1 ∧ Lim p.2.2.2 ∧ p.2.2.1.length ≤ k ∧ p.2.2.2.length ≤ k
theorem isQ_lim {b : Bool} {l d : List Nat} {k : Nat} (h : Lim l ∧ Lim d ∧ l.length ≤ k ∧ d.length ≤ k) (hk : 0 < k) : IsQ b l d (qv (b, l, d)) k := ⟨h.1, h.2.1, rfl, h.2.2.1, h.2.2.2, hk⟩
theorem flat_pcan : ∀ l : List (Rat × Rat), (l.flatMap pcan).length = l.length * 6
  | [] => rfl
  | x :: l => by rw [List.flatMap_cons, List.length_append, flat_pcan l]; show 6 + l.length * 6 = (l.length + 1) * 6; omega
theorem parts_spec {s : SV} [One s] : PSpec Tryz.prog G 60 [s] (fnS 79 [ptrS [s]]) := by
  refine fn_spec Tryz.func60 rfl rfl rfl ?_
  refine T_regionS ?_
  refine Run.one (ok_box rfl rfl) rfl rfl rfl ?_
  refine Run.one (ok_assign rfl rfl) rfl rfl rfl ?_
  refine Run.nil ?_
  refine T_regionS ?_
  refine Run.one (ok_makeFunc rfl rfl) rfl rfl rfl ?_
  refine Run.one (ok_assign rfl rfl) rfl rfl rfl ?_
  refine Run.nil ?_
  refine T_ret ?_
  exact ⟨_, [], .one (.tmp rfl), List.nil_sublist _, rfl, rfl⟩
theorem parts1_spec {s : SV} {f : FuncId} {caps : List SV} {b1 c1 b2 c2 : Bool} {l1 d1 m1 e1 l2 d2 m2 e2 : List Nat} {r1 r2 : Rat} (hs : ∀ I v, s.den I v → (fnS f caps).den I v) (h1 : PSpec Tryz.prog G f ([aggS [boolS b1, natS l1, natS d1], aggS [boolS b2, natS l2, natS d2]] ++ caps) (aggS (canQ r1))) (h2 : PSpec Tryz.prog G f ([aggS [boolS c1, natS m1, natS e1], aggS [boolS c2, natS m2, natS e2]] ++ caps) (aggS (canQ r2))) : PSpec Tryz.prog G 79 [aggS [boolS b1, natS l1, natS d1, boolS c1, natS m1, natS e1], aggS [boolS b2, natS l2, natS d2, boolS c2, natS m2, natS e2], ptrS [s]] (aggS (canP r1 r2)) := by
  refine fn_spec Tryz.func79 rfl rfl rfl ?_
  refine T_regionS ?_
  refine Run.one (ok_box rfl rfl) rfl rfl rfl ?_
  refine Run.one (ok_box rfl rfl) rfl rfl rfl ?_
  refine Run.alloc rfl rfl rfl rfl rfl fun b5 => ?_
  refine Run.nil ?_
  refine T_drawS 13 (by kernel_rfl) ?_
  refine Run.one ((ok_load rfl rfl).sub hs) rfl rfl rfl ?_
  refine Run.one (ok_fieldAddr rfl rfl rfl) rfl rfl rfl ?_
  refine Run.one (ok_load_agg rfl rfl rfl rfl) rfl rfl rfl ?_
  refine Run.one (ok_fieldAddr rfl rfl rfl) rfl rfl rfl ?_
  refine Run.one (ok_load_agg rfl rfl rfl rfl) rfl rfl rfl ?_
  refine Run.one (ok_callV rfl rfl rfl h1) rfl rfl rfl ?_
  refine Run.one ((ok_load rfl rfl).sub hs) rfl rfl rfl ?_
  refine Run.one (ok_fieldAddr rfl rfl rfl) rfl rfl rfl ?_
  refine Run.one (ok_load_agg rfl rfl rfl rfl) rfl rfl rfl ?_
  refine Run.one (ok_fieldAddr rfl rfl rfl) rfl rfl rfl ?_
  refine Run.one (ok_load_agg rfl rfl rfl rfl) rfl rfl rfl ?_
  refine Run.one (ok_callV rfl rfl rfl h2) rfl rfl rfl ?_
  refine Run.one (ok_build rfl rfl rfl) rfl rfl rfl ?_
  refine Run.nil ?_
  refine Run.store 0 rfl rfl rfl rfl rfl rfl rfl rfl rfl ?_
  refine Run.nil ?_
  refine T_ret ?_
  exact ⟨_, [], .one (.agg 0 inferInstance rfl rfl rfl rfl), List.nil_sublist _, rfl, rfl⟩
theorem vSub_spec [Tab G] {b1 c1 : Bool} {l1 d1 m1 e1 : List Nat} {x1 y1 : Rat} {k1 j1 : Nat} [hx1 : IsQ b1 l1 d1 x1 k1] [hy1 : IsQ c1 m1 e1 y1 j1] {b2 c2 : Bool} {l2 d2 m2 e2 : List Nat} {x2 y2 : Rat} {k2 j2 : Nat} [hx2 : IsQ b2 l2 d2 x2 k2] [hy2 : IsQ c2 m2 e2 y2 j2] (hs : 100 * (k1 + j1 + k2 + j2) + 21000 ≤ cap := by decide) : PSpec Tryz.prog G 43 [aggS [boolS b1, natS l1, natS d1, boolS c1, natS m1, natS e1], aggS [boolS b2, natS l2, natS d2, boolS c2, natS m2, natS e2]] (aggS (canP (x1 - x2) (y1 - y2))) := by
  refine fn_spec Tryz.func43 rfl rfl rfl ?_
  refine T_regionS ?_
  refine Run.one (ok_box rfl rfl) rfl rfl rfl ?_
  refine Run.one (ok_box rfl rfl) rfl rfl rfl ?_
  refine Run.alloc rfl rfl rfl rfl rfl fun b4 => ?_
  refine Run.nil ?_
  refine T_drawS 4 (by kernel_rfl) ?_
  refine Run.one (ok_call rfl rfl parts_spec) rfl rfl rfl ?_
  refine Run.one (ok_load_agg rfl rfl rfl rfl) rfl rfl rfl ?_
  refine Run.one (ok_load_agg rfl rfl rfl rfl) rfl rfl rfl ?_
  refine Run.one (ok_callV rfl rfl rfl (parts1_spec fn_eq (qsub_spec (by omega)) (qsub_spec (by omega)))) rfl rfl rfl ?_
  refine Run.nil ?_
  refine Run.store 0 rfl rfl rfl rfl rfl rfl rfl rfl rfl ?_
  refine Run.nil ?_
  refine T_ret ?_
  exact ⟨_, [], .one (.agg 0 inferInstance rfl rfl rfl rfl), List.nil_sublist _, rfl, rfl⟩
theorem vCross_spec [Tab G] {b1 c1 : Bool} {l1 d1 m1 e1 : List Nat} {x1 y1 : Rat} {k1 j1 : Nat} [hx1 : IsQ b1 l1 d1 x1 k1] [hy1 : IsQ c1 m1 e1 y1 j1] {b2 c2 : Bool} {l2 d2 m2 e2 : List Nat} {x2 y2 : Rat} {k2 j2 : Nat} [hx2 : IsQ b2 l2 d2 x2 k2] [hy2 : IsQ c2 m2 e2 y2 j2] (hs : 100 * (k1 + j1 + k2 + j2) + 21000 ≤ cap := by decide) : PSpec Tryz.prog G 42 [aggS [boolS b1, natS l1, natS d1, boolS c1, natS m1, natS e1], aggS [boolS b2, natS l2, natS d2, boolS c2, natS m2, natS e2]] (aggS (canQ (x1 * y2 - y1 * x2))) := by
  have hxb1 := hx1.bq
  have hyb1 := hy1.bq
  have hxb2 := hx2.bq
  have hyb2 := hy2.bq
  refine fn_spec Tryz.func42 rfl rfl rfl ?_
  refine T_regionS ?_
  refine Run.one (ok_box rfl rfl) rfl rfl rfl ?_
  refine Run.one (ok_box rfl rfl) rfl rfl rfl ?_
  refine Run.alloc rfl rfl rfl rfl rfl fun b4 => ?_
  refine Run.nil ?_
  refine T_drawS 13 (by kernel_rfl) ?_
  refine Run.one (ok_fieldAddr rfl rfl rfl) rfl rfl rfl ?_
  refine Run.one (ok_load_agg rfl rfl rfl rfl) rfl rfl rfl ?_
  refine Run.one (ok_fieldAddr rfl rfl rfl) rfl rfl rfl ?_
  refine Run.one (ok_load_agg rfl rfl rfl rfl) rfl rfl rfl ?_
  refine Run.one (ok_buildSlice rfl rfl (by decide) rfl (by simp) rfl rfl) rfl rfl rfl ?_
  refine Run.one (ok_call rfl rfl (qmul2_spec (by omega))) rfl rfl rfl ?_
  refine Run.one (ok_fieldAddr rfl rfl rfl) rfl rfl rfl ?_
  refine Run.one (ok_load_agg rfl rfl rfl rfl) rfl rfl rfl ?_
  refine Run.one (ok_fieldAddr rfl rfl rfl) rfl rfl rfl ?_
  refine Run.one (ok_load_agg rfl rfl rfl rfl) rfl rfl rfl ?_
  refine Run.one (ok_buildSlice rfl rfl (by decide) rfl (by simp) rfl rfl) rfl rfl rfl ?_
  refine Run.one (ok_call rfl rfl (qmul2_spec (by omega))) rfl rfl rfl ?_
  refine Run.one (ok_call rfl rfl (qsub_spec (by omega))) rfl rfl rfl ?_
  refine Run.nil ?_
  refine Run.store 0 rfl rfl rfl rfl rfl rfl rfl rfl rfl ?_
  refine Run.nil ?_
  refine T_ret ?_
  exact ⟨_, [], .one (.agg 0 inferInstance rfl rfl rfl rfl), List.nil_sublist _, rfl, rfl⟩
theorem vCmp_spec [Tab G] {b1 c1 : Bool} {l1 d1 m1 e1 : List Nat} {x1 y1 : Rat} {k1 j1 : Nat} [hx1 : IsQ b1 l1 d1 x1 k1] [hy1 : IsQ c1 m1 e1 y1 j1] {b2 c2 : Bool} {l2 d2 m2 e2 : List Nat} {x2 y2 : Rat} {k2 j2 : Nat} [hx2 : IsQ b2 l2 d2 x2 k2] [hy2 : IsQ c2 m2 e2 y2 j2] (hs : 100 * (k1 + j1 + k2 + j2) + 21000 ≤ cap := by decide) : PSpec Tryz.prog G 54 [aggS [boolS b1, natS l1, natS d1, boolS c1, natS m1, natS e1], aggS [boolS b2, natS l2, natS d2, boolS c2, natS m2, natS e2]] (intS .i64 (triP x1 y1 x2 y2)) := by
  refine fn_spec Tryz.func54 rfl rfl rfl ?_
  refine T_regionS ?_
  refine Run.one (ok_box rfl rfl) rfl rfl rfl ?_
  refine Run.one (ok_box rfl rfl) rfl rfl rfl ?_
  refine Run.one (ok_assign rfl rfl) rfl rfl rfl ?_
  refine Run.nil ?_
  refine T_seq ?_
  refine T_regionS ?_
  refine Run.one (ok_fieldAddr rfl rfl rfl) rfl rfl rfl ?_
  refine Run.one (ok_load_agg rfl rfl rfl rfl) rfl rfl rfl ?_
  refine Run.one (ok_fieldAddr rfl rfl rfl) rfl rfl rfl ?_
  refine Run.one (ok_load_agg rfl rfl rfl rfl) rfl rfl rfl ?_
  refine Run.one (ok_call rfl rfl (qcmp_spec (by omega))) rfl rfl rfl ?_
  refine Run.one (ok_assign rfl rfl) rfl rfl rfl ?_
  refine Run.nil ?_
  refine T_regionS ?_
  refine Run.one (ok_move rfl rfl) rfl rfl rfl ?_
  refine Run.one (ok_cmp rfl rfl rfl rfl) rfl rfl rfl ?_
  refine Run.nil ?_
  refine T_cond rfl rfl (fun h12 => ?_) (fun h12 => ?_)
  · have k12 := bne_iff_ne.1 h12
    refine T_regionS ?_
    refine Run.one (ok_move rfl rfl) rfl rfl rfl ?_
    refine Run.one (ok_assign rfl rfl) rfl rfl rfl ?_
    refine Run.nil ?_
    refine T_ret ?_
    exact ⟨_, [], .one (.tmp rfl), List.nil_sublist _, by unfold triP; rw [if_neg k12], rfl⟩
  · have k12 := bne_eq_false_iff_eq.1 h12
    refine T_skip ?_
    refine T_regionS ?_
    refine Run.one (ok_fieldAddr rfl rfl rfl) rfl rfl rfl ?_
    refine Run.one (ok_load_agg rfl rfl rfl rfl) rfl rfl rfl ?_
    refine Run.one (ok_fieldAddr rfl rfl rfl) rfl rfl rfl ?_
    refine Run.one (ok_load_agg rfl rfl rfl rfl) rfl rfl rfl ?_
    refine Run.one (ok_call rfl rfl (qcmp_spec (by omega))) rfl rfl rfl ?_
    refine Run.one (ok_assign rfl rfl) rfl rfl rfl ?_
    refine Run.nil ?_
    refine T_ret ?_
    exact ⟨_, [], .one (.tmp rfl), List.nil_sublist _, by unfold triP; rw [if_pos k12], rfl⟩
theorem vSame_spec [Tab G] {b1 c1 : Bool} {l1 d1 m1 e1 : List Nat} {x1 y1 : Rat} {k1 j1 : Nat} [hx1 : IsQ b1 l1 d1 x1 k1] [hy1 : IsQ c1 m1 e1 y1 j1] {b2 c2 : Bool} {l2 d2 m2 e2 : List Nat} {x2 y2 : Rat} {k2 j2 : Nat} [hx2 : IsQ b2 l2 d2 x2 k2] [hy2 : IsQ c2 m2 e2 y2 j2] (hs : 100 * (k1 + j1 + k2 + j2) + 21000 ≤ cap := by decide) : PSpec Tryz.prog G 39 [aggS [boolS b1, natS l1, natS d1, boolS c1, natS m1, natS e1], aggS [boolS b2, natS l2, natS d2, boolS c2, natS m2, natS e2]] (boolS (decide (x1 = x2 ∧ y1 = y2))) := by
  refine fn_spec Tryz.func39 rfl rfl rfl ?_
  refine T_regionS ?_
  refine Run.one (ok_box rfl rfl) rfl rfl rfl ?_
  refine Run.one (ok_box rfl rfl) rfl rfl rfl ?_
  refine Run.one (ok_assign rfl rfl) rfl rfl rfl ?_
  refine Run.nil ?_
  refine T_regionS ?_
  refine Run.one (ok_load_agg rfl rfl rfl rfl) rfl rfl rfl ?_
  refine Run.one (ok_load_agg rfl rfl rfl rfl) rfl rfl rfl ?_
  refine Run.one (ok_call rfl rfl (vCmp_spec hs)) rfl rfl rfl ?_
  refine Run.one ((ok_cmp rfl rfl rfl rfl).sub (bool_eq triP_zero)) rfl rfl rfl ?_
  refine Run.one (ok_assign rfl rfl) rfl rfl rfl ?_
  refine Run.nil ?_
  refine T_ret ?_
  exact ⟨_, [], .one (.tmp rfl), List.nil_sublist _, rfl, rfl⟩
end Go.Proofs
