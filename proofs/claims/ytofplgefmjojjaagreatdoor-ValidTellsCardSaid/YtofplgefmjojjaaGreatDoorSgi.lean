/- Which scenes may be: valid. -/
import Derived.Test.YtofplgefmjojjaaGreatDoorSge
import Derived.Test.YtofplgefmjojjaaGreatDoorSci
namespace Go.Sv
open Go Go.RowKit
theorem ok_indexV {P : Program} {G : Imm} {H : HL} {o : Oper} {g : List (Nat × SV)} {t n e i : Nat} {x ix : Operand} {k : IntKind} {cs : List SV} {s : SV} [hsc : IsScalar P e] [hz : HasSize P e 1] (hu : P.underlying t = some (.array n e)) (hop : o.op = .index t x ix) (hx : opE g x = some (aggS cs)) (hi : opE g ix = some (intS k i)) (h1 : i < n) (hd : cs[i]? = some s) : OpOK P G H o g s :=
 ok_pure (by simp [hop]) fun I W a _ _ hr => by
  obtain ⟨xs, hv, hxs, _⟩ := hr.get (by simp [hop, Op.operands]) hx
  have hvi : a.eval ix = .int k i := hr.get (by simp [hop, Op.operands]) hi
  obtain ⟨d, hd', hm⟩ := IsScalar.h (P := P) (t := e)
  have h2 : (isAgg e).run P W = .ok false W := by
   unfold isAgg; simp only [Sem.run_bind, run_underlying hd', Result.andThen_ok]
   cases d <;> simp_all
  obtain ⟨j, hj, hjs⟩ := HasSize.i (P := P) (t := e) (n := 1)
  have h3 : (sizeOf e).run P W = .ok 1 W := by simp [sizeOf, typeInfo, hj, hjs]
  obtain ⟨y, hy, hys⟩ := hxs.get hd
  refine ⟨y, ?_, hys⟩
  have hin : 0 ≤ (i : Int) ∧ (i : Int) < n := by omega
  have : (Instr.index t (.agg xs.toArray) (.int k i)).run P W = .ok y W := by
   simp [Instr.index, run_underlying hu, asIntOf, hin, h3, part, h2, h1, hy]
  simp [execOp, hop, hv, hvi, this]
end Go.Sv
namespace Num
open Go Go.Proofs
def trisN (s : Sc) (g : Nat) : Nat := ((s.2.1.take g).map fun r => r.length - 2).sum
theorem trisN_succ {s : Sc} {g : Nat} {r : List RP} (h : s.2.1[g]? = some r) : trisN s (g + 1) = trisN s g + (r.length - 2) := by
 unfold trisN; rw [List.take_add_one, h]; simp
def tris (s : Sc) : Nat := (s.2.1.map fun r => r.length - 2).sum
theorem trisN_all (s : Sc) : trisN s s.2.1.length = tris s := by unfold trisN tris; rw [List.take_length]
def inB (n : Nat) (most : Int) : Bool := decide (3 ≤ n) && decide ((n : Int) ≤ most)
def cntB (s : Sc) : Bool := inB s.1.length 6 && decide (s.2.1.length ≤ 4) && !(s.2.1.any fun r => !inB r.length 6) && decide (tris s ≤ 6) && decide (s.2.2.length ≤ 8)
def clB (s : Sc) (g : Nat) : Bool := if g = 0 then cntB s else if g = 1 then cvxB (s.1.map pv) else !(s.2.1.any fun r => !simB (r.map pv))
def codeF (s : Sc) : Int := if clB s 0 = false then 4 else if clB s 1 = false then 5 else if clB s 2 = false then 6 else 0
theorem code_hit {s : Sc} {g : Nat} (h3 : g < 3) (hj : ∀ j, j < g → clB s j = true) (h : clB s g = false) : codeF s = 4 + (g : Int) := by
 have : g = 0 ∨ g = 1 ∨ g = 2 := by omega
 unfold codeF
 rcases this with rfl | rfl | rfl
 ·rw [if_pos h]; rfl
 ·rw [if_neg (by rw [hj 0 (by omega)]; decide), if_pos h]; rfl
 ·rw [if_neg (by rw [hj 0 (by omega)]; decide), if_neg (by rw [hj 1 (by omega)]; decide), if_pos h]; rfl
theorem code_none {s : Sc} (hj : ∀ j, j < 3 → clB s j = true) : codeF s = 0 := by
 unfold codeF
 rw [if_neg (by rw [hj 0 (by omega)]; decide), if_neg (by rw [hj 1 (by omega)]; decide), if_neg (by rw [hj 2 (by omega)]; decide)]
def fstF (l : List Int) : Int := l.foldl (fun c n => if n ≠ 0 ∧ (c = 0 ∨ n < c) then n else c) 0
end Num
namespace Go.Proofs
open Go Go.Sv Num
variable {G : Imm}
structure VOk (s : Sc) (k : Nat) : Prop where
 pos : 0 < k
 rob : ∀ p ∈ s.1, PtOk k p
 obs : ∀ r ∈ s.2.1, ∀ p ∈ r, PtOk k p
 rl : s.1.length ≤ 1000000
 ol : s.2.1.length ≤ 1000000
 orl : ∀ r ∈ s.2.1, r.length ≤ 1000000
 ql : s.2.2.length ≤ 1000000
theorem tris_spec {s : Sc} {k : Nat} (h : VOk s k) : PSpec Tryz.prog G 37 [aggS (scC s)] (intS .i64 (tris s : Nat)) := by
 have hol := h.ol
 refine zs Tryz.func37 ?_;refine zr ?_;(iterate 2 refine zz ?_);refine zzn ?_;refine T_seq ?_;refine zr ?_;(iterate 4 refine zz ?_);refine zzn ?_;refine T_block ?_;refine T_loop (γ := Nat) (fun g => ⟨_, [(8, intS .i64 (g : Nat)), (7, intS .i64 s.2.1.length), (6, slS 1 rowC s.2.1), (2, intS .i64 (trisN s g : Nat))], [], [], (0, false)⟩) (fun g => g ≤ s.2.1.length ∧ trisN s g ≤ 1000000 * g) (fun g => s.2.1.length - g) 0 ⟨Nat.zero_le _, Nat.le_refl _⟩ (ent_g zk) ?_
 rintro g ⟨hg, hgt⟩
 refine zr ?_;refine zz ?_;refine zzn ?_;refine T_seq ?_;refine zzc (fun h9 => ?_) fun h9 => ?_
 ·have k9 := of_decide_eq_true h9
  obtain ⟨r, hr⟩ : ∃ r, s.2.1[g]? = some r := ⟨_, List.getElem?_eq_getElem (by omega)⟩
  have hrl := h.orl _ (List.mem_of_getElem? hr)
  have hsu := trisN_succ hr
  refine T_skip ?_;refine T_seq ?_;refine T_block ?_;refine zr ?_;refine zo (ok_indexAddr rfl rfl rfl (by omega) (y := r) (hr)) ?_;(iterate 2 refine zz ?_);refine zzn ?_;refine T_region ?_;(iterate 3 refine zz ?_);refine zo (ok_ari (z := (r.length : Int) - 2) rfl rfl rfl (congrArg some (by omega)) (wrap_i64 (by omega) (by omega))) ?_;refine zo ((ok_max rfl rfl rfl).sub (int_eq (n := ((r.length - 2 : Nat) : Int)) (by omega))) ?_;refine za ((trisN s (g + 1) : Nat) : Int) ?_;refine zz ?_;refine zzn ?_;refine T_region ?_;refine za ((g + 1 : Nat) : Int) ?_;refine zz ?_;refine zzn ?_
  exact ⟨g + 1, ⟨by omega, by omega⟩, by omega, ent_g zk⟩
 ·have k9 := of_decide_eq_false h9
  refine T_exit ?_;refine zr ?_;(iterate 2 refine zz ?_);refine zzn ?_;refine T_ret ?_
  exact ⟨_, [], .one (.tmp rfl), List.nil_sublist _, by rw [← trisN_all, show s.2.1.length = g by omega], rfl⟩
theorem counts1_spec {l : List RP} {m : Int} : PSpec Tryz.prog G 78 [slS 6 pc l, intS .i64 m] (boolS (inB l.length m)) := by
 refine zs Tryz.func78 ?_;refine zr ?_;refine zz ?_;refine zx ?_;(iterate 2 refine zz ?_)
 refine Run.oneB ((ok_cmp rfl rfl rfl rfl).sub (bool_eq (c := decide (3 ≤ l.length)) (decide_eq_decide.2 (by omega)))) rfl rfl rfl (fun h1_2 => ?_) (fun h1_2 => ?_)
 ·have k1_2 := of_decide_eq_true h1_2
  (iterate 7 refine zz ?_);refine zzn ?_;refine T_ret ?_
  exact ⟨_, [], .one (.tmp rfl), List.nil_sublist _, by unfold inB; rw [h1_2]; rfl, rfl⟩
 ·have k1_2 := of_decide_eq_false h1_2
  refine zz ?_;(iterate 4 refine zq ?_);(iterate 2 refine zz ?_);refine zzn ?_;refine T_ret ?_
  exact ⟨_, [], .one (.tmp rfl), List.nil_sublist _, by unfold inB; rw [h1_2]; rfl, rfl⟩
theorem counts2_spec {l : List RP} : PSpec Tryz.prog G 79 [slS 6 pc l, ptrS [eqS (.func (.func 78) #[] #[])]] (boolS (!inB l.length 6)) := by
 refine zs Tryz.func79 ?_;refine zr ?_;refine zz ?_;refine zx ?_;refine zo ((show OpOK _ _ _ _ _ (fnS 78 []) from (ok_load rfl rfl).sub fn_eq)) ?_;refine zz ?_;refine zo ((ok_callV (caps := []) rfl rfl rfl counts1_spec)) ?_;(iterate 2 refine zz ?_);refine zzn ?_;refine T_ret ?_
 exact ⟨_, [], .one (.tmp rfl), List.nil_sublist _, rfl, rfl⟩
theorem obst1_spec [Tab G] {l : List RP} {k : Nat} (hk : 0 < k) (hl : ∀ p ∈ l, PtOk k p) (hs : 100000 * k + 100000 ≤ cap) : PSpec Tryz.prog G 163 [slS 6 pc l] (boolS (!simB (l.map pv))) := by
 refine zs Tryz.func163 ?_;refine zr ?_;refine zz ?_;refine zx ?_;refine zz ?_;refine zf (simple_spec hk hl hs) ?_;(iterate 2 refine zz ?_);refine zzn ?_;refine T_ret ?_
 exact ⟨_, [], .one (.tmp rfl), List.nil_sublist _, rfl, rfl⟩
theorem bad_ok {rs : List (List RP)} (hb : rs.length ≤ 2000000000) : PSpec Tryz.prog G 80 [slS 1 rowC rs, fnS 79 [ptrS [eqS (.func (.func 78) #[] #[])]]] (boolS (rs.any fun r => !inB r.length 6)) :=
 hasR_spec (p := fun r => !inB r.length 6) hb fun r _ => counts2_spec
theorem sim_ok [Tab G] {rs : List (List RP)} {k : Nat} (hb : rs.length ≤ 2000000000) (hk : 0 < k) (hl : ∀ r ∈ rs, ∀ p ∈ r, PtOk k p) (hs : 100000 * k + 100000 ≤ cap) : PSpec Tryz.prog G 80 [slS 1 rowC rs, eqS (.func (.func 163) #[] #[])] (boolS (rs.any fun r => !simB (r.map pv))) :=
 (hasR_spec (caps := []) (p := fun r => !simB (r.map pv)) hb fun r hr => obst1_spec hk (hl r hr) hs).args ⟨fun _ _ h => h, fn_eq, trivial⟩
theorem counts_spec {s : Sc} {k : Nat} (h : VOk s k) : PSpec Tryz.prog G 35 [aggS (scC s)] (boolS (cntB s)) := by
 have hol := h.ol
 have hql := h.ql
 refine zs Tryz.func35 ?_;refine zr ?_;(iterate 2 refine zz ?_);refine zx ?_;refine zzv fun b3 => ?_;refine zw ?_;refine Run.ghost _ rfl (ghost_ptr 0 3 rfl rfl) ?_;refine zx ?_;(iterate 2 refine zz ?_);refine zx ?_;refine zo ((show OpOK _ _ _ _ _ (fnS 78 []) from (ok_load rfl rfl).sub fn_eq)) ?_;(iterate 2 refine zz ?_);refine zo ((ok_callV (caps := []) rfl rfl rfl counts1_spec)) ?_
 refine Run.oneB (ok_move rfl rfl) rfl rfl rfl (fun h3_4 => ?_) (fun h3_4 => ?_)
 ·refine zz ?_;(iterate 2 refine zz ?_);refine zo ((ok_cmp rfl rfl rfl rfl).sub (bool_eq (c := decide (s.2.1.length ≤ 4)) (decide_eq_decide.2 (by omega)))) ?_
  refine Run.oneB (ok_pick rfl rfl rfl) rfl rfl rfl (fun h3_9 => ?_) (fun h3_9 => ?_)
  ·have k3_9 := of_decide_eq_true h3_9
   (iterate 4 refine zz ?_);refine zo (ok_call rfl rfl (bad_ok (by omega))) ?_;refine zz ?_
   refine Run.oneB (ok_pick rfl rfl rfl) rfl rfl rfl (fun h3_16 => ?_) (fun h3_16 => ?_)
   ·refine zz ?_;refine zo ((show OpOK _ _ _ _ _ (aggS (scC s)) from ok_load_agg rfl rfl rfl rfl)) ?_;refine zf (tris_spec h) ?_;refine zo ((ok_cmp rfl rfl rfl rfl).sub (bool_eq (c := decide (tris s ≤ 6)) (decide_eq_decide.2 (by omega)))) ?_
    refine Run.oneB (ok_pick rfl rfl rfl) rfl rfl rfl (fun h3_21 => ?_) (fun h3_21 => ?_)
    ·have k3_21 := of_decide_eq_true h3_21
     (iterate 4 refine zz ?_);refine zo ((ok_cmp rfl rfl rfl rfl).sub (bool_eq (c := decide (s.2.2.length ≤ 8)) (decide_eq_decide.2 (by omega)))) ?_;(iterate 2 refine zz ?_);refine zzn ?_;refine T_ret ?_
     exact ⟨_, [], .one (.tmp rfl), List.nil_sublist _, by unfold cntB; rw [h3_4, h3_9, h3_16, h3_21]; rfl, rfl⟩
    ·have k3_21 := of_decide_eq_false h3_21
     refine zz ?_;(iterate 4 refine zq ?_);(iterate 2 refine zz ?_);refine zzn ?_;refine T_ret ?_
     exact ⟨_, [], .one (.tmp rfl), List.nil_sublist _, by unfold cntB; rw [h3_4, h3_9, h3_16, h3_21]; rfl, rfl⟩
   ·refine zz ?_;(iterate 3 refine zq ?_);(iterate 2 refine zz ?_);(iterate 4 refine zq ?_);(iterate 2 refine zz ?_);refine zzn ?_;refine T_ret ?_
    exact ⟨_, [], .one (.tmp rfl), List.nil_sublist _, by unfold cntB; rw [h3_4, h3_9, h3_16]; rfl, rfl⟩
  ·have k3_9 := of_decide_eq_false h3_9
   refine zz ?_;(iterate 5 refine zq ?_);(iterate 2 refine zz ?_);(iterate 3 refine zq ?_);(iterate 2 refine zz ?_);(iterate 4 refine zq ?_);(iterate 2 refine zz ?_);refine zzn ?_;refine T_ret ?_
   exact ⟨_, [], .one (.tmp rfl), List.nil_sublist _, by unfold cntB; rw [h3_4, h3_9]; rfl, rfl⟩
 ·refine zq ?_;(iterate 3 refine zq ?_);(iterate 2 refine zz ?_);(iterate 5 refine zq ?_);(iterate 2 refine zz ?_);(iterate 3 refine zq ?_);(iterate 2 refine zz ?_);(iterate 4 refine zq ?_);(iterate 2 refine zz ?_);refine zzn ?_;refine T_ret ?_
  exact ⟨_, [], .one (.tmp rfl), List.nil_sublist _, by unfold cntB; rw [h3_4]; rfl, rfl⟩
theorem robot_spec [Tab G] {s : Sc} {k : Nat} (h : VOk s k) (hs : 100000 * k + 100000 ≤ cap) : PSpec Tryz.prog G 117 [aggS (scC s)] (boolS (clB s 1)) := by
 have hrl := h.rl
 refine zs Tryz.func117 ?_;refine zr ?_;(iterate 2 refine zz ?_);refine zx ?_;(iterate 2 refine zz ?_);refine zo (ok_call rfl rfl (convex_spec h.pos h.rob hs (by unfold cap; omega))) ?_;refine zz ?_;refine zzn ?_;refine T_ret ?_
 exact ⟨_, [], .one (.tmp rfl), List.nil_sublist _, rfl, rfl⟩
theorem obst_spec [Tab G] {s : Sc} {k : Nat} (h : VOk s k) (hs : 100000 * k + 100000 ≤ cap) : PSpec Tryz.prog G 118 [aggS (scC s)] (boolS (clB s 2)) := by
 have hol := h.ol
 refine zs Tryz.func118 ?_;refine zr ?_;(iterate 2 refine zz ?_);refine zx ?_;(iterate 2 refine zz ?_);refine zo (ok_call rfl rfl (sim_ok (by omega) h.pos h.obs hs)) ?_;(iterate 2 refine zz ?_);refine zzn ?_;refine T_ret ?_
 exact ⟨_, [], .one (.tmp rfl), List.nil_sublist _, rfl, rfl⟩
theorem clauses_spec : PSpec Tryz.prog G 75 [] (aggS [eqS (.func (.func 35) #[] #[]), eqS (.func (.func 117) #[] #[]), eqS (.func (.func 118) #[] #[])]) := by
 refine zs Tryz.func75 ?_;refine zr ?_;refine zzv fun b0 => ?_;refine zx ?_;refine zz ?_;refine zw ?_;refine zzn ?_;refine T_ret ?_
 exact ⟨_, [], .one (.agg 0 inferInstance rfl rfl rfl rfl), List.nil_sublist _, rfl, rfl⟩
def clF (g : Nat) : FuncId := if g = 0 then 35 else if g = 1 then 117 else 118
theorem cl_spec [Tab G] {s : Sc} {k : Nat} (h : VOk s k) (hs : 100000 * k + 100000 ≤ cap) {g : Nat} (hg : g < 3) : PSpec Tryz.prog G (clF g) [aggS (scC s)] (boolS (clB s g)) := by
 have : g = 0 ∨ g = 1 ∨ g = 2 := by omega
 rcases this with rfl | rfl | rfl
 ·exact counts_spec h
 ·exact robot_spec h hs
 ·exact obst_spec h hs
theorem cl_get {g : Nat} (hg : g < 3) : ∃ s, [eqS (.func (.func 35) #[] #[]), eqS (.func (.func 117) #[] #[]), eqS (.func (.func 118) #[] #[])][g]? = some s ∧ ∀ I v, s.den I v → (fnS (clF g) []).den I v := by
 have : g = 0 ∨ g = 1 ∨ g = 2 := by omega
 rcases this with rfl | rfl | rfl
 ·exact ⟨_, rfl, fn_eq⟩
 ·exact ⟨_, rfl, fn_eq⟩
 ·exact ⟨_, rfl, fn_eq⟩
theorem code_spec [Tab G] {s : Sc} {k : Nat} (h : VOk s k) (hs : 100000 * k + 100000 ≤ cap) : PSpec Tryz.prog G 33 [aggS (scC s)] (intS .i64 (codeF s)) := by
 refine zs Tryz.func33 ?_;refine zr ?_;(iterate 2 refine zz ?_);refine zzn ?_;refine T_scope ?_;refine T_seq ?_;refine T_label ?_;refine T_seqQ (K := fun S1 => Ent S1 ⟨18, [(2, intS .i64 (codeF s))], [], [], (0, false)⟩) ?_ ?_
 ·refine zr ?_;refine zf clauses_spec ?_;refine zz ?_;refine zzn ?_;refine T_block ?_
  refine T_loop (γ := Nat) (fun g => ⟨_, [(6, intS .i64 (g : Nat)), (5, aggS [eqS (.func (.func 35) #[] #[]), eqS (.func (.func 117) #[] #[]), eqS (.func (.func 118) #[] #[])]), (2, intS .i64 0), (1, ptrS (scC s))], [], [], (0, false)⟩) (fun g => g ≤ 3 ∧ ∀ j, j < g → clB s j = true) (fun g => 3 - g) 0 ⟨Nat.zero_le _, fun j hj => by omega⟩ (ent_g zk) ?_
  rintro g ⟨hg, hj⟩
  refine zr ?_;refine zz ?_;refine zzn ?_;refine T_seq ?_;refine zzc (fun h7 => ?_) fun h7 => ?_
  ·have k7 := of_decide_eq_true h7
   obtain ⟨sv, hsv, hfn⟩ := cl_get (show g < 3 by omega)
   refine T_skip ?_;refine T_seq ?_;refine T_block ?_;refine zr ?_;refine zz ?_;refine zo ((show OpOK _ _ _ _ _ (fnS (clF g) []) from (ok_indexV (n := 3) (e := 55) (by kernel_rfl) rfl rfl rfl (by omega) hsv).sub hfn)) ?_;(iterate 2 refine zz ?_);refine zx ?_;refine zz ?_;refine zo ((show OpOK _ _ _ _ _ (aggS (scC s)) from ok_load_agg rfl rfl rfl rfl)) ?_;refine zo ((ok_callV (caps := []) rfl rfl rfl (cl_spec h hs (show g < 3 by omega)))) ?_;refine zz ?_;refine zzn ?_;refine zzc (fun h13 => ?_) fun h13 => ?_
   ·have hcf : clB s g = false := by simpa using h13
    refine zr ?_;refine zz ?_;refine zo (ok_ari (z := 4 + (g : Int)) rfl rfl rfl (congrArg some (by omega)) (wrap_i64 (by omega) (by omega))) ?_;refine zz ?_;refine zzn ?_;refine T_exit ?_
    exact (by rw [code_hit (by omega) hj hcf]; exact ent_g (subG_cons rfl (trivial)))
   ·have hct : clB s g = true := by simpa using h13
    refine T_skip ?_;refine T_region ?_;refine za ((g + 1 : Nat) : Int) ?_;refine zz ?_;refine zzn ?_
    exact ⟨g + 1, ⟨by omega, fun j hj2 => by
     by_cases e : j = g
     ·rw [e]; exact hct
     ·exact hj j (by omega)⟩, by omega, ent_g zk⟩
  ·have k7 := of_decide_eq_false h7
   refine T_exit ?_
   exact (by rw [code_none (fun j hj3 => hj j (by omega))]; exact ent_g (subG_cons rfl (trivial)))
 ·intro S1 hS1
  refine T_pre hS1 ?_;refine zr ?_;(iterate 2 refine zz ?_);refine zzn ?_;refine T_ret ?_
  exact ⟨_, [], .one (.tmp rfl), List.nil_sublist _, rfl, rfl⟩
theorem first_spec {ns : List Int} : PSpec Tryz.prog G 39 [slS 1 i64C ns] (intS .i64 (fstF ns)) := by
 refine zs Tryz.func39 ?_;refine zr ?_;refine zz ?_;refine zzn ?_;refine T_seq ?_;refine zr ?_;(iterate 3 refine zz ?_);refine zzn ?_;refine T_block ?_;refine T_len 5 rfl fun la => ?_
 unfold big at la
 refine T_loop2 (fun (g : Nat) (c : Int) => ⟨_, [(7, intS .i64 (g : Nat)), (6, intS .i64 ns.length), (5, slS 1 i64C ns), (2, intS .i64 c)], [], [], (0, false)⟩) (fun g c => g ≤ ns.length ∧ c = fstF (ns.take g)) (fun g _ => ns.length - g) 0 0 ⟨Nat.zero_le _, rfl⟩ (ent_g zk) ?_
 rintro g c ⟨hg, hc⟩
 refine zr ?_;refine zz ?_;refine zzn ?_;refine T_seq ?_;refine zzc (fun h8 => ?_) fun h8 => ?_
 ·have k8 := of_decide_eq_true h8
  obtain ⟨n, hn⟩ : ∃ n, ns[g]? = some n := ⟨_, List.getElem?_eq_getElem (by omega)⟩
  have hsu : fstF (ns.take (g + 1)) = if n ≠ 0 ∧ (c = 0 ∨ n < c) then n else c := by unfold fstF; rw [foldl_take _ _ hn, hc]; rfl
  refine T_skip ?_;refine T_seq ?_;refine T_block ?_;refine zr ?_;refine zo (ok_indexAddr rfl rfl rfl (by omega) (y := n) (hn)) ?_;(iterate 2 refine zz ?_);refine zzn ?_;refine T_seqQ (K := fun S1 => ∃ w : Bool, (w = true ↔ (n ≠ 0 ∧ (c = 0 ∨ n < c))) ∧ Ent S1 ⟨25, [(21, boolS w), (4, intS .i64 n), (7, intS .i64 (g : Nat)), (6, intS .i64 ns.length), (5, slS 1 i64C ns), (2, intS .i64 c)], [], [], (0, false)⟩) ?_ ?_
  ·refine T_region ?_;refine zz ?_
   refine Run.oneB (ok_cmp rfl rfl rfl rfl) rfl rfl rfl (fun h4_1 => ?_) (fun h4_1 => ?_)
   ·have k4_1 := bne_iff_ne.1 h4_1
    iterate 2 refine zz ?_
    refine Run.oneB (ok_cmp rfl rfl rfl rfl) (gB rfl rfl rfl rfl) rfl rfl (fun h4_4 => ?_) (fun h4_4 => ?_)
    ·have k4_4 := beq_iff_eq.1 h4_4
     refine zz ?_;(iterate 3 refine zq ?_);(iterate 2 refine zz ?_);refine zzn ?_
     exact ⟨true, ⟨fun _ => ⟨k4_1, .inl k4_4⟩, fun _ => rfl⟩, ent_g zk⟩
    ·have k4_4 := beq_eq_false_iff_ne.1 h4_4
     (iterate 6 refine zz ?_);refine zzn ?_
     exact ⟨decide (n < c), (by rw [decide_eq_true_iff]; exact ⟨fun h => ⟨k4_1, .inr h⟩, fun h => h.2.resolve_left k4_4⟩), ent_g (subG_cons rfl (subG_cons rfl (subG_cons rfl (subG_cons rfl (subG_cons rfl (subG_cons rfl (trivial)))))))⟩
   ·have k4_1 := bne_eq_false_iff_eq.1 h4_1
    refine zz ?_;(iterate 7 refine zq ?_);refine zz ?_;refine zzn ?_
    exact ⟨false, ⟨fun h => (by cases h), fun h => absurd k4_1 h.1⟩, ent_g (subG_cons rfl (subG_cons rfl (subG_cons rfl (subG_cons rfl (subG_cons rfl (subG_cons rfl (trivial)))))))⟩
  ·rintro S1 ⟨w, hw, hS1⟩
   refine T_pre hS1 ?_;refine zzc (fun h21 => ?_) fun h21 => ?_
   ·rw [if_pos (hw.1 h21)] at hsu
    refine T_region ?_;(iterate 2 refine zz ?_);refine zzn ?_;refine T_region ?_;refine za ((g + 1 : Nat) : Int) ?_;refine zz ?_;refine zzn ?_
    exact ⟨g + 1, n, ⟨by omega, hsu.symm⟩, by omega, ent_g zk⟩
   ·rw [if_neg (fun x => by rw [hw.2 x] at h21; cases h21)] at hsu
    refine T_skip ?_;refine T_region ?_;refine za ((g + 1 : Nat) : Int) ?_;refine zz ?_;refine zzn ?_
    exact ⟨g + 1, c, ⟨by omega, hsu.symm⟩, by omega, ent_g zk⟩
 ·have k8 := of_decide_eq_false h8
  refine T_exit ?_;refine zr ?_;(iterate 2 refine zz ?_);refine zzn ?_;refine T_ret ?_
  exact ⟨_, [], .one (.tmp rfl), List.nil_sublist _, by rw [hc, show g = ns.length by omega, List.take_length], rfl⟩
end Go.Proofs
