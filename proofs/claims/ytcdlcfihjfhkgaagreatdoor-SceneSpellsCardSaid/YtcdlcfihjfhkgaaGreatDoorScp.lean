/- straitlaw12.spelt: a number that is written with noughts ahead, and not reduced. -/
import Derived.Test.YtcdlcfihjfhkgaaGreatDoorScl
import Derived.Test.YtcdlcfihjfhkgaaGreatDoorSsr
namespace Num
open Go Go.Lib Go.Proofs
def spT (q : Rat) (f z : Nat) : List UInt8 := (sg (decide (q.num < 0)) ++ (nts z ++ decDigits (q.num.natAbs * f))) ++ 47 :: (nts z ++ decDigits (q.den * f))
end Num
namespace Go.Proofs
open Go Go.Sv Num
variable {G : Imm}
theorem nts_take {z : Nat} (h : z ≤ 1) : (([48, 48] : List UInt8).take z).drop 0 = nts z := by
  match z, h with
  | 0, _ => rfl
  | 1, _ => rfl
theorem isQ_lit {z : Int} {k : Nat} (h : z.natAbs < 4294967296 ^ k) (hk : 0 < k) : IsQ (decide (z < 0)) (dig z.natAbs) [1] ((z : Int) : Rat) k :=
  ⟨lim_dig _, lim_cons (by decide) lim_nil, by rw [val_dig, sgn_self]; exact Rat.mkRat_one _, dig_length_le h, hk, hk⟩
theorem isQ_litN {n k : Nat} (h : n < 4294967296 ^ k) (hk : 0 < k) : IsQ false (dig n) [1] ((n : Int) : Rat) k :=
  ⟨lim_dig _, lim_cons (by decide) lim_nil, by rw [val_dig]; exact Rat.mkRat_one _, dig_length_le h, hk, hk⟩
theorem can_mul {x y : Int} (I : Imm) (v : Value) (h : (aggS (canQ (((x : Int) : Rat) * ((y : Int) : Rat)))).den I v) : (aggS (canQ ((x * y : Int) : Rat))).den I v := by rw [Rat.intCast_mul]; exact h
theorem mul_neg0 {x : Int} {f : Nat} (hf : 0 < f) : decide (x * (f : Int) < 0) = decide (x < 0) := by
  refine decide_eq_decide.2 ⟨fun h => ?_, fun h => Int.mul_neg_of_neg_of_pos h (by omega)⟩
  by_cases h1 : x < 0
  · exact h1
  · have := Int.mul_nonneg (show (0 : Int) ≤ x by omega) (show (0 : Int) ≤ f by omega); omega
theorem spelt_spec {b : Bool} {l d : List Nat} {q : Rat} {k f z : Nat} [h : IsQ b l d q k] (hk : k ≤ 10) (hf : 1 ≤ f) (hf2 : f ≤ 9) (hz : z ≤ 1) : PSpec Tryz.prog G 41 [aggS [boolS b, natS l, natS d], intS .i64 (f : Nat), intS .i64 (z : Nat)] (strS (spT q f z)) := by
  have hb := h.bq
  have hp := h.pos
  haveI i1 := isQ_lit hb.num hp
  haveI i2 := isQ_litN hb.den hp
  haveI i3 : Bq ((f : Int) : Rat) 1 := ⟨show ((f : Int)).natAbs < 4294967296 ^ 1 by omega, show 1 < 4294967296 ^ 1 by decide⟩
  have hn1 : (q.num * (f : Int)).natAbs = q.num.natAbs * f := by rw [Int.natAbs_mul]; rfl
  have hn2 : ((q.den : Int) * (f : Int)).natAbs = q.den * f := by rw [Int.natAbs_mul]; rfl
  have hm1 : q.num.natAbs * f < 4294967296 ^ (k + 1) := by rw [Nat.pow_succ]; exact Nat.mul_lt_mul_of_lt_of_le hb.num (by omega) (by omega)
  have hm2 : q.den * f < 4294967296 ^ (k + 1) := by rw [Nat.pow_succ]; exact Nat.mul_lt_mul_of_lt_of_le hb.den (by omega) (by omega)
  have hd1 : (Lib.decDigits (q.num.natAbs * f)).length ≤ 20000 := dec_le hm1 (by omega)
  have hd2 : (Lib.decDigits (q.den * f)).length ≤ 20000 := dec_le hm2 (by omega)
  haveI z1 : Sz (dig (q.num.natAbs * f)) (k + 1) := ⟨dig_length_le hm1⟩
  haveI z2 : Sz (dig (q.den * f)) (k + 1) := ⟨dig_length_le hm2⟩
  clear hm1 hm2
  refine fn_spec Tryz.func41 rfl rfl rfl ?_
  refine T_regionS ?_
  refine Run.box rfl rfl rfl rfl rfl rfl fun b3 => ?_
  refine Run.one (ok_assign rfl rfl) rfl rfl rfl ?_
  refine Run.nil ?_
  refine T_regionS ?_
  refine Run.one ((show OpOK _ _ _ _ _ (aggS [boolS b, natS l, natS d]) from ok_load_own_agg 0 rfl rfl rfl rfl rfl)) rfl rfl rfl ?_
  refine Run.one (ok_call rfl rfl (rqNorm_spec (q := q) (k := k) (by omega))) rfl rfl rfl ?_
  refine Run.store 0 rfl rfl rfl rfl rfl rfl rfl rfl rfl ?_
  refine Run.nil ?_
  refine T_regionS ?_
  refine Run.one (ok_move rfl rfl) rfl rfl rfl ?_
  refine Run.one ((ok_slice_str (l := [48, 48]) (lo := 0) (hi := z) rfl rfl (.inl ⟨rfl, rfl⟩) (.inr ⟨_, _, rfl, rfl⟩) (by omega) (show z ≤ 2 by omega)).sub (str_eq (nts_take hz))) rfl rfl rfl ?_
  refine Run.one (ok_assign rfl rfl) rfl rfl rfl ?_
  refine Run.nil ?_
  refine T_regionS ?_
  refine Run.one (ok_move rfl rfl) rfl rfl rfl ?_
  refine Run.one (ok_call rfl rfl (rqOf_spec (n := (f : Int)) (q := ((f : Int) : Rat)) (by omega) (by omega))) rfl rfl rfl ?_
  refine Run.alloc rfl rfl rfl rfl rfl fun b8 => ?_
  refine Run.store 0 rfl rfl rfl rfl rfl rfl rfl rfl rfl ?_
  refine Run.nil ?_
  refine T_regionS ?_
  refine Run.one (ok_fieldAddr_eq rfl rfl rfl) rfl rfl rfl ?_
  refine Run.one ((show OpOK _ _ _ _ _ (aggS [boolS (decide (q.num < 0)), natS (dig q.num.natAbs)]) from ok_load_own_agg 1 rfl rfl rfl rfl rfl)) rfl rfl rfl ?_
  refine Run.one (ok_buildSlice rfl rfl (by decide) rfl (by simp) rfl rfl) rfl rfl rfl ?_
  refine Run.one ((ok_build rfl rfl rfl).sub (agg_lit (b := decide (q.num < 0)) (m := dig q.num.natAbs) (d := 1))) rfl rfl rfl ?_
  refine Run.one ((show OpOK _ _ _ _ _ (aggS (canQ ((f : Int) : Rat))) from ok_load_own_agg 0 rfl rfl rfl rfl rfl)) rfl rfl rfl ?_
  refine Run.one (ok_buildSlice rfl rfl (by decide) rfl (by simp) rfl rfl) rfl rfl rfl ?_
  refine Run.one ((ok_call rfl rfl (rqmul2_spec (p := ((q.num : Int) : Rat)) (q := ((f : Int) : Rat)) (k := k) (j := 1) (by omega))).sub can_mul) rfl rfl rfl ?_
  refine Run.alloc rfl rfl rfl rfl rfl fun b9 => ?_
  refine Run.store 0 rfl rfl rfl rfl rfl rfl rfl rfl rfl ?_
  refine Run.nil ?_
  refine T_regionS ?_
  refine Run.one (ok_fieldAddr_eq rfl rfl rfl) rfl rfl rfl ?_
  refine Run.one (ok_load_own 2 rfl rfl rfl rfl) rfl rfl rfl ?_
  refine Run.one (ok_build rfl rfl rfl) rfl rfl rfl ?_
  refine Run.one (ok_buildSlice rfl rfl (by decide) rfl (by simp) rfl rfl) rfl rfl rfl ?_
  refine Run.one ((ok_build rfl rfl rfl).sub (agg_lit (b := false) (m := dig q.den) (d := 1))) rfl rfl rfl ?_
  refine Run.one ((show OpOK _ _ _ _ _ (aggS (canQ ((f : Int) : Rat))) from ok_load_own_agg 1 rfl rfl rfl rfl rfl)) rfl rfl rfl ?_
  refine Run.one (ok_buildSlice rfl rfl (by decide) rfl (by simp) rfl rfl) rfl rfl rfl ?_
  refine Run.one ((ok_call rfl rfl (rqmul2_spec (p := ((q.den : Int) : Rat)) (q := ((f : Int) : Rat)) (k := k) (j := 1) (by omega))).sub can_mul) rfl rfl rfl ?_
  refine Run.alloc rfl rfl rfl rfl rfl fun b10 => ?_
  refine Run.store 0 rfl rfl rfl rfl rfl rfl rfl rfl rfl ?_
  refine Run.nil ?_
  refine T_regionS ?_
  iterate 2 refine Run.one (ok_fieldAddr_eq rfl rfl rfl) rfl rfl rfl ?_
  refine Run.one (ok_load_own 1 rfl rfl rfl rfl) rfl rfl rfl ?_
  refine Run.one (ok_call rfl rfl ((rtext_spec (l := dig (q.num.natAbs * f)) (n := q.num.natAbs * f) (k := k + 1) (by omega)).args ⟨fun I v h => (by rw [← hn1]; exact h), trivial⟩)) rfl rfl rfl ?_
  refine Run.one (ok_assign rfl rfl) rfl rfl rfl ?_
  refine Run.nil ?_
  refine T_seq ?_
  refine T_regionS ?_
  iterate 2 refine Run.one (ok_fieldAddr_eq rfl rfl rfl) rfl rfl rfl ?_
  refine Run.one (ok_load_own 1 rfl rfl rfl rfl) rfl rfl rfl ?_
  refine Run.nil ?_
  refine T_cond rfl rfl (fun h39 => ?_) (fun h39 => ?_)
  · have hsg : decide (q.num < 0) = true := (mul_neg0 (by omega)).symm.trans h39
    refine T_regionS ?_
    refine Run.one (ok_move rfl rfl) rfl rfl rfl ?_
    refine Run.one (ok_add_str rfl rfl rfl (by simp [dec] <;> omega)) rfl rfl rfl ?_
    refine Run.one (ok_move rfl rfl) rfl rfl rfl ?_
    iterate 2 refine Run.one (ok_add_str rfl rfl rfl (by simp [dec] <;> omega)) rfl rfl rfl ?_
    refine Run.one (ok_move rfl rfl) rfl rfl rfl ?_
    refine Run.one (ok_add_str rfl rfl rfl (by simp [dec] <;> omega)) rfl rfl rfl ?_
    iterate 2 refine Run.one (ok_fieldAddr_eq rfl rfl rfl) rfl rfl rfl ?_
    refine Run.one (ok_load_own 0 rfl rfl rfl rfl) rfl rfl rfl ?_
    refine Run.one (ok_call rfl rfl ((rtext_spec (l := dig (q.den * f)) (n := q.den * f) (k := k + 1) (by omega)).args ⟨fun I v h => (by rw [← hn2]; exact h), trivial⟩)) rfl rfl rfl ?_
    refine Run.one ((ok_add_str rfl rfl rfl (by simp [dec] <;> omega)).sub (str_eq (m := spT q f z) (by unfold spT; rw [hsg]; simp [sg, dec]))) rfl rfl rfl ?_
    refine Run.one (ok_assign rfl rfl) rfl rfl rfl ?_
    refine Run.nil ?_
    refine T_ret ?_
    exact ⟨_, [], .one (.tmp rfl), List.nil_sublist _, rfl, rfl⟩
  · have hsg : decide (q.num < 0) = false := (mul_neg0 (by omega)).symm.trans h39
    refine T_skip ?_
    refine T_regionS ?_
    iterate 2 refine Run.one (ok_move rfl rfl) rfl rfl rfl ?_
    iterate 2 refine Run.one (ok_add_str rfl rfl rfl (by simp [dec] <;> omega)) rfl rfl rfl ?_
    refine Run.one (ok_move rfl rfl) rfl rfl rfl ?_
    refine Run.one (ok_add_str rfl rfl rfl (by simp [dec] <;> omega)) rfl rfl rfl ?_
    iterate 2 refine Run.one (ok_fieldAddr_eq rfl rfl rfl) rfl rfl rfl ?_
    refine Run.one (ok_load_own 0 rfl rfl rfl rfl) rfl rfl rfl ?_
    refine Run.one (ok_call rfl rfl ((rtext_spec (l := dig (q.den * f)) (n := q.den * f) (k := k + 1) (by omega)).args ⟨fun I v h => (by rw [← hn2]; exact h), trivial⟩)) rfl rfl rfl ?_
    refine Run.one ((ok_add_str rfl rfl rfl (by simp [dec] <;> omega)).sub (str_eq (m := spT q f z) (by unfold spT; rw [hsg]; simp [sg, dec]))) rfl rfl rfl ?_
    refine Run.one (ok_assign rfl rfl) rfl rfl rfl ?_
    refine Run.nil ?_
    refine T_ret ?_
    exact ⟨_, [], .one (.tmp rfl), List.nil_sublist _, rfl, rfl⟩
end Go.Proofs
/- The law SceneSpells, on the facts. -/
namespace Num
open Go Go.Lib Go.Proofs
theorem words_line {ws : List (List UInt8)} (hne : ws ≠ []) (h : ∀ x ∈ ws, wdOk x) : spl 32 (join ws [32]) = ws ∧ join ws [32] ≠ [] ∧ ∀ c ∈ join ws [32], c ≠ 10 := by
  have hs : spl 32 (join ws [32]) = ws := spl_join hne fun x hx c hc => ((h x hx).2 c hc).1
  refine ⟨hs, fun e => ?_, fun c hc => ?_⟩
  · rw [e] at hs
    exact (h [] (by rw [← hs]; simp [spl])).1 rfl
  · rcases mem_join hc with rfl | ⟨x, hx, hh⟩
    · decide
    · exact ((h x hx).2 c hh).2
theorem parse_one {w : List UInt8} {r : List (List UInt8)} (h : ∀ x ∈ w :: r, wdOk x) : parseF (join (w :: r) [32] ++ [10]) = finF (lineW rd0 w r) := by
  obtain ⟨h1, h2, h3⟩ := words_line (by simp) h
  have e : join (w :: r) [32] ++ [10] = nl [join (w :: r) [32]] := by unfold nl; rw [List.flatMap_cons, List.flatMap_nil, List.append_nil]
  obtain ⟨l1, l2⟩ := lines_nl (ws := [join (w :: r) [32]]) (by simp) (by cases hj : join (w :: r) [32] with | nil => exact absurd hj h2 | cons _ _ => rfl) (fun y hy c hc => by rw [List.mem_singleton.1 hy] at hc; exact h3 c hc)
  rw [e]
  unfold parseF
  rw [if_pos l1, l2]
  show finF (goF [join (w :: r) [32]]) = _
  congr 1
  show lineF rd0 (join (w :: r) [32]) = _
  unfold lineF
  rw [h1, ful_wd h, if_pos rfl]
def smT (t : List UInt8) (q : Rat) : Prop := ∃ m : Int, num3 t = (q, m, 0) ∧ m ≤ 6
theorem smT_rd {t : List UInt8} {q : Rat} (h : smT t q) : rdW 0 t = 0 ∧ gdW t = true ∧ (num3 t).1 = q := by
  obtain ⟨m, h, hm⟩ := h
  refine ⟨?_, ?_, by rw [h]⟩
  · unfold rdW; rw [h, if_neg (show ¬ (0 : Int) = 30 by decide), if_neg (show ¬ (6 : Int) < m by omega)]
  · unfold gdW; rw [h]; rfl
theorem spells_parse {t1 t2 t3 t4 : List UInt8} {q1 q2 q3 q4 : Rat} (w1 : wdOk t1) (w2 : wdOk t2) (w3 : wdOk t3) (w4 : wdOk t4) (h1 : smT t1 q1) (h2 : smT t2 q2) (h3 : smT t3 q3) (h4 : smT t4 q4) :
    parseF (join [wRob, t1, t2, t3, t4] [32] ++ [10]) = (([(q1, q2), (q3, q4)], [], []), 0) := by
  obtain ⟨a1, b1, c1⟩ := smT_rd h1
  obtain ⟨a2, b2, c2⟩ := smT_rd h2
  obtain ⟨a3, b3, c3⟩ := smT_rd h3
  obtain ⟨a4, b4, c4⟩ := smT_rd h4
  rw [parse_one (by intro x hx; simp at hx; rcases hx with rfl | rfl | rfl | rfl | rfl; exact wd_rob; exact w1; exact w2; exact w3; exact w4)]
  have hp : ptsF [t1, t2, t3, t4] = [(q1, q2), (q3, q4)] := by show [((num3 t1).1, (num3 t2).1), ((num3 t3).1, (num3 t4).1)] = _; rw [c1, c2, c3, c4]
  have hc : cdF 0 [t1, t2, t3, t4] = 0 := by show rdW (rdW (rdW (rdW 0 t1) t2) t3) t4 = 0; rw [a1, a2, a3, a4]
  unfold lineW
  rw [show ([t1, t2, t3, t4].all gdW && okP [t1, t2, t3, t4]) = true by simp [b1, b2, b3, b4, okP, hp], if_pos rfl, hp]
  show finF (doF { rd0 with code := cdF 0 [t1, t2, t3, t4] } wRob _) = _
  rw [hc]; rfl
theorem nD_times {n f : Nat} (hf : f ≤ 9) (h : nDigits n ≤ 4) : nDigits (n * f) ≤ 5 := by
  have h1 := lt_pow_nDigits n
  have h2 : 10 ^ nDigits n ≤ 10 ^ 4 := Nat.pow_le_pow_right (by decide) h
  refine nDigits_le_of_lt (k := 4) ?_
  have : n * f ≤ n * 9 := Nat.mul_le_mul_left _ hf
  show n * f < 10 ^ 5
  have e4 : 10 ^ 4 = 10000 := rfl
  have e5 : 10 ^ 5 = 100000 := rfl
  omega
theorem spT_sm {q : Rat} {f z : Nat} (hf : 1 ≤ f) (hf2 : f ≤ 9) (hz : z ≤ 1) (h : nD q ≤ 4) : smT (spT q f z) q := by
  unfold nD at h
  have h1 := nD_times hf2 (n := q.num.natAbs) (by omega)
  have h2 := nD_times hf2 (n := q.den) (by omega)
  have e := num3_two (decide (q.num < 0)) (k := z) (j := z) (a := q.num.natAbs * f) (d := q.den * f) (by omega) (by omega)
  rw [zn_times, rat_times (by omega), Rat.mkRat_self, if_neg (Nat.mul_ne_zero q.den_nz (by omega))] at e
  exact ⟨_, e, by omega⟩
theorem spT_wd (q : Rat) (f z : Nat) : wdOk (spT q f z) := by
  unfold spT
  refine ⟨by simp, fun c hc => ?_⟩
  have hn : ∀ n : Nat, c ∈ nts z ++ decDigits n → c ≠ 32 ∧ c ≠ 10 := fun n h => ⟨all_ne (nts_dec z n).2.1 rfl c h, all_ne (nts_dec z n).2.1 rfl c h⟩
  rcases List.mem_append.1 hc with hc | hc
  · rcases List.mem_append.1 hc with hc | hc
    · cases hd : decide (q.num < 0) with
      | true => rw [hd] at hc; simp [sg] at hc; rw [hc]; decide
      | false => rw [hd] at hc; simp [sg] at hc
    · exact hn _ hc
  · rcases List.mem_cons.1 hc with rfl | hc
    · decide
    · exact hn _ hc
def spL (f z : Nat) (l : List (Rat × Rat)) : List UInt8 := l.foldl (fun s p => (((s ++ [32]) ++ spT p.1 f z) ++ [32]) ++ spT p.2 f z) wRob
theorem spL_two (f z : Nat) (p q : Rat × Rat) : spL f z [p, q] = join [wRob, spT p.1 f z, spT p.2 f z, spT q.1 f z, spT q.2 f z] [32] := by
  show (((((((wRob ++ [32]) ++ spT p.1 f z) ++ [32]) ++ spT p.2 f z) ++ [32]) ++ spT q.1 f z) ++ [32]) ++ spT q.2 f z = _
  unfold join
  simp only [List.intercalate_cons_cons, List.intercalate_singleton, List.append_assoc]
theorem spL_succ {f z : Nat} {l : List (Rat × Rat)} {i : Nat} {p : Rat × Rat} (h : l[i]? = some p) : spL f z (l.take (i + 1)) = (((spL f z (l.take i) ++ [32]) ++ spT p.1 f z) ++ [32]) ++ spT p.2 f z := by
  unfold spL; rw [take_snoc h, List.foldl_append]; rfl
end Num
namespace Go.Proofs
open Go Go.Sv Num
variable {G : Imm}
theorem spT_len {q : Rat} {f z : Nat} (hf2 : f ≤ 9) (hz : z ≤ 1) (h : nD q ≤ 4) : (spT q f z).length ≤ 20 := by
  unfold nD at h
  have h1 := nD_times hf2 (n := q.num.natAbs) (by omega)
  have h2 := nD_times hf2 (n := q.den) (by omega)
  have e1 := (nts_dec z (q.num.natAbs * f)).2.2
  have e2 := (nts_dec z (q.den * f)).2.2
  have e3 : (sg (decide (q.num < 0))).length ≤ 1 := by cases decide (q.num < 0) <;> decide
  unfold spT
  rw [List.length_append, List.length_append, List.length_cons, e1, e2]
  omega
theorem sc_rob2 {p q : RP} (I : Imm) (v : Value) (h : (aggS [slS 6 id [pc p, pc q], eqS (.slice none 0 0), eqS (.slice none 0 0)]).den I v) : (aggS (scC ([p, q], [], []))).den I v := by
  obtain ⟨xs, hv, hd, h1⟩ := h
  obtain ⟨x, y, z, rfl, hx, hy, hz⟩ := dens_three hd
  exact ⟨_, hv, dens_cons (sl_map (f := pc) (l := [p, q]) hx) (dens_cons (nil_sl0 hy) (dens_cons (nil_sl0 hz) dens_nil)), h1⟩
theorem two_ok {p q : RP} (hp : PtOk 6 p) (hq : PtOk 6 q) : ScOk ([p, q], [], []) 6 3 := by
  refine ⟨by decide, fun x hx r hr => ?_, by rw [scPts_eq]; simp, by simp [scL]⟩
  rw [show x = (wRob, [p, q]) by simpa [scL] using hx] at hr
  rcases List.mem_cons.1 hr with rfl | hr
  · exact hp
  · rw [List.mem_singleton.1 hr]; exact hq
theorem sceneSpells_spec [Tab G] [Tab10 G] [MaxLen G] {b1 c1 b2 c2 : Bool} {l1 d1 m1 e1 l2 d2 m2 e2 : List Nat} {factor noughts : Int} (hl1 : LimP ((b1, l1, d1), (c1, m1, e1))) (hl2 : LimP ((b2, l2, d2), (c2, m2, e2))) : PSpec Tryz.prog G 9 [aggS (pc ((b1, l1, d1), (c1, m1, e1))), aggS (pc ((b2, l2, d2), (c2, m2, e2))), intS .i64 factor, intS .i64 noughts] (boolS true) := by
  refine fn_spec Tryz.func9 rfl rfl rfl ?_
  refine T_regionS ?_
  iterate 2 refine Run.one (ok_box rfl rfl) rfl rfl rfl ?_
  refine Run.one (ok_assign rfl rfl) rfl rfl rfl ?_
  refine Run.nil ?_
  refine T_regionS ?_
  iterate 2 refine Run.one (ok_load_agg rfl rfl rfl rfl) rfl rfl rfl ?_
  refine Run.one (ok_buildSlice rfl rfl (by decide) rfl (by simp) rfl rfl) rfl rfl rfl ?_
  refine Run.one (ok_assign rfl rfl) rfl rfl rfl ?_
  refine Run.nil ?_
  refine T_seq ?_
  refine T_regionS ?_
  iterate 2 refine Run.one (ok_load_agg rfl rfl rfl rfl) rfl rfl rfl ?_
  refine Run.one (ok_buildSlice rfl rfl (by decide) rfl (by simp) rfl rfl) rfl rfl rfl ?_
  refine Run.oneB (ok_call rfl rfl ((rpGreat_spec (xs := [((b1, l1, d1), (c1, m1, e1)), ((b2, l2, d2), (c2, m2, e2))])).args ⟨fun I v h => sl_map (f := pc) (l := [((b1, l1, d1), (c1, m1, e1)), ((b2, l2, d2), (c2, m2, e2))]) h, trivial⟩)) rfl rfl rfl (fun h2_3 => ?_) (fun h2_3 => ?_)
  · refine Run.one (ok_move rfl rfl) rfl rfl rfl ?_
    iterate 2 refine Run.no (gB rfl rfl rfl rfl) rfl rfl ?_
    refine Run.one (ok_pick rfl rfl rfl) rfl rfl rfl ?_
    refine Run.one (ok_move rfl rfl) rfl rfl rfl ?_
    iterate 2 refine Run.no (gB rfl rfl rfl rfl) rfl rfl ?_
    refine Run.one (ok_pick rfl rfl rfl) rfl rfl rfl ?_
    refine Run.one (ok_move rfl rfl) rfl rfl rfl ?_
    iterate 2 refine Run.no (gB rfl rfl rfl rfl) rfl rfl ?_
    refine Run.one (ok_pick rfl rfl rfl) rfl rfl rfl ?_
    refine Run.one (ok_move rfl rfl) rfl rfl rfl ?_
    iterate 2 refine Run.no (gB rfl rfl rfl rfl) rfl rfl ?_
    refine Run.one (ok_pick rfl rfl rfl) rfl rfl rfl ?_
    refine Run.one (ok_move rfl rfl) rfl rfl rfl ?_
    iterate 4 refine Run.no (gB rfl rfl rfl rfl) rfl rfl ?_
    refine Run.one (ok_pick rfl rfl rfl) rfl rfl rfl ?_
    refine Run.nil ?_
    refine T_condT rfl rfl ?_
    refine T_regionS ?_
    refine Run.one (ok_call rfl rfl wakes12_spec) rfl rfl rfl ?_
    refine Run.one (ok_assign rfl rfl) rfl rfl rfl ?_
    refine Run.nil ?_
    refine T_ret ?_
    exact ⟨_, [], .one (.tmp rfl), List.nil_sublist _, rfl, rfl⟩
  · have g1 : PtOk 6 ((b1, l1, d1), (c1, m1, e1)) := ptOk_of hl1 (fun e => of_decide_eq_false h2_3 (.inr ⟨_, by simp, e⟩))
    have g2 : PtOk 6 ((b2, l2, d2), (c2, m2, e2)) := ptOk_of hl2 (fun e => of_decide_eq_false h2_3 (.inr ⟨_, by simp, e⟩))
    have hok := two_ok g1 g2
    have hdg := rdigits_spec (G := G) hok (by decide) (by decide)
    rw [pts_rob] at hdg
    refine Run.one (ok_move rfl rfl) rfl rfl rfl ?_
    refine Run.one (ok_move rfl rfl) (gB rfl rfl rfl rfl) rfl rfl ?_
    refine Run.one (ok_cmp rfl rfl rfl rfl) (gB rfl rfl rfl rfl) rfl rfl ?_
    refine Run.oneB (ok_pick rfl rfl rfl) rfl rfl rfl (fun h2_7 => ?_) (fun h2_7 => ?_)
    · have k2_7 := of_decide_eq_true h2_7
      refine Run.one (ok_move rfl rfl) rfl rfl rfl ?_
      iterate 2 refine Run.no (gB rfl rfl rfl rfl) rfl rfl ?_
      refine Run.one (ok_pick rfl rfl rfl) rfl rfl rfl ?_
      refine Run.one (ok_move rfl rfl) rfl rfl rfl ?_
      iterate 2 refine Run.no (gB rfl rfl rfl rfl) rfl rfl ?_
      refine Run.one (ok_pick rfl rfl rfl) rfl rfl rfl ?_
      refine Run.one (ok_move rfl rfl) rfl rfl rfl ?_
      iterate 2 refine Run.no (gB rfl rfl rfl rfl) rfl rfl ?_
      refine Run.one (ok_pick rfl rfl rfl) rfl rfl rfl ?_
      refine Run.one (ok_move rfl rfl) rfl rfl rfl ?_
      iterate 4 refine Run.no (gB rfl rfl rfl rfl) rfl rfl ?_
      refine Run.one (ok_pick rfl rfl rfl) rfl rfl rfl ?_
      refine Run.nil ?_
      refine T_condT rfl rfl ?_
      refine T_regionS ?_
      refine Run.one (ok_call rfl rfl wakes12_spec) rfl rfl rfl ?_
      refine Run.one (ok_assign rfl rfl) rfl rfl rfl ?_
      refine Run.nil ?_
      refine T_ret ?_
      exact ⟨_, [], .one (.tmp rfl), List.nil_sublist _, rfl, rfl⟩
    · have k2_7 := of_decide_eq_false h2_7
      refine Run.one (ok_move rfl rfl) rfl rfl rfl ?_
      refine Run.one (ok_move rfl rfl) (gB rfl rfl rfl rfl) rfl rfl ?_
      refine Run.one (ok_cmp rfl rfl rfl rfl) (gB rfl rfl rfl rfl) rfl rfl ?_
      refine Run.oneB (ok_pick rfl rfl rfl) rfl rfl rfl (fun h2_11 => ?_) (fun h2_11 => ?_)
      · have k2_11 := of_decide_eq_true h2_11
        refine Run.one (ok_move rfl rfl) rfl rfl rfl ?_
        iterate 2 refine Run.no (gB rfl rfl rfl rfl) rfl rfl ?_
        refine Run.one (ok_pick rfl rfl rfl) rfl rfl rfl ?_
        refine Run.one (ok_move rfl rfl) rfl rfl rfl ?_
        iterate 2 refine Run.no (gB rfl rfl rfl rfl) rfl rfl ?_
        refine Run.one (ok_pick rfl rfl rfl) rfl rfl rfl ?_
        refine Run.one (ok_move rfl rfl) rfl rfl rfl ?_
        iterate 4 refine Run.no (gB rfl rfl rfl rfl) rfl rfl ?_
        refine Run.one (ok_pick rfl rfl rfl) rfl rfl rfl ?_
        refine Run.nil ?_
        refine T_condT rfl rfl ?_
        refine T_regionS ?_
        refine Run.one (ok_call rfl rfl wakes12_spec) rfl rfl rfl ?_
        refine Run.one (ok_assign rfl rfl) rfl rfl rfl ?_
        refine Run.nil ?_
        refine T_ret ?_
        exact ⟨_, [], .one (.tmp rfl), List.nil_sublist _, rfl, rfl⟩
      · have k2_11 := of_decide_eq_false h2_11
        refine Run.one (ok_move rfl rfl) rfl rfl rfl ?_
        refine Run.one (ok_move rfl rfl) (gB rfl rfl rfl rfl) rfl rfl ?_
        refine Run.one (ok_cmp rfl rfl rfl rfl) (gB rfl rfl rfl rfl) rfl rfl ?_
        refine Run.oneB (ok_pick rfl rfl rfl) rfl rfl rfl (fun h2_15 => ?_) (fun h2_15 => ?_)
        · have k2_15 := of_decide_eq_true h2_15
          refine Run.one (ok_move rfl rfl) rfl rfl rfl ?_
          iterate 2 refine Run.no (gB rfl rfl rfl rfl) rfl rfl ?_
          refine Run.one (ok_pick rfl rfl rfl) rfl rfl rfl ?_
          refine Run.one (ok_move rfl rfl) rfl rfl rfl ?_
          iterate 4 refine Run.no (gB rfl rfl rfl rfl) rfl rfl ?_
          refine Run.one (ok_pick rfl rfl rfl) rfl rfl rfl ?_
          refine Run.nil ?_
          refine T_condT rfl rfl ?_
          refine T_regionS ?_
          refine Run.one (ok_call rfl rfl wakes12_spec) rfl rfl rfl ?_
          refine Run.one (ok_assign rfl rfl) rfl rfl rfl ?_
          refine Run.nil ?_
          refine T_ret ?_
          exact ⟨_, [], .one (.tmp rfl), List.nil_sublist _, rfl, rfl⟩
        · have k2_15 := of_decide_eq_false h2_15
          refine Run.one (ok_move rfl rfl) rfl rfl rfl ?_
          refine Run.one (ok_move rfl rfl) (gB rfl rfl rfl rfl) rfl rfl ?_
          refine Run.one (ok_cmp rfl rfl rfl rfl) (gB rfl rfl rfl rfl) rfl rfl ?_
          refine Run.oneB (ok_pick rfl rfl rfl) rfl rfl rfl (fun h2_19 => ?_) (fun h2_19 => ?_)
          · have k2_19 := of_decide_eq_true h2_19
            refine Run.one (ok_move rfl rfl) rfl rfl rfl ?_
            iterate 4 refine Run.no (gB rfl rfl rfl rfl) rfl rfl ?_
            refine Run.one (ok_pick rfl rfl rfl) rfl rfl rfl ?_
            refine Run.nil ?_
            refine T_condT rfl rfl ?_
            refine T_regionS ?_
            refine Run.one (ok_call rfl rfl wakes12_spec) rfl rfl rfl ?_
            refine Run.one (ok_assign rfl rfl) rfl rfl rfl ?_
            refine Run.nil ?_
            refine T_ret ?_
            exact ⟨_, [], .one (.tmp rfl), List.nil_sublist _, rfl, rfl⟩
          · have k2_19 := of_decide_eq_false h2_19
            refine Run.one (ok_move rfl rfl) rfl rfl rfl ?_
            refine Run.one (ok_move rfl rfl) (gB rfl rfl rfl rfl) rfl rfl ?_
            refine Run.one ((ok_build rfl rfl rfl).sub sc_rob2) (gB rfl rfl rfl rfl) rfl rfl ?_
            refine Run.one (ok_call rfl rfl hdg) (gB rfl rfl rfl rfl) rfl rfl ?_
            refine Run.one (ok_cmp rfl rfl rfl rfl) (gB rfl rfl rfl rfl) rfl rfl ?_
            refine Run.one (ok_pick rfl rfl rfl) rfl rfl rfl ?_
            refine Run.nil ?_
            refine T_cond rfl rfl (fun h42 => ?_) (fun h42 => ?_)
            · have k42 := of_decide_eq_true h42
              refine T_regionS ?_
              refine Run.one (ok_call rfl rfl wakes12_spec) rfl rfl rfl ?_
              refine Run.one (ok_assign rfl rfl) rfl rfl rfl ?_
              refine Run.nil ?_
              refine T_ret ?_
              exact ⟨_, [], .one (.tmp rfl), List.nil_sublist _, rfl, rfl⟩
            · have k42 := of_decide_eq_false h42
              obtain ⟨f, rfl⟩ : ∃ f : Nat, factor = f := ⟨factor.toNat, by omega⟩
              obtain ⟨z, rfl⟩ : ∃ z : Nat, noughts = z := ⟨noughts.toNat, by omega⟩
              have hf : 1 ≤ f := by omega
              have hf2 : f ≤ 9 := by omega
              have hz : z ≤ 1 := by omega
              have n1 : ∀ p ∈ [pv ((b1, l1, d1), (c1, m1, e1)), pv ((b2, l2, d2), (c2, m2, e2))], nD p.1 ≤ 4 ∧ nD p.2 ≤ 4 := fun p hp => ⟨Nat.le_of_not_lt fun e => k42 (by have := dgF_gt.2 ⟨p, hp, .inl e⟩; exact Int.ofNat_lt.2 this), Nat.le_of_not_lt fun e => k42 (by have := dgF_gt.2 ⟨p, hp, .inr e⟩; exact Int.ofNat_lt.2 this)⟩
              have gp : ∀ p ∈ [((b1, l1, d1), (c1, m1, e1)), ((b2, l2, d2), (c2, m2, e2))], PtOk 6 p := fun p hp => by rcases List.mem_cons.1 hp with rfl | hp; exact g1; rw [List.mem_singleton.1 hp]; exact g2
              refine T_skip ?_
              refine T_regionS ?_
              refine Run.one (ok_assign rfl rfl) rfl rfl rfl ?_
              refine Run.nil ?_
              refine T_seq ?_
              refine T_regionS ?_
              refine Run.one (ok_assign rfl rfl) rfl rfl rfl ?_
              refine Run.nil ?_
              refine T_block ?_
              refine T_loop (γ := Nat) (fun i => ⟨_, [(11, intS .i64 (i : Nat)), (10, strS (spL f z ([pv ((b1, l1, d1), (c1, m1, e1)), pv ((b2, l2, d2), (c2, m2, e2))].take i))), (9, slS 6 pc [((b1, l1, d1), (c1, m1, e1)), ((b2, l2, d2), (c2, m2, e2))]), (3, intS .i64 (z : Nat)), (2, intS .i64 (f : Nat))], [], [], (0, false)⟩) (fun i => i ≤ 2 ∧ (spL f z ([pv ((b1, l1, d1), (c1, m1, e1)), pv ((b2, l2, d2), (c2, m2, e2))].take i)).length ≤ 5 + 42 * i) (fun i => 2 - i) 0 ⟨Nat.zero_le _, by show wRob.length ≤ 5; decide⟩ (ent_g (subG_cons rfl (subG_cons rfl ⟨⟨_, rfl, fun I v h => sl_map (f := pc) (l := [((b1, l1, d1), (c1, m1, e1)), ((b2, l2, d2), (c2, m2, e2))]) h⟩, subG_cons rfl (subG_cons rfl (trivial))⟩))) ?_
              rintro i ⟨hi, hil⟩
              refine T_seq ?_
              refine T_regionS ?_
              refine Run.one (ok_move rfl rfl) rfl rfl rfl ?_
              refine Run.one (ok_cmp rfl rfl rfl rfl) rfl rfl rfl ?_
              refine Run.nil ?_
              refine T_cond rfl rfl (fun h45 => ?_) (fun h45 => ?_)
              · have k45 := of_decide_eq_true h45
                obtain ⟨⟨⟨b, l, d⟩, ⟨c, m, e⟩⟩, hp⟩ : ∃ p, [((b1, l1, d1), (c1, m1, e1)), ((b2, l2, d2), (c2, m2, e2))][i]? = some p := ⟨_, List.getElem?_eq_getElem (by simp; omega)⟩
                have hps : [pv ((b1, l1, d1), (c1, m1, e1)), pv ((b2, l2, d2), (c2, m2, e2))][i]? = some (qv (b, l, d), qv (c, m, e)) := by show ([((b1, l1, d1), (c1, m1, e1)), ((b2, l2, d2), (c2, m2, e2))].map pv)[i]? = _; rw [List.getElem?_map, hp]; rfl
                have hgp := gp _ (List.mem_of_getElem? hp)
                have j1 : IsQ b l d (qv (b, l, d)) 6 := isQ_lim hgp.1 (by decide)
                have j2 : IsQ c m e (qv (c, m, e)) 6 := isQ_lim hgp.2 (by decide)
                have nd := n1 _ (List.mem_of_getElem? hps)
                have hs1 := spT_len hf2 hz nd.1
                have hs2 := spT_len hf2 hz nd.2
                have hsu := spL_succ (f := f) (z := z) hps
                simp only at hs1 hs2 hsu
                refine T_skip ?_
                refine T_seq ?_
                refine T_block ?_
                refine T_draw 22 (by kernel_rfl) ?_
                refine Run.one (ok_move rfl rfl) rfl rfl rfl ?_
                refine Run.one (ok_add_str rfl rfl rfl (by simp only [List.length_append, List.length_cons, List.length_nil]; omega)) rfl rfl rfl ?_
                iterate 2 refine Run.one (ok_move rfl rfl) rfl rfl rfl ?_
                refine Run.one (ok_indexAddr rfl rfl rfl (by omega) (y := ((b, l, d), (c, m, e))) (hp)) rfl rfl rfl ?_
                refine Run.one (ok_fieldAddr rfl rfl rfl) rfl rfl rfl ?_
                refine Run.one ((show OpOK _ _ _ _ _ (aggS [boolS b, natS l, natS d]) from ok_load_agg rfl rfl rfl rfl)) rfl rfl rfl ?_
                iterate 2 refine Run.one (ok_move rfl rfl) rfl rfl rfl ?_
                refine Run.one (ok_call rfl rfl (spelt_spec (q := qv (b, l, d)) (k := 6) (by decide) hf hf2 hz)) rfl rfl rfl ?_
                iterate 2 refine Run.one (ok_add_str rfl rfl rfl (by simp only [List.length_append, List.length_cons, List.length_nil]; omega)) rfl rfl rfl ?_
                iterate 2 refine Run.one (ok_move rfl rfl) rfl rfl rfl ?_
                refine Run.one (ok_indexAddr rfl rfl rfl (by omega) (y := ((b, l, d), (c, m, e))) (hp)) rfl rfl rfl ?_
                refine Run.one (ok_fieldAddr rfl rfl rfl) rfl rfl rfl ?_
                refine Run.one ((show OpOK _ _ _ _ _ (aggS [boolS c, natS m, natS e]) from ok_load_agg rfl rfl rfl rfl)) rfl rfl rfl ?_
                iterate 2 refine Run.one (ok_move rfl rfl) rfl rfl rfl ?_
                refine Run.one (ok_call rfl rfl (spelt_spec (q := qv (c, m, e)) (k := 6) (by decide) hf hf2 hz)) rfl rfl rfl ?_
                refine Run.one ((ok_add_str rfl rfl rfl (by simp only [List.length_append, List.length_cons, List.length_nil]; omega)).sub (str_eq hsu.symm)) rfl rfl rfl ?_
                refine Run.one (ok_assign rfl rfl) rfl rfl rfl ?_
                iterate 2 refine Run.nil ?_
                refine T_region ?_
                refine Run.one (ok_move rfl rfl) rfl rfl rfl ?_
                refine Run.one (ok_ari (z := ((i + 1 : Nat) : Int)) rfl rfl rfl (congrArg some (by omega)) (wrap_i64 (by omega) (by omega))) rfl rfl rfl ?_
                refine Run.one (ok_assign rfl rfl) rfl rfl rfl ?_
                refine Run.nil ?_
                exact ⟨i + 1, ⟨by omega, by rw [hsu]; simp only [List.length_append, List.length_cons, List.length_nil]; omega⟩, by omega, ent_g (subG_cons rfl (subG_cons rfl (subG_cons rfl (subG_cons rfl (subG_cons rfl (trivial))))))⟩
              · have k45 := of_decide_eq_false h45
                obtain rfl : i = 2 := by omega
                rw [show [pv ((b1, l1, d1), (c1, m1, e1)), pv ((b2, l2, d2), (c2, m2, e2))].take 2 = [pv ((b1, l1, d1), (c1, m1, e1)), pv ((b2, l2, d2), (c2, m2, e2))] from rfl, spL_two] at hil ⊢
                have a1 := n1 (pv ((b1, l1, d1), (c1, m1, e1))) (by simp)
                have a2 := n1 (pv ((b2, l2, d2), (c2, m2, e2))) (by simp)
                have hpp := parse12_spec (G := G) (t := Lib.join [wRob, spT (pv ((b1, l1, d1), (c1, m1, e1))).1 f z, spT (pv ((b1, l1, d1), (c1, m1, e1))).2 f z, spT (pv ((b2, l2, d2), (c2, m2, e2))).1 f z, spT (pv ((b2, l2, d2), (c2, m2, e2))).2 f z] [32] ++ [10]) (by rw [List.length_append]; simp only [List.length_singleton]; omega)
                rw [spells_parse (spT_wd _ _ _) (spT_wd _ _ _) (spT_wd _ _ _) (spT_wd _ _ _) (spT_sm hf hf2 hz a1.1) (spT_sm hf hf2 hz a1.2) (spT_sm hf hf2 hz a2.1) (spT_sm hf hf2 hz a2.2)] at hpp
                have hno : ScOk (rawS ([pv ((b1, l1, d1), (c1, m1, e1)), pv ((b2, l2, d2), (c2, m2, e2))], [], [])) 6 3 := norm_ok hok
                refine T_exit ?_
                refine T_regionS ?_
                refine Run.one (ok_move rfl rfl) rfl rfl rfl ?_
                refine Run.one (ok_add_str rfl rfl rfl (by simp only [List.length_append, List.length_cons, List.length_nil]; omega)) rfl rfl rfl ?_
                refine Run.one (ok_call rfl rfl hpp) rfl rfl rfl ?_
                refine Run.one (ok_move rfl rfl) rfl rfl rfl ?_
                iterate 2 refine Run.one (ok_extract rfl rfl rfl) rfl rfl rfl ?_
                refine Run.alloc rfl rfl rfl rfl rfl fun b12 => ?_
                refine Run.store 0 rfl rfl rfl rfl rfl rfl rfl rfl rfl ?_
                refine Run.one (ok_assign rfl rfl) rfl rfl rfl ?_
                refine Run.nil ?_
                refine T_drawS 19 (by kernel_rfl) ?_
                refine Run.one (ok_move rfl rfl) rfl rfl rfl ?_
                refine Run.one ((ok_cmp rfl rfl rfl rfl).sub (bool_eq (c := true) (rfl))) rfl rfl rfl ?_
                refine Run.one (ok_move rfl rfl) rfl rfl rfl ?_
                refine Run.one (ok_fieldAddr_eq rfl rfl rfl) (gB rfl rfl rfl rfl) rfl rfl ?_
                refine Run.one (ok_load_own 0 rfl rfl rfl rfl) (gB rfl rfl rfl rfl) rfl rfl ?_
                refine Run.one (ok_move rfl rfl) (gB rfl rfl rfl rfl) rfl rfl ?_
                refine Run.one (ok_call rfl rfl (rpNorm_spec (xs := [((b1, l1, d1), (c1, m1, e1)), ((b2, l2, d2), (c2, m2, e2))]) (k := 6) (by decide) gp (by decide) (show 2 ≤ cap by decide))) (gB rfl rfl rfl rfl) rfl rfl ?_
                refine Run.one ((ok_call rfl rfl (rpAll_spec (xs := [pv ((b1, l1, d1), (c1, m1, e1)), pv ((b2, l2, d2), (c2, m2, e2))]) (ys := [pv ((b1, l1, d1), (c1, m1, e1)), pv ((b2, l2, d2), (c2, m2, e2))]))).sub (bool_eq (c := true) (decide_eq_true rfl))) (gB rfl rfl rfl rfl) rfl rfl ?_
                refine Run.one (ok_pick rfl rfl rfl) rfl rfl rfl ?_
                refine Run.one (ok_move rfl rfl) rfl rfl rfl ?_
                refine Run.one ((show OpOK _ _ _ _ _ (aggS (qsC ([pv ((b1, l1, d1), (c1, m1, e1)), pv ((b2, l2, d2), (c2, m2, e2))], [], []))) from ok_load_own_agg 0 rfl rfl rfl rfl rfl)) (gB rfl rfl rfl rfl) rfl rfl ?_
                refine Run.one (ok_move rfl rfl) (gB rfl rfl rfl rfl) rfl rfl ?_
                refine Run.one ((ok_build rfl rfl rfl).sub sc_rob) (gB rfl rfl rfl rfl) rfl rfl ?_
                refine Run.one ((ok_call rfl rfl ((ssame_spec hno hok (by decide)).args (args' := [aggS (qsC ([pv ((b1, l1, d1), (c1, m1, e1)), pv ((b2, l2, d2), (c2, m2, e2))], [], [])), aggS (scC ([((b1, l1, d1), (c1, m1, e1)), ((b2, l2, d2), (c2, m2, e2))], [], []))]) ⟨qs_sc, fun _ _ h => h, trivial⟩)).sub (bool_eq (c := true) (decide_eq_true (nrm_raw _)))) (gB rfl rfl rfl rfl) rfl rfl ?_
                refine Run.one (ok_pick rfl rfl rfl) rfl rfl rfl ?_
                refine Run.one (ok_move rfl rfl) rfl rfl rfl ?_
                refine Run.one (ok_call rfl rfl wakes12_spec) (gB rfl rfl rfl rfl) rfl rfl ?_
                refine Run.one (ok_pick rfl rfl rfl) rfl rfl rfl ?_
                refine Run.one (ok_assign rfl rfl) rfl rfl rfl ?_
                iterate 2 refine Run.nil ?_
                refine T_ret ?_
                exact ⟨_, [], .one (.tmp rfl), List.nil_sublist _, rfl, rfl⟩
end Go.Proofs
