/- A scene's text, read again: plain facts. -/
import Derived.Test.YtofplgefmjojjaaGreatDoorSci
namespace Num
open Go Go.Lib Go.Proofs
def lineT (x : List UInt8 × List (Rat × Rat)) : List UInt8 := join (rowW x.1 x.2) [32]
def wdOk (w : List UInt8) : Prop := w ≠ [] ∧ ∀ c ∈ w, c ≠ 32 ∧ c ≠ 10
theorem dec_wd (n : Nat) : ∀ c ∈ decDigits n, c ≠ 32 ∧ c ≠ 10 := fun c h => ⟨all_ne (dec_all n) rfl c h, all_ne (dec_all n) rfl c h⟩
theorem dec_ne0 (n : Nat) : decDigits n ≠ [] := fun h => by
 have h1 : (decDigits n).length = nDigits n := decDigits_length n
 have h2 := nDigits_pos n
 rw [h, List.length_nil] at h1; omega
theorem itxt_wd (z : Int) : wdOk (itxt z) := by
 unfold itxt
 split
 ·refine ⟨by simp, fun c h => ?_⟩
  rcases List.mem_cons.1 h with rfl | h
  ·decide
  ·exact dec_wd _ c h
 ·exact ⟨dec_ne0 _, dec_wd _⟩
theorem txt_wd (q : Rat) : wdOk (txtF q) := by
 obtain ⟨h1, h2⟩ := itxt_wd q.num
 unfold txtF
 refine ⟨fun h => h1 (List.append_eq_nil_iff.1 h).1, fun c h => ?_⟩
 rcases List.mem_append.1 h with h | h
 ·exact h2 c h
 ·split at h
  ·cases h
  ·rcases List.mem_cons.1 h with rfl | h
   ·decide
   ·exact dec_wd _ c h
theorem row_wd {w : List UInt8} (hw : wdOk w) (l : List (Rat × Rat)) : ∀ x ∈ rowW w l, wdOk x := fun x hx => by
 rcases List.mem_cons.1 hx with rfl | hx
 ·exact hw
 ·obtain ⟨p, _, hp⟩ := List.mem_flatMap.1 hx
  rcases List.mem_cons.1 hp with rfl | hp
  ·exact txt_wd _
  ·rw [List.mem_singleton.1 hp]; exact txt_wd _
theorem ful_wd {ws : List (List UInt8)} (h : ∀ x ∈ ws, wdOk x) : ful ws = true := List.all_eq_true.2 fun x hx => by
 cases x with
 | nil => exact absurd rfl (h [] hx).1
 | cons _ _ => rfl
theorem line_spl {w : List UInt8} (hw : wdOk w) (l : List (Rat × Rat)) : spl 32 (lineT (w, l)) = rowW w l := spl_join (by simp [rowW]) fun x hx c hc => ((row_wd hw l x hx).2 c hc).1
theorem mem_join {c d : UInt8} : ∀ {ws : List (List UInt8)}, c ∈ join ws [d] → c = d ∨ ∃ x ∈ ws, c ∈ x
  | [], h => by simp [join] at h
  | [w], h => .inr ⟨w, by simp, by simpa [join] using h⟩
  | w :: y :: v, h => by
    have e : join (w :: y :: v) [d] = (w ++ [d]) ++ join (y :: v) [d] := by unfold join; rw [List.intercalate_cons_cons]
    rw [e] at h
    rcases List.mem_append.1 h with h | h
    · rcases List.mem_append.1 h with h | h
      · exact .inr ⟨w, by simp, h⟩
      · exact .inl (List.mem_singleton.1 h)
    · rcases mem_join h with h | ⟨x, hx, h⟩
      · exact .inl h
      · exact .inr ⟨x, by simp [List.mem_cons.1 hx], h⟩
theorem line_wd {w : List UInt8} (hw : wdOk w) (l : List (Rat × Rat)) : lineT (w, l) ≠ [] ∧ ∀ c ∈ lineT (w, l), c ≠ 10 := by
 refine ⟨fun h => ?_, fun c hc => ?_⟩
 ·have := line_spl hw l
  rw [h] at this
  exact (row_wd hw l [] (by rw [← this]; simp [spl])).1 rfl
 ·rcases mem_join hc with rfl | ⟨x, hx, h⟩
  ·decide
  ·exact ((row_wd hw l x hx).2 c h).2
theorem lines_nl {ws : List (List UInt8)} (hne : ws ≠ []) (hf : ful ws = true) (h10 : ∀ w ∈ ws, ∀ x ∈ w, x ≠ 10) : lnOk (nl ws) = true ∧ spl 10 (trimSuffix (nl ws) [10]) = ws := by
 have hj := spl_join hne h10
 obtain ⟨l1, l2⟩ := lnOk_snoc (join ws [10])
 exact ⟨by rw [nl_join hne, l1, hj, hf], by rw [nl_join hne, l2, hj]⟩
theorem lineF_T {rd : Rd} {w : List UInt8} (hw : wdOk w) (l : List (Rat × Rat)) : lineF rd (lineT (w, l)) = lineW rd w (l.flatMap ptT) := by
 unfold lineF
 rw [line_spl hw l, ful_wd (row_wd hw l), if_pos rfl]; rfl
theorem kD_nD (q : Rat) : kD q = nD q := by
 unfold kD nD
 split
 ·rename_i h
  have h1 := nDigits_pos q.num.natAbs
  have h2 : nDigits 1 = 1 := nDigits_small (by decide)
  rw [h, h2]; omega
 ·rfl
theorem num_back {q : Rat} (h : nD q ≤ 60) : num3 (txtF q) = (q, ((nD q : Nat) : Int), 0) := by
 unfold nD at h
 rw [num3_back (by omega) (by omega), kD_nD]
abbrev P60 (l : List (Rat × Rat)) : Prop := ∀ p ∈ l, nD p.1 ≤ 60 ∧ nD p.2 ≤ 60
theorem pts_flat : ∀ {l : List (Rat × Rat)}, P60 l → ptsF (l.flatMap ptT) = l
  | [], _ => rfl
  | (a, b) :: l, h => by
    have h1 := h (a, b) (by simp)
    show ((num3 (txtF a)).1, (num3 (txtF b)).1) :: ptsF (l.flatMap ptT) = _
    rw [num_back h1.1, num_back h1.2, pts_flat fun p hp => h p (by simp [hp])]
theorem len_flat (l : List (Rat × Rat)) : (l.flatMap ptT).length = 2 * l.length := by
 have := rowW_len [] l
 unfold rowW at this
 rw [List.length_cons] at this; omega
theorem gd_flat {l : List (Rat × Rat)} (h : P60 l) : (l.flatMap ptT).all gdW = true := List.all_eq_true.2 fun x hx => by
 obtain ⟨p, hp, hx⟩ := List.mem_flatMap.1 hx
 have h1 := h p hp
 refine gd_of ?_
 rcases List.mem_cons.1 hx with rfl | hx
 ·rw [num_back h1.1]; show (0 : Int) ≠ 60; decide
 ·rw [List.mem_singleton.1 hx, num_back h1.2]; show (0 : Int) ≠ 60; decide
theorem dgF_cons (p : Rat × Rat) (l : List (Rat × Rat)) : dgF 0 (p :: l) = max (max (nD p.1) (nD p.2)) (dgF 0 l) := by
 have : dgF 0 (p :: l) = dgF (max (max 0 (nD p.1)) (nD p.2)) l := rfl
 rw [this, dgF_max]; omega
def big3 (c : Prop) [Decidable c] : Int := if c then 3 else 0
theorem big3_or (c : Prop) [Decidable c] : big3 c = 0 ∨ big3 c = 3 := by unfold big3; split <;> simp
theorem big3_eq {c d : Prop} [Decidable c] [Decidable d] (h : c ↔ d) : big3 c = big3 d := by
 unfold big3
 by_cases hc : c
 ·rw [if_pos hc, if_pos (h.1 hc)]
 ·rw [if_neg hc, if_neg fun hd => hc (h.2 hd)]
theorem big3_three (c : Prop) [Decidable c] : big3 c = 3 ↔ c := by
 unfold big3
 by_cases hc : c
 ·rw [if_pos hc]; exact ⟨fun _ => hc, fun _ => rfl⟩
 ·rw [if_neg hc]; exact ⟨fun h => by omega, fun h => absurd h hc⟩
theorem rd_txt {k : Int} {q : Rat} (h : nD q ≤ 60) (hk : k = 0 ∨ k = 3) : rdW k (txtF q) = big3 (k = 3 ∨ 6 < nD q) := by
 unfold rdW big3
 rw [num_back h, if_neg (show ¬ (0 : Int) = 30 by decide)]
 simp only
 rcases hk with rfl | rfl
 ·by_cases h6 : 6 < nD q
  ·rw [if_pos (show (6 : Int) < (nD q : Int) by omega), if_pos (.inr h6)]; rfl
  ·rw [if_neg (show ¬ (6 : Int) < (nD q : Int) by omega), if_neg (by omega)]
 ·rw [if_pos (show (3 : Int) = 3 ∨ 6 < nD q from .inl rfl)]; split <;> rfl
theorem cd_flat : ∀ {l : List (Rat × Rat)} {k : Int}, P60 l → (k = 0 ∨ k = 3) → cdF k (l.flatMap ptT) = big3 (k = 3 ∨ 6 < dgF 0 l)
  | [], k, _, hk => by
    show k = _
    unfold big3
    rcases hk with rfl | rfl
    · rw [if_neg (by intro h; rcases h with h | h; omega; simp [dgF] at h)]
    · rw [if_pos (.inl rfl)]
  | (a, b) :: l, k, h, hk => by
    have h1 := h (a, b) (by simp)
    show cdF (rdW (rdW k (txtF a)) (txtF b)) (l.flatMap ptT) = _
    rw [rd_txt h1.1 hk, rd_txt h1.2 (big3_or _), cd_flat (fun p hp => h p (by simp [hp])) (big3_or _), dgF_cons]
    refine big3_eq ?_
    rw [big3_three, big3_three]
    simp only
    omega
theorem line_ok {rd : Rd} {w : List UInt8} {l : List (Rat × Rat)} (hl : l ≠ []) (h : P60 l) (hk : rd.code = 0 ∨ rd.code = 3) : lineW rd w (l.flatMap ptT) = doF { rd with code := big3 (rd.code = 3 ∨ 6 < dgF 0 l) } w l := by
 unfold lineW
 have ho : okP (l.flatMap ptT) = true := by
  unfold okP
  rw [pts_flat h, len_flat, decide_eq_true (by omega), decide_eq_true (by have := List.length_pos_iff.2 hl; omega)]; rfl
 rw [gd_flat h, ho, if_pos (show (true && true) = true from rfl), pts_flat h, cd_flat h hk]
def stepX (o : Option Rd) (x : List UInt8 × List (Rat × Rat)) : Option Rd := o.bind fun rd => lineW rd x.1 (x.2.flatMap ptT)
theorem go_lines {xs : List (List UInt8 × List (Rat × Rat))} (hw : ∀ x ∈ xs, wdOk x.1) (o : Option Rd) : (xs.map lineT).foldl stepF o = xs.foldl stepX o := by
  induction xs generalizing o with
  | nil => rfl
  | cons x xs ih =>
    rw [List.map_cons, List.foldl_cons, List.foldl_cons, ih fun y hy => hw y (by simp [hy])]
    congr 1
    cases o with
    | none => rfl
    | some rd => exact lineF_T (hw x (by simp)) x.2
def finF (o : Option Rd) : (List (Rat × Rat) × List (List (Rat × Rat)) × List ((Rat × Rat) × (Rat × Rat))) × Int := match o with | none => (([], [], []), 1) | some rd => if rd.code ≠ 0 then (([], [], []), rd.code) else ((rd.rob, rd.obs, rd.que), 0)
theorem parse_nl {xs : List (List UInt8 × List (Rat × Rat))} (hne : xs ≠ []) (hw : ∀ x ∈ xs, wdOk x.1) : parseF (nl (xs.map lineT)) = finF (xs.foldl stepX (some rd0)) := by
 obtain ⟨h1, h2⟩ := lines_nl (ws := xs.map lineT) (by simpa using hne) (List.all_eq_true.2 fun y hy => by
  obtain ⟨x, hx, rfl⟩ := List.mem_map.1 hy
  have := (line_wd (hw x hx) x.2).1
  cases h : lineT x with
  | nil => exact absurd h this
  | cons _ _ => rfl) (fun y hy c hc => by
  obtain ⟨x, hx, rfl⟩ := List.mem_map.1 hy
  exact (line_wd (hw x hx) x.2).2 c hc)
 unfold parseF
 rw [if_pos h1, h2]
 unfold goF
 rw [go_lines hw]; rfl
theorem fold_obs : ∀ {obs : List (List (Rat × Rat))} {rd : Rd}, rd.rob ≠ [] → rd.que = [] → (rd.code = 0 ∨ rd.code = 3) → (∀ l ∈ obs, l ≠ [] ∧ P60 l) → (obs.map fun l => (wObs, l)).foldl stepX (some rd) = some ⟨rd.rob, rd.obs ++ obs, [], big3 (rd.code = 3 ∨ 6 < dgF 0 obs.flatten)⟩
  | [], ⟨r, o, q, c⟩, _, hq, hk, _ => by
    simp only at hq hk
    subst hq
    rcases hk with rfl | rfl <;> simp [dgF, big3]
  | l :: obs, ⟨r, o, q, c⟩, hr, hq, hk, h => by
    simp only at hq hk hr
    subst hq
    have hl := h l (by simp)
    rw [List.map_cons, List.foldl_cons]
    have e : stepX (some ⟨r, o, [], c⟩) (wObs, l) = some ⟨r, o ++ [l], [], big3 (c = 3 ∨ 6 < dgF 0 l)⟩ := by
      show lineW _ wObs (l.flatMap ptT) = _
      rw [line_ok hl.1 hl.2 hk]
      unfold doF
      rw [if_neg (by decide), if_pos rfl, if_neg (by simp [hr])]
    rw [e, fold_obs (rd := ⟨r, o ++ [l], [], big3 (c = 3 ∨ 6 < dgF 0 l)⟩) hr rfl (big3_or _) (fun y hy => h y (by simp [hy])), List.flatten_cons, dgF_app]
    simp only [List.append_assoc, List.singleton_append]
    rw [big3_eq (show (big3 (c = 3 ∨ 6 < dgF 0 l) = 3 ∨ 6 < dgF 0 obs.flatten) ↔ (c = 3 ∨ 6 < max (dgF 0 l) (dgF 0 obs.flatten)) by rw [big3_three]; omega)]
theorem fold_que : ∀ {que : List ((Rat × Rat) × (Rat × Rat))} {rd : Rd}, rd.rob ≠ [] → (rd.code = 0 ∨ rd.code = 3) → (∀ q ∈ que, P60 [q.1, q.2]) → (que.map fun q => (wQue, [q.1, q.2])).foldl stepX (some rd) = some ⟨rd.rob, rd.obs, rd.que ++ que, big3 (rd.code = 3 ∨ 6 < dgF 0 (que.flatMap fun q => [q.1, q.2]))⟩
  | [], ⟨r, o, q, c⟩, _, hk, _ => by
    simp only at hk
    rcases hk with rfl | rfl <;> simp [dgF, big3]
  | q :: que, ⟨r, o, qs, c⟩, hr, hk, h => by
    simp only at hk hr
    have hl := h q (by simp)
    rw [List.map_cons, List.foldl_cons]
    have e : stepX (some ⟨r, o, qs, c⟩) (wQue, [q.1, q.2]) = some ⟨r, o, qs ++ [q], big3 (c = 3 ∨ 6 < dgF 0 [q.1, q.2])⟩ := by
      show lineW _ wQue ([q.1, q.2].flatMap ptT) = _
      rw [line_ok (by simp) hl hk]
      unfold doF
      rw [if_neg (by decide), if_neg (by decide), if_pos rfl]
      simp only
      rw [if_neg hr]
    rw [e, fold_que (rd := ⟨r, o, qs ++ [q], big3 (c = 3 ∨ 6 < dgF 0 [q.1, q.2])⟩) hr (big3_or _) (fun y hy => h y (by simp [hy])), List.flatMap_cons, dgF_app]
    simp only [List.append_assoc, List.singleton_append]
    rw [big3_eq (show (big3 (c = 3 ∨ 6 < dgF 0 [q.1, q.2]) = 3 ∨ 6 < dgF 0 (que.flatMap fun q => [q.1, q.2])) ↔ (c = 3 ∨ 6 < max (dgF 0 [q.1, q.2]) (dgF 0 (que.flatMap fun q => [q.1, q.2]))) by rw [big3_three]; omega)]
end Num
/- straitref12: points, digits, the same scenes, scenes in lowest terms. -/
namespace Go.Proofs
open Go Go.Sv Num
variable {G : Imm}
theorem tk_succ {α : Type} {xs ys : List α} {i : Nat} {x y : α} (hx : xs[i]? = some x) (hy : ys[i]? = some y) (hE : xs.take i = ys.take i) (h : x = y) : xs.take (i + 1) = ys.take (i + 1) := by rw [take_snoc hx, take_snoc hy, hE, h]
theorem tk_all {α : Type} {xs ys : List α} {i : Nat} (hl : xs.length = ys.length) (h : i = xs.length) (hE : xs.take i = ys.take i) : xs = ys := by
 rw [h, List.take_length, hl, List.take_length] at hE; exact hE
theorem get_ne {α : Type} {xs ys : List α} {i : Nat} {x y : α} (hx : xs[i]? = some x) (hy : ys[i]? = some y) (h : x ≠ y) : xs ≠ ys := fun e => by
 rw [e, hy] at hx; exact h (Option.some.inj hx).symm
theorem told12_spec {a b : QS} : PSpec Tryz.prog G 32 [aggS (qsC a), aggS (qsC b)] (boolS (decide (a = b))) := by
 refine zs Tryz.func32 ?_;refine zr ?_;(iterate 3 refine zz ?_);refine zzn ?_;refine T_seq ?_;refine zr ?_;(iterate 6 refine zz ?_)
 refine Run.oneB (ok_cmp rfl rfl rfl rfl) rfl rfl rfl (fun h1_6 => ?_) (fun h1_6 => ?_)
 ·have k1_6 := bne_iff_ne.1 h1_6
  refine zz ?_;(iterate 7 refine zq ?_);(iterate 2 refine zz ?_);(iterate 6 refine zq ?_);refine zz ?_;refine zzn ?_;refine T_condT rfl rfl ?_;refine zr ?_;refine zz ?_;refine zzn ?_;refine T_ret ?_
  exact ⟨_, [], .one (.tmp rfl), List.nil_sublist _, congrArg boolS (decide_eq_false (fun e => k1_6 (by rw [e]))).symm, rfl⟩
 ·have k1_6 := bne_eq_false_iff_eq.1 h1_6
  iterate 8 refine zz ?_
  refine Run.oneB (ok_pick rfl rfl rfl) rfl rfl rfl (fun h1_15 => ?_) (fun h1_15 => ?_)
  ·have k1_15 := bne_iff_ne.1 h1_15
   refine zz ?_;(iterate 6 refine zq ?_);refine zz ?_;refine zzn ?_;refine T_condT rfl rfl ?_;refine zr ?_;refine zz ?_;refine zzn ?_;refine T_ret ?_
   exact ⟨_, [], .one (.tmp rfl), List.nil_sublist _, congrArg boolS (decide_eq_false (fun e => k1_15 (by rw [e]))).symm, rfl⟩
  ·have k1_15 := bne_eq_false_iff_eq.1 h1_15
   (iterate 5 refine zz ?_);refine zf rpAll_spec ?_;(iterate 2 refine zz ?_);refine zzn ?_;refine zzc (fun h30 => ?_) fun h30 => ?_
   ·refine zr ?_;refine zz ?_;refine zzn ?_;refine T_ret ?_
    exact ⟨_, [], .one (.tmp rfl), List.nil_sublist _, congrArg boolS (decide_eq_false (fun e => of_decide_eq_false (by simpa using h30) (by rw [e]))).symm, rfl⟩
   ·have hr : a.1 = b.1 := of_decide_eq_true (by simpa using h30)
    have ho : a.2.1.length = b.2.1.length := by omega
    have hq : a.2.2.length = b.2.2.length := by omega
    refine T_len 8 rfl fun la => T_len 16 rfl fun lb => ?_
    unfold big at la lb
    refine T_skip ?_;refine T_seq ?_;refine zr ?_;refine zz ?_;refine zzn ?_;refine T_block ?_;refine T_loop (γ := Nat) (fun g => ⟨_, [(5, intS .i64 (g : Nat)), (3, ptrS (qsC b)), (2, ptrS (qsC a))], [], [], (0, false)⟩) (fun g => g ≤ a.2.1.length ∧ a.2.1.take g = b.2.1.take g) (fun g => a.2.1.length - g) 0 ⟨Nat.zero_le _, rfl⟩ (ent_g zk) ?_
    rintro g ⟨hg, hE⟩
    refine T_seq ?_;refine zr ?_;(iterate 5 refine zz ?_);refine zzn ?_;refine zzc (fun h35 => ?_) fun h35 => ?_
    ·have k35 := of_decide_eq_true h35
     obtain ⟨x, hx⟩ : ∃ x, a.2.1[g]? = some x := ⟨_, List.getElem?_eq_getElem (by omega)⟩
     obtain ⟨y, hy⟩ : ∃ y, b.2.1[g]? = some y := ⟨_, List.getElem?_eq_getElem (by omega)⟩
     refine T_skip ?_;refine T_seq ?_;refine T_block ?_;refine T_drawS 12 (by kernel_rfl) ?_;(iterate 3 refine zz ?_);refine zo (ok_indexAddr rfl rfl rfl (by omega) (y := x) (hx)) ?_;(iterate 4 refine zz ?_);refine zo (ok_indexAddr rfl rfl rfl (by omega) (y := y) (hy)) ?_;refine zz ?_;refine zf rpAll_spec ?_;refine zz ?_;(iterate 2 refine zzn ?_);refine zzc (fun h49 => ?_) fun h49 => ?_
     ·refine zr ?_;refine zz ?_;refine zzn ?_;refine T_ret ?_
      exact ⟨_, [], .one (.tmp rfl), List.nil_sublist _, congrArg boolS (decide_eq_false (fun e => get_ne hx hy (of_decide_eq_false (by simpa using h49)) (by rw [e]))).symm, rfl⟩
     ·refine T_skip ?_;refine T_region ?_;refine zz ?_;refine za ((g + 1 : Nat) : Int) ?_;refine zz ?_;refine zzn ?_
      exact ⟨g + 1, ⟨by omega, tk_succ hx hy hE (of_decide_eq_true (by simpa using h49))⟩, by omega, ent_g (subG_cons rfl (subG_cons rfl (subG_cons rfl (trivial))))⟩
    ·have k35 := of_decide_eq_false h35
     have hOE := tk_all ho (by omega) hE
     refine T_exit ?_;refine T_seq ?_;refine zr ?_;refine zz ?_;refine zzn ?_;refine T_block ?_;refine T_loop (γ := Nat) (fun g => ⟨_, [(6, intS .i64 (g : Nat)), (3, ptrS (qsC b)), (2, ptrS (qsC a))], [], [], (0, false)⟩) (fun g => g ≤ a.2.2.length ∧ a.2.2.take g = b.2.2.take g) (fun g => a.2.2.length - g) 0 ⟨Nat.zero_le _, rfl⟩ (ent_g zk) ?_
     rintro g ⟨hg, hE⟩
     refine T_seq ?_;refine zr ?_;(iterate 5 refine zz ?_);refine zzn ?_;refine zzc (fun h54 => ?_) fun h54 => ?_
     ·have k54 := of_decide_eq_true h54
      obtain ⟨⟨⟨x1, y1⟩, ⟨x2, y2⟩⟩, hx⟩ : ∃ x, a.2.2[g]? = some x := ⟨_, List.getElem?_eq_getElem (by omega)⟩
      obtain ⟨⟨⟨u1, v1⟩, ⟨u2, v2⟩⟩, hy⟩ : ∃ y, b.2.2[g]? = some y := ⟨_, List.getElem?_eq_getElem (by omega)⟩
      refine T_skip ?_;refine T_seq ?_;refine T_block ?_;refine T_drawS 30 (by kernel_rfl) ?_;(iterate 3 refine zz ?_);refine zo (ok_indexAddr rfl rfl rfl (by omega) (y := ((x1, y1), (x2, y2))) (hx)) ?_;refine zz ?_;refine zo ((show OpOK _ _ _ _ _ (aggS (pcan (x1, y1))) from ok_load_agg rfl rfl rfl rfl)) ?_;(iterate 3 refine zz ?_);refine zo (ok_indexAddr rfl rfl rfl (by omega) (y := ((u1, v1), (u2, v2))) (hy)) ?_;refine zz ?_;refine zo ((show OpOK _ _ _ _ _ (aggS (pcan (u1, v1))) from ok_load_agg rfl rfl rfl rfl)) ?_;refine zf rpAlike_spec ?_
      refine Run.oneB (ok_not rfl rfl) rfl rfl rfl (fun h11_13 => ?_) (fun h11_13 => ?_)
      ·refine zz ?_;(iterate 14 refine zq ?_);refine zz ?_;(iterate 2 refine zzn ?_);refine T_condT rfl rfl ?_;refine zr ?_;refine zz ?_;refine zzn ?_;refine T_ret ?_
       exact ⟨_, [], .one (.tmp rfl), List.nil_sublist _, congrArg boolS (decide_eq_false (fun e => get_ne hx hy (fun e2 => by simp only [Prod.mk.injEq] at e2; exact of_decide_eq_false (show decide (x1 = u1 ∧ y1 = v1) = false by cases hc : decide (x1 = u1 ∧ y1 = v1) with | false => rfl | true => rw [hc] at h11_13; cases h11_13) e2.1) (by rw [e]))).symm, rfl⟩
      ·refine zz ?_;(iterate 3 refine zz ?_);refine zo (ok_indexAddr rfl rfl rfl (by omega) (y := ((x1, y1), (x2, y2))) (hx)) ?_;refine zz ?_;refine zo ((show OpOK _ _ _ _ _ (aggS (pcan (x2, y2))) from ok_load_agg rfl rfl rfl rfl)) ?_;(iterate 3 refine zz ?_);refine zo (ok_indexAddr rfl rfl rfl (by omega) (y := ((u1, v1), (u2, v2))) (hy)) ?_;refine zz ?_;refine zo ((show OpOK _ _ _ _ _ (aggS (pcan (u2, v2))) from ok_load_agg rfl rfl rfl rfl)) ?_;refine zf rpAlike_spec ?_;(iterate 2 refine zz ?_);(iterate 2 refine zzn ?_);refine zzc (fun h86 => ?_) fun h86 => ?_
       ·refine zr ?_;refine zz ?_;refine zzn ?_;refine T_ret ?_
        exact ⟨_, [], .one (.tmp rfl), List.nil_sublist _, congrArg boolS (decide_eq_false (fun e => get_ne hx hy (fun e2 => by simp only [Prod.mk.injEq] at e2; exact of_decide_eq_false (show decide (x2 = u2 ∧ y2 = v2) = false by cases hc : decide (x2 = u2 ∧ y2 = v2) with | false => rfl | true => rw [hc] at h86; cases h86) e2.2) (by rw [e]))).symm, rfl⟩
       ·refine T_skip ?_;refine T_region ?_;refine zz ?_;refine za ((g + 1 : Nat) : Int) ?_;refine zz ?_;refine zzn ?_
        exact ⟨g + 1, ⟨by omega, tk_succ hx hy hE (by obtain ⟨e1, e2⟩ := of_decide_eq_true (show decide (x1 = u1 ∧ y1 = v1) = true by simpa using h11_13); obtain ⟨e3, e4⟩ := of_decide_eq_true (show decide (x2 = u2 ∧ y2 = v2) = true by simpa using h86); rw [e1, e2, e3, e4])⟩, by omega, ent_g (subG_cons rfl (subG_cons rfl (subG_cons rfl (trivial))))⟩
     ·have k54 := of_decide_eq_false h54
      refine T_exit ?_;refine zr ?_;refine zz ?_;refine zzn ?_;refine T_ret ?_
      exact ⟨_, [], .one (.tmp rfl), List.nil_sublist _, congrArg boolS (decide_eq_true (Prod.ext hr (Prod.ext hOE (tk_all hq (by omega) hE)))).symm, rfl⟩
end Go.Proofs
/- A scene's text, read again; what any text is read as: plain facts. -/
namespace Num
open Go Go.Lib Go.Proofs
def qL (q : QS) : List (List UInt8 × List (Rat × Rat)) := (wRob, q.1) :: (q.2.1.map (fun l => (wObs, l)) ++ q.2.2.map fun x => (wQue, [x.1, x.2]))
def prT (q : QS) : List UInt8 := nl ((qL q).map lineT)
theorem wd_rob : wdOk wRob := ⟨by decide, by decide⟩
theorem wd_obs : wdOk wObs := ⟨by decide, by decide⟩
theorem wd_que : wdOk wQue := ⟨by decide, by decide⟩
theorem qL_wd (q : QS) : ∀ x ∈ qL q, wdOk x.1 := fun x hx => by
 unfold qL at hx
 rcases List.mem_cons.1 hx with rfl | hx
 ·exact wd_rob
 ·rcases List.mem_append.1 hx with hx | hx
  ·obtain ⟨l, _, rfl⟩ := List.mem_map.1 hx; exact wd_obs
  ·obtain ⟨l, _, rfl⟩ := List.mem_map.1 hx; exact wd_que
theorem nl_map {α : Type} (f : α → List UInt8) (l : List α) : nl (l.map f) = l.flatMap fun x => f x ++ [10] := by unfold nl; rw [List.flatMap_map]
theorem scT_eq (s : Sc) : scT s = prT (nrm s) := by
 have e : qL (nrm s) = (scL s).map fun x => (x.1, pvs x.2) := by
  unfold qL nrm scL
  rw [List.map_cons, List.map_append, List.map_map, List.map_map, List.map_map, List.map_map]
  rfl
 unfold prT
 rw [e, List.map_map, nl_map]; rfl
theorem P60_app {l m : List (Rat × Rat)} (h : P60 (l ++ m)) : P60 l ∧ P60 m := ⟨fun p hp => h p (by simp [hp]), fun p hp => h p (by simp [hp])⟩
theorem parse_good {q : QS} (hR : q.1 ≠ []) (hO : ∀ l ∈ q.2.1, l ≠ []) (h60 : P60 (qsPts q)) : parseF (prT q) = if 6 < dgF 0 (qsPts q) then (([], [], []), 3) else (q, 0) := by
 obtain ⟨r, obs, que⟩ := q
 simp only at hR hO
 obtain ⟨h1, h2⟩ := P60_app h60
 obtain ⟨h3, h4⟩ := P60_app h2
 unfold prT
 rw [parse_nl (by simp [qL]) (qL_wd _)]
 unfold qL
 rw [List.foldl_cons, List.foldl_append]
 have e : stepX (some rd0) (wRob, r) = some ⟨r, [], [], big3 ((0 : Int) = 3 ∨ 6 < dgF 0 r)⟩ := by
  show lineW rd0 wRob (r.flatMap ptT) = _
  rw [line_ok hR h1 (.inl rfl)]
  unfold doF
  rw [if_pos rfl]
  exact (if_pos rfl).trans rfl
 show finF ((que.map fun q => (wQue, [q.1, q.2])).foldl stepX ((obs.map fun l => (wObs, l)).foldl stepX (stepX (some rd0) (wRob, r)))) = _
 rw [e, fold_obs (rd := ⟨r, [], [], big3 ((0 : Int) = 3 ∨ 6 < dgF 0 r)⟩) hR rfl (big3_or _) (fun l hl => ⟨hO l hl, fun p hp => h3 p (List.mem_flatten.2 ⟨l, hl, hp⟩)⟩), fold_que (rd := ⟨r, [] ++ obs, [], big3 (big3 ((0 : Int) = 3 ∨ 6 < dgF 0 r) = 3 ∨ 6 < dgF 0 obs.flatten)⟩) hR (big3_or _) (fun x hx p hp => h4 p (List.mem_flatMap.2 ⟨x, hx, hp⟩))]
 rw [big3_eq (show (big3 (big3 ((0 : Int) = 3 ∨ 6 < dgF 0 r) = 3 ∨ 6 < dgF 0 obs.flatten) = 3 ∨ 6 < dgF 0 (que.flatMap fun q => [q.1, q.2])) ↔ 6 < dgF 0 (qsPts (r, obs, que)) by
  rw [big3_three, big3_three]; unfold qsPts; rw [dgF_app, dgF_app]; simp only; omega)]
 unfold finF big3
 by_cases h : 6 < dgF 0 (qsPts (r, obs, que))
 ·rw [if_pos h, if_pos h]; rfl
 ·rw [if_neg h, if_neg h]; rfl
theorem dgF_gt {n : Nat} {l : List (Rat × Rat)} : n < dgF 0 l ↔ ∃ p ∈ l, n < nD p.1 ∨ n < nD p.2 := by
  induction l with
  | nil => simp [dgF]
  | cons p l ih =>
    rw [dgF_cons]
    constructor
    · intro h
      by_cases h1 : n < nD p.1 ∨ n < nD p.2
      · exact ⟨p, by simp, h1⟩
      · obtain ⟨q, hq, hh⟩ := ih.1 (by omega)
        exact ⟨q, by simp [hq], hh⟩
    · rintro ⟨q, hq, hh⟩
      rcases List.mem_cons.1 hq with rfl | hq
      · omega
      · have := ih.2 ⟨q, hq, hh⟩; omega
/-! what any text is read as -/
def rdPts (rd : Rd) : List (Rat × Rat) := qsPts (rd.rob, rd.obs, rd.que)
structure RInv (rd : Rd) : Prop where
 code : rd.code = 0 ∨ rd.code = 2 ∨ rd.code = 3
 obs : ∀ l ∈ rd.obs, l ≠ []
 dig : rd.code = 0 → ∀ p ∈ rdPts rd, nD p.1 ≤ 6 ∧ nD p.2 ≤ 6
theorem rdW_zero {k : Int} {w : List UInt8} (h : rdW k w = 0) : k = 0 ∧ (num3 w).2.2 ≠ 30 ∧ (num3 w).2.1 ≤ 6 := by
 unfold rdW worF at h
 split at h
 ·split at h <;> omega
 ·split at h
  ·split at h <;> omega
  ·exact ⟨h, by assumption, by omega⟩
theorem rdW_code {k : Int} {w : List UInt8} (h : k = 0 ∨ k = 2 ∨ k = 3) : rdW k w = 0 ∨ rdW k w = 2 ∨ rdW k w = 3 := by
 unfold rdW worF
 split
 ·split <;> omega
 ·split
  ·split <;> omega
  ·exact h
theorem cdF_zero : ∀ {ws : List (List UInt8)} {k : Int}, cdF k ws = 0 → k = 0 ∧ ∀ w ∈ ws, (num3 w).2.2 ≠ 30 ∧ (num3 w).2.1 ≤ 6
  | [], k, h => ⟨h, fun _ h => by cases h⟩
  | w :: ws, k, h => by
    obtain ⟨h1, h2⟩ := cdF_zero (ws := ws) (k := rdW k w) h
    obtain ⟨h3, h4⟩ := rdW_zero h1
    exact ⟨h3, fun x hx => by rcases List.mem_cons.1 hx with rfl | hx; exact h4; exact h2 x hx⟩
theorem cdF_code : ∀ {ws : List (List UInt8)} {k : Int}, (k = 0 ∨ k = 2 ∨ k = 3) → cdF k ws = 0 ∨ cdF k ws = 2 ∨ cdF k ws = 3
 | [], _, h => h
 | _ :: ws, _, h => cdF_code (ws := ws) (rdW_code h)
theorem num_small {w : List UInt8} (hg : gdW w = true) (h : (num3 w).2.2 ≠ 30 ∧ (num3 w).2.1 ≤ 6) : nD (num3 w).1 ≤ 6 := by
 have h60 : (num3 w).2.2 ≠ 60 := bne_iff_ne.1 hg
 have h0 : (num3 w).2.2 = 0 := by have := num3_err w; omega
 obtain ⟨q2, k2, hn⟩ : ∃ q2 k2, num3 w = (q2, k2, 0) := ⟨_, _, Prod.ext rfl (Prod.ext rfl h0)⟩
 obtain ⟨_, h1, _⟩ := num3_ok hn
 rw [hn] at h ⊢
 rw [kD_nD] at h1
 simp only at h ⊢
 omega
theorem pts_small : ∀ {ws : List (List UInt8)}, ws.all gdW = true → (∀ w ∈ ws, (num3 w).2.2 ≠ 30 ∧ (num3 w).2.1 ≤ 6) → ∀ p ∈ ptsF ws, nD p.1 ≤ 6 ∧ nD p.2 ≤ 6
  | [], _, _, p, hp => by cases hp
  | [_], _, _, p, hp => by cases hp
  | x :: y :: r, hg, h, p, hp => by
    simp only [List.all_cons, Bool.and_eq_true] at hg
    rcases List.mem_cons.1 (show p ∈ ((num3 x).1, (num3 y).1) :: ptsF r from hp) with rfl | hp
    · exact ⟨num_small hg.1 (h x (by simp)), num_small hg.2.1 (h y (by simp))⟩
    · exact pts_small hg.2.2 (fun w hw => h w (by simp [hw])) p hp
theorem doF_facts {rd rd' : Rd} {w : List UInt8} {l : List (Rat × Rat)} (h : doF rd w l = some rd') (hl : l ≠ []) : rd'.rob ≠ [] ∧ rd'.code = rd.code ∧ (∀ x ∈ rd'.obs, x ∈ rd.obs ∨ x = l) ∧ (∀ p ∈ rdPts rd', p ∈ rdPts rd ∨ p ∈ l) ∧ (rdPts rd').length ≤ (rdPts rd).length + l.length ∧ rd'.obs.length + rd'.que.length ≤ rd.obs.length + rd.que.length + 1 := by
 unfold doF at h
 split at h
 ·split at h
  ·rename_i hr
   cases h
   refine ⟨hl, rfl, fun x hx => .inl hx, fun p hp => ?_, ?_, Nat.le_succ _⟩
   ·unfold rdPts qsPts at hp ⊢
    rcases List.mem_append.1 hp with hp | hp
    ·exact .inr hp
    ·exact .inl (List.mem_append.2 (.inr hp))
   ·unfold rdPts qsPts; simp only [List.length_append]; omega
  ·cases h
 ·split at h
  ·split at h
   ·cases h
   ·rename_i hn
    cases h
    refine ⟨fun e => hn (.inl e), rfl, fun x hx => ?_, fun p hp => ?_, ?_, ?_⟩
    ·rcases List.mem_append.1 hx with hx | hx
     ·exact .inl hx
     ·exact .inr (List.mem_singleton.1 hx)
    ·unfold rdPts qsPts at hp ⊢
     simp only [List.flatten_append, List.flatten_cons, List.flatten_nil, List.append_nil, List.mem_append] at hp ⊢
     rcases hp with hp | (hp | hp) | hp
     ·exact .inl (.inl hp)
     ·exact .inl (.inr (.inl hp))
     ·exact .inr hp
     ·exact .inl (.inr (.inr hp))
    ·unfold rdPts qsPts
     simp only [List.flatten_append, List.flatten_cons, List.flatten_nil, List.append_nil, List.length_append]; omega
    ·simp only [List.length_append, List.length_singleton]; omega
  ·split at h
   ·split at h
    ·split at h
     ·cases h
     ·rename_i hr
      cases h
      refine ⟨hr, rfl, fun x hx => .inl hx, fun p hp => ?_, ?_, ?_⟩
      ·unfold rdPts qsPts at hp ⊢
       simp only [List.flatMap_append, List.flatMap_cons, List.flatMap_nil, List.append_nil, List.mem_append] at hp ⊢
       rcases hp with hp | hp | hp | hp
       ·exact .inl (.inl hp)
       ·exact .inl (.inr (.inl hp))
       ·exact .inl (.inr (.inr hp))
       ·exact .inr hp
      ·unfold rdPts qsPts
       simp only [List.flatMap_append, List.flatMap_cons, List.flatMap_nil, List.append_nil, List.length_append, List.length_cons, List.length_nil]; omega
      ·simp only [List.length_append, List.length_singleton]; omega
    ·cases h
   ·cases h
theorem lineF_inv {rd rd' : Rd} {s : List UInt8} (hi : RInv rd) (h : lineF rd s = some rd') : RInv rd' ∧ rd'.rob ≠ [] ∧ (rdPts rd').length ≤ (rdPts rd).length + s.length ∧ rd'.obs.length + rd'.que.length ≤ rd.obs.length + rd.que.length + 1 := by
  unfold lineF at h
  split at h
  · have hsl := spl_len 32 s
    cases hs : spl 32 s with
    | nil => rw [hs] at h; cases h
    | cons w r =>
      rw [hs] at h hsl
      simp only at h
      unfold lineW at h
      split at h
      · rename_i hg
        rw [Bool.and_eq_true] at hg
        have hne : ptsF r ≠ [] := by intro e; have := hg.2; unfold okP at this; rw [e] at this; simp at this
        obtain ⟨f1, f2, f3, f4, f5, f6⟩ := doF_facts h hne
        have hpl := pts_len r
        rw [List.length_cons] at hsl
        refine ⟨⟨by rw [f2]; exact cdF_code hi.code, fun x hx => ?_, fun h0 p hp => ?_⟩, f1, ?_, f6⟩
        · rcases f3 x hx with h | rfl
          · exact hi.obs x h
          · exact hne
        · rw [f2] at h0
          obtain ⟨z1, z2⟩ := cdF_zero h0
          rcases f4 p hp with h | h
          · exact hi.dig z1 p h
          · exact pts_small hg.1 z2 p h
        · have : (rdPts rd').length ≤ (rdPts rd).length + (ptsF r).length := f5
          omega
      · cases h
  · cases h
theorem go_inv : ∀ {ls : List (List UInt8)} {rd rd' : Rd}, RInv rd → ls.foldl stepF (some rd) = some rd' → RInv rd' ∧ (ls ≠ [] ∨ rd.rob ≠ [] → rd'.rob ≠ []) ∧ (rdPts rd').length + rd'.obs.length + rd'.que.length ≤ (rdPts rd).length + rd.obs.length + rd.que.length + (nl ls).length
  | [], rd, rd', hi, h => by
    cases h
    exact ⟨hi, fun h => h.elim (fun h => absurd rfl h) id, Nat.le_add_right _ _⟩
  | s :: ls, rd, rd', hi, h => by
    rw [List.foldl_cons] at h
    cases h1 : lineF rd s with
    | none =>
      rw [show stepF (some rd) s = none from h1, step_none] at h; cases h
    | some rd1 =>
      rw [show stepF (some rd) s = some rd1 from h1] at h
      obtain ⟨i1, i2, i3, i4⟩ := lineF_inv hi h1
      obtain ⟨j1, j2, j3⟩ := go_inv i1 h
      refine ⟨j1, fun _ => j2 (.inr i2), ?_⟩
      have e : (nl (s :: ls)).length = s.length + 1 + (nl ls).length := by unfold nl; rw [List.flatMap_cons]; simp; omega
      omega
theorem rinv0 : RInv rd0 := ⟨.inl rfl, fun l hl => (by cases hl), fun _ p hp => (by simp [rdPts, qsPts, rd0] at hp)⟩
theorem parse_facts (t : List UInt8) : ((parseF t).2 = 0 → (parseF t).1.1 ≠ [] ∧ (∀ l ∈ (parseF t).1.2.1, l ≠ []) ∧ (∀ p ∈ qsPts (parseF t).1, nD p.1 ≤ 6 ∧ nD p.2 ≤ 6) ∧ (qsPts (parseF t).1).length + (parseF t).1.2.1.length + (parseF t).1.2.2.length ≤ t.length + 1 ∧ lnOk t = true) ∧ ((parseF t).2 ≠ 0 → (parseF t).1 = ([], [], []) ∧ 1 ≤ (parseF t).2 ∧ (parseF t).2 ≤ 3) := by
  unfold parseF
  by_cases hok : lnOk t = true
  · rw [if_pos hok]
    have hne : spl 10 (trimSuffix t [10]) ≠ [] := spl_ne _ _
    have hsz : (nl (spl 10 (trimSuffix t [10]))).length ≤ t.length + 1 := by
      have h1 := nl_join hne
      have h2 := join_spl 10 (trimSuffix t [10])
      rw [h2] at h1
      have h3 := ts_len t 10
      rw [h1, List.length_append, List.length_singleton]; omega
    cases hg : goF (spl 10 (trimSuffix t [10])) with
    | none => exact ⟨fun h => by simp at h, fun _ => ⟨rfl, by decide, by decide⟩⟩
    | some rd =>
      obtain ⟨i1, i2, i3⟩ := go_inv rinv0 hg
      simp only
      by_cases hc : rd.code = 0
      · rw [if_neg (fun h => h hc)]
        refine ⟨fun _ => ⟨i2 (.inl hne), i1.obs, i1.dig hc, ?_, hok⟩, fun h => absurd rfl h⟩
        have e : (rdPts rd0).length + rd0.obs.length + rd0.que.length = 0 := rfl
        have e2 : (qsPts (rd.rob, rd.obs, rd.que)).length = (rdPts rd).length := rfl
        simp only
        omega
      · rw [if_pos hc]
        refine ⟨fun h => absurd h hc, fun _ => ⟨rfl, ?_⟩⟩
        have := i1.code
        simp only
        omega
  · rw [if_neg hok]
    exact ⟨fun h => by simp at h, fun _ => ⟨rfl, by decide, by decide⟩⟩
end Num
/- The law SceneBack, on the facts. -/
namespace Go.Proofs
open Go Go.Sv Num
variable {G : Imm}
theorem bq_of {q : Rat} (h : nD q ≤ 6) : Bq q 1 := by
 unfold nD at h
 have h1 := Lib.lt_pow_nDigits q.num.natAbs
 have h2 := Lib.lt_pow_nDigits q.den
 have p1 : 10 ^ Lib.nDigits q.num.natAbs ≤ 10 ^ 6 := Nat.pow_le_pow_right (by decide) (by omega)
 have p2 : 10 ^ Lib.nDigits q.den ≤ 10 ^ 6 := Nat.pow_le_pow_right (by decide) (by omega)
 exact ⟨Nat.lt_of_lt_of_le h1 (Nat.le_trans p1 (by decide)), Nat.lt_of_lt_of_le h2 (Nat.le_trans p2 (by decide))⟩
theorem parsed_ok {t : List UInt8} (ht : t.length ≤ 2000) (h0 : (parseF t).2 = 0) : ScOk (rawS (parseF t).1) 1 5000 ∧ parseF (scT (rawS (parseF t).1)) = ((parseF t).1, 0) := by
 obtain ⟨f1, f2, f3, f4, _⟩ := (parse_facts t).1 h0
 refine ⟨raw_scok (by decide) (fun p hp => ⟨bq_of (f3 p hp).1, bq_of (f3 p hp).2⟩) (by omega) (by omega), ?_⟩
 rw [scT_eq, nrm_raw, parse_good f1 f2 (fun p hp => ⟨by have := (f3 p hp).1; omega, by have := (f3 p hp).2; omega⟩), if_neg]
 intro h
 obtain ⟨p, hp, h⟩ := dgF_gt.1 h
 have := f3 p hp
 omega
end Go.Proofs
