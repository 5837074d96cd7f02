/- A scene's text, read again: plain facts. -/
import Derived.Test.YtofplgefmjojjaaGreatDoorSci
namespace Num
open Go Go.Lib Go.Proofs
def lineT (x : List UInt8 × List (Rat × Rat)) : List UInt8 := join (rowW x.1 x.2) [32]
def wdOk (w : List UInt8) : Prop := w ≠ [] ∧ ∀ c ∈ w, c ≠ 32 ∧ c ≠ 10
theorem dec_wd (n : Nat) : ∀ c ∈ decDigits n, c ≠ 32 ∧ c ≠ 10 := fun c h => ⟨all_ne (dec_all n) rfl c h, all_ne (dec_all n) rfl c h⟩
theorem dec_ne0 (n : Nat) : decDigits n ≠ [] := fun h => by
 have h1 : (decDigits n).length = nDigits n := decDigits_length n
 have h2 := nDigits_pos n
 rw [h, List.length_nil] at h1; omega
theorem itxt_wd (z : Int) : wdOk (itxt z) := by
 unfold itxt
 split
 ·refine ⟨by simp, fun c h => ?_⟩
  rcases List.mem_cons.1 h with rfl | h
  ·decide
  ·exact dec_wd _ c h
 ·exact ⟨dec_ne0 _, dec_wd _⟩
theorem txt_wd (q : Rat) : wdOk (txtF q) := by
 obtain ⟨h1, h2⟩ := itxt_wd q.num
 unfold txtF
 refine ⟨fun h => h1 (List.append_eq_nil_iff.1 h).1, fun c h => ?_⟩
 rcases List.mem_append.1 h with h | h
 ·exact h2 c h
 ·split at h
  ·cases h
  ·rcases List.mem_cons.1 h with rfl | h
   ·decide
   ·exact dec_wd _ c h
theorem row_wd {w : List UInt8} (hw : wdOk w) (l : List (Rat × Rat)) : ∀ x ∈ rowW w l, wdOk x := fun x hx => by
 rcases List.mem_cons.1 hx with rfl | hx
 ·exact hw
 ·obtain ⟨p, _, hp⟩ := List.mem_flatMap.1 hx
  rcases List.mem_cons.1 hp with rfl | hp
  ·exact txt_wd _
  ·rw [List.mem_singleton.1 hp]; exact txt_wd _
theorem ful_wd {ws : List (List UInt8)} (h : ∀ x ∈ ws, wdOk x) : ful ws = true := List.all_eq_true.2 fun x hx => by
 cases x with
 | nil => exact absurd rfl (h [] hx).1
 | cons _ _ => rfl
theorem line_spl {w : List UInt8} (hw : wdOk w) (l : List (Rat × Rat)) : spl 32 (lineT (w, l)) = rowW w l := spl_join (by simp [rowW]) fun x hx c hc => ((row_wd hw l x hx).2 c hc).1
theorem mem_join {c d : UInt8} : ∀ {ws : List (List UInt8)}, c ∈ join ws [d] → c = d ∨ ∃ x ∈ ws, c ∈ x
  | [], h => by simp [join] at h
  | [w], h => .inr ⟨w, by simp, by simpa [join] using h⟩
  | w :: y :: v, h => by
    have e : join (w :: y :: v) [d] = (w ++ [d]) ++ join (y :: v) [d] := by unfold join; rw [List.intercalate_cons_cons]
    rw [e] at h
    rcases List.mem_append.1 h with h | h
    · rcases List.mem_append.1 h with h | h
      · exact .inr ⟨w, by simp, h⟩
      · exact .inl (List.mem_singleton.1 h)
    · rcases mem_join h with h | ⟨x, hx, h⟩
      · exact .inl h
      · exact .inr ⟨x, by simp [List.mem_cons.1 hx], h⟩
theorem line_wd {w : List UInt8} (hw : wdOk w) (l : List (Rat × Rat)) : lineT (w, l) ≠ [] ∧ ∀ c ∈ lineT (w, l), c ≠ 10 := by
 refine ⟨fun h => ?_, fun c hc => ?_⟩
 ·have := line_spl hw l
  rw [h] at this
  exact (row_wd hw l [] (by rw [← this]; simp [spl])).1 rfl
 ·rcases mem_join hc with rfl | ⟨x, hx, h⟩
  ·decide
  ·exact ((row_wd hw l x hx).2 c h).2
theorem lines_nl {ws : List (List UInt8)} (hne : ws ≠ []) (hf : ful ws = true) (h10 : ∀ w ∈ ws, ∀ x ∈ w, x ≠ 10) : lnOk (nl ws) = true ∧ spl 10 (trimSuffix (nl ws) [10]) = ws := by
 have hj := spl_join hne h10
 obtain ⟨l1, l2⟩ := lnOk_snoc (join ws [10])
 exact ⟨by rw [nl_join hne, l1, hj, hf], by rw [nl_join hne, l2, hj]⟩
theorem lineF_T {rd : Rd} {w : List UInt8} (hw : wdOk w) (l : List (Rat × Rat)) : lineF rd (lineT (w, l)) = lineW rd w (l.flatMap ptT) := by
 unfold lineF
 rw [line_spl hw l, ful_wd (row_wd hw l), if_pos rfl]; rfl
theorem kD_nD (q : Rat) : kD q = nD q := by
 unfold kD nD
 split
 ·rename_i h
  have h1 := nDigits_pos q.num.natAbs
  have h2 : nDigits 1 = 1 := nDigits_small (by decide)
  rw [h, h2]; omega
 ·rfl
theorem num_back {q : Rat} (h : nD q ≤ 60) : num3 (txtF q) = (q, ((nD q : Nat) : Int), 0) := by
 unfold nD at h
 rw [num3_back (by omega) (by omega), kD_nD]
theorem okD_long {l : List UInt8} (h : 60 < l.length) : okD l = false := by
 unfold okD; rw [decide_eq_false (by omega), Bool.false_and, Bool.and_false]
theorem num_long {q : Rat} (h : 60 < nD q) : (num3 (txtF q)).2.2 = 60 := by
 obtain ⟨p1, p2⟩ := pre_itxt q.num
 have hn : ∀ n, (decDigits n).length = nDigits n := decDigits_length
 unfold num3 txtF
 by_cases hd : q.den = 1
 ·rw [if_pos hd, List.append_nil, cut_none (itxt_ne47 q.num), numF_bad1]
  rw [p2]
  refine okD_long ?_
  have h2 : nDigits 1 = 1 := nDigits_small (by decide)
  have h3 := nDigits_pos q.num.natAbs
  rw [hn]; unfold nD at h; rw [hd, h2] at h; omega
 ·rw [if_neg hd, cut_app _ (itxt_ne47 q.num)]
  by_cases h1 : 60 < nDigits q.num.natAbs
  ·rw [numF_bad1]; rw [p2]; exact okD_long (by rw [hn]; exact h1)
  ·rw [numF_bad2]; exact okD_long (by rw [hn]; unfold nD at h; omega)
abbrev P60 (l : List (Rat × Rat)) : Prop := ∀ p ∈ l, nD p.1 ≤ 60 ∧ nD p.2 ≤ 60
theorem pts_flat : ∀ {l : List (Rat × Rat)}, P60 l → ptsF (l.flatMap ptT) = l
  | [], _ => rfl
  | (a, b) :: l, h => by
    have h1 := h (a, b) (by simp)
    show ((num3 (txtF a)).1, (num3 (txtF b)).1) :: ptsF (l.flatMap ptT) = _
    rw [num_back h1.1, num_back h1.2, pts_flat fun p hp => h p (by simp [hp])]
theorem len_flat (l : List (Rat × Rat)) : (l.flatMap ptT).length = 2 * l.length := by
 have := rowW_len [] l
 unfold rowW at this
 rw [List.length_cons] at this; omega
theorem gd_flat {l : List (Rat × Rat)} (h : P60 l) : (l.flatMap ptT).all gdW = true := List.all_eq_true.2 fun x hx => by
 obtain ⟨p, hp, hx⟩ := List.mem_flatMap.1 hx
 have h1 := h p hp
 refine gd_of ?_
 rcases List.mem_cons.1 hx with rfl | hx
 ·rw [num_back h1.1]; show (0 : Int) ≠ 60; decide
 ·rw [List.mem_singleton.1 hx, num_back h1.2]; show (0 : Int) ≠ 60; decide
theorem dgF_cons (p : Rat × Rat) (l : List (Rat × Rat)) : dgF 0 (p :: l) = max (max (nD p.1) (nD p.2)) (dgF 0 l) := by
 have : dgF 0 (p :: l) = dgF (max (max 0 (nD p.1)) (nD p.2)) l := rfl
 rw [this, dgF_max]; omega
def big3 (c : Prop) [Decidable c] : Int := if c then 3 else 0
theorem big3_or (c : Prop) [Decidable c] : big3 c = 0 ∨ big3 c = 3 := by unfold big3; split <;> simp
theorem big3_eq {c d : Prop} [Decidable c] [Decidable d] (h : c ↔ d) : big3 c = big3 d := by
 unfold big3
 by_cases hc : c
 ·rw [if_pos hc, if_pos (h.1 hc)]
 ·rw [if_neg hc, if_neg fun hd => hc (h.2 hd)]
theorem big3_three (c : Prop) [Decidable c] : big3 c = 3 ↔ c := by
 unfold big3
 by_cases hc : c
 ·rw [if_pos hc]; exact ⟨fun _ => hc, fun _ => rfl⟩
 ·rw [if_neg hc]; exact ⟨fun h => by omega, fun h => absurd h hc⟩
theorem rd_txt {k : Int} {q : Rat} (h : nD q ≤ 60) (hk : k = 0 ∨ k = 3) : rdW k (txtF q) = big3 (k = 3 ∨ 6 < nD q) := by
 unfold rdW big3
 rw [num_back h, if_neg (show ¬ (0 : Int) = 30 by decide)]
 simp only
 rcases hk with rfl | rfl
 ·by_cases h6 : 6 < nD q
  ·rw [if_pos (show (6 : Int) < (nD q : Int) by omega), if_pos (.inr h6)]; rfl
  ·rw [if_neg (show ¬ (6 : Int) < (nD q : Int) by omega), if_neg (by omega)]
 ·rw [if_pos (show (3 : Int) = 3 ∨ 6 < nD q from .inl rfl)]; split <;> rfl
theorem cd_flat : ∀ {l : List (Rat × Rat)} {k : Int}, P60 l → (k = 0 ∨ k = 3) → cdF k (l.flatMap ptT) = big3 (k = 3 ∨ 6 < dgF 0 l)
  | [], k, _, hk => by
    show k = _
    unfold big3
    rcases hk with rfl | rfl
    · rw [if_neg (by intro h; rcases h with h | h; omega; simp [dgF] at h)]
    · rw [if_pos (.inl rfl)]
  | (a, b) :: l, k, h, hk => by
    have h1 := h (a, b) (by simp)
    show cdF (rdW (rdW k (txtF a)) (txtF b)) (l.flatMap ptT) = _
    rw [rd_txt h1.1 hk, rd_txt h1.2 (big3_or _), cd_flat (fun p hp => h p (by simp [hp])) (big3_or _), dgF_cons]
    refine big3_eq ?_
    rw [big3_three, big3_three]
    simp only
    omega
theorem line_ok {rd : Rd} {w : List UInt8} {l : List (Rat × Rat)} (hl : l ≠ []) (h : P60 l) (hk : rd.code = 0 ∨ rd.code = 3) : lineW rd w (l.flatMap ptT) = doF { rd with code := big3 (rd.code = 3 ∨ 6 < dgF 0 l) } w l := by
 unfold lineW
 have ho : okP (l.flatMap ptT) = true := by
  unfold okP
  rw [pts_flat h, len_flat, decide_eq_true (by omega), decide_eq_true (by have := List.length_pos_iff.2 hl; omega)]; rfl
 rw [gd_flat h, ho, if_pos (show (true && true) = true from rfl), pts_flat h, cd_flat h hk]
theorem line_bad {rd : Rd} {w : List UInt8} {l : List (Rat × Rat)} (h : l = [] ∨ ∃ p ∈ l, 60 < nD p.1 ∨ 60 < nD p.2) : lineW rd w (l.flatMap ptT) = none := by
 unfold lineW
 rcases h with rfl | ⟨p, hp, h⟩
 ·rfl
 ·have : (l.flatMap ptT).all gdW = false := by
   rcases h with h | h
   ·exact all_bad (List.mem_flatMap.2 ⟨p, hp, by simp [ptT]⟩) (num_long h)
   ·exact all_bad (List.mem_flatMap.2 ⟨p, hp, by simp [ptT]⟩) (num_long h)
  rw [this]; rfl
def stepX (o : Option Rd) (x : List UInt8 × List (Rat × Rat)) : Option Rd := o.bind fun rd => lineW rd x.1 (x.2.flatMap ptT)
theorem stepX_none (xs : List (List UInt8 × List (Rat × Rat))) : xs.foldl stepX none = none := by
 induction xs with
 | nil => rfl
 | cons s r ih => exact ih
theorem go_lines {xs : List (List UInt8 × List (Rat × Rat))} (hw : ∀ x ∈ xs, wdOk x.1) (o : Option Rd) : (xs.map lineT).foldl stepF o = xs.foldl stepX o := by
  induction xs generalizing o with
  | nil => rfl
  | cons x xs ih =>
    rw [List.map_cons, List.foldl_cons, List.foldl_cons, ih fun y hy => hw y (by simp [hy])]
    congr 1
    cases o with
    | none => rfl
    | some rd => exact lineF_T (hw x (by simp)) x.2
def finF (o : Option Rd) : (List (Rat × Rat) × List (List (Rat × Rat)) × List ((Rat × Rat) × (Rat × Rat))) × Int := match o with | none => (([], [], []), 1) | some rd => if rd.code ≠ 0 then (([], [], []), rd.code) else ((rd.rob, rd.obs, rd.que), 0)
theorem parse_nl {xs : List (List UInt8 × List (Rat × Rat))} (hne : xs ≠ []) (hw : ∀ x ∈ xs, wdOk x.1) : parseF (nl (xs.map lineT)) = finF (xs.foldl stepX (some rd0)) := by
 obtain ⟨h1, h2⟩ := lines_nl (ws := xs.map lineT) (by simpa using hne) (List.all_eq_true.2 fun y hy => by
  obtain ⟨x, hx, rfl⟩ := List.mem_map.1 hy
  have := (line_wd (hw x hx) x.2).1
  cases h : lineT x with
  | nil => exact absurd h this
  | cons _ _ => rfl) (fun y hy c hc => by
  obtain ⟨x, hx, rfl⟩ := List.mem_map.1 hy
  exact (line_wd (hw x hx) x.2).2 c hc)
 unfold parseF
 rw [if_pos h1, h2]
 unfold goF
 rw [go_lines hw]; rfl
theorem fold_bad {xs : List (List UInt8 × List (Rat × Rat))} {x : List UInt8 × List (Rat × Rat)} (hx : x ∈ xs) (h : x.2 = [] ∨ ∃ p ∈ x.2, 60 < nD p.1 ∨ 60 < nD p.2) (o : Option Rd) : xs.foldl stepX o = none := by
 obtain ⟨a, b, rfl⟩ := List.append_of_mem hx
 rw [List.foldl_append, List.foldl_cons]
 have : stepX (a.foldl stepX o) x = none := by
  cases a.foldl stepX o with
  | none => rfl
  | some rd => exact line_bad h
 rw [this]; exact stepX_none b
theorem fold_obs : ∀ {obs : List (List (Rat × Rat))} {rd : Rd}, rd.rob ≠ [] → rd.que = [] → (rd.code = 0 ∨ rd.code = 3) → (∀ l ∈ obs, l ≠ [] ∧ P60 l) → (obs.map fun l => (wObs, l)).foldl stepX (some rd) = some ⟨rd.rob, rd.obs ++ obs, [], big3 (rd.code = 3 ∨ 6 < dgF 0 obs.flatten)⟩
  | [], ⟨r, o, q, c⟩, _, hq, hk, _ => by
    simp only at hq hk
    subst hq
    rcases hk with rfl | rfl <;> simp [dgF, big3]
  | l :: obs, ⟨r, o, q, c⟩, hr, hq, hk, h => by
    simp only at hq hk hr
    subst hq
    have hl := h l (by simp)
    rw [List.map_cons, List.foldl_cons]
    have e : stepX (some ⟨r, o, [], c⟩) (wObs, l) = some ⟨r, o ++ [l], [], big3 (c = 3 ∨ 6 < dgF 0 l)⟩ := by
      show lineW _ wObs (l.flatMap ptT) = _
      rw [line_ok hl.1 hl.2 hk]
      unfold doF
      rw [if_neg (by decide), if_pos rfl, if_neg (by simp [hr])]
    rw [e, fold_obs (rd := ⟨r, o ++ [l], [], big3 (c = 3 ∨ 6 < dgF 0 l)⟩) hr rfl (big3_or _) (fun y hy => h y (by simp [hy])), List.flatten_cons, dgF_app]
    simp only [List.append_assoc, List.singleton_append]
    rw [big3_eq (show (big3 (c = 3 ∨ 6 < dgF 0 l) = 3 ∨ 6 < dgF 0 obs.flatten) ↔ (c = 3 ∨ 6 < max (dgF 0 l) (dgF 0 obs.flatten)) by rw [big3_three]; omega)]
theorem fold_que : ∀ {que : List ((Rat × Rat) × (Rat × Rat))} {rd : Rd}, rd.rob ≠ [] → (rd.code = 0 ∨ rd.code = 3) → (∀ q ∈ que, P60 [q.1, q.2]) → (que.map fun q => (wQue, [q.1, q.2])).foldl stepX (some rd) = some ⟨rd.rob, rd.obs, rd.que ++ que, big3 (rd.code = 3 ∨ 6 < dgF 0 (que.flatMap fun q => [q.1, q.2]))⟩
  | [], ⟨r, o, q, c⟩, _, hk, _ => by
    simp only at hk
    rcases hk with rfl | rfl <;> simp [dgF, big3]
  | q :: que, ⟨r, o, qs, c⟩, hr, hk, h => by
    simp only at hk hr
    have hl := h q (by simp)
    rw [List.map_cons, List.foldl_cons]
    have e : stepX (some ⟨r, o, qs, c⟩) (wQue, [q.1, q.2]) = some ⟨r, o, qs ++ [q], big3 (c = 3 ∨ 6 < dgF 0 [q.1, q.2])⟩ := by
      show lineW _ wQue ([q.1, q.2].flatMap ptT) = _
      rw [line_ok (by simp) hl hk]
      unfold doF
      rw [if_neg (by decide), if_neg (by decide), if_pos rfl]
      simp only
      rw [if_neg hr]
    rw [e, fold_que (rd := ⟨r, o, qs ++ [q], big3 (c = 3 ∨ 6 < dgF 0 [q.1, q.2])⟩) hr (big3_or _) (fun y hy => h y (by simp [hy])), List.flatMap_cons, dgF_app]
    simp only [List.append_assoc, List.singleton_append]
    rw [big3_eq (show (big3 (c = 3 ∨ 6 < dgF 0 [q.1, q.2]) = 3 ∨ 6 < dgF 0 (que.flatMap fun q => [q.1, q.2])) ↔ (c = 3 ∨ 6 < max (dgF 0 [q.1, q.2]) (dgF 0 (que.flatMap fun q => [q.1, q.2]))) by rw [big3_three]; omega)]
end Num
/- straitref12: points, digits, the same scenes, scenes in lowest terms. -/
namespace Go.Proofs
open Go Go.Sv Num
variable {G : Imm}
theorem ok_max5 {P : Program} {G : Imm} {H : HL} {o : Oper} {g : List (Nat × SV)} {x y z w v : Operand} {ts : Array TypeId} {k : IntKind} {m n p q s : Int} (hop : o.op = .call { callee := .builtin .max, args := #[x, y, z, w, v], argTypes := ts }) (hx : opE g x = some (intS k m)) (hy : opE g y = some (intS k n)) (hz : opE g z = some (intS k p)) (hw : opE g w = some (intS k q)) (hv : opE g v = some (intS k s)) : OpOK P G H o g (intS k (max (max (max (max m n) p) q) s)) :=
 ok_pure (by simp [hop]) fun I W a _ _ hr => by
  have h1 : a.eval x = .int k m := hr.get (by simp [hop, Op.operands, Call.operands]) hx
  have h2 : a.eval y = .int k n := hr.get (by simp [hop, Op.operands, Call.operands]) hy
  have h3 : a.eval z = .int k p := hr.get (by simp [hop, Op.operands, Call.operands]) hz
  have h4 : a.eval w = .int k q := hr.get (by simp [hop, Op.operands, Call.operands]) hw
  have h5 : a.eval v = .int k s := hr.get (by simp [hop, Op.operands, Call.operands]) hv
  refine ⟨_, ?_, rfl⟩
  have e : ∀ u v : Int, (if v > u then v else u) = max u v := fun u v => by rw [Int.max_def]; split <;> split <;> omega
  simp [execOp, hop, resolve, invoke, builtin, Builtin.max_, Builtin.max2, h1, h2, h3, h4, h5, e]
theorem tk_succ {α : Type} {xs ys : List α} {i : Nat} {x y : α} (hx : xs[i]? = some x) (hy : ys[i]? = some y) (hE : xs.take i = ys.take i) (h : x = y) : xs.take (i + 1) = ys.take (i + 1) := by rw [take_snoc hx, take_snoc hy, hE, h]
theorem tk_all {α : Type} {xs ys : List α} {i : Nat} (hl : xs.length = ys.length) (h : i = xs.length) (hE : xs.take i = ys.take i) : xs = ys := by
 rw [h, List.take_length, hl, List.take_length] at hE; exact hE
theorem get_ne {α : Type} {xs ys : List α} {i : Nat} {x y : α} (hx : xs[i]? = some x) (hy : ys[i]? = some y) (h : x ≠ y) : xs ≠ ys := fun e => by
 rw [e, hy] at hx; exact h (Option.some.inj hx).symm
theorem rpNorm_own {xs : List ((Bool × List Nat × List Nat) × (Bool × List Nat × List Nat))} {k : Nat} (hk : 0 < k) (hl : ∀ p ∈ xs, PtOk k p) (hs : 64 * k + 20000 ≤ 65536) (hxl : xs.length ≤ cap) : CallSpec Tryz.prog G 89 [slS 6 pc xs] [] (fun v H' => ∃ q, rowOk q (pvs xs).length ∧ v = eqS (rowV q (pvs xs).length) ∧ H' = [rowE q 30 6 (pvs xs).length ((pvs xs).flatMap pcan)]) := by
 unfold cap at hxl
 refine fn_spec Tryz.func89 rfl rfl rfl ?_
 refine T_regionS ?_
 refine zz ?_
 refine zx ?_
 refine zz ?_
 refine Run.nil ?_
 refine T_seq ?_
 refine T_regionS ?_
 refine zz ?_
 refine Run.nil ?_
 refine T_block ?_
 refine T_ghost (ghost_row 30 6) ?_
 refine T_loop2 (fun (i : Nat) (q : Option (Nat × Nat)) => ⟨_, [(4, intS .i64 (i : Nat)), (3, eqS (rowV q i)), (0, slS 6 pc xs)], [rowE q 30 6 i (((xs.take i).map pv).flatMap pcan)], [], (0, false)⟩)
   (fun i q => i ≤ xs.length ∧ rowOk q i) (fun i q => xs.length - i)
   0 none ⟨Nat.zero_le _, rfl⟩ (ent_h zk rfl) ?_
 rintro i q ⟨hi, hq⟩
 refine T_seq ?_
 refine T_regionS ?_
 iterate 4 refine zz ?_
 refine Run.nil ?_
 refine T_cond rfl rfl (fun h8 => ?_) (fun h8 => ?_)
 ·have k8 := of_decide_eq_true h8
  obtain ⟨⟨⟨b, l, d⟩, ⟨c, m, e⟩⟩, hp⟩ : ∃ p, xs[i]? = some p := ⟨_, List.getElem?_eq_getElem (by omega)⟩
  have hpm := hl _ (List.mem_of_getElem? hp)
  have i1 : IsQ b l d (qv (b, l, d)) k := isQ_lim hpm.1 hk
  have i2 : IsQ c m e (qv (c, m, e)) k := isQ_lim hpm.2 hk
  have htk : (xs.take (i + 1)).map pv = (xs.take i).map pv ++ [(qv (b, l, d), qv (c, m, e))] := by rw [List.take_add_one, hp]; simp [pv]
  refine T_skip ?_
  refine T_seq ?_
  refine T_block ?_
  refine T_draw 15 (by kernel_rfl) ?_
  iterate 3 refine zz ?_
  refine zo (ok_indexAddr rfl rfl rfl (by omega) (y := ((b, l, d), (c, m, e))) (hp)) ?_
  refine zz ?_
  refine zo ((show OpOK _ _ _ _ _ (aggS [boolS b, natS l, natS d]) from ok_load_agg rfl rfl rfl rfl)) ?_
  refine zf (rqNorm_spec hs) ?_
  iterate 2 refine zz ?_
  refine zo (ok_indexAddr rfl rfl rfl (by omega) (y := ((b, l, d), (c, m, e))) (hp)) ?_
  refine zz ?_
  refine zo ((show OpOK _ _ _ _ _ (aggS [boolS c, natS m, natS e]) from ok_load_agg rfl rfl rfl rfl)) ?_
  refine zf (rqNorm_spec hs) ?_
  refine zz ?_
  refine zo (ok_buildSlice rfl rfl (by decide) rfl (by simp) rfl rfl) ?_
  refine Run.nil ?_
  refine Run.append 0 rfl rfl rfl rfl rfl rfl rfl rfl hq (by rw [flat_pcan]; simp; omega) (fun z hz => by rw [List.mem_singleton.1 hz]; rfl) (by unfold big; simp; omega) (by unfold big; simp; omega) fun q20 hq20 => ?_
  refine zz ?_
  refine Run.nil ?_
  refine T_region ?_
  refine zz ?_
  refine za ((i + 1 : Nat) : Int) ?_
  refine zz ?_
  refine Run.nil ?_
  exact ⟨i + 1, q20, ⟨by omega, hq20⟩, by omega, ent_h (subG_cons rfl (subG_cons rfl (subG_cons rfl (trivial)))) (by rw [htk, List.flatMap_append]; rfl)⟩
 ·have k8 := of_decide_eq_false h8
  have hie : i = xs.length := by omega
  subst hie
  have hpl : (pvs xs).length = xs.length := by unfold pvs; rw [List.length_map]
  rw [List.take_length]
  refine T_exit ?_
  refine T_regionS ?_
  iterate 2 refine zz ?_
  refine Run.nil ?_
  refine T_ret ?_
  exact ⟨_, [_], .one (.tmp rfl), List.Sublist.refl _, q, by rw [hpl]; exact hq, by rw [hpl], by rw [hpl]; rfl⟩
theorem rpoints_spec {s : Sc} {k n : Nat} (h : ScOk s k n) (hs : 64 * k + 20000 ≤ 65536) (hn : n ≤ 1000000) : PSpec Tryz.prog G 87 [aggS (scC s)] (slS 6 pcan ((scPts s).map pv)) := by
 have hrob := h.pt _ (mem_rob s)
 have hrl := h.lrow (mem_rob s)
 have hsl := h.row
 rw [scL_len] at hsl
 simp only at hrob hrl
 refine fn_spec Tryz.func87 rfl rfl rfl ?_
 refine T_regionS ?_
 iterate 2 refine zz ?_
 refine zx ?_
 iterate 2 refine zz ?_
 refine Run.callH [] [] [] rfl rfl rfl rfl (rpNorm_own h.pos hrob (by omega) (by unfold cap; omega)) rfl rfl rfl ?_
 rintro s1 H1 ⟨q0, hq0, rfl, rfl⟩
 refine zz ?_
 refine Run.nil ?_
 refine T_seq ?_
 refine T_regionS ?_
 refine zz ?_
 refine Run.nil ?_
 refine T_block ?_
 refine T_loop2 (fun (g : Nat) (q : Option (Nat × Nat)) => ⟨_, [(4, intS .i64 (g : Nat)), (3, eqS (rowV q (pvs s.1 ++ obP (s.2.1.take g)).length)), (1, ptrS (scC s))], [rowE q 30 6 (pvs s.1 ++ obP (s.2.1.take g)).length ((pvs s.1 ++ obP (s.2.1.take g)).flatMap pcan)], [], (0, false)⟩) (fun g q => g ≤ s.2.1.length ∧ rowOk q (pvs s.1 ++ obP (s.2.1.take g)).length) (fun g _ => s.2.1.length - g) 0 q0 ⟨Nat.zero_le _, by simpa [obP] using hq0⟩ (ent_h (subG_cons rfl (subG_as rfl (by simp [obP]) (subG_cons rfl (trivial)))) (by simp [obP])) ?_
 rintro g q ⟨hg, hq⟩
 refine T_seq ?_
 refine T_regionS ?_
 iterate 5 refine zz ?_
 refine Run.nil ?_
 refine T_cond rfl rfl (fun h13 => ?_) (fun h13 => ?_)
 ·have k13 := of_decide_eq_true h13
  obtain ⟨l, hlr⟩ : ∃ l, s.2.1[g]? = some l := ⟨_, List.getElem?_eq_getElem (by omega)⟩
  have hlm := mem_obs (List.mem_of_getElem? hlr)
  have hpt := h.pt _ hlm
  have hll := h.lrow hlm
  have hsu := obP_succ hlr
  have hpl := pts_le h (g + 1) 0
  rw [hsu] at hpl
  simp only [List.length_append] at hpl
  simp only at hpt hll
  have hplv : (l.map pv).length = (pvs l).length := rfl
  obtain ⟨A, hA⟩ : ∃ A, A = (pvs s.1 ++ obP (s.2.1.take g)) := ⟨_, rfl⟩
  have hAl : A.length = (pvs s.1).length + (obP (s.2.1.take g)).length := by rw [hA, List.length_append]
  have hA2 : pvs s.1 ++ obP (s.2.1.take (g + 1)) = A ++ pvs l := by rw [hsu, hA, List.append_assoc]
  rw [← hA] at hq ⊢
  refine T_skip ?_
  refine T_seq ?_
  refine T_block ?_
  refine T_region ?_
  iterate 4 refine zz ?_
  refine zo (ok_indexAddr rfl rfl rfl (by omega) (y := l) (hlr)) ?_
  refine zz ?_
  refine zo (ok_call rfl rfl (rpNorm_spec h.pos hpt (by omega) (by unfold cap; omega))) ?_
  refine Run.append 0 rfl rfl rfl rfl rfl rfl rfl rfl hq (by rw [flat_pcan]) (fun z hz => rfl) (by unfold big; exact Nat.le_trans (Nat.mul_le_mul_right _ (show _ ≤ 1000000 by omega)) (by decide)) (by unfold big; omega) fun q23 hq23 => ?_
  refine zz ?_
  refine Run.nil ?_
  refine T_region ?_
  refine zz ?_
  refine za ((g + 1 : Nat) : Int) ?_
  refine zz ?_
  refine Run.nil ?_
  exact ⟨g + 1, q23, ⟨by omega, by rw [hA2, List.length_append]; exact hq23⟩, by omega, ent_h (subG_cons rfl (subG_as rfl (by rw [hA2, List.length_append]; rfl) (subG_cons rfl (trivial)))) (by rw [hA2, List.length_append, List.flatMap_append]; rfl)⟩
 ·have k13 := of_decide_eq_false h13
  obtain rfl : g = s.2.1.length := by omega
  rw [List.take_length] at hq ⊢
  refine T_exit ?_
  refine T_seq ?_
  refine T_regionS ?_
  refine zz ?_
  refine Run.nil ?_
  refine T_block ?_
  refine T_loop2 (fun (g : Nat) (q : Option (Nat × Nat)) => ⟨_, [(5, intS .i64 (g : Nat)), (3, eqS (rowV q (pvs s.1 ++ obP s.2.1 ++ quP (s.2.2.take g)).length)), (1, ptrS (scC s))], [rowE q 30 6 (pvs s.1 ++ obP s.2.1 ++ quP (s.2.2.take g)).length ((pvs s.1 ++ obP s.2.1 ++ quP (s.2.2.take g)).flatMap pcan)], [], (0, false)⟩) (fun g q => g ≤ s.2.2.length ∧ rowOk q (pvs s.1 ++ obP s.2.1 ++ quP (s.2.2.take g)).length) (fun g _ => s.2.2.length - g) 0 q ⟨Nat.zero_le _, by simpa [quP] using hq⟩ (ent_h (subG_cons rfl (subG_as rfl (by simp [quP]) (subG_cons rfl (trivial)))) (by simp [quP])) ?_
  rintro g q ⟨hg, hq⟩
  refine T_seq ?_
  refine T_regionS ?_
  iterate 5 refine zz ?_
  refine Run.nil ?_
  refine T_cond rfl rfl (fun h28 => ?_) (fun h28 => ?_)
  ·have k28 := of_decide_eq_true h28
   obtain ⟨⟨⟨⟨b1, l1, d1⟩, ⟨c1, m1, e1⟩⟩, ⟨⟨b2, l2, d2⟩, ⟨c2, m2, e2⟩⟩⟩, hqr⟩ : ∃ q, s.2.2[g]? = some q := ⟨_, List.getElem?_eq_getElem (by omega)⟩
   have hqm := mem_que (List.mem_of_getElem? hqr)
   have hpt := h.pt _ hqm
   have hsu := quP_succ hqr
   have hpl := pts_le h s.2.1.length (g + 1)
   rw [hsu, List.take_length] at hpl
   simp only [List.length_append, List.length_cons, List.length_nil] at hpl
   simp only at hpt
   obtain ⟨A, hA⟩ : ∃ A, A = (pvs s.1 ++ obP s.2.1 ++ quP (s.2.2.take g)) := ⟨_, rfl⟩
   have hAl : A.length = (pvs s.1).length + (obP s.2.1).length + (quP (s.2.2.take g)).length := by rw [hA, List.length_append, List.length_append]
   have hA2 : pvs s.1 ++ obP s.2.1 ++ quP (s.2.2.take (g + 1)) = A ++ [pv ((b1, l1, d1), (c1, m1, e1)), pv ((b2, l2, d2), (c2, m2, e2))] := by rw [hsu, hA, List.append_assoc _ (quP _)]
   rw [← hA] at hq ⊢
   refine T_skip ?_
   refine T_seq ?_
   refine T_block ?_
   refine T_drawM 16 [15] _ (by kernel_rfl) (.cons _ .slnil) ?_
   refine RunE.one (ok_move rfl rfl) rfl rfl rfl (by kernel_rfl) ?_
   refine RunE.one (ok_fieldAddr rfl rfl rfl) rfl rfl rfl (by kernel_rfl) ?_
   refine RunE.one (ok_load rfl rfl) rfl rfl rfl (by kernel_rfl) ?_
   refine RunE.one (ok_move rfl rfl) rfl rfl rfl (by kernel_rfl) ?_
   refine RunE.one (ok_indexAddr rfl rfl rfl (by omega) (y := (((b1, l1, d1), (c1, m1, e1)), ((b2, l2, d2), (c2, m2, e2)))) (hqr)) rfl rfl rfl (by kernel_rfl) ?_
   refine RunE.one (ok_fieldAddr rfl rfl rfl) rfl rfl rfl (by kernel_rfl) ?_
   refine RunE.one ((show OpOK _ _ _ _ _ (aggS (pc ((b1, l1, d1), (c1, m1, e1)))) from ok_load_agg rfl rfl rfl rfl)) rfl rfl rfl (by kernel_rfl) ?_
   refine RunE.one (ok_fieldAddr rfl rfl rfl) rfl rfl rfl (by kernel_rfl) ?_
   refine RunE.one (ok_load rfl rfl) rfl rfl rfl (by kernel_rfl) ?_
   refine RunE.one (ok_move rfl rfl) rfl rfl rfl (by kernel_rfl) ?_
   refine RunE.one (ok_indexAddr rfl rfl rfl (by omega) (y := (((b1, l1, d1), (c1, m1, e1)), ((b2, l2, d2), (c2, m2, e2)))) (hqr)) rfl rfl rfl (by kernel_rfl) ?_
   refine RunE.one (ok_fieldAddr rfl rfl rfl) rfl rfl rfl (by kernel_rfl) ?_
   refine RunE.one ((show OpOK _ _ _ _ _ (aggS (pc ((b2, l2, d2), (c2, m2, e2)))) from ok_load_agg rfl rfl rfl rfl)) rfl rfl rfl (by kernel_rfl) ?_
   refine RunE.one (ok_buildSlice rfl rfl (by decide) rfl (by simp) rfl rfl) rfl rfl rfl (by kernel_rfl) ?_
   refine RunE.one (ok_call rfl rfl ((rpNorm_spec (xs := [((b1, l1, d1), (c1, m1, e1)), ((b2, l2, d2), (c2, m2, e2))]) h.pos hpt (by omega) (by unfold cap; simp)).args ⟨fun I v h => sl_map (f := pc) (l := [((b1, l1, d1), (c1, m1, e1)), ((b2, l2, d2), (c2, m2, e2))]) h, trivial⟩)) rfl rfl rfl (by kernel_rfl) ?_
   refine RunE.nil ⟨_, rfl, ?_⟩
   refine EffM.append 0 rfl rfl rfl rfl rfl rfl rfl hq (by rw [flat_pcan]) (fun z hz => rfl) (by unfold big; simp only [List.length_map, List.length_cons, List.length_nil]; exact Nat.le_trans (Nat.mul_le_mul_right _ (show _ ≤ 1000000 by omega)) (by decide)) (by unfold big; simp; omega) fun q46 hq46 => ⟨(.cons _ .slnil), ?_⟩
   refine RunE.nil ?_
   refine zz ?_
   refine Run.nil ?_
   refine T_region ?_
   refine zz ?_
   refine za ((g + 1 : Nat) : Int) ?_
   refine zz ?_
   refine Run.nil ?_
   exact ⟨g + 1, q46, ⟨by omega, by rw [hA2, List.length_append]; exact hq46⟩, by omega, ent_h (subG_cons rfl (subG_as rfl (by rw [hA2, List.length_append]; rfl) (subG_cons rfl (trivial)))) (by rw [hA2, List.length_append, List.flatMap_append]; rfl)⟩
  ·have k28 := of_decide_eq_false h28
   obtain rfl : g = s.2.2.length := by omega
   rw [List.take_length] at hq ⊢
   have hpl := pts_le h s.2.1.length s.2.2.length
   rw [List.take_length, List.take_length] at hpl
   refine T_exit ?_
   refine T_ghost (ghost_sl 0 3 rfl rfl hq (l := pvs s.1 ++ obP s.2.1 ++ quP s.2.2) (f := pcan) rfl rfl (fun _ _ => rfl) (by unfold big; omega)) ?_
   refine T_regionS ?_
   iterate 2 refine zz ?_
   refine Run.nil ?_
   refine T_ret ?_
   exact ⟨_, [], .one (.tmp rfl), List.nil_sublist _, by rw [pts_eq], rfl⟩
theorem rdigits_spec {s : Sc} {k n : Nat} (h : ScOk s k n) (hs : 64 * k + 20000 ≤ 65536) (hn : n ≤ 1000000) : PSpec Tryz.prog G 45 [aggS (scC s)] (intS .i64 ((dgF 0 ((scPts s).map pv) : Nat) : Int)) := by
 have hbq : ∀ p ∈ (scPts s).map pv, Bq p.1 k ∧ Bq p.2 k := fun p hp => by
  obtain ⟨r, hr, rfl⟩ := List.mem_map.1 hp
  obtain ⟨x, hx, hrx⟩ := List.mem_flatMap.1 hr
  have ho := h.pt x hx r hrx
  exact ⟨(isQ_lim ho.1 h.pos).bq, (isQ_lim ho.2 h.pos).bq⟩
 obtain ⟨ps, hps⟩ : ∃ ps, ps = (scPts s).map pv := ⟨_, rfl⟩
 have hpt := rpoints_spec (G := G) h hs hn
 rw [← hps] at hpt hbq ⊢
 refine fn_spec Tryz.func45 rfl rfl rfl ?_
 refine T_regionS ?_
 iterate 2 refine zz ?_
 refine zx ?_
 refine zz ?_
 refine zx ?_
 refine zz ?_
 refine zf hpt ?_
 refine zz ?_
 refine Run.nil ?_
 refine T_seq ?_
 refine T_regionS ?_
 refine zz ?_
 refine Run.nil ?_
 refine T_block ?_
 refine T_len 4 rfl fun la => ?_
 unfold big at la
 refine T_loop2 (fun (g acc : Nat) => ⟨_, [(5, intS .i64 (g : Nat)), (4, slS 6 pcan ps), (3, intS .i64 (acc : Nat))], [], [], (0, false)⟩) (fun g acc => g ≤ ps.length ∧ acc = (ps.take g).foldl (fun (n : Nat) (p : Rat × Rat) => max (max n (nD p.1)) (nD p.2)) 0) (fun g _ => ps.length - g) 0 0 ⟨Nat.zero_le _, rfl⟩ (ent_g zk) ?_
 rintro g acc ⟨hg, hacc⟩
 refine T_seq ?_
 refine T_regionS ?_
 iterate 4 refine zz ?_
 refine Run.nil ?_
 refine T_cond rfl rfl (fun h11 => ?_) (fun h11 => ?_)
 ·have k11 := of_decide_eq_true h11
  obtain ⟨⟨x, y⟩, hqq⟩ : ∃ q, ps[g]? = some q := ⟨_, List.getElem?_eq_getElem (by omega)⟩
  have hb := hbq _ (List.mem_of_getElem? hqq)
  have hfs := foldl_take (fun (n : Nat) (p : Rat × Rat) => max (max n (nD p.1)) (nD p.2)) 0 hqq
  haveI z1 : Sz (dig x.num.natAbs) k := ⟨dig_length_le hb.1.num⟩
  haveI z2 : Sz (dig x.den) k := ⟨dig_length_le hb.1.den⟩
  haveI z3 : Sz (dig y.num.natAbs) k := ⟨dig_length_le hb.2.num⟩
  haveI z4 : Sz (dig y.den) k := ⟨dig_length_le hb.2.den⟩
  refine T_skip ?_
  refine T_seq ?_
  refine T_block ?_
  refine T_draw 37 (by kernel_rfl) ?_
  iterate 3 refine zz ?_
  refine zo (ok_indexAddr rfl rfl rfl (by omega) (y := (x, y)) (hqq)) ?_
  iterate 4 refine zz ?_
  refine zo (ok_call rfl rfl (rtext_spec (l := dig x.num.natAbs) (n := x.num.natAbs) (k := k) (by omega))) ?_
  refine zo (ok_len_str rfl rfl) ?_
  iterate 2 refine zz ?_
  refine zo (ok_indexAddr rfl rfl rfl (by omega) (y := (x, y)) (hqq)) ?_
  iterate 3 refine zz ?_
  refine zo (ok_call rfl rfl (rtext_spec (l := dig x.den) (n := x.den) (k := k) (by omega))) ?_
  refine zo (ok_len_str rfl rfl) ?_
  iterate 2 refine zz ?_
  refine zo (ok_indexAddr rfl rfl rfl (by omega) (y := (x, y)) (hqq)) ?_
  iterate 4 refine zz ?_
  refine zo (ok_call rfl rfl (rtext_spec (l := dig y.num.natAbs) (n := y.num.natAbs) (k := k) (by omega))) ?_
  refine zo (ok_len_str rfl rfl) ?_
  iterate 2 refine zz ?_
  refine zo (ok_indexAddr rfl rfl rfl (by omega) (y := (x, y)) (hqq)) ?_
  iterate 3 refine zz ?_
  refine zo (ok_call rfl rfl (rtext_spec (l := dig y.den) (n := y.den) (k := k) (by omega))) ?_
  refine zo (ok_len_str rfl rfl) ?_
  refine zo ((ok_max5 rfl rfl rfl rfl rfl rfl).sub (int_eq (n := ((max (max acc (nD x)) (nD y) : Nat) : Int)) (by rw [dec_len, dec_len, dec_len, dec_len]; unfold nD; omega))) ?_
  refine zz ?_
  iterate 2 refine Run.nil ?_
  refine T_region ?_
  refine zz ?_
  refine za ((g + 1 : Nat) : Int) ?_
  refine zz ?_
  refine Run.nil ?_
  exact ⟨g + 1, max (max acc (nD x)) (nD y), ⟨by omega, by rw [hfs, ← hacc]⟩, by omega, ent_g (subG_cons rfl (subG_cons rfl (subG_cons rfl (trivial))))⟩
 ·have k11 := of_decide_eq_false h11
  obtain rfl : g = ps.length := by omega
  rw [List.take_length] at hacc
  refine T_exit ?_
  refine T_regionS ?_
  iterate 2 refine zz ?_
  refine Run.nil ?_
  refine T_ret ?_
  exact ⟨_, [], .one (.tmp rfl), List.nil_sublist _, by rw [hacc]; rfl, rfl⟩
theorem told12_spec {a b : QS} : PSpec Tryz.prog G 32 [aggS (qsC a), aggS (qsC b)] (boolS (decide (a = b))) := by
 refine fn_spec Tryz.func32 rfl rfl rfl ?_
 refine T_regionS ?_
 iterate 3 refine zz ?_
 refine Run.nil ?_
 refine T_seq ?_
 refine T_regionS ?_
 iterate 6 refine zz ?_
 refine Run.oneB (ok_cmp rfl rfl rfl rfl) rfl rfl rfl (fun h1_6 => ?_) (fun h1_6 => ?_)
 ·have k1_6 := bne_iff_ne.1 h1_6
  refine zz ?_
  iterate 7 refine zq ?_
  iterate 2 refine zz ?_
  iterate 6 refine zq ?_
  refine zz ?_
  refine Run.nil ?_
  refine T_condT rfl rfl ?_
  refine T_regionS ?_
  refine zz ?_
  refine Run.nil ?_
  refine T_ret ?_
  exact ⟨_, [], .one (.tmp rfl), List.nil_sublist _, congrArg boolS (decide_eq_false (fun e => k1_6 (by rw [e]))).symm, rfl⟩
 ·have k1_6 := bne_eq_false_iff_eq.1 h1_6
  iterate 8 refine zz ?_
  refine Run.oneB (ok_pick rfl rfl rfl) rfl rfl rfl (fun h1_15 => ?_) (fun h1_15 => ?_)
  ·have k1_15 := bne_iff_ne.1 h1_15
   refine zz ?_
   iterate 6 refine zq ?_
   refine zz ?_
   refine Run.nil ?_
   refine T_condT rfl rfl ?_
   refine T_regionS ?_
   refine zz ?_
   refine Run.nil ?_
   refine T_ret ?_
   exact ⟨_, [], .one (.tmp rfl), List.nil_sublist _, congrArg boolS (decide_eq_false (fun e => k1_15 (by rw [e]))).symm, rfl⟩
  ·have k1_15 := bne_eq_false_iff_eq.1 h1_15
   iterate 5 refine zz ?_
   refine zf rpAll_spec ?_
   iterate 2 refine zz ?_
   refine Run.nil ?_
   refine T_cond rfl rfl (fun h30 => ?_) (fun h30 => ?_)
   ·refine T_regionS ?_
    refine zz ?_
    refine Run.nil ?_
    refine T_ret ?_
    exact ⟨_, [], .one (.tmp rfl), List.nil_sublist _, congrArg boolS (decide_eq_false (fun e => of_decide_eq_false (by simpa using h30) (by rw [e]))).symm, rfl⟩
   ·have hr : a.1 = b.1 := of_decide_eq_true (by simpa using h30)
    have ho : a.2.1.length = b.2.1.length := by omega
    have hq : a.2.2.length = b.2.2.length := by omega
    refine T_len 8 rfl fun la => T_len 16 rfl fun lb => ?_
    unfold big at la lb
    refine T_skip ?_
    refine T_seq ?_
    refine T_regionS ?_
    refine zz ?_
    refine Run.nil ?_
    refine T_block ?_
    refine T_loop (γ := Nat) (fun g => ⟨_, [(5, intS .i64 (g : Nat)), (3, ptrS (qsC b)), (2, ptrS (qsC a))], [], [], (0, false)⟩) (fun g => g ≤ a.2.1.length ∧ a.2.1.take g = b.2.1.take g) (fun g => a.2.1.length - g) 0 ⟨Nat.zero_le _, rfl⟩ (ent_g zk) ?_
    rintro g ⟨hg, hE⟩
    refine T_seq ?_
    refine T_regionS ?_
    iterate 5 refine zz ?_
    refine Run.nil ?_
    refine T_cond rfl rfl (fun h35 => ?_) (fun h35 => ?_)
    ·have k35 := of_decide_eq_true h35
     obtain ⟨x, hx⟩ : ∃ x, a.2.1[g]? = some x := ⟨_, List.getElem?_eq_getElem (by omega)⟩
     obtain ⟨y, hy⟩ : ∃ y, b.2.1[g]? = some y := ⟨_, List.getElem?_eq_getElem (by omega)⟩
     refine T_skip ?_
     refine T_seq ?_
     refine T_block ?_
     refine T_drawS 12 (by kernel_rfl) ?_
     iterate 3 refine zz ?_
     refine zo (ok_indexAddr rfl rfl rfl (by omega) (y := x) (hx)) ?_
     iterate 4 refine zz ?_
     refine zo (ok_indexAddr rfl rfl rfl (by omega) (y := y) (hy)) ?_
     refine zz ?_
     refine zf rpAll_spec ?_
     refine zz ?_
     iterate 2 refine Run.nil ?_
     refine T_cond rfl rfl (fun h49 => ?_) (fun h49 => ?_)
     ·refine T_regionS ?_
      refine zz ?_
      refine Run.nil ?_
      refine T_ret ?_
      exact ⟨_, [], .one (.tmp rfl), List.nil_sublist _, congrArg boolS (decide_eq_false (fun e => get_ne hx hy (of_decide_eq_false (by simpa using h49)) (by rw [e]))).symm, rfl⟩
     ·refine T_skip ?_
      refine T_region ?_
      refine zz ?_
      refine za ((g + 1 : Nat) : Int) ?_
      refine zz ?_
      refine Run.nil ?_
      exact ⟨g + 1, ⟨by omega, tk_succ hx hy hE (of_decide_eq_true (by simpa using h49))⟩, by omega, ent_g (subG_cons rfl (subG_cons rfl (subG_cons rfl (trivial))))⟩
    ·have k35 := of_decide_eq_false h35
     have hOE := tk_all ho (by omega) hE
     refine T_exit ?_
     refine T_seq ?_
     refine T_regionS ?_
     refine zz ?_
     refine Run.nil ?_
     refine T_block ?_
     refine T_loop (γ := Nat) (fun g => ⟨_, [(6, intS .i64 (g : Nat)), (3, ptrS (qsC b)), (2, ptrS (qsC a))], [], [], (0, false)⟩) (fun g => g ≤ a.2.2.length ∧ a.2.2.take g = b.2.2.take g) (fun g => a.2.2.length - g) 0 ⟨Nat.zero_le _, rfl⟩ (ent_g zk) ?_
     rintro g ⟨hg, hE⟩
     refine T_seq ?_
     refine T_regionS ?_
     iterate 5 refine zz ?_
     refine Run.nil ?_
     refine T_cond rfl rfl (fun h54 => ?_) (fun h54 => ?_)
     ·have k54 := of_decide_eq_true h54
      obtain ⟨⟨⟨x1, y1⟩, ⟨x2, y2⟩⟩, hx⟩ : ∃ x, a.2.2[g]? = some x := ⟨_, List.getElem?_eq_getElem (by omega)⟩
      obtain ⟨⟨⟨u1, v1⟩, ⟨u2, v2⟩⟩, hy⟩ : ∃ y, b.2.2[g]? = some y := ⟨_, List.getElem?_eq_getElem (by omega)⟩
      refine T_skip ?_
      refine T_seq ?_
      refine T_block ?_
      refine T_drawS 30 (by kernel_rfl) ?_
      iterate 3 refine zz ?_
      refine zo (ok_indexAddr rfl rfl rfl (by omega) (y := ((x1, y1), (x2, y2))) (hx)) ?_
      refine zz ?_
      refine zo ((show OpOK _ _ _ _ _ (aggS (pcan (x1, y1))) from ok_load_agg rfl rfl rfl rfl)) ?_
      iterate 3 refine zz ?_
      refine zo (ok_indexAddr rfl rfl rfl (by omega) (y := ((u1, v1), (u2, v2))) (hy)) ?_
      refine zz ?_
      refine zo ((show OpOK _ _ _ _ _ (aggS (pcan (u1, v1))) from ok_load_agg rfl rfl rfl rfl)) ?_
      refine zf rpAlike_spec ?_
      refine Run.oneB (ok_not rfl rfl) rfl rfl rfl (fun h11_13 => ?_) (fun h11_13 => ?_)
      ·refine zz ?_
       iterate 14 refine zq ?_
       refine zz ?_
       iterate 2 refine Run.nil ?_
       refine T_condT rfl rfl ?_
       refine T_regionS ?_
       refine zz ?_
       refine Run.nil ?_
       refine T_ret ?_
       exact ⟨_, [], .one (.tmp rfl), List.nil_sublist _, congrArg boolS (decide_eq_false (fun e => get_ne hx hy (fun e2 => by simp only [Prod.mk.injEq] at e2; exact of_decide_eq_false (show decide (x1 = u1 ∧ y1 = v1) = false by cases hc : decide (x1 = u1 ∧ y1 = v1) with | false => rfl | true => rw [hc] at h11_13; cases h11_13) e2.1) (by rw [e]))).symm, rfl⟩
      ·refine zz ?_
       iterate 3 refine zz ?_
       refine zo (ok_indexAddr rfl rfl rfl (by omega) (y := ((x1, y1), (x2, y2))) (hx)) ?_
       refine zz ?_
       refine zo ((show OpOK _ _ _ _ _ (aggS (pcan (x2, y2))) from ok_load_agg rfl rfl rfl rfl)) ?_
       iterate 3 refine zz ?_
       refine zo (ok_indexAddr rfl rfl rfl (by omega) (y := ((u1, v1), (u2, v2))) (hy)) ?_
       refine zz ?_
       refine zo ((show OpOK _ _ _ _ _ (aggS (pcan (u2, v2))) from ok_load_agg rfl rfl rfl rfl)) ?_
       refine zf rpAlike_spec ?_
       iterate 2 refine zz ?_
       iterate 2 refine Run.nil ?_
       refine T_cond rfl rfl (fun h86 => ?_) (fun h86 => ?_)
       ·refine T_regionS ?_
        refine zz ?_
        refine Run.nil ?_
        refine T_ret ?_
        exact ⟨_, [], .one (.tmp rfl), List.nil_sublist _, congrArg boolS (decide_eq_false (fun e => get_ne hx hy (fun e2 => by simp only [Prod.mk.injEq] at e2; exact of_decide_eq_false (show decide (x2 = u2 ∧ y2 = v2) = false by cases hc : decide (x2 = u2 ∧ y2 = v2) with | false => rfl | true => rw [hc] at h86; cases h86) e2.2) (by rw [e]))).symm, rfl⟩
       ·refine T_skip ?_
        refine T_region ?_
        refine zz ?_
        refine za ((g + 1 : Nat) : Int) ?_
        refine zz ?_
        refine Run.nil ?_
        exact ⟨g + 1, ⟨by omega, tk_succ hx hy hE (by obtain ⟨e1, e2⟩ := of_decide_eq_true (show decide (x1 = u1 ∧ y1 = v1) = true by simpa using h11_13); obtain ⟨e3, e4⟩ := of_decide_eq_true (show decide (x2 = u2 ∧ y2 = v2) = true by simpa using h86); rw [e1, e2, e3, e4])⟩, by omega, ent_g (subG_cons rfl (subG_cons rfl (subG_cons rfl (trivial))))⟩
     ·have k54 := of_decide_eq_false h54
      refine T_exit ?_
      refine T_regionS ?_
      refine zz ?_
      refine Run.nil ?_
      refine T_ret ?_
      exact ⟨_, [], .one (.tmp rfl), List.nil_sublist _, congrArg boolS (decide_eq_true (Prod.ext hr (Prod.ext hOE (tk_all hq (by omega) hE)))).symm, rfl⟩
theorem rnorm12_spec {s : Sc} {k n : Nat} (h : ScOk s k n) (hs : 64 * k + 20000 ≤ 65536) (hn : n ≤ 1000000) : PSpec Tryz.prog G 46 [aggS (scC s)] (aggS (qsC (nrm s))) := by
 have hrob := h.pt _ (mem_rob s)
 have hrl := h.lrow (mem_rob s)
 have hsl := h.row
 rw [scL_len] at hsl
 simp only at hrob hrl
 refine fn_spec Tryz.func46 rfl rfl rfl ?_
 refine T_regionS ?_
 refine zz ?_
 refine Run.alloc rfl rfl rfl rfl rfl fun b2 => ?_
 refine zx ?_
 iterate 2 refine zz ?_
 refine zo (ok_call rfl rfl (rpNorm_spec h.pos hrob (by omega) (by unfold cap; omega))) ?_
 refine zz ?_
 refine Run.alloc rfl rfl rfl rfl rfl fun b3 => ?_
 refine zw ?_
 refine Run.nil ?_
 refine T_seq ?_
 refine T_ghost (ghost_row 22 1) ?_
 refine T_regionS ?_
 refine zz ?_
 refine Run.nil ?_
 refine T_block ?_
 refine T_loop2 (fun (g : Nat) (q : Option (Nat × Nat)) => ⟨_, [(4, intS .i64 (g : Nat)), (3, eqS (.pointer (some ⟨b3, 0, none⟩))), (2, eqS (.pointer (some ⟨b2, 0, none⟩))), (1, ptrS (scC s))], [rowE q 22 1 g (((s.2.1.take g).map pvs).flatMap qrowC), ⟨some b3, 54, [slS 6 pcan (pvs s.1), eqS (rowV q g), eqS (.slice none 0 0)], 0⟩, ⟨some b2, 54, [eqS (.slice none 0 0), eqS (.slice none 0 0), eqS (.slice none 0 0)], 0⟩], [], (0, false)⟩) (fun g q => g ≤ s.2.1.length ∧ rowOk q g) (fun g _ => s.2.1.length - g) 0 none ⟨Nat.zero_le _, rfl⟩ (ent_h zk rfl) ?_
 rintro g q ⟨hg, hq⟩
 refine T_seq ?_
 refine T_regionS ?_
 iterate 5 refine zz ?_
 refine Run.nil ?_
 refine T_cond rfl rfl (fun h15 => ?_) (fun h15 => ?_)
 ·have k15 := of_decide_eq_true h15
  obtain ⟨row, hrow⟩ : ∃ row, s.2.1[g]? = some row := ⟨_, List.getElem?_eq_getElem (by omega)⟩
  have hpt := h.pt _ (mem_obs (List.mem_of_getElem? hrow))
  have hln := h.lrow (mem_obs (List.mem_of_getElem? hrow))
  have hms := map_succ pvs hrow
  simp only at hpt hln
  refine T_skip ?_
  refine T_seq ?_
  refine T_block ?_
  refine T_drawM 12 [9, 11] _ (by kernel_rfl) (.cons _ (.cons _ (.cons_cons _ .slnil))) ?_
  refine RunE.one (ok_fieldAddr_eq rfl rfl rfl) rfl rfl rfl (by kernel_rfl) ?_
  refine RunE.one (ok_load_own 1 rfl rfl rfl rfl) rfl rfl rfl (by kernel_rfl) ?_
  refine RunE.one (ok_fieldAddr rfl rfl rfl) rfl rfl rfl (by kernel_rfl) ?_
  refine RunE.one (ok_load rfl rfl) rfl rfl rfl (by kernel_rfl) ?_
  refine RunE.one (ok_move rfl rfl) rfl rfl rfl (by kernel_rfl) ?_
  refine RunE.one (ok_indexAddr rfl rfl rfl (by omega) (y := row) (hrow)) rfl rfl rfl (by kernel_rfl) ?_
  refine RunE.one (ok_load rfl rfl) rfl rfl rfl (by kernel_rfl) ?_
  refine RunE.one (ok_call rfl rfl (rpNorm_spec h.pos hpt (by omega) (by unfold cap; omega))) rfl rfl rfl (by kernel_rfl) ?_
  refine RunE.one (ok_buildSlice rfl rfl (by decide) rfl (by simp) rfl rfl) rfl rfl rfl (by kernel_rfl) ?_
  refine RunE.nil ⟨_, rfl, ?_⟩
  refine EffM.append 0 rfl rfl rfl rfl rfl rfl rfl hq (by rw [flat_qrow, List.length_map, List.length_take]; omega) (fun z hz => by rw [List.mem_singleton.1 hz]; rfl) (by unfold big; simp; omega) (by unfold big; simp; omega) fun q25 hq25 => ⟨(.cons _ (.cons _ (.cons_cons _ .slnil))), ?_⟩
  refine RunE.one (ok_fieldAddr_eq rfl rfl rfl) rfl rfl rfl (by kernel_rfl) ?_
  refine RunE.nil ⟨_, rfl, ?_⟩
  refine .loc1n 1 (l_store rfl rfl rfl rfl (by first | decide | (simp; done) | (simp; omega))) rfl rfl rfl ?_
  rintro s1 H1 ⟨rfl, rfl⟩
  refine ⟨(.cons _ (.cons _ (.cons_cons _ .slnil))), ?_⟩
  refine RunE.nil ?_
  refine Run.nil ?_
  refine T_region ?_
  refine zz ?_
  refine za ((g + 1 : Nat) : Int) ?_
  refine zz ?_
  refine Run.nil ?_
  exact ⟨g + 1, q25, ⟨by omega, hq25⟩, by omega, ent_h (subG_cons rfl (subG_cons rfl (subG_cons rfl (subG_cons rfl (trivial))))) (by rw [hms, List.flatMap_append]; rfl)⟩
 ·have k15 := of_decide_eq_false h15
  obtain rfl : g = s.2.1.length := by omega
  rw [List.take_length]
  refine T_exit ?_
  refine T_seq ?_
  refine T_ghost (ghost_slo [_] [_] [] [] [_] hq (l := s.2.1.map pvs) (f := qrowC) (by simp) rfl (fun _ _ => rfl) (by unfold big; omega)) ?_
  refine T_ghost (ghost_row 69 12) ?_
  refine T_regionS ?_
  refine zz ?_
  refine Run.nil ?_
  refine T_block ?_
  refine T_loop2 (fun (g : Nat) (q : Option (Nat × Nat)) => ⟨_, [(5, intS .i64 (g : Nat)), (3, eqS (.pointer (some ⟨b3, 0, none⟩))), (2, eqS (.pointer (some ⟨b2, 0, none⟩))), (1, ptrS (scC s))], [rowE q 69 12 g (((s.2.2.take g).map pv2).flatMap qqueC), ⟨some b3, 54, [slS 6 pcan (pvs s.1), slS 1 qrowC (s.2.1.map pvs), eqS (rowV q g)], 0⟩, ⟨some b2, 54, [eqS (.slice none 0 0), eqS (.slice none 0 0), eqS (.slice none 0 0)], 0⟩], [], (0, false)⟩) (fun g q => g ≤ s.2.2.length ∧ rowOk q g) (fun g _ => s.2.2.length - g) 0 none ⟨Nat.zero_le _, rfl⟩ (ent_h zk rfl) ?_
  rintro g q ⟨hg, hq⟩
  refine T_seq ?_
  refine T_regionS ?_
  iterate 5 refine zz ?_
  refine Run.nil ?_
  refine T_cond rfl rfl (fun h33 => ?_) (fun h33 => ?_)
  ·have k33 := of_decide_eq_true h33
   obtain ⟨⟨⟨⟨b1, l1, d1⟩, ⟨c1, m1, e1⟩⟩, ⟨⟨b2, l2, d2⟩, ⟨c2, m2, e2⟩⟩⟩, hqu⟩ : ∃ p, s.2.2[g]? = some p := ⟨_, List.getElem?_eq_getElem (by omega)⟩
   have hpt := h.pt _ (mem_que (List.mem_of_getElem? hqu))
   have hms := map_succ pv2 hqu
   simp only at hpt
   refine T_skip ?_
   refine T_seq ?_
   refine T_block ?_
   refine T_drawS 15 (by kernel_rfl) ?_
   iterate 3 refine zz ?_
   refine zo (ok_indexAddr rfl rfl rfl (by omega) (y := (((b1, l1, d1), (c1, m1, e1)), ((b2, l2, d2), (c2, m2, e2)))) (hqu)) ?_
   refine zz ?_
   refine zo ((show OpOK _ _ _ _ _ (aggS (pc ((b1, l1, d1), (c1, m1, e1)))) from ok_load_agg rfl rfl rfl rfl)) ?_
   iterate 3 refine zz ?_
   refine zo (ok_indexAddr rfl rfl rfl (by omega) (y := (((b1, l1, d1), (c1, m1, e1)), ((b2, l2, d2), (c2, m2, e2)))) (hqu)) ?_
   refine zz ?_
   refine zo ((show OpOK _ _ _ _ _ (aggS (pc ((b2, l2, d2), (c2, m2, e2)))) from ok_load_agg rfl rfl rfl rfl)) ?_
   refine zo (ok_buildSlice rfl rfl (by decide) rfl (by simp) rfl rfl) ?_
   refine zo (ok_call rfl rfl ((rpNorm_spec (xs := [((b1, l1, d1), (c1, m1, e1)), ((b2, l2, d2), (c2, m2, e2))]) h.pos hpt (by omega) (by unfold cap; simp)).args ⟨fun I v h => sl_map (f := pc) (l := [((b1, l1, d1), (c1, m1, e1)), ((b2, l2, d2), (c2, m2, e2))]) h, trivial⟩)) ?_
   refine zz ?_
   iterate 2 refine Run.nil ?_
   refine T_drawM 13 [10, 12] _ (by kernel_rfl) (.cons _ (.cons _ (.cons_cons _ .slnil))) ?_
   refine RunE.one (ok_fieldAddr_eq rfl rfl rfl) rfl rfl rfl (by kernel_rfl) ?_
   refine RunE.one (ok_load_own 1 rfl rfl rfl rfl) rfl rfl rfl (by kernel_rfl) ?_
   refine RunE.one (ok_move rfl rfl) rfl rfl rfl (by kernel_rfl) ?_
   refine RunE.one (ok_indexAddr rfl rfl rfl (by omega) (y := pv ((b1, l1, d1), (c1, m1, e1))) (rfl)) rfl rfl rfl (by kernel_rfl) ?_
   refine RunE.one ((show OpOK _ _ _ _ _ (aggS (pcan (pv ((b1, l1, d1), (c1, m1, e1))))) from ok_load_agg rfl rfl rfl rfl)) rfl rfl rfl (by kernel_rfl) ?_
   refine RunE.one (ok_move rfl rfl) rfl rfl rfl (by kernel_rfl) ?_
   refine RunE.one (ok_indexAddr rfl rfl rfl (by omega) (y := pv ((b2, l2, d2), (c2, m2, e2))) (rfl)) rfl rfl rfl (by kernel_rfl) ?_
   refine RunE.one ((show OpOK _ _ _ _ _ (aggS (pcan (pv ((b2, l2, d2), (c2, m2, e2))))) from ok_load_agg rfl rfl rfl rfl)) rfl rfl rfl (by kernel_rfl) ?_
   refine RunE.one (ok_build rfl rfl rfl) rfl rfl rfl (by kernel_rfl) ?_
   refine RunE.one (ok_buildSlice rfl rfl (by decide) rfl (by simp) rfl rfl) rfl rfl rfl (by kernel_rfl) ?_
   refine RunE.nil ⟨_, rfl, ?_⟩
   refine EffM.append 0 rfl rfl rfl rfl rfl rfl rfl hq (by rw [flat_qque, List.length_map, List.length_take]; omega) (fun z hz => by rw [List.mem_singleton.1 hz]; rfl) (by unfold big; simp; omega) (by unfold big; simp; omega) fun q51 hq51 => ⟨(.cons _ (.cons _ (.cons_cons _ .slnil))), ?_⟩
   refine RunE.one (ok_fieldAddr_eq rfl rfl rfl) rfl rfl rfl (by kernel_rfl) ?_
   refine RunE.nil ⟨_, rfl, ?_⟩
   refine .loc1n 1 (l_store rfl rfl rfl rfl (by first | decide | (simp; done) | (simp; omega))) rfl rfl rfl ?_
   rintro s1 H1 ⟨rfl, rfl⟩
   refine ⟨(.cons _ (.cons _ (.cons_cons _ .slnil))), ?_⟩
   refine RunE.nil ?_
   refine Run.nil ?_
   refine T_region ?_
   refine zz ?_
   refine za ((g + 1 : Nat) : Int) ?_
   refine zz ?_
   refine Run.nil ?_
   exact ⟨g + 1, q51, ⟨by omega, hq51⟩, by omega, ent_h (subG_cons rfl (subG_cons rfl (subG_cons rfl (subG_cons rfl (trivial))))) (by rw [hms, List.flatMap_append]; rfl)⟩
  ·have k33 := of_decide_eq_false h33
   obtain rfl : g = s.2.2.length := by omega
   rw [List.take_length]
   refine T_exit ?_
   refine T_ghost (ghost_slo [_, _] [] [] [] [_] hq (l := s.2.2.map pv2) (f := qqueC) (by simp) rfl (fun _ _ => rfl) (by unfold big; omega)) ?_
   refine T_regionS ?_
   refine zz ?_
   refine zw ?_
   refine Run.nil ?_
   refine T_ret ?_
   exact ⟨_, [], .one (.agg 1 inferInstance rfl rfl rfl rfl), List.nil_sublist _, rfl, rfl⟩
end Go.Proofs
/- A scene's text, read again; what any text is read as: plain facts. -/
namespace Num
open Go Go.Lib Go.Proofs
def qL (q : QS) : List (List UInt8 × List (Rat × Rat)) := (wRob, q.1) :: (q.2.1.map (fun l => (wObs, l)) ++ q.2.2.map fun x => (wQue, [x.1, x.2]))
def prT (q : QS) : List UInt8 := nl ((qL q).map lineT)
theorem wd_rob : wdOk wRob := ⟨by decide, by decide⟩
theorem wd_obs : wdOk wObs := ⟨by decide, by decide⟩
theorem wd_que : wdOk wQue := ⟨by decide, by decide⟩
theorem qL_wd (q : QS) : ∀ x ∈ qL q, wdOk x.1 := fun x hx => by
 unfold qL at hx
 rcases List.mem_cons.1 hx with rfl | hx
 ·exact wd_rob
 ·rcases List.mem_append.1 hx with hx | hx
  ·obtain ⟨l, _, rfl⟩ := List.mem_map.1 hx; exact wd_obs
  ·obtain ⟨l, _, rfl⟩ := List.mem_map.1 hx; exact wd_que
theorem nl_map {α : Type} (f : α → List UInt8) (l : List α) : nl (l.map f) = l.flatMap fun x => f x ++ [10] := by unfold nl; rw [List.flatMap_map]
theorem scT_eq (s : Sc) : scT s = prT (nrm s) := by
 have e : qL (nrm s) = (scL s).map fun x => (x.1, pvs x.2) := by
  unfold qL nrm scL
  rw [List.map_cons, List.map_append, List.map_map, List.map_map, List.map_map, List.map_map]
  rfl
 unfold prT
 rw [e, List.map_map, nl_map]; rfl
theorem P60_app {l m : List (Rat × Rat)} (h : P60 (l ++ m)) : P60 l ∧ P60 m := ⟨fun p hp => h p (by simp [hp]), fun p hp => h p (by simp [hp])⟩
theorem parse_good {q : QS} (hR : q.1 ≠ []) (hO : ∀ l ∈ q.2.1, l ≠ []) (h60 : P60 (qsPts q)) : parseF (prT q) = if 6 < dgF 0 (qsPts q) then (([], [], []), 3) else (q, 0) := by
 obtain ⟨r, obs, que⟩ := q
 simp only at hR hO
 obtain ⟨h1, h2⟩ := P60_app h60
 obtain ⟨h3, h4⟩ := P60_app h2
 unfold prT
 rw [parse_nl (by simp [qL]) (qL_wd _)]
 unfold qL
 rw [List.foldl_cons, List.foldl_append]
 have e : stepX (some rd0) (wRob, r) = some ⟨r, [], [], big3 ((0 : Int) = 3 ∨ 6 < dgF 0 r)⟩ := by
  show lineW rd0 wRob (r.flatMap ptT) = _
  rw [line_ok hR h1 (.inl rfl)]
  unfold doF
  rw [if_pos rfl]
  exact (if_pos rfl).trans rfl
 show finF ((que.map fun q => (wQue, [q.1, q.2])).foldl stepX ((obs.map fun l => (wObs, l)).foldl stepX (stepX (some rd0) (wRob, r)))) = _
 rw [e, fold_obs (rd := ⟨r, [], [], big3 ((0 : Int) = 3 ∨ 6 < dgF 0 r)⟩) hR rfl (big3_or _) (fun l hl => ⟨hO l hl, fun p hp => h3 p (List.mem_flatten.2 ⟨l, hl, hp⟩)⟩), fold_que (rd := ⟨r, [] ++ obs, [], big3 (big3 ((0 : Int) = 3 ∨ 6 < dgF 0 r) = 3 ∨ 6 < dgF 0 obs.flatten)⟩) hR (big3_or _) (fun x hx p hp => h4 p (List.mem_flatMap.2 ⟨x, hx, hp⟩))]
 rw [big3_eq (show (big3 (big3 ((0 : Int) = 3 ∨ 6 < dgF 0 r) = 3 ∨ 6 < dgF 0 obs.flatten) = 3 ∨ 6 < dgF 0 (que.flatMap fun q => [q.1, q.2])) ↔ 6 < dgF 0 (qsPts (r, obs, que)) by
  rw [big3_three, big3_three]; unfold qsPts; rw [dgF_app, dgF_app]; simp only; omega)]
 unfold finF big3
 by_cases h : 6 < dgF 0 (qsPts (r, obs, que))
 ·rw [if_pos h, if_pos h]; rfl
 ·rw [if_neg h, if_neg h]; rfl
theorem parse_bad {q : QS} (h : q.1 = [] ∨ (∃ l ∈ q.2.1, l = []) ∨ ∃ p ∈ qsPts q, 60 < nD p.1 ∨ 60 < nD p.2) : parseF (prT q) = (([], [], []), 1) := by
 obtain ⟨r, obs, que⟩ := q
 unfold prT
 rw [parse_nl (by simp [qL]) (qL_wd _)]
 suffices hx : ∃ x ∈ qL (r, obs, que), x.2 = [] ∨ ∃ p ∈ x.2, 60 < nD p.1 ∨ 60 < nD p.2 by
  obtain ⟨x, hx, hb⟩ := hx
  rw [fold_bad hx hb]; rfl
 unfold qL
 rcases h with h | ⟨l, hl, h⟩ | ⟨p, hp, h⟩
 ·exact ⟨_, List.mem_cons_self, .inl h⟩
 ·exact ⟨(wObs, l), by simp [hl], .inl h⟩
 ·rcases List.mem_append.1 hp with hp | hp
  ·exact ⟨_, List.mem_cons_self, .inr ⟨p, hp, h⟩⟩
  ·rcases List.mem_append.1 hp with hp | hp
   ·obtain ⟨l, hl, hp⟩ := List.mem_flatten.1 hp
    exact ⟨(wObs, l), List.mem_cons_of_mem _ (List.mem_append.2 (.inl (List.mem_map.2 ⟨l, hl, rfl⟩))), .inr ⟨p, hp, h⟩⟩
   ·obtain ⟨x, hx, hp⟩ := List.mem_flatMap.1 hp
    exact ⟨(wQue, [x.1, x.2]), List.mem_cons_of_mem _ (List.mem_append.2 (.inr (List.mem_map.2 ⟨x, hx, rfl⟩))), .inr ⟨p, hp, h⟩⟩
theorem dgF_gt {n : Nat} {l : List (Rat × Rat)} : n < dgF 0 l ↔ ∃ p ∈ l, n < nD p.1 ∨ n < nD p.2 := by
  induction l with
  | nil => simp [dgF]
  | cons p l ih =>
    rw [dgF_cons]
    constructor
    · intro h
      by_cases h1 : n < nD p.1 ∨ n < nD p.2
      · exact ⟨p, by simp, h1⟩
      · obtain ⟨q, hq, hh⟩ := ih.1 (by omega)
        exact ⟨q, by simp [hq], hh⟩
    · rintro ⟨q, hq, hh⟩
      rcases List.mem_cons.1 hq with rfl | hq
      · omega
      · have := ih.2 ⟨q, hq, hh⟩; omega
/-! what any text is read as -/
def rdPts (rd : Rd) : List (Rat × Rat) := qsPts (rd.rob, rd.obs, rd.que)
structure RInv (rd : Rd) : Prop where
 code : rd.code = 0 ∨ rd.code = 2 ∨ rd.code = 3
 obs : ∀ l ∈ rd.obs, l ≠ []
 dig : rd.code = 0 → ∀ p ∈ rdPts rd, nD p.1 ≤ 6 ∧ nD p.2 ≤ 6
theorem rdW_zero {k : Int} {w : List UInt8} (h : rdW k w = 0) : k = 0 ∧ (num3 w).2.2 ≠ 30 ∧ (num3 w).2.1 ≤ 6 := by
 unfold rdW worF at h
 split at h
 ·split at h <;> omega
 ·split at h
  ·split at h <;> omega
  ·exact ⟨h, by assumption, by omega⟩
theorem rdW_code {k : Int} {w : List UInt8} (h : k = 0 ∨ k = 2 ∨ k = 3) : rdW k w = 0 ∨ rdW k w = 2 ∨ rdW k w = 3 := by
 unfold rdW worF
 split
 ·split <;> omega
 ·split
  ·split <;> omega
  ·exact h
theorem cdF_zero : ∀ {ws : List (List UInt8)} {k : Int}, cdF k ws = 0 → k = 0 ∧ ∀ w ∈ ws, (num3 w).2.2 ≠ 30 ∧ (num3 w).2.1 ≤ 6
  | [], k, h => ⟨h, fun _ h => by cases h⟩
  | w :: ws, k, h => by
    obtain ⟨h1, h2⟩ := cdF_zero (ws := ws) (k := rdW k w) h
    obtain ⟨h3, h4⟩ := rdW_zero h1
    exact ⟨h3, fun x hx => by rcases List.mem_cons.1 hx with rfl | hx; exact h4; exact h2 x hx⟩
theorem cdF_code : ∀ {ws : List (List UInt8)} {k : Int}, (k = 0 ∨ k = 2 ∨ k = 3) → cdF k ws = 0 ∨ cdF k ws = 2 ∨ cdF k ws = 3
 | [], _, h => h
 | _ :: ws, _, h => cdF_code (ws := ws) (rdW_code h)
theorem num_small {w : List UInt8} (hg : gdW w = true) (h : (num3 w).2.2 ≠ 30 ∧ (num3 w).2.1 ≤ 6) : nD (num3 w).1 ≤ 6 := by
 have h60 : (num3 w).2.2 ≠ 60 := bne_iff_ne.1 hg
 have h0 : (num3 w).2.2 = 0 := by have := num3_err w; omega
 obtain ⟨q2, k2, hn⟩ : ∃ q2 k2, num3 w = (q2, k2, 0) := ⟨_, _, Prod.ext rfl (Prod.ext rfl h0)⟩
 obtain ⟨_, h1, _⟩ := num3_ok hn
 rw [hn] at h ⊢
 rw [kD_nD] at h1
 simp only at h ⊢
 omega
theorem pts_small : ∀ {ws : List (List UInt8)}, ws.all gdW = true → (∀ w ∈ ws, (num3 w).2.2 ≠ 30 ∧ (num3 w).2.1 ≤ 6) → ∀ p ∈ ptsF ws, nD p.1 ≤ 6 ∧ nD p.2 ≤ 6
  | [], _, _, p, hp => by cases hp
  | [_], _, _, p, hp => by cases hp
  | x :: y :: r, hg, h, p, hp => by
    simp only [List.all_cons, Bool.and_eq_true] at hg
    rcases List.mem_cons.1 (show p ∈ ((num3 x).1, (num3 y).1) :: ptsF r from hp) with rfl | hp
    · exact ⟨num_small hg.1 (h x (by simp)), num_small hg.2.1 (h y (by simp))⟩
    · exact pts_small hg.2.2 (fun w hw => h w (by simp [hw])) p hp
theorem doF_facts {rd rd' : Rd} {w : List UInt8} {l : List (Rat × Rat)} (h : doF rd w l = some rd') (hl : l ≠ []) : rd'.rob ≠ [] ∧ rd'.code = rd.code ∧ (∀ x ∈ rd'.obs, x ∈ rd.obs ∨ x = l) ∧ (∀ p ∈ rdPts rd', p ∈ rdPts rd ∨ p ∈ l) ∧ (rdPts rd').length ≤ (rdPts rd).length + l.length ∧ rd'.obs.length + rd'.que.length ≤ rd.obs.length + rd.que.length + 1 := by
 unfold doF at h
 split at h
 ·split at h
  ·rename_i hr
   cases h
   refine ⟨hl, rfl, fun x hx => .inl hx, fun p hp => ?_, ?_, Nat.le_succ _⟩
   ·unfold rdPts qsPts at hp ⊢
    rcases List.mem_append.1 hp with hp | hp
    ·exact .inr hp
    ·exact .inl (List.mem_append.2 (.inr hp))
   ·unfold rdPts qsPts; simp only [List.length_append]; omega
  ·cases h
 ·split at h
  ·split at h
   ·cases h
   ·rename_i hn
    cases h
    refine ⟨fun e => hn (.inl e), rfl, fun x hx => ?_, fun p hp => ?_, ?_, ?_⟩
    ·rcases List.mem_append.1 hx with hx | hx
     ·exact .inl hx
     ·exact .inr (List.mem_singleton.1 hx)
    ·unfold rdPts qsPts at hp ⊢
     simp only [List.flatten_append, List.flatten_cons, List.flatten_nil, List.append_nil, List.mem_append] at hp ⊢
     rcases hp with hp | (hp | hp) | hp
     ·exact .inl (.inl hp)
     ·exact .inl (.inr (.inl hp))
     ·exact .inr hp
     ·exact .inl (.inr (.inr hp))
    ·unfold rdPts qsPts
     simp only [List.flatten_append, List.flatten_cons, List.flatten_nil, List.append_nil, List.length_append]; omega
    ·simp only [List.length_append, List.length_singleton]; omega
  ·split at h
   ·split at h
    ·split at h
     ·cases h
     ·rename_i hr
      cases h
      refine ⟨hr, rfl, fun x hx => .inl hx, fun p hp => ?_, ?_, ?_⟩
      ·unfold rdPts qsPts at hp ⊢
       simp only [List.flatMap_append, List.flatMap_cons, List.flatMap_nil, List.append_nil, List.mem_append] at hp ⊢
       rcases hp with hp | hp | hp | hp
       ·exact .inl (.inl hp)
       ·exact .inl (.inr (.inl hp))
       ·exact .inl (.inr (.inr hp))
       ·exact .inr hp
      ·unfold rdPts qsPts
       simp only [List.flatMap_append, List.flatMap_cons, List.flatMap_nil, List.append_nil, List.length_append, List.length_cons, List.length_nil]; omega
      ·simp only [List.length_append, List.length_singleton]; omega
    ·cases h
   ·cases h
theorem lineF_inv {rd rd' : Rd} {s : List UInt8} (hi : RInv rd) (h : lineF rd s = some rd') : RInv rd' ∧ rd'.rob ≠ [] ∧ (rdPts rd').length ≤ (rdPts rd).length + s.length ∧ rd'.obs.length + rd'.que.length ≤ rd.obs.length + rd.que.length + 1 := by
  unfold lineF at h
  split at h
  · have hsl := spl_len 32 s
    cases hs : spl 32 s with
    | nil => rw [hs] at h; cases h
    | cons w r =>
      rw [hs] at h hsl
      simp only at h
      unfold lineW at h
      split at h
      · rename_i hg
        rw [Bool.and_eq_true] at hg
        have hne : ptsF r ≠ [] := by intro e; have := hg.2; unfold okP at this; rw [e] at this; simp at this
        obtain ⟨f1, f2, f3, f4, f5, f6⟩ := doF_facts h hne
        have hpl := pts_len r
        rw [List.length_cons] at hsl
        refine ⟨⟨by rw [f2]; exact cdF_code hi.code, fun x hx => ?_, fun h0 p hp => ?_⟩, f1, ?_, f6⟩
        · rcases f3 x hx with h | rfl
          · exact hi.obs x h
          · exact hne
        · rw [f2] at h0
          obtain ⟨z1, z2⟩ := cdF_zero h0
          rcases f4 p hp with h | h
          · exact hi.dig z1 p h
          · exact pts_small hg.1 z2 p h
        · have : (rdPts rd').length ≤ (rdPts rd).length + (ptsF r).length := f5
          omega
      · cases h
  · cases h
theorem go_inv : ∀ {ls : List (List UInt8)} {rd rd' : Rd}, RInv rd → ls.foldl stepF (some rd) = some rd' → RInv rd' ∧ (ls ≠ [] ∨ rd.rob ≠ [] → rd'.rob ≠ []) ∧ (rdPts rd').length + rd'.obs.length + rd'.que.length ≤ (rdPts rd).length + rd.obs.length + rd.que.length + (nl ls).length
  | [], rd, rd', hi, h => by
    cases h
    exact ⟨hi, fun h => h.elim (fun h => absurd rfl h) id, Nat.le_add_right _ _⟩
  | s :: ls, rd, rd', hi, h => by
    rw [List.foldl_cons] at h
    cases h1 : lineF rd s with
    | none =>
      rw [show stepF (some rd) s = none from h1, step_none] at h; cases h
    | some rd1 =>
      rw [show stepF (some rd) s = some rd1 from h1] at h
      obtain ⟨i1, i2, i3, i4⟩ := lineF_inv hi h1
      obtain ⟨j1, j2, j3⟩ := go_inv i1 h
      refine ⟨j1, fun _ => j2 (.inr i2), ?_⟩
      have e : (nl (s :: ls)).length = s.length + 1 + (nl ls).length := by unfold nl; rw [List.flatMap_cons]; simp; omega
      omega
theorem rinv0 : RInv rd0 := ⟨.inl rfl, fun l hl => (by cases hl), fun _ p hp => (by simp [rdPts, qsPts, rd0] at hp)⟩
theorem parse_facts (t : List UInt8) : ((parseF t).2 = 0 → (parseF t).1.1 ≠ [] ∧ (∀ l ∈ (parseF t).1.2.1, l ≠ []) ∧ (∀ p ∈ qsPts (parseF t).1, nD p.1 ≤ 6 ∧ nD p.2 ≤ 6) ∧ (qsPts (parseF t).1).length + (parseF t).1.2.1.length + (parseF t).1.2.2.length ≤ t.length + 1 ∧ lnOk t = true) ∧ ((parseF t).2 ≠ 0 → (parseF t).1 = ([], [], []) ∧ 1 ≤ (parseF t).2 ∧ (parseF t).2 ≤ 3) := by
  unfold parseF
  by_cases hok : lnOk t = true
  · rw [if_pos hok]
    have hne : spl 10 (trimSuffix t [10]) ≠ [] := spl_ne _ _
    have hsz : (nl (spl 10 (trimSuffix t [10]))).length ≤ t.length + 1 := by
      have h1 := nl_join hne
      have h2 := join_spl 10 (trimSuffix t [10])
      rw [h2] at h1
      have h3 := ts_len t 10
      rw [h1, List.length_append, List.length_singleton]; omega
    cases hg : goF (spl 10 (trimSuffix t [10])) with
    | none => exact ⟨fun h => by simp at h, fun _ => ⟨rfl, by decide, by decide⟩⟩
    | some rd =>
      obtain ⟨i1, i2, i3⟩ := go_inv rinv0 hg
      simp only
      by_cases hc : rd.code = 0
      · rw [if_neg (fun h => h hc)]
        refine ⟨fun _ => ⟨i2 (.inl hne), i1.obs, i1.dig hc, ?_, hok⟩, fun h => absurd rfl h⟩
        have e : (rdPts rd0).length + rd0.obs.length + rd0.que.length = 0 := rfl
        have e2 : (qsPts (rd.rob, rd.obs, rd.que)).length = (rdPts rd).length := rfl
        simp only
        omega
      · rw [if_pos hc]
        refine ⟨fun h => absurd h hc, fun _ => ⟨rfl, ?_⟩⟩
        have := i1.code
        simp only
        omega
  · rw [if_neg hok]
    exact ⟨fun h => by simp at h, fun _ => ⟨rfl, by decide, by decide⟩⟩
end Num
/- The law SceneBack, on the facts. -/
namespace Go.Proofs
open Go Go.Sv Num
variable {G : Imm}
theorem qsPts_nrm (s : Sc) : qsPts (nrm s) = (scPts s).map pv := by
 rw [pts_eq]; unfold qsPts nrm obP quP
 rw [List.append_assoc, List.flatMap_map]; rfl
theorem bq_of {q : Rat} (h : nD q ≤ 6) : Bq q 1 := by
 unfold nD at h
 have h1 := Lib.lt_pow_nDigits q.num.natAbs
 have h2 := Lib.lt_pow_nDigits q.den
 have p1 : 10 ^ Lib.nDigits q.num.natAbs ≤ 10 ^ 6 := Nat.pow_le_pow_right (by decide) (by omega)
 have p2 : 10 ^ Lib.nDigits q.den ≤ 10 ^ 6 := Nat.pow_le_pow_right (by decide) (by omega)
 exact ⟨Nat.lt_of_lt_of_le h1 (Nat.le_trans p1 (by decide)), Nat.lt_of_lt_of_le h2 (Nat.le_trans p2 (by decide))⟩
theorem parsed_ok {t : List UInt8} (ht : t.length ≤ 2000) (h0 : (parseF t).2 = 0) : ScOk (rawS (parseF t).1) 1 5000 ∧ parseF (scT (rawS (parseF t).1)) = ((parseF t).1, 0) := by
 obtain ⟨f1, f2, f3, f4, _⟩ := (parse_facts t).1 h0
 refine ⟨raw_scok (by decide) (fun p hp => ⟨bq_of (f3 p hp).1, bq_of (f3 p hp).2⟩) (by omega) (by omega), ?_⟩
 rw [scT_eq, nrm_raw, parse_good f1 f2 (fun p hp => ⟨by have := (f3 p hp).1; omega, by have := (f3 p hp).2; omega⟩), if_neg]
 intro h
 obtain ⟨p, hp, h⟩ := dgF_gt.1 h
 have := f3 p hp
 omega
theorem text_le {s : Sc} {k n : Nat} (h : ScOk s k n) (hk : k ≤ 1000) : (scT s).length ≤ n * 9 + n * 100002 := by
 have h1 := h.text hk (scL s).length
 rw [List.take_length] at h1
 have h2 := h.len
 have h3 := h.row
 have h4 : (scPts s).length * 100002 ≤ n * 100002 := Nat.mul_le_mul_right _ h2
 have h5 : (scL s).length * 9 ≤ n * 9 := Nat.mul_le_mul_right _ h3
 exact Nat.le_trans h1 (Nat.add_le_add h5 h4)
end Go.Proofs
