/- straitref12.Parse. -/
import Derived.Test.YtofplgefmjojjaaGreatDoorSgn
import Derived.Test.YtofplgefmjojjaaGreatDoorSgk
namespace Num
open Go Go.Lib Go.Proofs
def lastF (rd : Rd) : Int := if rd.que ≠ [] then 2 else if rd.obs ≠ [] then 1 else 0
def addF (rd : Rd) (k : Int) (p : List V2) (c : Int) : Rd :=
 if k = 0 then { rd with rob := p, code := worR rd.code c } else if k = 1 then { rd with obs := rd.obs ++ [p], code := worR rd.code c }
 else { rd with que := rd.que ++ [(p.getD 0 (0, 0), p.getD 1 (0, 0))], code := worR rd.code c }
theorem pts_ne {r : List (List UInt8)} (h : r.length ≠ 0) (he : r.length % 2 = 0) : (ptsF r).length * 2 = r.length := by
 have h1 := prN_all he
 have h2 := congrArg List.length h1
 rw [prN_len] at h2
 omega
theorem line_row {rd : Rd} (hrd : rd.rob = [] → rd.obs = [] ∧ rd.que = []) {s : List UInt8} {K c : Int} {l : List Rat} (h : rowK s = (K, l, c)) : lineF rd s =
    if c = 1 ∨ ¬ (rd.rob = [] ↔ K = 0) ∨ K < lastF rd then none else some (addF rd K (prN l (l.length / 2)) c) := by
  unfold rowK at h
  unfold lineF
  cases hf : ful (spl 32 s) with
  | false =>
    rw [hf] at h
    cases h
    exact (if_pos (.inl rfl)).symm
  | true =>
    rw [hf] at h
    rw [if_pos rfl] at h ⊢
    cases hs : spl 32 s with
    | nil => exact absurd hs (spl_ne 32 s)
    | cons w r =>
      rw [hs] at h
      have h : rowM w r = (K, l, c) := h
      show lineW rd w r = _
      unfold rowM at h
      unfold lineW
      by_cases hb : kindF w < 0 ∨ (kindF w = 2 ∧ r.length ≠ 4) ∨ r.length % 2 ≠ 0 ∨ r.length = 0
      · rw [if_pos hb] at h
        cases h
        refine Eq.trans ?_ (if_pos (.inl rfl)).symm
        split
        · rename_i ho
          rw [Bool.and_eq_true] at ho
          unfold okP at ho
          simp only [Bool.and_eq_true, decide_eq_true_iff] at ho
          have hpl := pts_len r
          rcases hb with h | h | h | h
          · have hn : ¬ w = wRob ∧ ¬ w = wObs ∧ ¬ w = wQue := by
              unfold kindF at h
              refine ⟨fun e => ?_, fun e => ?_, fun e => ?_⟩
              · rw [if_pos e] at h; omega
              · rw [e, if_neg (by decide), if_pos rfl] at h; omega
              · rw [e, if_neg (by decide), if_neg (by decide), if_pos rfl] at h; omega
            unfold doF
            rw [if_neg hn.1, if_neg hn.2.1, if_neg hn.2.2]
          · have hq : w = wQue := by
              have h0 := h.1
              unfold kindF at h0
              split at h0
              · omega
              · split at h0
                · omega
                · split at h0
                  · assumption
                  · omega
            have h2 := pts_ne (r := r) (by omega) ho.2.1
            unfold doF
            rw [hq, if_neg (by decide), if_neg (by decide), if_pos rfl]
            split
            · rename_i a b e
              rw [e] at h2
              exact absurd (show r.length = 4 from h2.symm) h.2
            · rfl
          · omega
          · omega
        · rfl
      · rw [if_neg hb] at h
        have hev : r.length % 2 = 0 := by omega
        have hne : r.length ≠ 0 := by omega
        have hpl := pts_ne hne hev
        have hok : okP r = true := by unfold okP; rw [decide_eq_true hev, decide_eq_true (by omega)]; rfl
        cases hg : r.all gdW with
        | false =>
          rw [hg] at h
          cases h
          exact (if_pos (.inl rfl)).symm
        | true =>
          rw [hg, if_pos rfl] at h
          have h : (kindF w, r.map (fun x => (num3 x).1), cdF 0 r) = (K, l, c) := h
          obtain ⟨hK, h2⟩ := Prod.mk.inj h
          obtain ⟨hl, h3⟩ := Prod.mk.inj h2
          clear h h2
          subst hl
          subst h3
          rw [hok, Bool.true_and, if_pos rfl]
          rw [hK] at hb
          have hK := hK.symm
          have hc := cdF_ne r (k := 0) (.inl rfl)
          have hlen : (r.map fun x => (num3 x).1).length = r.length := List.length_map _
          rw [hlen, prN_all hev]
          have e1 : cdF rd.code r = worR rd.code (cdF 0 r) := cdF_worR r rd.code
          obtain ⟨p, hp⟩ : ∃ p, p = ptsF r := ⟨_, rfl⟩
          rw [← hp] at hpl ⊢
          rw [e1]
          obtain ⟨c, hcc⟩ : ∃ c, c = cdF 0 r := ⟨_, rfl⟩
          rw [← hcc] at hc ⊢
          have c1 : c ≠ 1 := by omega
          unfold kindF at hK
          unfold doF
          by_cases w0 : w = wRob
          · rw [if_pos w0] at hK
            rw [if_pos w0]
            subst hK
            by_cases hr : rd.rob = []
            · obtain ⟨h1, h2⟩ := hrd hr
              rw [if_pos hr, if_neg]
              · rfl
              · unfold lastF
                rw [h1, h2]
                simp [c1, hr]
            · rw [if_neg hr, if_pos (.inr (.inl (by simp [hr])))]
          · rw [if_neg w0] at hK
            rw [if_neg w0]
            by_cases w1 : w = wObs
            · rw [if_pos w1] at hK
              rw [if_pos w1]
              subst hK
              by_cases hr : rd.rob = []
              · rw [if_pos (.inl hr), if_pos (.inr (.inl (by simp [hr])))]
              · by_cases hq : rd.que = []
                · rw [if_neg (by simp [hr, hq]), if_neg]
                  · rfl
                  · unfold lastF
                    rw [if_neg (by simp [hq])]
                    simp only [c1, hr, false_iff, false_or, not_or]
                    refine ⟨by decide, ?_⟩
                    split <;> decide
                · rw [if_pos (.inr hq), if_pos (.inr (.inr (by unfold lastF; rw [if_pos hq]; decide)))]
            · rw [if_neg w1] at hK
              rw [if_neg w1]
              by_cases w2 : w = wQue
              · rw [if_pos w2] at hK
                rw [if_pos w2]
                subst hK
                have h4 : r.length = 4 := by omega
                obtain ⟨a, b, rfl⟩ : ∃ a b, p = [a, b] := by
                  match p, hpl with
                  | [], h => simp at h; omega
                  | [a], h => simp at h; omega
                  | [a, b], _ => exact ⟨a, b, rfl⟩
                  | a :: b :: d :: t, h => simp only [List.length_cons] at h; omega
                by_cases hr : rd.rob = []
                · simp only [hr, if_true]
                  rw [if_pos (.inr (.inl (by simp)))]
                · simp only [hr, if_false]
                  rw [if_neg]
                  · rfl
                  · unfold lastF
                    simp only [c1, false_iff, false_or, not_or]
                    refine ⟨by decide, ?_⟩
                    split <;> (try split) <;> decide
              · rw [if_neg w2] at hK
                omega
theorem row_facts {s : List UInt8} {K c : Int} {l : List Rat} (h : rowK s = (K, l, c)) (hc : c ≠ 1) : (K = 0 ∨ K = 1 ∨ K = 2) ∧ l.length ≠ 0 ∧ l.length % 2 = 0 ∧ (K = 2 → l.length = 4) ∧ (∀ q ∈ l, Bq q 7) ∧ l.length ≤ s.length := by
  unfold rowK at h
  cases hf : ful (spl 32 s) with
  | false => rw [hf] at h; cases h; exact absurd rfl hc
  | true =>
    rw [hf, if_pos rfl] at h
    cases hs : spl 32 s with
    | nil => exact absurd hs (spl_ne 32 s)
    | cons w r =>
      have hln := spl_len 32 s
      rw [hs] at h hln
      have h : rowM w r = (K, l, c) := h
      unfold rowM at h
      by_cases hb : kindF w < 0 ∨ (kindF w = 2 ∧ r.length ≠ 4) ∨ r.length % 2 ≠ 0 ∨ r.length = 0
      · rw [if_pos hb] at h; cases h; exact absurd rfl hc
      · rw [if_neg hb] at h
        cases hg : r.all gdW with
        | false => rw [hg] at h; cases h; exact absurd rfl hc
        | true =>
          rw [hg] at h
          have h : (kindF w, r.map (fun x => (num3 x).1), cdF 0 r) = (K, l, c) := h
          obtain ⟨h1, h2⟩ := Prod.mk.inj h
          obtain ⟨h3, _⟩ := Prod.mk.inj h2
          have hK : kindF w = 0 ∨ kindF w = 1 ∨ kindF w = 2 ∨ kindF w = -1 := by unfold kindF; split; exact .inl rfl; split; exact .inr (.inl rfl); split; exact .inr (.inr (.inl rfl)); exact .inr (.inr (.inr rfl))
          rw [h1] at hb hK
          subst h3
          simp only [List.length_map, List.length_cons] at hln ⊢
          refine ⟨by omega, by omega, by omega, by omega, fun q hq => ?_, by omega⟩
          obtain ⟨x, _, rfl⟩ := List.mem_map.1 hq
          exact num3_bq x
theorem last_add {rd : Rd} {K c : Int} {p : List V2} (hk : K = 0 ∨ K = 1 ∨ K = 2) (hl : ¬ K < lastF rd) (h0 : K = 0 → rd.obs = [] ∧ rd.que = []) : lastF (addF rd K p c) = K := by
 rcases hk with rfl | rfl | rfl
 ·obtain ⟨h1, h2⟩ := h0 rfl
  show lastF { rd with rob := p, code := worR rd.code c } = 0
  unfold lastF; simp [h1, h2]
 ·show lastF { rd with obs := rd.obs ++ [p], code := worR rd.code c } = 1
  have hq : rd.que = [] := Classical.byContradiction fun h => hl (by unfold lastF; rw [if_pos h]; decide)
  unfold lastF; simp [hq]
 ·show lastF { rd with que := rd.que ++ [(p.getD 0 (0, 0), p.getD 1 (0, 0))], code := worR rd.code c } = 2
  unfold lastF; simp
theorem add_code (rd : Rd) (K c : Int) (p : List V2) : (addF rd K p c).code = worR rd.code c := by unfold addF; split; rfl; split <;> rfl
theorem add_rob {rd : Rd} {K c : Int} {p : List V2} (hp : p ≠ []) (h : rd.rob = [] ↔ K = 0) : (addF rd K p c).rob ≠ [] := by
 unfold addF
 split
 ·exact hp
 ·rename_i hk
  split
  ·exact fun e => hk (h.1 e)
  ·exact fun e => hk (h.1 e)
theorem add_lens (rd : Rd) (K c : Int) (p : List V2) : (addF rd K p c).obs.length ≤ rd.obs.length + 1 ∧ (addF rd K p c).que.length ≤ rd.que.length + 1 := by
 unfold addF
 split
 ·exact ⟨Nat.le_succ _, Nat.le_succ _⟩
 ·split
  ·exact ⟨by simp, Nat.le_succ _⟩
  ·exact ⟨Nat.le_succ _, by simp⟩
theorem neqB {g : Nat} {K : Int} : ((((g : Nat) : Int) == 0) != (K == 0)) = true ↔ ¬ (g = 0 ↔ K = 0) := by
 rw [show (((g : Nat) : Int) == 0) = decide (g = 0) by rw [Bool.eq_iff_iff]; simp, show (K == 0) = decide (K = 0) from rfl]
 by_cases a : g = 0 <;> by_cases b : K = 0 <;> simp [a, b]
end Num
namespace Go.Proofs
open Go Go.Sv Num
variable {G : Imm}
theorem rParse12_spec {t : List UInt8} (ht : t.length ≤ 2000) : PSpec Tryz.prog G 43 [strS t] (tupS [aggS (qsC (parseF t).1), intS .i64 (parseF t).2]) := by
 obtain ⟨ls, hls⟩ : ∃ ls, ls = (if lnOk t then spl 10 (Lib.trimSuffix t [10]) else []) := ⟨_, rfl⟩
 have hli := rlines_spec (G := G) (s := t) (by omega)
 rw [← hls] at hli
 have hP0 : lnOk t = false → parseF t = (([], [], []), 1) := fun h => by unfold parseF; rw [if_neg (by rw [h]; decide)]
 have hP1 : lnOk t = true → parseF t = (match goF ls with | none => (([], [], []), 1) | some rd => if rd.code ≠ 0 then (([], [], []), rd.code) else ((rd.rob, rd.obs, rd.que), 0)) := fun h => by unfold parseF; rw [if_pos h, hls, if_pos h]; rfl
 have hz : ls = [] ↔ lnOk t = false := by
  rw [hls]
  cases h : lnOk t with
  | true => rw [if_pos rfl]; exact ⟨fun e => absurd e (spl_ne _ _), fun e => by cases e⟩
  | false => exact ⟨fun _ => rfl, fun _ => rfl⟩
 have hlm : ∀ w ∈ ls, w.length ≤ 2000 := fun w hw => by
  rw [hls] at hw
  split at hw
  ·have h1 := spl_mem hw
   have h2 := ts_len t 10
   omega
  ·cases hw
 have hll : ls.length ≤ 2001 := by
  rw [hls]
  split
  ·have h1 := spl_len 10 (Lib.trimSuffix t [10])
   have h2 := ts_len t 10
   omega
  ·exact Nat.zero_le _
 refine zs Tryz.func43 ?_;refine zr ?_;refine zzv fun b2 => ?_;refine zz ?_;refine zx ?_;refine zz ?_;refine zf hli ?_;(iterate 5 refine zz ?_);refine zzn ?_;refine T_seq ?_;refine T_seqQ (K := fun S1 => ∃ b : Bool, (b = true ↔ lnOk t = false) ∧ Ent S1 ⟨95, [(25, boolS b), (4, slS 1 tC ls), (2, eqS (.pointer (some ⟨b2, 0, none⟩)))], [⟨some b2, 54, [eqS (.slice none 0 0), eqS (.slice none 0 0), eqS (.slice none 0 0)], 0⟩], [], (0, false)⟩) ?_ ?_
 ·refine T_region ?_;refine zz ?_
  refine Run.oneB (ok_cmp rfl rfl rfl rfl) rfl rfl rfl (fun h2_1 => ?_) (fun h2_1 => ?_)
  ·have k2_1 := bne_iff_ne.1 h2_1
   refine zz ?_;(iterate 3 refine zq ?_);refine zz ?_;refine zzn ?_
   exact ⟨true, ⟨fun _ => by cases h : lnOk t with | false => rfl | true => exact absurd (if_pos (.inr h)) k2_1, fun _ => rfl⟩, ent_h (subG_cons rfl (subG_cons rfl (subG_cons rfl (trivial)))) rfl⟩
  ·have k2_1 := bne_eq_false_iff_eq.1 h2_1
   (iterate 5 refine zz ?_);refine zzn ?_
   exact ⟨_, (by rw [beq_iff_eq, ← hz]; exact ⟨fun h => List.eq_nil_of_length_eq_zero (by omega), fun h => by rw [h]; rfl⟩), ent_h (subG_cons rfl (subG_cons rfl (subG_cons rfl (trivial)))) rfl⟩
 ·rintro S1 ⟨b, hb, hS1⟩
  refine T_pre hS1 ?_;refine zzc (fun h25 => ?_) fun h25 => ?_
  ·have hpe := hP0 (hb.1 h25)
   refine zr ?_;refine zo ((show OpOK _ _ _ _ _ (aggS (qsC ([], [], []))) from (ok_build rfl rfl (by kernel_rfl)).sub nil_qs)) ?_;refine zw ?_;refine zz ?_;refine zzn ?_;refine T_ret ?_
   exact ⟨_, [], .many (.cons (.agg 0 inferInstance rfl rfl rfl rfl) (.cons (.tmp rfl) (.nil))), List.nil_sublist _, by rw [hpe]; rfl, rfl⟩
  ·have hok : lnOk t = true := by cases h : lnOk t with | true => rfl | false => rw [hb.2 h] at h25; cases h25
   have hp1 := hP1 hok
   refine T_skip ?_;refine zr ?_;refine zzv fun b6 => ?_;refine zx ?_;(iterate 2 refine zz ?_);refine zzn ?_;refine T_seq ?_;refine zr ?_;refine zz ?_;refine zzn ?_;refine T_block ?_;refine T_ghost (ghost_row 22 1) ?_;refine T_ghost (ghost_row 69 12) ?_;refine T_loop4 (fun (g : Nat) (rd : Rd) (qo qq : Option (Nat × Nat)) => ⟨95, [(9, intS .i64 (g : Nat)), (8, intS .i64 (lastF rd)), (7, intS .i64 rd.code), (6, eqS (.pointer (some ⟨b6, 0, none⟩))), (4, slS 1 tC ls), (2, eqS (.pointer (some ⟨b2, 0, none⟩)))], [rowE qq 69 12 rd.que.length (rd.que.flatMap qqueC), rowE qo 22 1 rd.obs.length (rd.obs.flatMap qrowC), ⟨some b6, 54, [robS rd.rob, eqS (rowV qo rd.obs.length), eqS (rowV qq rd.que.length)], 0⟩, ⟨some b2, 54, [eqS (.slice none 0 0), eqS (.slice none 0 0), eqS (.slice none 0 0)], 0⟩], [], (0, false)⟩) (fun g rd qo qq => (g ≤ ls.length ∧ goF (ls.take g) = some rd) ∧ (rowOk qo rd.obs.length ∧ rowOk qq rd.que.length) ∧ (rd.obs.length ≤ g ∧ rd.que.length ≤ g) ∧ (rd.rob = [] ↔ g = 0) ∧ (rd.rob = [] → rd.obs = [] ∧ rd.que = [])) (fun g _ _ _ => ls.length - g) 0 rd0 none none ⟨⟨Nat.zero_le _, rfl⟩, ⟨rfl, rfl⟩, ⟨Nat.zero_le _, Nat.zero_le _⟩, ⟨fun _ => rfl, fun _ => rfl⟩, fun _ => ⟨rfl, rfl⟩⟩ (ent_h zk rfl) ?_
   rintro g rd qo qq ⟨⟨hg, hgo⟩, ⟨hqo, hqq⟩, ⟨hol, hql⟩, hrg, hcons⟩
   refine T_seq ?_;refine zr ?_;(iterate 4 refine zz ?_);refine zzn ?_;refine zzc (fun h30 => ?_) fun h30 => ?_
   ·have k30 := of_decide_eq_true h30
    obtain ⟨w, hw⟩ : ∃ w, ls[g]? = some w := ⟨_, List.getElem?_eq_getElem (by omega)⟩
    have hwl := hlm w (List.mem_of_getElem? hw)
    obtain ⟨⟨K, l, c⟩, hr⟩ : ∃ x, rowK w = x := ⟨_, rfl⟩
    have hline := line_row hcons hr
    have hgs := go_snoc hw hgo
    have hrs := rrow_spec (G := G) (s := w) hwl
    rw [hr] at hrs
    have hpl0 := prN_len l (l.length / 2)
    obtain ⟨p, hp⟩ : ∃ p, p = prN l (l.length / 2) := ⟨_, rfl⟩
    rw [← hp] at hline hpl0
    refine T_skip ?_;refine T_seqQ (K := fun S1 => ∃ qo2 qq2, ((lineF rd w = some (addF rd K p c) ∧ lastF (addF rd K p c) = K) ∧ ((addF rd K p c).obs.length ≤ rd.obs.length + 1 ∧ (addF rd K p c).que.length ≤ rd.que.length + 1) ∧ (addF rd K p c).rob ≠ []) ∧ (rowOk qo2 (addF rd K p c).obs.length ∧ rowOk qq2 (addF rd K p c).que.length) ∧ Ent S1 ⟨95, [(9, intS .i64 (g : Nat)), (8, intS .i64 K), (7, intS .i64 (worR rd.code c)), (6, eqS (.pointer (some ⟨b6, 0, none⟩))), (4, slS 1 tC ls), (2, eqS (.pointer (some ⟨b2, 0, none⟩)))], [rowE qq2 69 12 (addF rd K p c).que.length ((addF rd K p c).que.flatMap qqueC), rowE qo2 22 1 (addF rd K p c).obs.length ((addF rd K p c).obs.flatMap qrowC), ⟨some b6, 54, [robS (addF rd K p c).rob, eqS (rowV qo2 (addF rd K p c).obs.length), eqS (rowV qq2 (addF rd K p c).que.length)], 0⟩, ⟨some b2, 54, [eqS (.slice none 0 0), eqS (.slice none 0 0), eqS (.slice none 0 0)], 0⟩], [], (0, false)⟩) ?_ ?_
    ·refine T_block ?_;refine zr ?_;(iterate 2 refine zz ?_);refine zo (ok_indexAddr rfl rfl rfl (by omega) (y := w) (hw)) ?_;refine zz ?_;refine zf hrs ?_;(iterate 7 refine zz ?_);refine zzn ?_;refine T_seq ?_;refine T_seqQ (K := fun S1 => ∃ b : Bool, (b = true ↔ (c = 1 ∨ ¬ (rd.rob = [] ↔ K = 0) ∨ K < lastF rd)) ∧ Ent S1 ⟨95, [(55, boolS b), (12, intS .i64 c), (11, slS 3 q3 l), (10, intS .i64 K), (9, intS .i64 (g : Nat)), (8, intS .i64 (lastF rd)), (7, intS .i64 rd.code), (6, eqS (.pointer (some ⟨b6, 0, none⟩))), (4, slS 1 tC ls), (2, eqS (.pointer (some ⟨b2, 0, none⟩)))], [rowE qq 69 12 rd.que.length (rd.que.flatMap qqueC), rowE qo 22 1 rd.obs.length (rd.obs.flatMap qrowC), ⟨some b6, 54, [robS rd.rob, eqS (rowV qo rd.obs.length), eqS (rowV qq rd.que.length)], 0⟩, ⟨some b2, 54, [eqS (.slice none 0 0), eqS (.slice none 0 0), eqS (.slice none 0 0)], 0⟩], [], (0, false)⟩) ?_ ?_
     ·refine T_region ?_;refine zz ?_
      refine Run.oneB (ok_cmp rfl rfl rfl rfl) rfl rfl rfl (fun h10_1 => ?_) (fun h10_1 => ?_)
      ·have k10_1 := beq_iff_eq.1 h10_1
       refine zz ?_;(iterate 5 refine zq ?_);(iterate 2 refine zz ?_);(iterate 3 refine zq ?_);refine zz ?_;refine zzn ?_
       exact ⟨true, ⟨fun _ => .inl k10_1, fun _ => rfl⟩, ent_h zk rfl⟩
      ·have k10_1 := beq_eq_false_iff_ne.1 h10_1
       (iterate 5 refine zz ?_);refine zo (ok_neq_bool rfl rfl rfl Tryz.isBool4) ?_
       refine Run.oneB (ok_pick rfl rfl rfl) rfl rfl rfl (fun h10_8 => ?_) (fun h10_8 => ?_)
       ·refine zz ?_;(iterate 3 refine zq ?_);refine zz ?_;refine zzn ?_
        exact ⟨true, ⟨fun _ => .inr (.inl (by rw [hrg]; exact neqB.1 h10_8)), fun _ => rfl⟩, ent_h (subG_cons rfl (subG_cons rfl (subG_cons rfl (subG_cons rfl (subG_cons rfl (subG_cons rfl (subG_cons rfl (subG_cons rfl (subG_cons rfl (subG_cons rfl (trivial))))))))))) rfl⟩
       ·refine zz ?_;(iterate 4 refine zz ?_);refine zzn ?_
        exact ⟨decide (K < lastF rd), ⟨fun h => .inr (.inr (of_decide_eq_true h)), fun h => decide_eq_true (by rcases h with h | h | h; exact absurd h k10_1; exact absurd (h10_8.symm.trans (neqB.2 (by rw [← hrg]; exact h))) Bool.false_ne_true; exact h)⟩, ent_h (subG_cons rfl (subG_cons rfl (subG_cons rfl (subG_cons rfl (subG_cons rfl (subG_cons rfl (subG_cons rfl (subG_cons rfl (subG_cons rfl (subG_cons rfl (trivial))))))))))) rfl⟩
     ·rintro S1 ⟨b2_, hb2, hS1⟩
      refine T_pre hS1 ?_;refine zzc (fun h55 => ?_) fun h55 => ?_
      ·have hnone : lineF rd w = none := by rw [hline]; exact if_pos (hb2.1 h55)
       have hpe : parseF t = (([], [], []), 1) := by rw [hp1, go_none (hgs.trans hnone)]
       refine zr ?_;refine zo ((show OpOK _ _ _ _ _ (aggS (qsC ([], [], []))) from (ok_build rfl rfl (by kernel_rfl)).sub nil_qs)) ?_;refine zw ?_;refine zz ?_;refine zzn ?_;refine T_ret ?_
       exact ⟨_, [], .many (.cons (.agg 3 inferInstance rfl rfl rfl rfl) (.cons (.tmp rfl) (.nil))), List.nil_sublist _, by rw [hpe]; rfl, rfl⟩
      ·have hnb := fun h => Bool.false_ne_true (h55.symm.trans (hb2.2 h))
       have hsome := hline.trans (if_neg hnb)
       have hc1 : c ≠ 1 := fun h => hnb (.inl h)
       have hrk : rd.rob = [] ↔ K = 0 := Classical.byContradiction fun h => hnb (.inr (.inl h))
       have hkl : ¬ K < lastF rd := fun h => hnb (.inr (.inr h))
       obtain ⟨hk3, hl0, hl2, hl4, hbq, hll2⟩ := row_facts hr hc1
       have hpts := rpts_spec (G := G) hbq (by omega)
       have hpl := hpl0
       have hpne : p ≠ [] := fun e => by rw [e] at hpl; simp at hpl; omega
       rw [← hp] at hpts
       have hla := last_add (p := p) (c := c) hk3 hkl (fun h => hcons (hrk.2 h))
       have hal := add_lens rd K c p
       have har := add_rob (c := c) hpne hrk
       have hfa := And.intro (And.intro hsome hla) (And.intro hal har)
       refine T_skip ?_;refine zr ?_;(iterate 2 refine zz ?_);refine zf rworse_spec ?_;refine zz ?_;refine zx ?_;(iterate 2 refine zz ?_);refine zx ?_;refine zz ?_;refine zf hpts ?_;refine zz ?_;refine zx ?_;refine zz ?_;refine zzn ?_;refine T_block ?_;refine zr ?_;(iterate 2 refine zz ?_);refine zzn ?_;refine zzc (fun h64 => ?_) fun h64 => ?_
       ·have k64 := beq_iff_eq.1 h64
        subst k64
        have e0 : robS (addF rd 0 p c).rob = slS 6 pcan p := robS_cons hpne
        refine T_region ?_;(iterate 2 refine zz ?_);refine zw ?_;refine zzn ?_
        exact ⟨qo, qq, hfa, ⟨hqo, hqq⟩, ent_h (subG_cons rfl (subG_cons rfl (subG_cons rfl (subG_cons rfl (subG_cons rfl (subG_cons rfl (trivial))))))) (by rw [e0] <;> rfl)⟩
       ·have k64 := beq_eq_false_iff_ne.1 h64
        refine zr ?_;(iterate 2 refine zz ?_);refine zzn ?_;refine zzc (fun h68 => ?_) fun h68 => ?_
        ·have k68 := beq_iff_eq.1 h68
         subst k68
         have e1 : (addF rd 1 p c).obs.length = rd.obs.length + 1 := by show (rd.obs ++ [p]).length = _; simp
         have e2 : (addF rd 1 p c).obs.flatMap qrowC = rd.obs.flatMap qrowC ++ qrowC p := by show (rd.obs ++ [p]).flatMap qrowC = _; simp
         refine T_region ?_;(iterate 3 refine zz ?_);refine zo (ok_buildSlice rfl rfl (by decide) rfl (by simp) rfl rfl) ?_;refine Run.append 1 rfl rfl rfl rfl rfl rfl rfl rfl hqo (by rw [flat_qrow]) (fun z hz => by rw [List.mem_singleton.1 hz]; rfl) (by unfold big; simp; omega) (by unfold big; simp; omega) fun q74 hq74 => ?_;refine zz ?_;refine zw ?_;refine zzn ?_
         exact ⟨q74, qq, hfa, ⟨by rw [e1]; exact hq74, hqq⟩, ent_h (subG_cons rfl (subG_cons rfl (subG_cons rfl (subG_cons rfl (subG_cons rfl (subG_cons rfl (trivial))))))) (by rw [e1, e2] <;> rfl)⟩
        ·have k68 := beq_eq_false_iff_ne.1 h68
         refine zr ?_;(iterate 2 refine zz ?_);refine zzn ?_;refine zzc (fun h76 => ?_) fun h76 => ?_
         ·have k76 := beq_iff_eq.1 h76
          subst k76
          have hp2 : p.length = 2 := by have := hl4 rfl; omega
          obtain ⟨pa, pb, hpab⟩ : ∃ a b, p = [a, b] := by
           match p, hp2 with
           | [a, b], _ => exact ⟨a, b, rfl⟩
          have e1 : (addF rd 2 p c).que.length = rd.que.length + 1 := by show (rd.que ++ [_]).length = _; simp
          have e2 : (addF rd 2 p c).que.flatMap qqueC = rd.que.flatMap qqueC ++ qqueC (pa, pb) := by rw [hpab]; show (rd.que ++ [(pa, pb)]).flatMap qqueC = _; simp
          refine T_drawM 13 [10, 12] _ (by kernel_rfl) (.cons _ (.cons_cons _ (.cons _ (.cons_cons _ .slnil)))) ?_;refine RunE.one (ok_fieldAddr_eq rfl rfl rfl) rfl rfl rfl (by kernel_rfl) ?_;refine RunE.one (ok_load_own 2 rfl rfl rfl rfl) rfl rfl rfl (by kernel_rfl) ?_;refine RunE.one (ok_move rfl rfl) rfl rfl rfl (by kernel_rfl) ?_;refine RunE.one (ok_indexAddr rfl rfl rfl (by omega) (y := pa) ((by rw [hpab]; rfl))) rfl rfl rfl (by kernel_rfl) ?_;refine RunE.one ((show OpOK _ _ _ _ _ (aggS (pcan pa)) from ok_load_agg rfl rfl rfl rfl)) rfl rfl rfl (by kernel_rfl) ?_;refine RunE.one (ok_move rfl rfl) rfl rfl rfl (by kernel_rfl) ?_;refine RunE.one (ok_indexAddr rfl rfl rfl (by omega) (y := pb) ((by rw [hpab]; rfl))) rfl rfl rfl (by kernel_rfl) ?_;refine RunE.one ((show OpOK _ _ _ _ _ (aggS (pcan pb)) from ok_load_agg rfl rfl rfl rfl)) rfl rfl rfl (by kernel_rfl) ?_;refine RunE.one ((show OpOK _ _ _ _ _ (aggS (qqueC (pa, pb))) from ok_build rfl rfl (by kernel_rfl))) rfl rfl rfl (by kernel_rfl) ?_;refine RunE.one (ok_buildSlice rfl rfl (by decide) rfl (by simp) (by kernel_rfl) (by kernel_rfl)) rfl rfl rfl (by kernel_rfl) ?_
          refine RunE.nil ⟨_, rfl, ?_⟩
          refine EffM.append 0 rfl rfl rfl rfl rfl rfl rfl hqq (by rw [flat_qque]) (fun z hz => by rw [List.mem_singleton.1 hz]; rfl) (by unfold big; simp; omega) (by unfold big; simp; omega) fun q88 hq88 => ⟨(.cons _ (.cons_cons _ (.cons _ (.cons_cons _ .slnil)))), ?_⟩
          refine RunE.one (ok_fieldAddr_eq rfl rfl rfl) rfl rfl rfl (by kernel_rfl) ?_
          refine RunE.nil ⟨_, rfl, ?_⟩
          refine .loc1n 2 (l_store rfl rfl rfl rfl (by first | decide | (simp; done) | (simp; omega))) rfl rfl rfl ?_
          rintro s1 H1 ⟨rfl, rfl⟩
          refine ⟨(.cons _ (.cons_cons _ (.cons _ (.cons_cons _ .slnil)))), ?_⟩
          refine RunE.nil ?_;refine zzn ?_
          exact ⟨qo, q88, hfa, ⟨hqo, by rw [e1]; exact hq88⟩, ent_h (subG_cons rfl (subG_cons rfl (subG_cons rfl (subG_cons rfl (subG_cons rfl (subG_cons rfl (trivial))))))) (by rw [e1, e2] <;> rfl)⟩
         ·have k76 := beq_eq_false_iff_ne.1 h76
          omega
    ·rintro S1 ⟨qo2, qq2, ⟨⟨hsome, hla⟩, hal, har⟩, hq2, hS1⟩
     refine T_pre hS1 ?_;refine T_region ?_;refine zz ?_;refine za ((g + 1 : Nat) : Int) ?_;refine zz ?_;refine zzn ?_
     exact ⟨g + 1, (addF rd K p c), qo2, qq2, ⟨⟨by omega, hgs.trans hsome⟩, hq2, ⟨by omega, by omega⟩, ⟨fun h => absurd h har, fun h => by omega⟩, fun h => absurd h har⟩, by omega, ent_h (subG_cons rfl (subG_as rfl (by rw [hla]) (subG_as rfl (by rw [add_code]) (subG_cons rfl (subG_cons rfl (subG_cons rfl (trivial))))))) rfl⟩
   ·have k30 := of_decide_eq_false h30
    obtain rfl : g = ls.length := by omega
    rw [List.take_length] at hgo
    rw [hgo] at hp1
    have hp1 : parseF t = if rd.code ≠ 0 then (([], [], []), rd.code) else ((rd.rob, rd.obs, rd.que), 0) := hp1
    refine T_exit ?_;refine T_seq ?_;refine T_ghost (ghost_slo [robS rd.rob] [eqS (rowV qq rd.que.length)] [_] [] [_] hqo (l := rd.obs) (f := qrowC) rfl rfl (fun _ _ => rfl) (by unfold big; omega)) ?_;refine T_ghost (ghost_slo [robS rd.rob, slS 1 qrowC rd.obs] [] [] [] [_] hqq (l := rd.que) (f := qqueC) rfl rfl (fun _ _ => rfl) (by unfold big; omega)) ?_;refine zr ?_;(iterate 2 refine zz ?_);refine zzn ?_;refine zzc (fun h91 => ?_) fun h91 => ?_
    ·have k91 := bne_iff_ne.1 h91
     refine zr ?_;refine zo ((show OpOK _ _ _ _ _ (aggS (qsC ([], [], []))) from (ok_build rfl rfl (by kernel_rfl)).sub nil_qs)) ?_;refine zz ?_;refine zw ?_;refine zz ?_;refine zzn ?_;refine T_ret ?_
     exact ⟨_, [], .many (.cons (.agg 1 inferInstance rfl rfl rfl rfl) (.cons (.tmp rfl) (.nil))), List.nil_sublist _, by rw [hp1, if_pos k91]; rfl, rfl⟩
    ·have k91 := bne_eq_false_iff_eq.1 h91
     refine T_skip ?_;refine zr ?_;refine zo ((show OpOK _ _ _ _ _ (aggS (qsC (rd.rob, rd.obs, rd.que))) from (show OpOK _ _ _ _ _ (aggS [robS rd.rob, slS 1 qrowC rd.obs, slS 12 qqueC rd.que]) from ok_load_own_agg 0 rfl rfl rfl (by kernel_rfl) rfl).sub rob_qs)) ?_;refine zw ?_;refine zz ?_;refine zzn ?_;refine T_ret ?_
     exact ⟨_, [], .many (.cons (.agg 1 inferInstance rfl rfl rfl rfl) (.cons (.tmp rfl) (.nil))), List.nil_sublist _, by rw [hp1, if_neg (by rw [k91]; decide)]; rfl, rfl⟩
end Go.Proofs
