/- straitref12: what is too great; what the document says of four texts. -/
import Derived.Test.YtofplgefmjojjaaGreatDoorSce
namespace Go.Proofs
open Go Go.Sv Num
variable {G : Imm}
def bigR (l : List RP) : Prop := 20 < l.length ∨ ∃ p ∈ l, 6 < psz p
def bigQ (q : RP × RP) : Prop := 6 < psz q.1 ∨ 6 < psz q.2
def Gr12 (s : Sc) : Prop := bigR s.1 ∨ 20 < s.2.1.length ∨ (∃ l ∈ s.2.1, bigR l) ∨ 20 < s.2.2.length ∨ ∃ q ∈ s.2.2, bigQ q
noncomputable instance gr12_dec {s : Sc} : Decidable (Gr12 s) := Classical.propDecidable _
end Go.Proofs
/- straitlaw12: what the document says of four texts. -/
namespace Go.Proofs
open Go Go.Sv Num
variable {G : Imm}
def rawR (l : List QP) : List RP := l.map rawP
def raw2 (q : QP × QP) : RP × RP := (rawP q.1, rawP q.2)
def rawS (s : QS) : Sc := (rawR s.1, s.2.1.map rawR, s.2.2.map raw2)
theorem map_id_of {α : Type} {f : α → α} (h : ∀ x, f x = x) (l : List α) : l.map f = l := (List.map_congr_left fun x _ => h x).trans (List.map_id _)
theorem nrm_raw (s : QS) : nrm (rawS s) = s := by
  unfold nrm rawS
  refine Prod.ext (map_raw _) (Prod.ext ?_ ?_)
  · show (s.2.1.map rawR).map pvs = s.2.1
    rw [List.map_map]; exact map_id_of (fun l => map_raw l) _
  · show (s.2.2.map raw2).map pv2 = s.2.2
    rw [List.map_map]; exact map_id_of (fun q => by show (pv (rawP q.1), pv (rawP q.2)) = q; rw [rawP_pv, rawP_pv]) _
theorem qs_sc {s : QS} (I : Imm) (v : Value) (h : (aggS (qsC s)).den I v) : (aggS (scC (rawS s))).den I v := by
  obtain ⟨xs, hv, hd, h1⟩ := h
  obtain ⟨x, y, z, rfl, hx, hy, hz⟩ := dens_three hd
  refine ⟨_, hv, dens_cons (sl_same rawP (fun _ => rfl) hx) (dens_cons (sl_conv rawR (fun l _ i r hr => ?_) hy) (dens_cons (sl_same raw2 (fun _ => rfl) hz) dens_nil)), h1⟩
  cases i with
  | zero => cases hr; exact ⟨_, rfl, fun v h => sl_same rawP (fun _ => rfl) h⟩
  | succ i => cases hr
def qsPts (s : QS) : List QP := s.1 ++ (s.2.1.flatten ++ s.2.2.flatMap fun q => [q.1, q.2])
theorem scPts_eq (s : Sc) : scPts s = s.1 ++ (s.2.1.flatten ++ s.2.2.flatMap fun q => [q.1, q.2]) := by
  unfold scPts scL
  rw [List.flatMap_cons, List.flatMap_append, List.flatMap_map, List.flatMap_map]
  show s.1 ++ (s.2.1.flatMap id ++ _) = _
  rw [List.flatMap_id]
theorem raw_flat (l : List (List QP)) : (l.map rawR).flatten = rawR l.flatten := by
  induction l with
  | nil => rfl
  | cons x l ih => rw [List.map_cons, List.flatten_cons, ih, List.flatten_cons]; unfold rawR; rw [List.map_append]
theorem raw_flat2 (l : List (QP × QP)) : ((l.map raw2).flatMap fun q => [q.1, q.2]) = rawR (l.flatMap fun q => [q.1, q.2]) := by
  induction l with
  | nil => rfl
  | cons x l ih => rw [List.map_cons, List.flatMap_cons, ih, List.flatMap_cons]; unfold rawR; rw [List.map_append]; rfl
theorem scPts_raw (s : QS) : scPts (rawS s) = rawR (qsPts s) := by
  rw [scPts_eq]
  unfold rawS qsPts
  rw [raw_flat, raw_flat2]; unfold rawR; rw [List.map_append, List.map_append]
theorem raw_scok {s : QS} {k n : Nat} (hk : 0 < k) (hp : ∀ p ∈ qsPts s, Bq p.1 k ∧ Bq p.2 k) (hl : (qsPts s).length ≤ n) (hr : s.2.1.length + s.2.2.length + 1 ≤ n) : ScOk (rawS s) k n := by
  refine ⟨hk, fun x hx p hpx => ?_, by rw [scPts_raw]; unfold rawR; rwa [List.length_map], by rw [scL_len]; unfold rawS; simpa using hr⟩
  have : p ∈ scPts (rawS s) := List.mem_flatMap.2 ⟨x, hx, hpx⟩
  rw [scPts_raw] at this
  obtain ⟨q, hq, rfl⟩ := List.mem_map.1 this
  exact raw_ok (hp q hq)
instance dqs : DecidableEq (List (Rat × Rat) × List (List (Rat × Rat)) × List ((Rat × Rat) × (Rat × Rat))) := instDecidableEqProd
abbrev S0 : QS := ([(0, 0), (1, 0), (0, 1)], [], [])
end Go.Proofs
/- The law SceneParts, on the facts. -/
namespace Go.Proofs
open Go Go.Sv Num
variable {G : Imm}
theorem nil_sl0 {α : Type} {st : Nat} {f : α → List SV} {I : Imm} {v : Value} (h : (eqS (.slice none 0 0)).den I v) : (slS st f []).den I v := by
  rw [show v = .slice none 0 0 from h]; exact ⟨none, 0, rfl, Nat.le_refl _, Nat.zero_le _, .inl rfl⟩
theorem sc_rob {l : List RP} (I : Imm) (v : Value) (h : (aggS [slS 6 pc l, eqS (.slice none 0 0), eqS (.slice none 0 0)]).den I v) : (aggS (scC (l, [], []))).den I v := by
  obtain ⟨xs, hv, hd, h1⟩ := h
  obtain ⟨x, y, z, rfl, hx, hy, hz⟩ := dens_three hd
  exact ⟨_, hv, dens_cons hx (dens_cons (nil_sl0 hy) (dens_cons (nil_sl0 hz) dens_nil)), h1⟩
end Go.Proofs
