/- Sides: rat.Sign, rat.Same, side. -/
import Derived.Test.YtcdlcfihjfhkgaaGreatDoorSny
import Derived.Test.YtcdlcfihjfhkgaaGreatDoorSv1
namespace Go.Proofs
open Go Go.Sv Num
variable {G : Imm}
end Go.Proofs
/- Rings of points: side.ring, side.Turns. -/
namespace Go.Proofs
open Go Go.Sv Num
variable {G : Imm}
end Go.Proofs
/- Turns of a ring. -/
namespace Go.Proofs
open Go Go.Sv Num
variable {G : Imm}
end Go.Proofs
/- How great points and numbers are. -/
namespace Go.Proofs
open Go Go.Sv Num
variable {G : Imm}
theorem T_cells {P : Program} {E : Env} {r : Option Nat} {S : St} {c : Code} {Q : Exit → St → Prop} {α : Type} {st : Nat} {f : α → List SV} {l : List α} (t : Nat) (hg : Go.Sv.look t S.g = some (slS st f l)) (h : (∀ x ∈ l, ∃ I, ∀ (j : Nat) s, (f x)[j]? = some s → ∃ v, s.den I v) → T P G E r c S Q) : T P G E r c S Q :=
  T_fact (fun I F a W hs => by
    obtain ⟨_, _, _, _, _, h3⟩ := hs.g t _ hg
    intro x hx
    refine ⟨I, fun j s hj => ?_⟩
    rcases h3 with h3 | ⟨b, o, _, h4⟩
    · rw [h3] at hx; cases hx
    · obtain ⟨i, hi⟩ := List.getElem?_of_mem hx
      obtain ⟨_, _, h5⟩ := h4 i x hi
      obtain ⟨v, _, hv, _⟩ := h5 j s hj
      exact ⟨v, hv⟩) h
theorem nat_big {I : Imm} {l : List Nat} (h : ∃ v, (natS l).den I v) : l.length ≤ big := by
  obtain ⟨_, _, _, _, _, h, _⟩ := h
  exact h
/-- sizes, each cut at 1000, added up -/
def gs {α : Type} (sz : α → Nat) (xs : List α) (k : Nat) : Nat := ((xs.take k).map fun p => min (sz p) 1000).sum
theorem gs_succ {α : Type} {sz : α → Nat} {xs : List α} {k : Nat} {p : α} (h : xs[k]? = some p) : gs sz xs (k + 1) = gs sz xs k + min (sz p) 1000 := by
  unfold gs; rw [List.take_add_one, h]; simp
theorem gs_le {α : Type} (sz : α → Nat) (xs : List α) : ∀ k, gs sz xs k ≤ 1000 * k
  | 0 => by simp [gs]
  | k + 1 => by
    have := gs_le sz xs k
    cases h : xs[k]? with
    | none => unfold gs at *; rw [List.take_add_one, h]; simp at *; omega
    | some p => rw [gs_succ h]; omega
def qtz (p : Bool × List Nat × List Nat) : Nat := p.2.1.length + p.2.2.length
theorem rqGreat_spec {xs : List (Bool × List Nat × List Nat)} : PSpec Tryz.prog G 11 [slS 3 qc xs] (boolS (decide (60 < xs.length ∨ 40 < gs qtz xs xs.length))) := by
  refine fn_spec Tryz.func11 rfl rfl rfl ?_
  refine T_regionS ?_
  refine Run.one (ok_assign rfl rfl) rfl rfl rfl ?_
  refine Run.nil ?_
  refine T_regionS ?_
  refine Run.one (ok_assign rfl rfl) rfl rfl rfl ?_
  refine Run.nil ?_
  refine T_seq ?_
  refine T_regionS ?_
  refine Run.one (ok_assign rfl rfl) rfl rfl rfl ?_
  refine Run.nil ?_
  refine T_block ?_
  refine T_len 0 rfl fun ha => T_cells 0 rfl fun hc => ?_
  unfold big at ha
  refine T_loop (γ := Nat) (fun i => ⟨_, [(4, intS .i64 (i : Nat)), (3, intS .i64 (gs qtz xs i : Nat)), (0, slS 3 qc xs)], [], [], (0, false)⟩) (fun i => i ≤ xs.length ∧ i ≤ 61) (fun i => xs.length - i) 0 ⟨Nat.zero_le _, by decide⟩ (ent_g (subG_cons rfl (subG_cons rfl (subG_cons rfl (trivial))))) ?_
  rintro i ⟨hi, hi2⟩
  have hgl := gs_le qtz xs i
  refine T_seq ?_
  refine T_regionS ?_
  refine Run.one (ok_move rfl rfl) rfl rfl rfl ?_
  refine Run.one (ok_move rfl rfl) rfl rfl rfl ?_
  refine Run.one (ok_len rfl rfl) rfl rfl rfl ?_
  refine Run.oneB (ok_cmp rfl rfl rfl rfl) rfl rfl rfl (fun h3_3 => ?_) (fun h3_3 => ?_)
  · have k3_3 := of_decide_eq_true h3_3
    refine Run.one (ok_move rfl rfl) rfl rfl rfl ?_
    refine Run.one (ok_move rfl rfl) (gB rfl rfl rfl rfl) rfl rfl ?_
    refine Run.one (ok_cmp rfl rfl rfl rfl) (gB rfl rfl rfl rfl) rfl rfl ?_
    refine Run.one (ok_pick rfl rfl rfl) rfl rfl rfl ?_
    refine Run.nil ?_
    refine T_cond rfl rfl (fun h12 => ?_) (fun h12 => ?_)
    · have k12 := of_decide_eq_true h12
      refine T_skip ?_
      refine T_seq ?_
      refine T_block ?_
      refine T_draw 18 (by kernel_rfl) ?_
      obtain ⟨⟨b, l, d⟩, hp⟩ : ∃ p, xs[i]? = some p := ⟨_, List.getElem?_eq_getElem (by omega)⟩
      have hgs := gs_succ (sz := qtz) hp
      obtain ⟨I0, hcc⟩ := hc _ (List.mem_of_getElem? hp)
      have hbl : l.length ≤ big := nat_big (hcc 1 _ rfl)
      have hbd : d.length ≤ big := nat_big (hcc 2 _ rfl)
      unfold big at hbl hbd
      simp only [qtz] at hgs
      refine Run.one (ok_move rfl rfl) rfl rfl rfl ?_
      refine Run.one (ok_move rfl rfl) rfl rfl rfl ?_
      refine Run.one (ok_move rfl rfl) rfl rfl rfl ?_
      refine Run.one (ok_indexAddr rfl rfl rfl (by omega) (y := (b, l, d)) (hp)) rfl rfl rfl ?_
      refine Run.one (ok_fieldAddr rfl rfl rfl) rfl rfl rfl ?_
      refine Run.one (ok_fieldAddr rfl rfl rfl) rfl rfl rfl ?_
      refine Run.one (ok_load rfl rfl) rfl rfl rfl ?_
      refine Run.one ((ok_len rfl rfl).sub (int_eq (n := ((l.length : Nat) : Int)) rfl)) rfl rfl rfl ?_
      refine Run.one (ok_move rfl rfl) rfl rfl rfl ?_
      refine Run.one (ok_move rfl rfl) rfl rfl rfl ?_
      refine Run.one (ok_indexAddr rfl rfl rfl (by omega) (y := (b, l, d)) (hp)) rfl rfl rfl ?_
      refine Run.one (ok_fieldAddr rfl rfl rfl) rfl rfl rfl ?_
      refine Run.one (ok_load rfl rfl) rfl rfl rfl ?_
      refine Run.one ((ok_len rfl rfl).sub (int_eq (n := ((d.length : Nat) : Int)) rfl)) rfl rfl rfl ?_
      refine Run.one (ok_ari (z := ((l.length + d.length : Nat) : Int)) rfl rfl rfl (congrArg some (by omega)) (wrap_i64 (by omega) (by omega))) rfl rfl rfl ?_
      refine Run.one (ok_min rfl rfl rfl) rfl rfl rfl ?_
      refine Run.one (ok_ari (z := ((gs qtz xs (i + 1) : Nat) : Int)) rfl rfl rfl (congrArg some (by omega)) (wrap_i64 (by omega) (by omega))) rfl rfl rfl ?_
      refine Run.one (ok_assign rfl rfl) rfl rfl rfl ?_
      refine Run.nil ?_
      refine Run.nil ?_
      refine T_region ?_
      refine Run.one (ok_move rfl rfl) rfl rfl rfl ?_
      refine Run.one (ok_ari (z := ((i + 1 : Nat) : Int)) rfl rfl rfl (congrArg some (by omega)) (wrap_i64 (by omega) (by omega))) rfl rfl rfl ?_
      refine Run.one (ok_assign rfl rfl) rfl rfl rfl ?_
      refine Run.nil ?_
      exact ⟨i + 1, ⟨by omega, by omega⟩, by omega, ent_g (subG_cons rfl (subG_cons rfl (subG_cons rfl (trivial))))⟩
    · have k12 := of_decide_eq_false h12
      refine T_exit ?_
      refine T_regionS ?_
      refine Run.one (ok_move rfl rfl) rfl rfl rfl ?_
      refine Run.one (ok_len rfl rfl) rfl rfl rfl ?_
      refine Run.one ((ok_cmp rfl rfl rfl rfl).sub (bool_eq (c := true) (decide_eq_true (by omega)))) rfl rfl rfl ?_
      refine Run.one (ok_move rfl rfl) rfl rfl rfl ?_
      refine Run.no (gB rfl rfl rfl rfl) rfl rfl ?_
      refine Run.no (gB rfl rfl rfl rfl) rfl rfl ?_
      refine Run.one (ok_pick rfl rfl rfl) rfl rfl rfl ?_
      refine Run.one (ok_assign rfl rfl) rfl rfl rfl ?_
      refine Run.nil ?_
      refine T_ret ?_
      exact ⟨_, [], .one (.tmp rfl), List.nil_sublist _, congrArg boolS (decide_eq_true (.inl (by omega))).symm, rfl⟩
  · have k3_3 := of_decide_eq_false h3_3
    refine Run.one (ok_move rfl rfl) rfl rfl rfl ?_
    refine Run.no (gB rfl rfl rfl rfl) rfl rfl ?_
    refine Run.no (gB rfl rfl rfl rfl) rfl rfl ?_
    refine Run.one (ok_pick rfl rfl rfl) rfl rfl rfl ?_
    refine Run.nil ?_
    refine T_condF rfl rfl ?_
    refine T_exit ?_
    refine T_regionS ?_
    refine Run.one (ok_move rfl rfl) rfl rfl rfl ?_
    refine Run.one (ok_len rfl rfl) rfl rfl rfl ?_
    refine Run.oneB (ok_cmp rfl rfl rfl rfl) rfl rfl rfl (fun h6_2 => ?_) (fun h6_2 => ?_)
    · have k6_2 := of_decide_eq_true h6_2
      refine Run.one (ok_move rfl rfl) rfl rfl rfl ?_
      refine Run.no (gB rfl rfl rfl rfl) rfl rfl ?_
      refine Run.no (gB rfl rfl rfl rfl) rfl rfl ?_
      refine Run.one (ok_pick rfl rfl rfl) rfl rfl rfl ?_
      refine Run.one (ok_assign rfl rfl) rfl rfl rfl ?_
      refine Run.nil ?_
      refine T_ret ?_
      exact ⟨_, [], .one (.tmp rfl), List.nil_sublist _, congrArg boolS (decide_eq_true (.inl (by omega))).symm, rfl⟩
    · have k6_2 := of_decide_eq_false h6_2
      refine Run.one (ok_move rfl rfl) rfl rfl rfl ?_
      refine Run.one (ok_move rfl rfl) (gB rfl rfl rfl rfl) rfl rfl ?_
      refine Run.one ((ok_cmp rfl rfl rfl rfl).sub (bool_eq (c := decide (60 < xs.length ∨ 40 < gs qtz xs xs.length)) (by rw [show xs.length = i by omega]; exact decide_eq_decide.2 (by omega)))) (gB rfl rfl rfl rfl) rfl rfl ?_
      refine Run.one (ok_pick rfl rfl rfl) rfl rfl rfl ?_
      refine Run.one (ok_assign rfl rfl) rfl rfl rfl ?_
      refine Run.nil ?_
      refine T_ret ?_
      exact ⟨_, [], .one (.tmp rfl), List.nil_sublist _, rfl, rfl⟩
end Go.Proofs
/- straitlaw09: what the document says of three points; the law SideTurns, on the facts. -/
namespace Go.Proofs
open Go Go.Sv Num
variable {G : Imm}
instance bq_five : Bq 5 1 := ⟨by decide, by decide⟩
end Go.Proofs
