/- Contracts of the functions of nat. -/
import Derived.Test.YtijnlobgmfmhjaaGreatDoorSna
import Derived.Test.YtijnlobgmfmhjaaGreatDoorSvt
namespace Go.Proofs
open Go Go.Sv Num
variable {G : Imm}
theorem flat_u32 {l : List Nat} : ∀ x ∈ l, (u32S x).length = 1 := fun _ _ => rfl
theorem clone_spec {l : List Nat} (hl : l.length ≤ cap) : PSpec Tryz.prog G 104 [natS l] (natS l) := by
  unfold cap at hl
  refine fn_spec Tryz.func104 rfl rfl rfl ?_
  refine T_regionS ?_
  refine Run.one (ok_assign rfl rfl) rfl rfl rfl ?_
  refine Run.nil ?_
  refine T_seq ?_
  refine T_regionS ?_
  refine Run.one (ok_move rfl rfl) rfl rfl rfl ?_
  refine Run.one (ok_eql_nil_if rfl rfl rfl) rfl rfl rfl ?_
  refine Run.nil ?_
  refine T_cond_if rfl rfl (fun hc1 => ?_) ?_
  · refine T_regionS ?_
    refine Run.one ((ok_assign rfl rfl).sub (nil_nat hc1)) rfl rfl rfl ?_
    refine Run.nil ?_
    refine T_ret ?_
    exact ⟨_, [], .one (.tmp rfl), List.nil_sublist _, rfl, rfl⟩
  · refine T_skip ?_
    refine T_regionS ?_
    refine Run.buildRow rfl rfl rfl rfl rfl rfl (by decide) rfl (.inl rfl) rfl rfl fun b5 hb5 => ?_
    refine Run.one (ok_move rfl rfl) rfl rfl rfl ?_
    refine Run.append 0 rfl rfl rfl rfl rfl rfl rfl rfl hb5 rfl flat_u32 (by unfold big; omega) (by unfold big; omega) fun q7 hq7 => ?_
    refine Run.ghost _ rfl (ghost_sl 0 7 rfl rfl hq7 (l := l) (f := u32S) (by omega) rfl flat_u32 (by unfold big; omega)) ?_
    refine Run.one (ok_assign rfl rfl) rfl rfl rfl ?_
    refine Run.nil ?_
    refine T_ret ?_
    exact ⟨_, [], .one (.tmp rfl), List.nil_sublist _, rfl, rfl⟩
theorem limb_spec {l : List Nat} {i : Nat} : PSpec Tryz.prog G 120 [natS l, intS .i64 i] (intS .u32 (limb l i)) := by
  refine fn_spec Tryz.func120 rfl rfl rfl ?_
  refine T_regionS ?_
  refine Run.one (ok_assign rfl rfl) rfl rfl rfl ?_
  refine Run.nil ?_
  refine T_seq (T_regionS ?_)
  refine Run.one (ok_move rfl rfl) rfl rfl rfl ?_
  refine Run.one (ok_move rfl rfl) rfl rfl rfl ?_
  refine Run.one (ok_len rfl rfl) rfl rfl rfl ?_
  refine Run.one (ok_cmp rfl rfl rfl rfl) rfl rfl rfl ?_
  refine Run.nil ?_
  refine T_cond rfl rfl (fun hb => ?_) (fun hb => ?_)
  · have := of_decide_eq_true hb
    refine T_regionS ?_
    refine Run.one (ok_move rfl rfl) rfl rfl rfl ?_
    refine Run.one (ok_move rfl rfl) rfl rfl rfl ?_
    refine Run.one (ok_indexAddr rfl rfl rfl (by omega) (y := limb l i) (limb_get (by omega))) rfl rfl rfl ?_
    refine Run.one (ok_load rfl rfl) rfl rfl rfl ?_
    refine Run.one (ok_assign rfl rfl) rfl rfl rfl ?_
    refine Run.nil ?_
    refine T_ret ?_
    exact ⟨_, [], .one (.tmp rfl), List.nil_sublist _, rfl, rfl⟩
  · have := of_decide_eq_false hb
    refine T_skip ?_
    refine T_regionS ?_
    refine Run.one (ok_assign rfl rfl) rfl rfl rfl ?_
    refine Run.nil ?_
    refine T_ret ?_
    exact ⟨_, [], .one (.tmp rfl), List.nil_sublist _, by rw [limb_out (by omega)]; rfl, rfl⟩
theorem trim_spec {l : List Nat} {n : Nat} [hn : IsNat l n] (hk : l.length ≤ cap := by exact Sz.le (by decide)) : PSpec Tryz.prog G 91 [natS l] (natS (dig n)) := by
  have hk' := hk
  unfold cap at hk'
  refine fn_spec Tryz.func91 rfl rfl rfl ?_
  refine T_regionS ?_
  refine Run.one (ok_assign rfl rfl) rfl rfl rfl ?_
  refine Run.nil ?_
  refine T_regionS ?_
  refine Run.one (ok_move rfl rfl) rfl rfl rfl ?_
  refine Run.one (ok_len rfl rfl) rfl rfl rfl ?_
  refine Run.one (ok_assign rfl rfl) rfl rfl rfl ?_
  refine Run.nil ?_
  refine T_seq ?_
  refine T_block ?_
  refine T_loop (γ := Nat) (fun g => ⟨_, [(3, intS .i64 g), (0, natS l)], [], [], (0, false)⟩) (fun g => g ≤ l.length ∧ ∀ i, g ≤ i → limb l i = 0) (fun g => g) l.length ⟨Nat.le_refl _, fun i h => limb_out h⟩ (ent_g (subG_cons rfl (subG_cons rfl trivial))) ?_
  rintro g ⟨hg, hz⟩
  have fin : (g = 0 ∨ limb l (g - 1) ≠ 0) → l.take g = dig n := fun h => by rw [← hn.val]; exact trim_take hn.lim hg hz h
  refine T_seq ?_
  refine T_regionS ?_
  refine Run.one (ok_move rfl rfl) rfl rfl rfl ?_
  refine Run.oneB (ok_cmp rfl rfl rfl rfl) rfl rfl rfl (fun hb1 => ?_) (fun hb1 => ?_)
  · have h0 := of_decide_eq_true hb1
    refine Run.one (ok_move rfl rfl) rfl rfl rfl ?_
    refine Run.one (ok_move rfl rfl) ⟨_, _, rfl, rfl, rfl⟩ rfl rfl ?_
    refine Run.one (ok_move rfl rfl) ⟨_, _, rfl, rfl, rfl⟩ rfl rfl ?_
    refine Run.one (ok_ari (z := ((g - 1 : Nat) : Int)) rfl rfl rfl (congrArg some (by omega)) (wrap_i64 (by omega) (by omega))) ⟨_, _, rfl, rfl, rfl⟩ rfl rfl ?_
    refine Run.one (ok_indexAddr rfl rfl rfl (by omega) (y := limb l (g - 1)) (limb_get (by omega))) ⟨_, _, rfl, rfl, rfl⟩ rfl rfl ?_
    refine Run.one (ok_load rfl rfl) ⟨_, _, rfl, rfl, rfl⟩ rfl rfl ?_
    refine Run.one (ok_cmp rfl rfl rfl rfl) ⟨_, _, rfl, rfl, rfl⟩ rfl rfl ?_
    refine Run.one (ok_pick rfl rfl rfl) rfl rfl rfl ?_
    refine Run.nil ?_
    refine T_cond rfl rfl (fun hc2 => ?_) (fun hc2 => ?_)
    · have h1 : limb l (g - 1) = 0 := by simpa using hc2
      refine T_skip ?_
      refine T_block ?_
      refine T_region ?_
      refine Run.one (ok_move rfl rfl) rfl rfl rfl ?_
      refine Run.one (ok_ari (z := ((g - 1 : Nat) : Int)) rfl rfl rfl (congrArg some (by omega)) (wrap_i64 (by omega) (by omega))) rfl rfl rfl ?_
      refine Run.one (ok_assign rfl rfl) rfl rfl rfl ?_
      refine Run.nil ?_
      exact ⟨g - 1, ⟨by omega, fun i hi => by by_cases h : g ≤ i; exact hz i h; rw [show i = g - 1 by omega]; exact h1⟩, by omega, ent_g (subG_cons rfl (subG_cons rfl trivial))⟩
    · have h1 : limb l (g - 1) ≠ 0 := by simpa using hc2
      refine T_exit ?_
      refine T_regionS ?_
      refine Run.one (ok_move rfl rfl) rfl rfl rfl ?_
      refine Run.one (ok_move rfl rfl) rfl rfl rfl ?_
      refine Run.one (ok_move rfl rfl) rfl rfl rfl ?_
      refine Run.one (ok_slice (lo := 0) (hi := g) (m := g) rfl rfl (.inl ⟨rfl, rfl⟩) (.inr ⟨_, _, rfl, rfl⟩) (.inr ⟨_, _, rfl, rfl, Nat.le_refl _, hg⟩) (by omega) hg) rfl rfl rfl ?_
      refine Run.one (ok_call rfl rfl (clone_spec (l := l.take g) (by simp; omega))) rfl rfl rfl ?_
      refine Run.one (ok_assign rfl rfl) rfl rfl rfl ?_
      refine Run.nil ?_
      refine T_ret ?_
      exact ⟨_, [], .one (.tmp rfl), List.nil_sublist _, congrArg natS (fin (.inr h1)), rfl⟩
  · have h0 := of_decide_eq_false hb1
    refine Run.one (ok_move rfl rfl) rfl rfl rfl ?_
    refine Run.no ⟨_, _, rfl, rfl, rfl⟩ rfl rfl ?_
    refine Run.no ⟨_, _, rfl, rfl, rfl⟩ rfl rfl ?_
    refine Run.no ⟨_, _, rfl, rfl, rfl⟩ rfl rfl ?_
    refine Run.no ⟨_, _, rfl, rfl, rfl⟩ rfl rfl ?_
    refine Run.no ⟨_, _, rfl, rfl, rfl⟩ rfl rfl ?_
    refine Run.no ⟨_, _, rfl, rfl, rfl⟩ rfl rfl ?_
    refine Run.one (ok_pick rfl rfl rfl) rfl rfl rfl ?_
    refine Run.nil ?_
    refine T_condF rfl rfl ?_
    refine T_exit ?_
    refine T_regionS ?_
    refine Run.one (ok_move rfl rfl) rfl rfl rfl ?_
    refine Run.one (ok_move rfl rfl) rfl rfl rfl ?_
    refine Run.one (ok_move rfl rfl) rfl rfl rfl ?_
    refine Run.one (ok_slice (lo := 0) (hi := g) (m := g) rfl rfl (.inl ⟨rfl, rfl⟩) (.inr ⟨_, _, rfl, rfl⟩) (.inr ⟨_, _, rfl, rfl, Nat.le_refl _, hg⟩) (by omega) hg) rfl rfl rfl ?_
    refine Run.one (ok_call rfl rfl (clone_spec (l := l.take g) (by simp; omega))) rfl rfl rfl ?_
    refine Run.one (ok_assign rfl rfl) rfl rfl rfl ?_
    refine Run.nil ?_
    refine T_ret ?_
    exact ⟨_, [], .one (.tmp rfl), List.nil_sublist _, congrArg natS (fin (.inl (by omega))), rfl⟩
end Go.Proofs
