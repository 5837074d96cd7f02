/- The law LineParts, on the facts. -/
import Derived.Test.YtcdlcfihjfhkgaaGreatDoorSso
namespace Num
open Go Go.Lib
def okc (x : UInt8) : Bool := x != 32 && x != 10
def good (w : List UInt8) : Bool := !w.isEmpty && w.all okc
theorem okc_take {w : List UInt8} {k : Nat} (h : k < w.length) (Q : Bool) : (((Q && (w.take k).all okc) && w[k] != 32) && w[k] != 10) = (Q && (w.take (k + 1)).all okc) := by
  rw [List.take_add_one, List.getElem?_eq_getElem h, List.all_append]
  simp [okc, Bool.and_assoc]
def nl (ws : List (List UInt8)) : List UInt8 := ws.flatMap fun w => w ++ [10]
theorem nl_join {ws : List (List UInt8)} (h : ws ≠ []) : nl ws = join ws [10] ++ [10] := by
  induction ws with
  | nil => exact absurd rfl h
  | cons w v ih =>
    cases v with
    | nil => simp [nl, join]
    | cons y v =>
      have := ih (by simp)
      unfold nl join at this ⊢
      rw [List.flatMap_cons, this, List.intercalate_cons_cons]; simp
theorem sum_succ {ws : List (List UInt8)} {i : Nat} {w : List UInt8} (h : ws[i]? = some w) : ((ws.take (i + 1)).map List.length).sum = ((ws.take i).map List.length).sum + w.length := by
  rw [List.take_add_one, h]; simp
theorem good_succ {ws : List (List UInt8)} {i : Nat} {w : List UInt8} (h : ws[i]? = some w) (z : Bool) : (((z && (ws.take i).all good) && !w.isEmpty) && w.all okc) = (z && (ws.take (i + 1)).all good) := by
  rw [List.take_add_one, h, List.all_append]; simp [good, Bool.and_assoc]
theorem spl_mem_nil {c : UInt8} {ws : List (List UInt8)} (hf : ful ws = true) : [] ∉ ws := by
  intro h
  have := (List.all_eq_true.1 hf) _ h
  simp at this
theorem good_facts {ws : List (List UInt8)} (hg : ws.all good = true) : ful ws = true ∧ (∀ w ∈ ws, ∀ x ∈ w, x ≠ 32) ∧ ∀ w ∈ ws, ∀ x ∈ w, x ≠ 10 := by
  have h := List.all_eq_true.1 hg
  have h2 : ∀ w ∈ ws, (!w.isEmpty) = true ∧ w.all okc = true := fun w hw => by have := h w hw; unfold good at this; exact (Bool.and_eq_true _ _).mp this
  have h3 : ∀ w ∈ ws, ∀ x ∈ w, x ≠ 32 ∧ x ≠ 10 := fun w hw x hx => by have := List.all_eq_true.1 (h2 w hw).2 x hx; simpa [okc] using this
  exact ⟨List.all_eq_true.2 fun w hw => (h2 w hw).1, fun w hw x hx => (h3 w hw x hx).1, fun w hw x hx => (h3 w hw x hx).2⟩
theorem lnOk_snoc (r : List UInt8) : lnOk (r ++ [10]) = ful (spl 10 r) ∧ trimSuffix (r ++ [10]) [10] = r := by
  rcases suffix_cases (r ++ [10]) 10 with ⟨r', h, hs, ht⟩ | ⟨_, _, h⟩
  · have e : r = r' := (List.append_inj_left' h rfl)
    subst e
    exact ⟨by unfold lnOk; rw [hs, ht]; rfl, ht⟩
  · exact absurd (by simp) h
theorem ful_snoc (ws : List (List UInt8)) : ful (ws ++ [[]]) = false := by unfold ful; rw [List.all_append]; simp
theorem parts_facts {ws : List (List UInt8)} (hne : ws ≠ []) (hg : ws.all good = true) : (ful ws = true ∧ spl 32 (join ws [32]) = ws) ∧ (lnOk (nl ws) = true ∧ spl 10 (trimSuffix (nl ws) [10]) = ws) ∧ (join ws [10] ≠ [] ∧ lnOk (join ws [10]) = false) ∧ (nl ws ++ [10] ≠ [] ∧ lnOk (nl ws ++ [10]) = false) := by
  obtain ⟨hf, h32, h10⟩ := good_facts hg
  have hj := spl_join hne h10
  obtain ⟨l1, l2⟩ := lnOk_snoc (join ws [10])
  refine ⟨⟨hf, spl_join hne h32⟩, ⟨?_, ?_⟩, ⟨?_, ?_⟩, ⟨by simp, ?_⟩⟩
  · rw [nl_join hne, l1, hj, hf]
  · rw [nl_join hne, l2, hj]
  · intro h; rw [h] at hj; exact spl_mem_nil (c := 0) hf (by rw [← hj]; simp [spl])
  · rcases suffix_cases (join ws [10]) 10 with ⟨r, h, _, _⟩ | ⟨h, _, _⟩
    · have := spl_snoc 10 r
      rw [← h, hj] at this
      exact absurd (by rw [this]; simp) (spl_mem_nil (c := 0) hf)
    · unfold lnOk; rw [h]; rfl
  · obtain ⟨l3, l4⟩ := lnOk_snoc (nl ws)
    rw [l3, nl_join hne, spl_snoc, ful_snoc]
theorem nl_length (ws : List (List UInt8)) : (nl ws).length = (ws.map List.length).sum + ws.length := by
  induction ws with
  | nil => rfl
  | cons w v ih => unfold nl at ih ⊢; rw [List.flatMap_cons, List.length_append, ih]; simp; omega
theorem nl_succ {ws : List (List UInt8)} {i : Nat} {w : List UInt8} (h : ws[i]? = some w) : nl (ws.take (i + 1)) = (nl (ws.take i) ++ w) ++ [10] := by
  rw [List.take_add_one, h]; simp [nl]
theorem nl_take_le (ws : List (List UInt8)) (i : Nat) : (nl (ws.take i)).length ≤ (nl ws).length := by
  conv => rhs; rw [← List.take_append_drop i ws]
  unfold nl; rw [List.flatMap_append, List.length_append]; omega
theorem join32_le {ws : List (List UInt8)} (hne : ws ≠ []) : (join ws [32]).length + 1 = (nl ws).length := by
  induction ws with
  | nil => exact absurd rfl hne
  | cons w v ih =>
    cases v with
    | nil => simp [nl, join]
    | cons y v =>
      have := ih (by simp)
      unfold nl join at this ⊢
      rw [List.flatMap_cons, List.intercalate_cons_cons]; simp only [List.length_append, List.length_singleton] at this ⊢; omega
theorem u8_bne (c d : UInt8) : (((c.toNat : Nat) : Int) != ((d.toNat : Nat) : Int)) = (c != d) := by
  rw [Bool.eq_iff_iff, bne_iff_ne, bne_iff_ne]
  constructor
  · intro h e; exact h (by rw [e])
  · intro h e; exact h (UInt8.toNat_inj.1 (by omega))
theorem u8_bne32 (c : UInt8) : (((c.toNat : Nat) : Int) != 32) = (c != 32) := u8_bne c 32
theorem u8_bne10 (c : UInt8) : (((c.toNat : Nat) : Int) != 10) = (c != 10) := u8_bne c 10
end Num
namespace Go.Proofs
open Go Go.Sv Num
variable {G : Imm}
theorem emp_beq (w : List UInt8) : (!w == []) = !w.isEmpty := by cases w <;> rfl
theorem lineParts_spec [Tab G] [Tab10 G] [MaxLen G] {ws : List (List UInt8)} (hws : ∀ w ∈ ws, w.length ≤ 140737488355328) : PSpec Tryz.prog G 5 [slS 1 tC ws] (boolS true) := by
  refine fn_spec Tryz.func5 rfl rfl rfl ?_
  refine T_len 0 rfl fun ha => ?_
  unfold big at ha
  refine T_regionS ?_
  refine Run.one (ok_assign rfl rfl) rfl rfl rfl ?_
  refine Run.nil ?_
  refine T_regionS ?_
  refine Run.one (ok_assign rfl rfl) rfl rfl rfl ?_
  refine Run.nil ?_
  refine T_regionS ?_
  refine Run.one (ok_move rfl rfl) rfl rfl rfl ?_
  refine Run.one (ok_len rfl rfl) rfl rfl rfl ?_
  refine Run.one (ok_cmp rfl rfl rfl rfl) rfl rfl rfl ?_
  refine Run.one (ok_assign rfl rfl) rfl rfl rfl ?_
  refine Run.nil ?_
  refine T_seq ?_
  refine T_regionS ?_
  refine Run.one (ok_assign rfl rfl) rfl rfl rfl ?_
  refine Run.nil ?_
  refine T_block ?_
  refine T_loop2 (fun i n => ⟨_, [(5, intS .i64 (i : Nat)), (3, intS .i64 (n : Nat)), (4, boolS (decide ((0 : Int) < ws.length) && (ws.take i).all good)), (0, slS 1 tC ws)], [], [], (0, false)⟩) (fun i n => i ≤ ws.length ∧ n = ((ws.take i).map List.length).sum ∧ n ≤ 2000) (fun i _ => ws.length - i) 0 0 ⟨Nat.zero_le _, rfl, by omega⟩ (ent_g (subG_cons rfl (subG_cons rfl (subG_as rfl (by simp) (subG_cons rfl (trivial)))))) ?_
  rintro i n ⟨hi, hn, hn2⟩
  obtain ⟨P, hP⟩ : ∃ P, P = (decide ((0 : Int) < ws.length) && (ws.take i).all good) := ⟨_, rfl⟩
  rw [← hP]
  refine T_seq ?_
  refine T_regionS ?_
  refine Run.one (ok_move rfl rfl) rfl rfl rfl ?_
  refine Run.one (ok_move rfl rfl) rfl rfl rfl ?_
  refine Run.one (ok_len rfl rfl) rfl rfl rfl ?_
  refine Run.oneB (ok_cmp rfl rfl rfl rfl) rfl rfl rfl (fun h4_3 => ?_) (fun h4_3 => ?_)
  · have k4_3 := of_decide_eq_true h4_3
    refine Run.one (ok_move rfl rfl) rfl rfl rfl ?_
    refine Run.one (ok_move rfl rfl) (gB rfl rfl rfl rfl) rfl rfl ?_
    refine Run.one (ok_cmp rfl rfl rfl rfl) (gB rfl rfl rfl rfl) rfl rfl ?_
    refine Run.one (ok_pick rfl rfl rfl) rfl rfl rfl ?_
    refine Run.nil ?_
    refine T_cond rfl rfl (fun h27 => ?_) (fun h27 => ?_)
    · have k27 := of_decide_eq_true h27
      obtain ⟨w, hw⟩ : ∃ w, ws[i]? = some w := ⟨_, List.getElem?_eq_getElem (by omega)⟩
      have hwl := hws w (List.mem_of_getElem? hw)
      obtain ⟨Q, hQ⟩ : ∃ Q, Q = (P && !w.isEmpty) := ⟨_, rfl⟩
      refine T_skip ?_
      refine T_seq ?_
      refine T_block ?_
      refine T_regionS ?_
      refine Run.one (ok_move rfl rfl) rfl rfl rfl ?_
      refine Run.one (ok_move rfl rfl) rfl rfl rfl ?_
      refine Run.one (ok_move rfl rfl) rfl rfl rfl ?_
      refine Run.one (ok_indexAddr rfl rfl rfl (by omega) (y := w) (hw)) rfl rfl rfl ?_
      refine Run.one (ok_load rfl rfl) rfl rfl rfl ?_
      refine Run.one (ok_len_str rfl rfl) rfl rfl rfl ?_
      refine Run.one ((ok_min rfl rfl rfl).sub (int_eq (n := ((min w.length 10000 : Nat) : Int)) (by omega))) rfl rfl rfl ?_
      refine Run.one (ok_ari (z := ((n + min w.length 10000 : Nat) : Int)) rfl rfl rfl (congrArg some (by omega)) (wrap_i64 (by omega) (by omega))) rfl rfl rfl ?_
      refine Run.one (ok_assign rfl rfl) rfl rfl rfl ?_
      refine Run.nil ?_
      refine T_regionS ?_
      refine Run.oneB (ok_move rfl rfl) rfl rfl rfl (fun h7_0 => ?_) (fun h7_0 => ?_)
      · refine Run.one (ok_move rfl rfl) rfl rfl rfl ?_
        refine Run.one (ok_move rfl rfl) (gB rfl rfl rfl rfl) rfl rfl ?_
        refine Run.one (ok_move rfl rfl) (gB rfl rfl rfl rfl) rfl rfl ?_
        refine Run.one (ok_indexAddr rfl rfl rfl (by omega) (y := w) (hw)) (gB rfl rfl rfl rfl) rfl rfl ?_
        refine Run.one (ok_load rfl rfl) (gB rfl rfl rfl rfl) rfl rfl ?_
        refine Run.one (ok_cmp_str rfl rfl rfl rfl) (gB rfl rfl rfl rfl) rfl rfl ?_
        refine Run.one ((ok_pick rfl rfl rfl).sub (bool_eq (c := Q) (by rw [hQ]; first | (rw [show P = true from h7_0, emp_beq]; rfl) | (rw [show P = false from h7_0]; rfl)))) rfl rfl rfl ?_
        refine Run.one (ok_assign rfl rfl) rfl rfl rfl ?_
        refine Run.nil ?_
        refine T_seq ?_
        refine T_regionS ?_
        refine Run.one (ok_assign rfl rfl) rfl rfl rfl ?_
        refine Run.nil ?_
        refine T_block ?_
        refine T_loop (γ := Nat) (fun k => ⟨_, [(6, intS .i64 (k : Nat)), (4, boolS (Q && (w.take k).all okc)), (3, intS .i64 ((n + min w.length 10000 : Nat) : Int)), (5, intS .i64 (i : Nat)), (0, slS 1 tC ws)], [], [], (0, false)⟩) (fun k => k ≤ w.length) (fun k => w.length - k) 0 (Nat.zero_le _) (ent_g (subG_cons rfl (subG_as rfl (by simp) (subG_cons rfl (subG_cons rfl (subG_cons rfl (trivial))))))) ?_
        intro k hk
        obtain ⟨R, hR⟩ : ∃ R, R = (Q && (w.take k).all okc) := ⟨_, rfl⟩
        rw [← hR]
        refine T_seq ?_
        refine T_regionS ?_
        refine Run.one (ok_move rfl rfl) rfl rfl rfl ?_
        refine Run.one (ok_move rfl rfl) rfl rfl rfl ?_
        refine Run.one (ok_move rfl rfl) rfl rfl rfl ?_
        refine Run.one (ok_indexAddr rfl rfl rfl (by omega) (y := w) (hw)) rfl rfl rfl ?_
        refine Run.one (ok_load rfl rfl) rfl rfl rfl ?_
        refine Run.one (ok_len_str rfl rfl) rfl rfl rfl ?_
        refine Run.one (ok_cmp rfl rfl rfl rfl) rfl rfl rfl ?_
        refine Run.nil ?_
        refine T_cond rfl rfl (fun h52 => ?_) (fun h52 => ?_)
        · have k52 := of_decide_eq_true h52
          have hkl : k < w.length := by omega
          have hg : w[k]? = some w[k] := List.getElem?_eq_getElem hkl
          refine T_skip ?_
          refine T_seq ?_
          refine T_block ?_
          refine T_region ?_
          refine Run.oneB (ok_move rfl rfl) rfl rfl rfl (fun h11_0 => ?_) (fun h11_0 => ?_)
          · refine Run.one (ok_move rfl rfl) rfl rfl rfl ?_
            refine Run.one (ok_move rfl rfl) (gB rfl rfl rfl rfl) rfl rfl ?_
            refine Run.one (ok_move rfl rfl) (gB rfl rfl rfl rfl) rfl rfl ?_
            refine Run.one (ok_indexAddr rfl rfl rfl (by omega) (y := w) (hw)) (gB rfl rfl rfl rfl) rfl rfl ?_
            refine Run.one (ok_load rfl rfl) (gB rfl rfl rfl rfl) rfl rfl ?_
            refine Run.one (ok_move rfl rfl) (gB rfl rfl rfl rfl) rfl rfl ?_
            refine Run.one (ok_index_str rfl rfl rfl (by omega) (c := w[k]) hg) (gB rfl rfl rfl rfl) rfl rfl ?_
            refine Run.one (ok_cmp rfl rfl rfl rfl) (gB rfl rfl rfl rfl) rfl rfl ?_
            refine Run.oneB ((ok_pick rfl rfl rfl).sub (bool_eq (c := R && w[k] != 32) (by first | (rw [show R = true from h11_0, ← u8_bne32]; rfl) | (rw [show R = false from h11_0]; rfl)))) rfl rfl rfl (fun h11_9 => ?_) (fun h11_9 => ?_)
            · refine Run.one (ok_move rfl rfl) rfl rfl rfl ?_
              refine Run.one (ok_move rfl rfl) (gB rfl rfl rfl rfl) rfl rfl ?_
              refine Run.one (ok_move rfl rfl) (gB rfl rfl rfl rfl) rfl rfl ?_
              refine Run.one (ok_indexAddr rfl rfl rfl (by omega) (y := w) (hw)) (gB rfl rfl rfl rfl) rfl rfl ?_
              refine Run.one (ok_load rfl rfl) (gB rfl rfl rfl rfl) rfl rfl ?_
              refine Run.one (ok_move rfl rfl) (gB rfl rfl rfl rfl) rfl rfl ?_
              refine Run.one (ok_index_str rfl rfl rfl (by omega) (c := w[k]) hg) (gB rfl rfl rfl rfl) rfl rfl ?_
              refine Run.one (ok_cmp rfl rfl rfl rfl) (gB rfl rfl rfl rfl) rfl rfl ?_
              refine Run.one ((ok_pick rfl rfl rfl).sub (bool_eq (c := (R && w[k] != 32) && w[k] != 10) (by first | (rw [show (R && w[k] != 32) = true from h11_9, ← u8_bne10]; rfl) | (rw [show (R && w[k] != 32) = false from h11_9]; rfl)))) rfl rfl rfl ?_
              refine Run.one (ok_assign rfl rfl) rfl rfl rfl ?_
              refine Run.nil ?_
              refine T_region ?_
              refine Run.one (ok_move rfl rfl) rfl rfl rfl ?_
              refine Run.one (ok_ari rfl rfl rfl rfl (wrap_i64 (by omega) (by omega))) rfl rfl rfl ?_
              refine Run.one (ok_assign rfl rfl) rfl rfl rfl ?_
              refine Run.nil ?_
              exact ⟨k + 1, by omega, by omega, ent_g (subG_cons rfl (subG_as rfl (by rw [← okc_take hkl, ← hR]) (subG_cons rfl (subG_cons rfl (subG_cons rfl (trivial))))))⟩
            · refine Run.one (ok_move rfl rfl) rfl rfl rfl ?_
              refine Run.no (gB rfl rfl rfl rfl) rfl rfl ?_
              refine Run.no (gB rfl rfl rfl rfl) rfl rfl ?_
              refine Run.no (gB rfl rfl rfl rfl) rfl rfl ?_
              refine Run.no (gB rfl rfl rfl rfl) rfl rfl ?_
              refine Run.no (gB rfl rfl rfl rfl) rfl rfl ?_
              refine Run.no (gB rfl rfl rfl rfl) rfl rfl ?_
              refine Run.no (gB rfl rfl rfl rfl) rfl rfl ?_
              refine Run.one ((ok_pick rfl rfl rfl).sub (bool_eq (c := (R && w[k] != 32) && w[k] != 10) (by first | (rw [show (R && w[k] != 32) = true from h11_9, ← u8_bne10]; rfl) | (rw [show (R && w[k] != 32) = false from h11_9]; rfl)))) rfl rfl rfl ?_
              refine Run.one (ok_assign rfl rfl) rfl rfl rfl ?_
              refine Run.nil ?_
              refine T_region ?_
              refine Run.one (ok_move rfl rfl) rfl rfl rfl ?_
              refine Run.one (ok_ari rfl rfl rfl rfl (wrap_i64 (by omega) (by omega))) rfl rfl rfl ?_
              refine Run.one (ok_assign rfl rfl) rfl rfl rfl ?_
              refine Run.nil ?_
              exact ⟨k + 1, by omega, by omega, ent_g (subG_cons rfl (subG_as rfl (by rw [← okc_take hkl, ← hR]) (subG_cons rfl (subG_cons rfl (subG_cons rfl (trivial))))))⟩
          · refine Run.one (ok_move rfl rfl) rfl rfl rfl ?_
            refine Run.no (gB rfl rfl rfl rfl) rfl rfl ?_
            refine Run.no (gB rfl rfl rfl rfl) rfl rfl ?_
            refine Run.no (gB rfl rfl rfl rfl) rfl rfl ?_
            refine Run.no (gB rfl rfl rfl rfl) rfl rfl ?_
            refine Run.no (gB rfl rfl rfl rfl) rfl rfl ?_
            refine Run.no (gB rfl rfl rfl rfl) rfl rfl ?_
            refine Run.no (gB rfl rfl rfl rfl) rfl rfl ?_
            refine Run.oneB ((ok_pick rfl rfl rfl).sub (bool_eq (c := R && w[k] != 32) (by first | (rw [show R = true from h11_0, ← u8_bne32]; rfl) | (rw [show R = false from h11_0]; rfl)))) rfl rfl rfl (fun h11_9 => ?_) (fun h11_9 => ?_)
            · refine Run.one (ok_move rfl rfl) rfl rfl rfl ?_
              refine Run.one (ok_move rfl rfl) (gB rfl rfl rfl rfl) rfl rfl ?_
              refine Run.one (ok_move rfl rfl) (gB rfl rfl rfl rfl) rfl rfl ?_
              refine Run.one (ok_indexAddr rfl rfl rfl (by omega) (y := w) (hw)) (gB rfl rfl rfl rfl) rfl rfl ?_
              refine Run.one (ok_load rfl rfl) (gB rfl rfl rfl rfl) rfl rfl ?_
              refine Run.one (ok_move rfl rfl) (gB rfl rfl rfl rfl) rfl rfl ?_
              refine Run.one (ok_index_str rfl rfl rfl (by omega) (c := w[k]) hg) (gB rfl rfl rfl rfl) rfl rfl ?_
              refine Run.one (ok_cmp rfl rfl rfl rfl) (gB rfl rfl rfl rfl) rfl rfl ?_
              refine Run.one ((ok_pick rfl rfl rfl).sub (bool_eq (c := (R && w[k] != 32) && w[k] != 10) (by first | (rw [show (R && w[k] != 32) = true from h11_9, ← u8_bne10]; rfl) | (rw [show (R && w[k] != 32) = false from h11_9]; rfl)))) rfl rfl rfl ?_
              refine Run.one (ok_assign rfl rfl) rfl rfl rfl ?_
              refine Run.nil ?_
              refine T_region ?_
              refine Run.one (ok_move rfl rfl) rfl rfl rfl ?_
              refine Run.one (ok_ari rfl rfl rfl rfl (wrap_i64 (by omega) (by omega))) rfl rfl rfl ?_
              refine Run.one (ok_assign rfl rfl) rfl rfl rfl ?_
              refine Run.nil ?_
              exact ⟨k + 1, by omega, by omega, ent_g (subG_cons rfl (subG_as rfl (by rw [← okc_take hkl, ← hR]) (subG_cons rfl (subG_cons rfl (subG_cons rfl (trivial))))))⟩
            · refine Run.one (ok_move rfl rfl) rfl rfl rfl ?_
              refine Run.no (gB rfl rfl rfl rfl) rfl rfl ?_
              refine Run.no (gB rfl rfl rfl rfl) rfl rfl ?_
              refine Run.no (gB rfl rfl rfl rfl) rfl rfl ?_
              refine Run.no (gB rfl rfl rfl rfl) rfl rfl ?_
              refine Run.no (gB rfl rfl rfl rfl) rfl rfl ?_
              refine Run.no (gB rfl rfl rfl rfl) rfl rfl ?_
              refine Run.no (gB rfl rfl rfl rfl) rfl rfl ?_
              refine Run.one ((ok_pick rfl rfl rfl).sub (bool_eq (c := (R && w[k] != 32) && w[k] != 10) (by first | (rw [show (R && w[k] != 32) = true from h11_9, ← u8_bne10]; rfl) | (rw [show (R && w[k] != 32) = false from h11_9]; rfl)))) rfl rfl rfl ?_
              refine Run.one (ok_assign rfl rfl) rfl rfl rfl ?_
              refine Run.nil ?_
              refine T_region ?_
              refine Run.one (ok_move rfl rfl) rfl rfl rfl ?_
              refine Run.one (ok_ari rfl rfl rfl rfl (wrap_i64 (by omega) (by omega))) rfl rfl rfl ?_
              refine Run.one (ok_assign rfl rfl) rfl rfl rfl ?_
              refine Run.nil ?_
              exact ⟨k + 1, by omega, by omega, ent_g (subG_cons rfl (subG_as rfl (by rw [← okc_take hkl, ← hR]) (subG_cons rfl (subG_cons rfl (subG_cons rfl (trivial))))))⟩
        · have k52 := of_decide_eq_false h52
          obtain rfl : k = w.length := by omega
          refine T_exit ?_
          refine T_regionS ?_
          refine Run.one (ok_move rfl rfl) rfl rfl rfl ?_
          refine Run.one (ok_cmp rfl rfl rfl rfl) rfl rfl rfl ?_
          refine Run.nil ?_
          refine T_cond rfl rfl (fun h75 => ?_) (fun h75 => ?_)
          · have k75 := of_decide_eq_true h75
            refine T_regionS ?_
            refine Run.one (ok_call rfl rfl wakes11_spec) rfl rfl rfl ?_
            refine Run.one (ok_assign rfl rfl) rfl rfl rfl ?_
            refine Run.nil ?_
            refine T_ret ?_
            exact ⟨_, [], .one (.tmp rfl), List.nil_sublist _, rfl, rfl⟩
          · have k75 := of_decide_eq_false h75
            refine T_skip ?_
            refine T_region ?_
            refine Run.one (ok_move rfl rfl) rfl rfl rfl ?_
            refine Run.one (ok_ari rfl rfl rfl rfl (wrap_i64 (by omega) (by omega))) rfl rfl rfl ?_
            refine Run.one (ok_assign rfl rfl) rfl rfl rfl ?_
            refine Run.nil ?_
            exact ⟨i + 1, n + min w.length 10000, ⟨by omega, by rw [sum_succ hw]; omega, by omega⟩, by omega, ent_g (subG_cons rfl (subG_cons rfl (subG_as rfl (by rw [hR, List.take_length, hQ, hP]; exact congrArg boolS (good_succ hw _)) (subG_cons rfl (trivial)))))⟩
      · refine Run.one (ok_move rfl rfl) rfl rfl rfl ?_
        refine Run.no (gB rfl rfl rfl rfl) rfl rfl ?_
        refine Run.no (gB rfl rfl rfl rfl) rfl rfl ?_
        refine Run.no (gB rfl rfl rfl rfl) rfl rfl ?_
        refine Run.no (gB rfl rfl rfl rfl) rfl rfl ?_
        refine Run.no (gB rfl rfl rfl rfl) rfl rfl ?_
        refine Run.one ((ok_pick rfl rfl rfl).sub (bool_eq (c := Q) (by rw [hQ]; first | (rw [show P = true from h7_0, emp_beq]; rfl) | (rw [show P = false from h7_0]; rfl)))) rfl rfl rfl ?_
        refine Run.one (ok_assign rfl rfl) rfl rfl rfl ?_
        refine Run.nil ?_
        refine T_seq ?_
        refine T_regionS ?_
        refine Run.one (ok_assign rfl rfl) rfl rfl rfl ?_
        refine Run.nil ?_
        refine T_block ?_
        refine T_loop (γ := Nat) (fun k => ⟨_, [(6, intS .i64 (k : Nat)), (4, boolS (Q && (w.take k).all okc)), (3, intS .i64 ((n + min w.length 10000 : Nat) : Int)), (5, intS .i64 (i : Nat)), (0, slS 1 tC ws)], [], [], (0, false)⟩) (fun k => k ≤ w.length) (fun k => w.length - k) 0 (Nat.zero_le _) (ent_g (subG_cons rfl (subG_as rfl (by simp) (subG_cons rfl (subG_cons rfl (subG_cons rfl (trivial))))))) ?_
        intro k hk
        obtain ⟨R, hR⟩ : ∃ R, R = (Q && (w.take k).all okc) := ⟨_, rfl⟩
        rw [← hR]
        refine T_seq ?_
        refine T_regionS ?_
        refine Run.one (ok_move rfl rfl) rfl rfl rfl ?_
        refine Run.one (ok_move rfl rfl) rfl rfl rfl ?_
        refine Run.one (ok_move rfl rfl) rfl rfl rfl ?_
        refine Run.one (ok_indexAddr rfl rfl rfl (by omega) (y := w) (hw)) rfl rfl rfl ?_
        refine Run.one (ok_load rfl rfl) rfl rfl rfl ?_
        refine Run.one (ok_len_str rfl rfl) rfl rfl rfl ?_
        refine Run.one (ok_cmp rfl rfl rfl rfl) rfl rfl rfl ?_
        refine Run.nil ?_
        refine T_cond rfl rfl (fun h52 => ?_) (fun h52 => ?_)
        · have k52 := of_decide_eq_true h52
          have hkl : k < w.length := by omega
          have hg : w[k]? = some w[k] := List.getElem?_eq_getElem hkl
          refine T_skip ?_
          refine T_seq ?_
          refine T_block ?_
          refine T_region ?_
          refine Run.oneB (ok_move rfl rfl) rfl rfl rfl (fun h11_0 => ?_) (fun h11_0 => ?_)
          · refine Run.one (ok_move rfl rfl) rfl rfl rfl ?_
            refine Run.one (ok_move rfl rfl) (gB rfl rfl rfl rfl) rfl rfl ?_
            refine Run.one (ok_move rfl rfl) (gB rfl rfl rfl rfl) rfl rfl ?_
            refine Run.one (ok_indexAddr rfl rfl rfl (by omega) (y := w) (hw)) (gB rfl rfl rfl rfl) rfl rfl ?_
            refine Run.one (ok_load rfl rfl) (gB rfl rfl rfl rfl) rfl rfl ?_
            refine Run.one (ok_move rfl rfl) (gB rfl rfl rfl rfl) rfl rfl ?_
            refine Run.one (ok_index_str rfl rfl rfl (by omega) (c := w[k]) hg) (gB rfl rfl rfl rfl) rfl rfl ?_
            refine Run.one (ok_cmp rfl rfl rfl rfl) (gB rfl rfl rfl rfl) rfl rfl ?_
            refine Run.oneB ((ok_pick rfl rfl rfl).sub (bool_eq (c := R && w[k] != 32) (by first | (rw [show R = true from h11_0, ← u8_bne32]; rfl) | (rw [show R = false from h11_0]; rfl)))) rfl rfl rfl (fun h11_9 => ?_) (fun h11_9 => ?_)
            · refine Run.one (ok_move rfl rfl) rfl rfl rfl ?_
              refine Run.one (ok_move rfl rfl) (gB rfl rfl rfl rfl) rfl rfl ?_
              refine Run.one (ok_move rfl rfl) (gB rfl rfl rfl rfl) rfl rfl ?_
              refine Run.one (ok_indexAddr rfl rfl rfl (by omega) (y := w) (hw)) (gB rfl rfl rfl rfl) rfl rfl ?_
              refine Run.one (ok_load rfl rfl) (gB rfl rfl rfl rfl) rfl rfl ?_
              refine Run.one (ok_move rfl rfl) (gB rfl rfl rfl rfl) rfl rfl ?_
              refine Run.one (ok_index_str rfl rfl rfl (by omega) (c := w[k]) hg) (gB rfl rfl rfl rfl) rfl rfl ?_
              refine Run.one (ok_cmp rfl rfl rfl rfl) (gB rfl rfl rfl rfl) rfl rfl ?_
              refine Run.one ((ok_pick rfl rfl rfl).sub (bool_eq (c := (R && w[k] != 32) && w[k] != 10) (by first | (rw [show (R && w[k] != 32) = true from h11_9, ← u8_bne10]; rfl) | (rw [show (R && w[k] != 32) = false from h11_9]; rfl)))) rfl rfl rfl ?_
              refine Run.one (ok_assign rfl rfl) rfl rfl rfl ?_
              refine Run.nil ?_
              refine T_region ?_
              refine Run.one (ok_move rfl rfl) rfl rfl rfl ?_
              refine Run.one (ok_ari rfl rfl rfl rfl (wrap_i64 (by omega) (by omega))) rfl rfl rfl ?_
              refine Run.one (ok_assign rfl rfl) rfl rfl rfl ?_
              refine Run.nil ?_
              exact ⟨k + 1, by omega, by omega, ent_g (subG_cons rfl (subG_as rfl (by rw [← okc_take hkl, ← hR]) (subG_cons rfl (subG_cons rfl (subG_cons rfl (trivial))))))⟩
            · refine Run.one (ok_move rfl rfl) rfl rfl rfl ?_
              refine Run.no (gB rfl rfl rfl rfl) rfl rfl ?_
              refine Run.no (gB rfl rfl rfl rfl) rfl rfl ?_
              refine Run.no (gB rfl rfl rfl rfl) rfl rfl ?_
              refine Run.no (gB rfl rfl rfl rfl) rfl rfl ?_
              refine Run.no (gB rfl rfl rfl rfl) rfl rfl ?_
              refine Run.no (gB rfl rfl rfl rfl) rfl rfl ?_
              refine Run.no (gB rfl rfl rfl rfl) rfl rfl ?_
              refine Run.one ((ok_pick rfl rfl rfl).sub (bool_eq (c := (R && w[k] != 32) && w[k] != 10) (by first | (rw [show (R && w[k] != 32) = true from h11_9, ← u8_bne10]; rfl) | (rw [show (R && w[k] != 32) = false from h11_9]; rfl)))) rfl rfl rfl ?_
              refine Run.one (ok_assign rfl rfl) rfl rfl rfl ?_
              refine Run.nil ?_
              refine T_region ?_
              refine Run.one (ok_move rfl rfl) rfl rfl rfl ?_
              refine Run.one (ok_ari rfl rfl rfl rfl (wrap_i64 (by omega) (by omega))) rfl rfl rfl ?_
              refine Run.one (ok_assign rfl rfl) rfl rfl rfl ?_
              refine Run.nil ?_
              exact ⟨k + 1, by omega, by omega, ent_g (subG_cons rfl (subG_as rfl (by rw [← okc_take hkl, ← hR]) (subG_cons rfl (subG_cons rfl (subG_cons rfl (trivial))))))⟩
          · refine Run.one (ok_move rfl rfl) rfl rfl rfl ?_
            refine Run.no (gB rfl rfl rfl rfl) rfl rfl ?_
            refine Run.no (gB rfl rfl rfl rfl) rfl rfl ?_
            refine Run.no (gB rfl rfl rfl rfl) rfl rfl ?_
            refine Run.no (gB rfl rfl rfl rfl) rfl rfl ?_
            refine Run.no (gB rfl rfl rfl rfl) rfl rfl ?_
            refine Run.no (gB rfl rfl rfl rfl) rfl rfl ?_
            refine Run.no (gB rfl rfl rfl rfl) rfl rfl ?_
            refine Run.oneB ((ok_pick rfl rfl rfl).sub (bool_eq (c := R && w[k] != 32) (by first | (rw [show R = true from h11_0, ← u8_bne32]; rfl) | (rw [show R = false from h11_0]; rfl)))) rfl rfl rfl (fun h11_9 => ?_) (fun h11_9 => ?_)
            · refine Run.one (ok_move rfl rfl) rfl rfl rfl ?_
              refine Run.one (ok_move rfl rfl) (gB rfl rfl rfl rfl) rfl rfl ?_
              refine Run.one (ok_move rfl rfl) (gB rfl rfl rfl rfl) rfl rfl ?_
              refine Run.one (ok_indexAddr rfl rfl rfl (by omega) (y := w) (hw)) (gB rfl rfl rfl rfl) rfl rfl ?_
              refine Run.one (ok_load rfl rfl) (gB rfl rfl rfl rfl) rfl rfl ?_
              refine Run.one (ok_move rfl rfl) (gB rfl rfl rfl rfl) rfl rfl ?_
              refine Run.one (ok_index_str rfl rfl rfl (by omega) (c := w[k]) hg) (gB rfl rfl rfl rfl) rfl rfl ?_
              refine Run.one (ok_cmp rfl rfl rfl rfl) (gB rfl rfl rfl rfl) rfl rfl ?_
              refine Run.one ((ok_pick rfl rfl rfl).sub (bool_eq (c := (R && w[k] != 32) && w[k] != 10) (by first | (rw [show (R && w[k] != 32) = true from h11_9, ← u8_bne10]; rfl) | (rw [show (R && w[k] != 32) = false from h11_9]; rfl)))) rfl rfl rfl ?_
              refine Run.one (ok_assign rfl rfl) rfl rfl rfl ?_
              refine Run.nil ?_
              refine T_region ?_
              refine Run.one (ok_move rfl rfl) rfl rfl rfl ?_
              refine Run.one (ok_ari rfl rfl rfl rfl (wrap_i64 (by omega) (by omega))) rfl rfl rfl ?_
              refine Run.one (ok_assign rfl rfl) rfl rfl rfl ?_
              refine Run.nil ?_
              exact ⟨k + 1, by omega, by omega, ent_g (subG_cons rfl (subG_as rfl (by rw [← okc_take hkl, ← hR]) (subG_cons rfl (subG_cons rfl (subG_cons rfl (trivial))))))⟩
            · refine Run.one (ok_move rfl rfl) rfl rfl rfl ?_
              refine Run.no (gB rfl rfl rfl rfl) rfl rfl ?_
              refine Run.no (gB rfl rfl rfl rfl) rfl rfl ?_
              refine Run.no (gB rfl rfl rfl rfl) rfl rfl ?_
              refine Run.no (gB rfl rfl rfl rfl) rfl rfl ?_
              refine Run.no (gB rfl rfl rfl rfl) rfl rfl ?_
              refine Run.no (gB rfl rfl rfl rfl) rfl rfl ?_
              refine Run.no (gB rfl rfl rfl rfl) rfl rfl ?_
              refine Run.one ((ok_pick rfl rfl rfl).sub (bool_eq (c := (R && w[k] != 32) && w[k] != 10) (by first | (rw [show (R && w[k] != 32) = true from h11_9, ← u8_bne10]; rfl) | (rw [show (R && w[k] != 32) = false from h11_9]; rfl)))) rfl rfl rfl ?_
              refine Run.one (ok_assign rfl rfl) rfl rfl rfl ?_
              refine Run.nil ?_
              refine T_region ?_
              refine Run.one (ok_move rfl rfl) rfl rfl rfl ?_
              refine Run.one (ok_ari rfl rfl rfl rfl (wrap_i64 (by omega) (by omega))) rfl rfl rfl ?_
              refine Run.one (ok_assign rfl rfl) rfl rfl rfl ?_
              refine Run.nil ?_
              exact ⟨k + 1, by omega, by omega, ent_g (subG_cons rfl (subG_as rfl (by rw [← okc_take hkl, ← hR]) (subG_cons rfl (subG_cons rfl (subG_cons rfl (trivial))))))⟩
        · have k52 := of_decide_eq_false h52
          obtain rfl : k = w.length := by omega
          refine T_exit ?_
          refine T_regionS ?_
          refine Run.one (ok_move rfl rfl) rfl rfl rfl ?_
          refine Run.one (ok_cmp rfl rfl rfl rfl) rfl rfl rfl ?_
          refine Run.nil ?_
          refine T_cond rfl rfl (fun h75 => ?_) (fun h75 => ?_)
          · have k75 := of_decide_eq_true h75
            refine T_regionS ?_
            refine Run.one (ok_call rfl rfl wakes11_spec) rfl rfl rfl ?_
            refine Run.one (ok_assign rfl rfl) rfl rfl rfl ?_
            refine Run.nil ?_
            refine T_ret ?_
            exact ⟨_, [], .one (.tmp rfl), List.nil_sublist _, rfl, rfl⟩
          · have k75 := of_decide_eq_false h75
            refine T_skip ?_
            refine T_region ?_
            refine Run.one (ok_move rfl rfl) rfl rfl rfl ?_
            refine Run.one (ok_ari rfl rfl rfl rfl (wrap_i64 (by omega) (by omega))) rfl rfl rfl ?_
            refine Run.one (ok_assign rfl rfl) rfl rfl rfl ?_
            refine Run.nil ?_
            exact ⟨i + 1, n + min w.length 10000, ⟨by omega, by rw [sum_succ hw]; omega, by omega⟩, by omega, ent_g (subG_cons rfl (subG_cons rfl (subG_as rfl (by rw [hR, List.take_length, hQ, hP]; exact congrArg boolS (good_succ hw _)) (subG_cons rfl (trivial)))))⟩
    · have k27 := of_decide_eq_false h27
      refine T_exit ?_
      refine T_seq ?_
      refine T_regionS ?_
      refine Run.one (ok_move rfl rfl) rfl rfl rfl ?_
      refine Run.one (ok_len rfl rfl) rfl rfl rfl ?_
      refine Run.one ((ok_cmp rfl rfl rfl rfl).sub (bool_eq (c := true) (decide_eq_true (by omega)))) rfl rfl rfl ?_
      refine Run.one (ok_move rfl rfl) rfl rfl rfl ?_
      refine Run.no (gB rfl rfl rfl rfl) rfl rfl ?_
      refine Run.no (gB rfl rfl rfl rfl) rfl rfl ?_
      refine Run.one (ok_pick rfl rfl rfl) rfl rfl rfl ?_
      refine Run.nil ?_
      refine T_condT rfl rfl ?_
      refine T_regionS ?_
      refine Run.one (ok_call rfl rfl wakes11_spec) rfl rfl rfl ?_
      refine Run.one (ok_assign rfl rfl) rfl rfl rfl ?_
      refine Run.nil ?_
      refine T_ret ?_
      exact ⟨_, [], .one (.tmp rfl), List.nil_sublist _, rfl, rfl⟩
  · have k4_3 := of_decide_eq_false h4_3
    refine Run.one (ok_move rfl rfl) rfl rfl rfl ?_
    refine Run.no (gB rfl rfl rfl rfl) rfl rfl ?_
    refine Run.no (gB rfl rfl rfl rfl) rfl rfl ?_
    refine Run.one (ok_pick rfl rfl rfl) rfl rfl rfl ?_
    refine Run.nil ?_
    refine T_condF rfl rfl ?_
    refine T_exit ?_
    refine T_seq ?_
    refine T_regionS ?_
    refine Run.one (ok_move rfl rfl) rfl rfl rfl ?_
    refine Run.one (ok_len rfl rfl) rfl rfl rfl ?_
    refine Run.oneB (ok_cmp rfl rfl rfl rfl) rfl rfl rfl (fun h14_2 => ?_) (fun h14_2 => ?_)
    · have k14_2 := of_decide_eq_true h14_2
      refine Run.one (ok_move rfl rfl) rfl rfl rfl ?_
      refine Run.no (gB rfl rfl rfl rfl) rfl rfl ?_
      refine Run.no (gB rfl rfl rfl rfl) rfl rfl ?_
      refine Run.one (ok_pick rfl rfl rfl) rfl rfl rfl ?_
      refine Run.nil ?_
      refine T_condT rfl rfl ?_
      refine T_regionS ?_
      refine Run.one (ok_call rfl rfl wakes11_spec) rfl rfl rfl ?_
      refine Run.one (ok_assign rfl rfl) rfl rfl rfl ?_
      refine Run.nil ?_
      refine T_ret ?_
      exact ⟨_, [], .one (.tmp rfl), List.nil_sublist _, rfl, rfl⟩
    · have k14_2 := of_decide_eq_false h14_2
      refine Run.one (ok_move rfl rfl) rfl rfl rfl ?_
      refine Run.one (ok_move rfl rfl) (gB rfl rfl rfl rfl) rfl rfl ?_
      refine Run.one (ok_not rfl rfl) (gB rfl rfl rfl rfl) rfl rfl ?_
      refine Run.one (ok_pick rfl rfl rfl) rfl rfl rfl ?_
      refine Run.nil ?_
      refine T_cond rfl rfl (fun h83 => ?_) (fun h83 => ?_)
      · refine T_regionS ?_
        refine Run.one (ok_call rfl rfl wakes11_spec) rfl rfl rfl ?_
        refine Run.one (ok_assign rfl rfl) rfl rfl rfl ?_
        refine Run.nil ?_
        refine T_ret ?_
        exact ⟨_, [], .one (.tmp rfl), List.nil_sublist _, rfl, rfl⟩
      · have hPt : P = true := by simpa using h83
        obtain rfl : i = ws.length := by omega
        rw [hPt, List.take_length] at hP
        have hP := hP.symm
        rw [Bool.and_eq_true] at hP
        have hw0 := of_decide_eq_true hP.1
        have hne : ws ≠ [] := by rintro rfl; simp at hw0
        obtain ⟨⟨f1, f2⟩, ⟨f3, f4⟩, ⟨f5, f6⟩, ⟨f7, f8⟩⟩ := parts_facts hne hP.2
        rw [List.take_length] at hn
        have hnl := nl_length ws
        have hjl := join32_le hne
        have hlw := words_spec (G := G) (s := Lib.join ws [32]) (by omega)
        rw [f2, f1, if_pos rfl, if_pos rfl] at hlw
        have hl1 := lines_spec (G := G) (s := nl ws) (by omega)
        rw [f3, f4, if_pos rfl, if_pos (Or.inr rfl)] at hl1
        have hnj := nl_join hne
        have hjn : (Lib.join ws [10]).length + 1 = (nl ws).length := by rw [hnj]; simp
        have hl2 := lines_spec (G := G) (s := Lib.join ws [10]) (by omega)
        rw [f6, if_neg (by decide), if_neg (by simp [f5])] at hl2
        have hl3 := lines_spec (G := G) (s := nl ws ++ [10]) (by simp; omega)
        rw [f8, if_neg (by decide), if_neg (by simp [f7])] at hl3
        refine T_skip ?_
        refine T_regionS ?_
        refine Run.one (ok_move rfl rfl) rfl rfl rfl ?_
        refine Run.one (ok_call rfl rfl (ljoin_spec (by omega))) rfl rfl rfl ?_
        refine Run.one (ok_call rfl rfl hlw) rfl rfl rfl ?_
        refine Run.one (ok_move rfl rfl) rfl rfl rfl ?_
        refine Run.one (ok_extract rfl rfl rfl) rfl rfl rfl ?_
        refine Run.one (ok_extract rfl rfl rfl) rfl rfl rfl ?_
        refine Run.one (ok_assign rfl rfl) rfl rfl rfl ?_
        refine Run.one (ok_assign rfl rfl) rfl rfl rfl ?_
        refine Run.nil ?_
        refine T_regionS ?_
        refine Run.one (ok_assign rfl rfl) rfl rfl rfl ?_
        refine Run.nil ?_
        refine T_seq ?_
        refine T_regionS ?_
        refine Run.one (ok_assign rfl rfl) rfl rfl rfl ?_
        refine Run.nil ?_
        refine T_block ?_
        refine T_loop (γ := Nat) (fun g => ⟨_, [(10, intS .i64 g), (9, strS (nl (ws.take g))), (7, slS 1 tC ws), (8, intS .i64 0), (0, slS 1 tC ws)], [], [], (0, false)⟩) (fun g => g ≤ ws.length) (fun g => ws.length - g) 0 (Nat.zero_le _) (ent_g (subG_cons rfl (subG_cons rfl (subG_cons rfl (subG_cons rfl (subG_cons rfl (trivial))))))) ?_
        intro g hg
        refine T_seq ?_
        refine T_regionS ?_
        refine Run.one (ok_move rfl rfl) rfl rfl rfl ?_
        refine Run.one (ok_move rfl rfl) rfl rfl rfl ?_
        refine Run.one (ok_len rfl rfl) rfl rfl rfl ?_
        refine Run.one (ok_cmp rfl rfl rfl rfl) rfl rfl rfl ?_
        refine Run.nil ?_
        refine T_cond rfl rfl (fun h94 => ?_) (fun h94 => ?_)
        · have k94 := of_decide_eq_true h94
          obtain ⟨v, hv⟩ : ∃ v, ws[g]? = some v := ⟨_, List.getElem?_eq_getElem (by omega)⟩
          have hvs := nl_succ hv
          have hvl := nl_take_le ws (g + 1)
          rw [hvs, List.length_append, List.length_append] at hvl
          refine T_skip ?_
          refine T_seq ?_
          refine T_block ?_
          refine T_region ?_
          refine Run.one (ok_move rfl rfl) rfl rfl rfl ?_
          refine Run.one (ok_move rfl rfl) rfl rfl rfl ?_
          refine Run.one (ok_move rfl rfl) rfl rfl rfl ?_
          refine Run.one (ok_indexAddr rfl rfl rfl (by omega) (y := v) (hv)) rfl rfl rfl ?_
          refine Run.one (ok_load rfl rfl) rfl rfl rfl ?_
          refine Run.one (ok_add_str rfl rfl rfl (by omega)) rfl rfl rfl ?_
          refine Run.one (ok_add_str rfl rfl rfl (by rw [List.length_append]; simp only [List.length_singleton]; omega)) rfl rfl rfl ?_
          refine Run.one (ok_assign rfl rfl) rfl rfl rfl ?_
          refine Run.nil ?_
          refine T_region ?_
          refine Run.one (ok_move rfl rfl) rfl rfl rfl ?_
          refine Run.one (ok_ari rfl rfl rfl rfl (wrap_i64 (by omega) (by omega))) rfl rfl rfl ?_
          refine Run.one (ok_assign rfl rfl) rfl rfl rfl ?_
          refine Run.nil ?_
          exact ⟨g + 1, by omega, by omega, ent_g (subG_cons rfl (subG_as rfl (by rw [hvs]) (subG_cons rfl (subG_cons rfl (subG_cons rfl (trivial))))))⟩
        · have k94 := of_decide_eq_false h94
          obtain rfl : g = ws.length := by omega
          rw [List.take_length]
          refine T_exit ?_
          refine T_regionS ?_
          refine Run.one (ok_move rfl rfl) rfl rfl rfl ?_
          refine Run.one (ok_call rfl rfl hl1) rfl rfl rfl ?_
          refine Run.one (ok_move rfl rfl) rfl rfl rfl ?_
          refine Run.one (ok_extract rfl rfl rfl) rfl rfl rfl ?_
          refine Run.one (ok_extract rfl rfl rfl) rfl rfl rfl ?_
          refine Run.one (ok_assign rfl rfl) rfl rfl rfl ?_
          refine Run.one (ok_assign rfl rfl) rfl rfl rfl ?_
          refine Run.nil ?_
          refine T_regionS ?_
          refine Run.one (ok_move rfl rfl) rfl rfl rfl ?_
          refine Run.one (ok_move rfl rfl) rfl rfl rfl ?_
          refine Run.one (ok_len_str rfl rfl) rfl rfl rfl ?_
          refine Run.one (ok_ari (z := (((Lib.join ws [10]).length : Nat) : Int)) rfl rfl rfl (congrArg some (by omega)) (wrap_i64 (by omega) (by omega))) rfl rfl rfl ?_
          refine Run.one ((ok_slice_str (lo := 0) (hi := (Lib.join ws [10]).length) rfl rfl (.inl ⟨rfl, rfl⟩) (.inr ⟨_, _, rfl, rfl⟩) (by omega) (by omega)).sub (str_eq (m := Lib.join ws [10]) (by rw [hnj]; simp))) rfl rfl rfl ?_
          refine Run.one (ok_call rfl rfl hl2) rfl rfl rfl ?_
          refine Run.one (ok_move rfl rfl) rfl rfl rfl ?_
          refine Run.one (ok_extract rfl rfl rfl) rfl rfl rfl ?_
          refine Run.one (ok_extract rfl rfl rfl) rfl rfl rfl ?_
          refine Run.one (ok_assign rfl rfl) rfl rfl rfl ?_
          refine Run.one (ok_assign rfl rfl) rfl rfl rfl ?_
          refine Run.nil ?_
          refine T_regionS ?_
          refine Run.one (ok_move rfl rfl) rfl rfl rfl ?_
          refine Run.one (ok_add_str rfl rfl rfl (by simp; omega)) rfl rfl rfl ?_
          refine Run.one (ok_call rfl rfl hl3) rfl rfl rfl ?_
          refine Run.one (ok_move rfl rfl) rfl rfl rfl ?_
          refine Run.one (ok_extract rfl rfl rfl) rfl rfl rfl ?_
          refine Run.one (ok_extract rfl rfl rfl) rfl rfl rfl ?_
          refine Run.one (ok_assign rfl rfl) rfl rfl rfl ?_
          refine Run.one (ok_assign rfl rfl) rfl rfl rfl ?_
          refine Run.nil ?_
          refine T_regionS ?_
          refine Run.one (ok_move rfl rfl) rfl rfl rfl ?_
          refine Run.one ((ok_cmp rfl rfl rfl rfl).sub (bool_eq (c := true) (rfl))) rfl rfl rfl ?_
          refine Run.one (ok_move rfl rfl) rfl rfl rfl ?_
          refine Run.one (ok_move rfl rfl) (gB rfl rfl rfl rfl) rfl rfl ?_
          refine Run.one ((ok_cmp rfl rfl rfl rfl).sub (bool_eq (c := true) (rfl))) (gB rfl rfl rfl rfl) rfl rfl ?_
          refine Run.one (ok_pick rfl rfl rfl) rfl rfl rfl ?_
          refine Run.one (ok_move rfl rfl) rfl rfl rfl ?_
          refine Run.one (ok_move rfl rfl) (gB rfl rfl rfl rfl) rfl rfl ?_
          refine Run.one (ok_move rfl rfl) (gB rfl rfl rfl rfl) rfl rfl ?_
          refine Run.one ((ok_call rfl rfl rsame11_spec).sub (bool_eq (c := true) (by simp))) (gB rfl rfl rfl rfl) rfl rfl ?_
          refine Run.one (ok_pick rfl rfl rfl) rfl rfl rfl ?_
          refine Run.one (ok_move rfl rfl) rfl rfl rfl ?_
          refine Run.one (ok_move rfl rfl) (gB rfl rfl rfl rfl) rfl rfl ?_
          refine Run.one (ok_move rfl rfl) (gB rfl rfl rfl rfl) rfl rfl ?_
          refine Run.one ((ok_call rfl rfl rsame11_spec).sub (bool_eq (c := true) (by simp))) (gB rfl rfl rfl rfl) rfl rfl ?_
          refine Run.one (ok_pick rfl rfl rfl) rfl rfl rfl ?_
          refine Run.one (ok_move rfl rfl) rfl rfl rfl ?_
          refine Run.one (ok_move rfl rfl) (gB rfl rfl rfl rfl) rfl rfl ?_
          refine Run.one ((ok_cmp rfl rfl rfl rfl).sub (bool_eq (c := true) (rfl))) (gB rfl rfl rfl rfl) rfl rfl ?_
          refine Run.one (ok_pick rfl rfl rfl) rfl rfl rfl ?_
          refine Run.one (ok_move rfl rfl) rfl rfl rfl ?_
          refine Run.one (ok_move rfl rfl) (gB rfl rfl rfl rfl) rfl rfl ?_
          refine Run.one ((ok_cmp rfl rfl rfl rfl).sub (bool_eq (c := true) (rfl))) (gB rfl rfl rfl rfl) rfl rfl ?_
          refine Run.one (ok_pick rfl rfl rfl) rfl rfl rfl ?_
          refine Run.one (ok_move rfl rfl) rfl rfl rfl ?_
          refine Run.one (ok_call rfl rfl wakes11_spec) (gB rfl rfl rfl rfl) rfl rfl ?_
          refine Run.one (ok_pick rfl rfl rfl) rfl rfl rfl ?_
          refine Run.one (ok_assign rfl rfl) rfl rfl rfl ?_
          refine Run.nil ?_
          refine T_ret ?_
          exact ⟨_, [], .one (.tmp rfl), List.nil_sublist _, rfl, rfl⟩
end Go.Proofs
