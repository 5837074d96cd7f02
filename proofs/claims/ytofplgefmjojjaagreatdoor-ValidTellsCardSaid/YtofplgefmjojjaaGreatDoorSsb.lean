/- Texts: ranges over a string. -/
import Derived.Test.YtofplgefmjojjaaGreatDoorSsa
namespace Go.Sv
open Go Go.RowKit
def strEnv (r0 : Nat) (s : ByteArray) : Env where
 ok := fun i I F W => (∀ b, F b ↔ b = r0) ∧ I r0 = none ∧ W.heap[r0]? = some (.stringIter s i.1)
 stab := fun _ _ _ _ _ _ ⟨h1, _, h3⟩ _ _ _ _ _ hw hn => ⟨h1, hn r0 ((h1 r0).2 rfl), (hw r0 ((h1 r0).2 rfl)).trans h3⟩
section
variable {P : Program} {G : Imm} {r : Option Nat} {gd : Nat → Option Nat} {p : Bool} {o : Oper} {ops : List Oper} {K : St → Prop}
theorem T_strRange {id t1 t2 n : Nat} {ty : TypeId} [IsStr P ty] {o1 o2 : Oper} {y : Code} {x : Operand} {l : List UInt8} {g : List (Nat × SV)} {h : HL} {d : List Nat} {Q : Exit → St → Prop} (h1 : o1.op = .move x) (h2 : o1.dst = some t1) (h3 : o1.guard = none) (h4 : o2.op = .range ty (.tmp t1)) (h5 : o2.dst = some t2) (h6 : o2.guard = none)
  (hx : opE g x = some (strS l)) (hd1 : Nat.blt t1 n = true) (hd2 : Nat.blt t2 n = true) (hr : ∀ b, T P G (strEnv b ⟨l.toArray⟩) r y ⟨n, (t2, eqS (.pointer (some ⟨b, 0, none⟩))) :: (t1, strS l) :: g, h, d, (0, false)⟩ (fun e S' => Q e { S' with i := (0, false) })) :
  T P G noEnv r (.seq (.region id [o1, o2].toArray false) y) ⟨n, g, h, d, (0, false)⟩ Q := by
 intro nn I F a W hs
 refine wpIn_seq (wpIn_region ?_)
 have key : wpOpsIn (Fr r) nn P [o1, o2].toArray (Exit.then (y.wpIn (Fr r) nn P (post G noEnv r Q (own ⟨n, g, h, d, (0, false)⟩ F) I W)) (post G noEnv r Q (own ⟨n, g, h, d, (0, false)⟩ F) I W)) [0, 1] a W := by
  have e0 : [o1, o2].toArray[0]? = some o1 := rfl
  have e1 : [o1, o2].toArray[1]? = some o2 := rfl
  simp only [wpOpsIn, e0, e1]
  have hgd : ∀ j, gdOf [o1, o2] j = ([o1, o2].toArray[j]?).bind (·.dst) := fun j => by simp [gdOf]
  rw [wanted_of_guard (gd := gdOf [o1, o2]) (b := true) hgd hs (by simp [guardAt, h3]), if_pos rfl]
  have hd1' : ∀ t, o1.dst = some t → t < n := fun t ht => by rw [h2] at ht; cases ht; exact Nat.le_of_ble_eq_true hd1
  refine ((ok_move (P := P) (G := G) (H := h) (g := g) h1 hx).eff (E := noEnv) (r := r) (S := ⟨n, g, h, d, (0, false)⟩) hd1') nn I F a W _ _ hs fun S1 I1 F1 a1 W1 hs1 hk1 f1 => ?_
  subst hk1
  rw [wanted_of_guard (gd := gdOf [o1, o2]) (b := true) hgd hs1 (by simp [guardAt, h6]), if_pos rfl]
  have hv : a1.eval (.tmp t1) = .string ⟨l.toArray⟩ := hs1.g t1 (strS l) (by simp [St.set, h2, look])
  have hrun : (execOp a1.eval o2).run P W1 = .ok (.value (.pointer (some ⟨W1.heap.size, 0, none⟩))) (W1.iter ⟨l.toArray⟩ 0) := by
   simp [execOp, h4, hv, run_range_string W1 ty _ (IsStr.h (P := P) (t := ty))]
  refine wp_of_run (by simp [h4]) hrun ?_
  obtain ⟨hm2, f2⟩ := fram_alloc hs1.m (.stringIter ⟨l.toArray⟩ 0) (own (St.set ⟨n, g, h, d, (0, false)⟩ o1.dst (strS l)) F1)
  have hF1 : ∀ b, ¬ F1 b := hs1.e
  have hext : Ext I1 W1 I1 (W1.alloc (.stringIter ⟨l.toArray⟩ 0)) := ⟨rfl, rfl, rfl, Imm.le_refl _, by simp, fun b hb _ => alloc_heap_old _ _ hb, fun b h7 h8 => absurd h7 h8, fun b hb => hb.elim⟩
  have hs2 := (hs1.keep hext hm2).put (d := some t2) (s := eqS (.pointer (some ⟨W1.heap.size, 0, none⟩))) rfl (fun t ht => by cases ht; rw [show (St.set ⟨n, g, h, d, (0, false)⟩ o1.dst (strS l)).n = n by simp [St.set, h2]]; exact Nat.le_of_ble_eq_true hd2)
  have hst : (St.set (St.set ⟨n, g, h, d, (0, false)⟩ o1.dst (strS l)) (some t2) (eqS (.pointer (some ⟨W1.heap.size, 0, none⟩)))) = ⟨n, (t2, eqS (.pointer (some ⟨W1.heap.size, 0, none⟩))) :: (t1, strS l) :: g, h, d, (0, false)⟩ := by simp [St.set, h2]
  rw [hst] at hs2
  have hat : (W1.alloc (.stringIter ⟨l.toArray⟩ 0)).heap[W1.heap.size]? = some (.stringIter ⟨l.toArray⟩ 0) := alloc_heap_at _ _
  have hnb : ∀ b, b ∈ bs h → b ≠ W1.heap.size := fun b hb e => by
   have := (hs1.h.lt (b := b) (by simpa [St.set, h2] using hb)).1; omega
  have hnd : ∀ b, b ∈ d → b ≠ W1.heap.size := fun b hb e => by
   have := lt_of_some (hs1.dk b (by simpa [St.set, h2] using hb)); omega
  have hs3 : Sat G (strEnv W1.heap.size ⟨l.toArray⟩) r ⟨n, (t2, eqS (.pointer (some ⟨W1.heap.size, 0, none⟩))) :: (t1, strS l) :: g, h, d, (0, false)⟩ I1 (fun b => b = W1.heap.size) (a1.put (some t2) (.pointer (some ⟨W1.heap.size, 0, none⟩))) (W1.alloc (.stringIter ⟨l.toArray⟩ 0)) :=
   ⟨hs2.n, hs2.g, hs2.m, hs2.h, hs2.d, hs2.dn, hs2.dk, ⟨fun _ => Iff.rfl, hs1.m.none_new, hat⟩, fun b hb => by
    subst hb
    exact ⟨by simp, hs1.m.none_new, fun h7 => hnb _ h7 rfl, fun h7 => hnd _ h7 rfl⟩, fun k hk => by
    obtain ⟨⟨rec, h7⟩, h8⟩ := hs2.l k hk
    refine ⟨⟨rec, h7⟩, fun h9 => ?_⟩
    rcases h9 with h9 | h9 | h9
    ·exact h8 (.inl h9)
    ·exact h8 (.inr (.inl h9))
    ·subst h9; rw [hat] at h7; cases h7⟩
  have hgo := hr W1.heap.size nn I1 _ _ _ hs3
  show y.wpIn (Fr r) nn P _ (a1.put o2.dst _) _
  rw [h5]
  refine wpIn_mono hgo fun e a' W' ⟨S', I', F', g1, g2, g3⟩ => ?_
  refine ⟨{ S' with i := (0, false) }, I', fun _ => False, ⟨g1.n, g1.g, g1.m, g1.h, g1.d, g1.dn, g1.dk, fun _ h => h, fun _ h => h.elim, fun k hk => ?_⟩, g2, ?_⟩
  ·obtain ⟨h7, h8⟩ := g1.l k hk
   refine ⟨h7, fun h9 => h8 ?_⟩
   rcases h9 with h9 | h9 | h9
   ·exact .inl h9
   ·exact .inr (.inl h9)
   ·exact h9.elim
  ·have f3 : Fram (own (St.set ⟨n, g, h, d, (0, false)⟩ o1.dst (strS l)) F1) I1 W1 (own ⟨n, (t2, eqS (.pointer (some ⟨W1.heap.size, 0, none⟩))) :: (t1, strS l) :: g, h, d, (0, false)⟩ (fun b => b = W1.heap.size)) I1 (W1.alloc (.stringIter ⟨l.toArray⟩ 0)) :=
    f2.weaken (fun _ h => h) fun b hb => .inl (by
     rcases hb with hb | hb | hb
     ·exact .inl (.inl (by simpa [St.set, h2] using hb))
     ·exact .inl (.inr (.inl (by simpa [St.set, h2] using hb)))
     ·exact .inr hb)
   refine ((f1.trans f3).trans g3).weaken (fun _ h => h) fun b hb => .inl ?_
   rcases hb with hb | hb | hb
   ·exact .inl hb
   ·exact .inr (.inl hb)
   ·exact hb.elim
 exact key
theorem Run.nextS {n d0 pos b0 : Nat} {l : List UInt8} {g : List (Nat × SV)} {h : HL} {d : List Nat} {x : Operand} (hp : p = false) (hop : o.op = .next x true) (hx : opE g x = some (eqS (.pointer (some ⟨b0, 0, none⟩)))) (hg : guardAt gd g o true) (ht : o.dst = some d0) (hd : Nat.blt d0 n = true)
  (h1 : pos < l.length → Run P G (strEnv b0 ⟨l.toArray⟩) r gd p ops ⟨n, (d0, tupS [boolS true, intS .i64 (pos : Nat), intS .i32 (Utf8.decode ⟨l.toArray⟩ pos).1]) :: g, h, d, (pos + (Utf8.decode ⟨l.toArray⟩ pos).2, false)⟩ K)
  (h2 : ¬ pos < l.length → Run P G (strEnv b0 ⟨l.toArray⟩) r gd p ops ⟨n, (d0, tupS [boolS false]) :: g, h, d, (pos, false)⟩ K) : Run P G (strEnv b0 ⟨l.toArray⟩) r gd p (o :: ops) ⟨n, g, h, d, (pos, false)⟩ K := by
 refine Run.eff (fun S' => (pos < l.length ∧ S' = ⟨n, (d0, tupS [boolS true, intS .i64 (pos : Nat), intS .i32 (Utf8.decode ⟨l.toArray⟩ pos).1]) :: g, h, d, (pos + (Utf8.decode ⟨l.toArray⟩ pos).2, false)⟩) ∨ (¬ pos < l.length ∧ S' = ⟨n, (d0, tupS [boolS false]) :: g, h, d, (pos, false)⟩)) hp ?_ hg fun S' hS' => ?_
 ·intro nn I F a W next Q hs k
  obtain ⟨hF, hI, hw⟩ := hs.e
  have hv : a.eval x = .pointer (some ⟨b0, 0, none⟩) := reads_of_sat hs o x (by simp [hop, Op.operands]) _ hx
  have hdn : ∀ (S0 : St), S0.n = n → ∀ t, o.dst = some t → t < S0.n := fun S0 h0 t h' => by rw [ht] at h'; cases h'; rw [h0]; exact Nat.le_of_ble_eq_true hd
  by_cases hlt : pos < l.length
  ·have hrun : (execOp a.eval o).run P W = .ok (.value (.tuple #[.bool true, .int .i64 pos, .int .i32 (Utf8.decode ⟨l.toArray⟩ pos).1])) (W.iterAt b0 ⟨l.toArray⟩ (pos + (Utf8.decode ⟨l.toArray⟩ pos).2)) := by
    have := Lib.run_next_any_at (P := P) W b0 ⟨l.toArray⟩ pos o.type hw (by rw [mk_size]; exact hlt)
    simp [execOp, hop, hv, this]
   refine wp_of_run (by simp [hop]) hrun ?_
   obtain ⟨hm', hf'⟩ := fram_put (W' := W.iterAt b0 ⟨l.toArray⟩ (pos + (Utf8.decode ⟨l.toArray⟩ pos).2)) hs.m hI rfl rfl rfl (Lib.iterAt_size ..) (fun k hk => Lib.iterAt_other _ _ _ _ _ hk)
   have hFb : F b0 := (hF b0).2 rfl
   have hs' : Sat G (strEnv b0 ⟨l.toArray⟩) r ⟨n, g, h, d, (pos + (Utf8.decode ⟨l.toArray⟩ pos).2, false)⟩ I F a (W.iterAt b0 ⟨l.toArray⟩ (pos + (Utf8.decode ⟨l.toArray⟩ pos).2)) :=
    ⟨hs.n, hs.g, hm', hs.h.keep hf' (fun b hb e => by subst e; exact (hs.f b hFb).2.2.1 hb), hs.d, hs.dn, fun b hb => by
     rw [Lib.iterAt_other _ _ _ _ _ (fun e => by subst e; exact (hs.f b hFb).2.2.2 hb)]; exact hs.dk b hb, ⟨hF, hI, Lib.iterAt_heap _ _ _ _ _ hw⟩, fun b hb => by
     obtain ⟨k1, k2, k3, k4⟩ := hs.f b hb
     exact ⟨by rw [Lib.iterAt_size]; exact k1, k2, k3, k4⟩, fun k hk => by
     obtain ⟨⟨rec, k1⟩, k2⟩ := hs.l k hk
     refine ⟨⟨rec, ?_⟩, k2⟩
     rw [Lib.iterAt_other _ _ _ _ _ (fun e => by subst e; exact k2 (.inr (.inr hFb)))]; exact k1⟩
   have hs2 := hs'.put (d := o.dst) (s := tupS [boolS true, intS .i64 (pos : Nat), intS .i32 (Utf8.decode ⟨l.toArray⟩ pos).1]) (v := .tuple #[.bool true, .int .i64 pos, .int .i32 (Utf8.decode ⟨l.toArray⟩ pos).1]) ⟨_, rfl, dens_cons rfl (dens_cons rfl (dens_cons rfl dens_nil))⟩ (hdn _ rfl)
   refine k _ I F _ _ hs2 (.inl ⟨hlt, by simp [St.set, ht]⟩) ?_
   rw [own_set]
   exact hf'.weaken (fun b hb => by subst hb; exact .inr (.inr hFb)) fun b hb => .inr hb
  ·have hrun : (execOp a.eval o).run P W = .ok (.value (.tuple #[.bool false])) W := by
    have := Lib.run_next_end_at (P := P) W b0 ⟨l.toArray⟩ pos o.type hw (by rw [mk_size]; exact hlt)
    simp [execOp, hop, hv, this]
   refine wp_of_run (by simp [hop]) hrun ?_
   have hs2 := hs.put (d := o.dst) (s := tupS [boolS false]) (v := .tuple #[.bool false]) ⟨_, rfl, dens_cons rfl dens_nil⟩ (hdn _ rfl)
   refine k _ I F _ _ hs2 (.inr ⟨hlt, by simp [St.set, ht]⟩) ?_
   rw [own_set]
   exact Fram.refl _ _ _
 ·rcases hS' with ⟨h3, rfl⟩ | ⟨h3, rfl⟩
  ·exact h1 h3
  ·exact h2 h3
theorem decode_byte {l : List UInt8} {pos : Nat} (h : pos < l.length) : (l[pos].toNat < 128 ∧ Utf8.decode ⟨l.toArray⟩ pos = (l[pos].toNat, 1)) ∨ (128 ≤ l[pos].toNat ∧ 128 ≤ (Utf8.decode ⟨l.toArray⟩ pos).1) := by
 rcases Nat.lt_or_ge l[pos].toNat 128 with h1 | h1
 ·exact .inl ⟨h1, by have := decode_ascii ⟨l.toArray⟩ pos (by rw [mk_size]; exact h) h1; rw [this]; rfl⟩
 ·refine .inr ⟨h1, ?_⟩
  have e : (ByteArray.mk l.toArray).get! (pos + 0) = l[pos] := by
   show (ByteArray.mk l.toArray).get! pos = _
   simp [ByteArray.get!, h]
  unfold Utf8.decode
  simp only [e]
  have h2 : ¬ l[pos].toNat < 0x80 := by omega
  rw [if_neg h2]
  split
  ·split
   ·assumption
   ·simp [Utf8.runeError]
  ·split
   ·split
    ·rename_i h3
     simp only [ge_iff_le, Bool.and_eq_true, decide_eq_true_eq] at h3
     show 128 ≤ _
     simp only
     omega
    ·simp [Utf8.runeError]
   ·split
    ·split
     ·rename_i h3
      simp only [ge_iff_le, Bool.and_eq_true, decide_eq_true_eq] at h3
      show 128 ≤ _
      simp only
      omega
     ·simp [Utf8.runeError]
    ·simp [Utf8.runeError]
theorem decode_le (s : ByteArray) (i : Nat) : (Utf8.decode s i).1 ≤ 1114111 := by
 unfold Utf8.decode
 have hb : ∀ k, (s.get! k).toNat < 256 := fun k => (s.get! k).toNat_lt
 simp only
 split
 ·have := hb (i + 0); simp only; omega
 ·split
  ·split
   ·simp only; omega
   ·simp [Utf8.runeError]
  ·split
   ·split
    ·simp only; omega
    ·simp [Utf8.runeError]
   ·split
    ·split
     ·rename_i h3
      simp only [Utf8.valid, ge_iff_le, Bool.and_eq_true, Bool.or_eq_true, decide_eq_true_eq] at h3
      simp only; omega
     ·simp [Utf8.runeError]
    ·simp [Utf8.runeError]
theorem Run.nextZ {n d0 pos b0 : Nat} {l : List UInt8} {g : List (Nat × SV)} {h : HL} {d : List Nat} {x : Operand} (hp : p = false) (hop : o.op = .next x true) (hx : opE g x = some (eqS (.pointer (some ⟨b0, 0, none⟩)))) (hg : guardAt gd g o true) (ht : o.dst = some d0) (hd : Nat.blt d0 n = true)
  (h1 : ∀ (hk : pos < l.length) (z w : Nat), z ≤ 1114111 → ((z < 128 ∧ l[pos].toNat = z ∧ w = 1) ∨ (128 ≤ z ∧ 128 ≤ l[pos].toNat)) → Run P G (strEnv b0 ⟨l.toArray⟩) r gd p ops ⟨n, (d0, tupS [boolS true, intS .i64 (pos : Nat), intS .i32 (z : Nat)]) :: g, h, d, (pos + w, false)⟩ K)
  (h2 : ¬ pos < l.length → Run P G (strEnv b0 ⟨l.toArray⟩) r gd p ops ⟨n, (d0, tupS [boolS false]) :: g, h, d, (pos, false)⟩ K) : Run P G (strEnv b0 ⟨l.toArray⟩) r gd p (o :: ops) ⟨n, g, h, d, (pos, false)⟩ K :=
 Run.nextS hp hop hx hg ht hd (fun hk => h1 hk _ _ (decode_le _ _) (by
  rcases decode_byte hk with ⟨k1, k2⟩ | ⟨k1, k2⟩
  ·exact .inl ⟨by rw [k2]; exact k1, by rw [k2], by rw [k2]⟩
  ·exact .inr ⟨k2, k1⟩)) h2
end
end Go.Sv
