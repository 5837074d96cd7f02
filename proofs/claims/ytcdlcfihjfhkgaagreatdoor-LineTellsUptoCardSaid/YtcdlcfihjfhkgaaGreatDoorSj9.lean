/- The laws LineParts, LineNumbers hold, and LineTells in its second form (where what it reads is of bulk at most 1048576), as rows and as tied cards: whatever the arguments, the call answers true and turns nothing. Conditions: those of the rows, no other. -/
import Derived.Test.YtcdlcfihjfhkgaaGreatDoorSsq
import Derived.Test.YtcdlcfihjfhkgaaGreatDoorSss
import Derived.Test.YtcdlcfihjfhkgaaGreatDoorSzn
import Derived.Test.YtcdlcfihjfhkgaaGreatDoorSzs
import Derived.Test.YtcdlcfihjfhkgaaGreatDoorSzu
import Derived.Test.YtcdlcfihjfhkgaaGreatDoorSnz
import Derived.Test.YtcdlcfihjfhkgaaGreatDoorCards
import Derived.Test.YtcdlcfihjfhkgaaGreatDoorTie
import Derived.SevenTiedAt
namespace Go.Proofs.YtcdlcfihjfhkgaaGreatDoor
open Go Go.Sv Num Go.RowKit Go.ChangeShapes Go.WideShapes

theorem own : ownKnob Tryz.prog.godebug = none := by kernel_rfl
theorem laidOut : laidOutB Tryz.prog = true := by kernel_rfl
abbrev laid5 : List (String × DataW Unit) := [("math/bits.deBruijn32tab", Rows.laid_math_bits_deBruijn32tab), ("math/bits.deBruijn64tab", Rows.laid_math_bits_deBruijn64tab), ("internal/strconv.uint64pow10", Rows.laid_internal_strconv_uint64pow10), ("unicode/utf8.acceptRanges", Rows.laid_unicode_utf8_acceptRanges), ("unicode/utf8.first", Rows.laid_unicode_utf8_first)]
theorem plain {W : World} (h : laidMetH Tryz.prog laid5 W) : laidMet Tryz.prog laid5 W := by rwa [MakeChecks.laidMetH_plain _ _ _ (by kernel_rfl)] at h
theorem reads {l : List TypeId} (h : (l.all fun t => Tryz.prog.readableRec t && decide (t < Tryz.prog.types.size)) = true) : ∀ t ∈ l, Tryz.prog.readableRec t = true ∧ t < Tryz.prog.types.size := fun t ht => by
  have := List.all_eq_true.1 h t ht
  simpa using this
theorem join_bulk {ws : List (List UInt8)} (h : (ws.map List.length).sum ≤ 1048576) (hl : ws.length ≤ 100) : (Lib.join ws [32]).length ≤ 140737488355328 := by
  by_cases hne : ws = []
  · subst hne; decide
  · have h1 := join32_le hne
    have h2 := nl_length ws
    omega
abbrev nat0 : Value := .slice none 0 0
abbrev pt0 : Value := .agg #[.bool false, nat0, nat0, .bool false, nat0, nat0]
abbrev rat0 : Value := .agg #[.bool false, nat0, nat0]
abbrev int0 : Value := .agg #[.bool false, nat0]

set_option maxRecDepth 100000 in
theorem lineParts_lifted (os : Os) (started : os.Started) (H : Type) (enc : TypeId × Value → H) :
    ReturnsInHanded {} Tryz.checked os 5 .any (fun w args => (Rows.linePartsSpec.pre enc Tryz.prog Tryz.f5 [] false w args ∧ laidMetH Tryz.prog laid5 w) ∧ sizedMet enc Tryz.prog Tryz.f5 (OpenSpec.ofChange Rows.linePartsSpec) false w args)
      (Rows.linePartsSpec.post enc Tryz.prog Tryz.f5 false true false false) := by
  refine law_liftedS (C := Tryz.checked) (X := fun w => laidMetH Tryz.prog laid5 w) (fun _ _ hh h => h.of_heap hh) own started (by kernel_rfl) Tryz.func5
    (ChangeSpec.witness_shaped (enc := enc) (C := Tryz.checked) (os := os) (X := fun w _ => laidMetH Tryz.prog laid5 w) false (World.laidAll Tryz.prog os laid5) #[nat0] 8 (World.laidAll_os _ _ _) (World.shaped_of_ZipB (by kernel_rfl) (by kernel_rfl)) (by kernel_rfl) (by kernel_rfl) (by kernel_rfl)
      (by rw [MakeChecks.laidMetH_plain _ _ _ (by kernel_rfl)]; exact laidMet_laidAll _ (by kernel_rfl) (by kernel_rfl)))
    laidOut rfl Tryz.isBool4 rfl (reads (by kernel_rfl)) (fun ds h => ?_) fun W hsh hx => ?_
  · match ds, h with
    | [_], _ => rfl
  · haveI := Tryz.tab10_of (plain hx) (by simp)
    haveI := Tryz.tab64_of (plain hx) (by simp)
    haveI := Tryz.maxLen_of hsh
    rw [Tryz.params5]
    refine openAll_row Tryz.underlying28 (fun _ _ _ h w => open_strs Tryz.underlying28 Tryz.underlying9 (by kernel_rfl) (of_decide_eq_true (by kernel_rfl)) h w) fun x1 h1 => ?_
    exact openAll_nil (lineParts_spec h1)
theorem lineParts_row : Rows.LinePartsSaid :=
  OpenClaim.holds_of_wide 5 Tryz.f5 rfl rfl rfl rfl rfl rfl rfl ⟨rfl, rfl, rfl, rfl, rfl⟩ rfl rfl rfl rfl rfl (by kernel_rfl) Tryz.func5 (by kernel_rfl)
    (of_decide_eq_true (by kernel_rfl)) (by unfold Func.isWrapper; first | (rw [if_pos (by decide +kernel)]; kernel_rfl) | (rw [if_neg (by decide +kernel)]; exact ⟨rfl, rfl⟩))
    (fun os started H enc _ => lineParts_lifted os started H enc)
theorem lineParts_card : Rows.LinePartsCardSaid :=
  Claim7.holds_tied_plain_at .later [] [.data, .data, .data, .data, .pinned] true _ false lineParts_row (fun _ h => by cases h) (by kernel_rfl) (fun _ h => by cases h) lineParts_row_tie rfl ⟨rfl, rfl⟩ (by kernel_rfl) rfl
    (fun f fn hf hfn => by
      obtain rfl : f = 5 := Option.some.inj ((show Tryz.prog.funcNamed "strait/straitlaw11.LineParts" = some 5 by kernel_rfl).symm.trans hf) |>.symm
      obtain rfl : fn = Tryz.f5 := (Option.some.inj (Tryz.func5.symm.trans hfn)).symm
      exact ⟨by kernel_rfl, fun j t ht => by
        have hall : (Tryz.f5.params.toList.all fun u => !Tryz.prog.wantsStandIn u) = true := by kernel_rfl
        have hm : t ∈ Tryz.f5.params.toList := by simpa using Array.mem_of_getElem? ht
        exact (show Tryz.prog.wantsStandIn t = false by simpa using List.all_eq_true.1 hall t hm)⟩)
    (by kernel_rfl)
#print axioms lineParts_card

set_option maxRecDepth 100000 in
theorem lineNumbers_lifted (os : Os) (started : os.Started) (H : Type) (enc : TypeId × Value → H) :
    ReturnsInHanded {} Tryz.checked os 6 .any (fun w args => (Rows.lineNumbersSpec.pre enc Tryz.prog Tryz.f6 [] false w args ∧ laidMetH Tryz.prog laid5 w) ∧ sizedMet enc Tryz.prog Tryz.f6 (OpenSpec.ofChange Rows.lineNumbersSpec) false w args)
      (Rows.lineNumbersSpec.post enc Tryz.prog Tryz.f6 false true false false) := by
  refine law_liftedS (C := Tryz.checked) (X := fun w => laidMetH Tryz.prog laid5 w) (fun _ _ hh h => h.of_heap hh) own started (by kernel_rfl) Tryz.func6
    (ChangeSpec.witness_shaped (enc := enc) (C := Tryz.checked) (os := os) (X := fun w _ => laidMetH Tryz.prog laid5 w) false (World.laidAll Tryz.prog os laid5) #[.int .i64 0, .int .u32 0, .int .i64 0, .int .i64 0] 8 (World.laidAll_os _ _ _) (World.shaped_of_ZipB (by kernel_rfl) (by kernel_rfl)) (by kernel_rfl) (by kernel_rfl) (by kernel_rfl)
      (by rw [MakeChecks.laidMetH_plain _ _ _ (by kernel_rfl)]; exact laidMet_laidAll _ (by kernel_rfl) (by kernel_rfl)))
    laidOut rfl Tryz.isBool4 rfl (reads (by kernel_rfl)) (fun ds h => ?_) fun W hsh hx => ?_
  · match ds, h with
    | [_, _, _, _], _ => rfl
  · haveI := Tryz.tab10_of (plain hx) (by simp)
    haveI := Tryz.tab64_of (plain hx) (by simp)
    haveI := Tryz.maxLen_of hsh
    rw [Tryz.params6]
    refine openAll_int (k := .i64) Tryz.underlying3 fun x1 h1 => ?_
    refine openAll_int (k := .u32) Tryz.underlying44 fun x2 h2 => ?_
    refine openAll_int (k := .i64) Tryz.underlying3 fun x3 h3 => ?_
    refine openAll_int (k := .i64) Tryz.underlying3 fun x4 h4 => ?_
    simp [Lit.wf, IntKind.min, IntKind.max, IntKind.signed, IntKind.bits] at h1
    simp [Lit.wf, IntKind.min, IntKind.max, IntKind.signed, IntKind.bits] at h2
    simp [Lit.wf, IntKind.min, IntKind.max, IntKind.signed, IntKind.bits] at h3
    simp [Lit.wf, IntKind.min, IntKind.max, IntKind.signed, IntKind.bits] at h4
    exact openAll_nil (lineNumbers_spec)
theorem lineNumbers_row : Rows.LineNumbersSaid :=
  OpenClaim.holds_of_wide 6 Tryz.f6 rfl rfl rfl rfl rfl rfl rfl ⟨rfl, rfl, rfl, rfl, rfl⟩ rfl rfl rfl rfl rfl (by kernel_rfl) Tryz.func6 (by kernel_rfl)
    (of_decide_eq_true (by kernel_rfl)) (by unfold Func.isWrapper; first | (rw [if_pos (by decide +kernel)]; kernel_rfl) | (rw [if_neg (by decide +kernel)]; exact ⟨rfl, rfl⟩))
    (fun os started H enc _ => lineNumbers_lifted os started H enc)
theorem lineNumbers_card : Rows.LineNumbersCardSaid :=
  Claim7.holds_tied_plain_at .later [] [.data, .data, .data, .data, .pinned] true _ false lineNumbers_row (fun _ h => by cases h) (by kernel_rfl) (fun _ h => by cases h) lineNumbers_row_tie rfl ⟨rfl, rfl⟩ (by kernel_rfl) rfl
    (fun f fn hf hfn => by
      obtain rfl : f = 6 := Option.some.inj ((show Tryz.prog.funcNamed "strait/straitlaw11.LineNumbers" = some 6 by kernel_rfl).symm.trans hf) |>.symm
      obtain rfl : fn = Tryz.f6 := (Option.some.inj (Tryz.func6.symm.trans hfn)).symm
      exact ⟨by kernel_rfl, fun j t ht => by
        have hall : (Tryz.f6.params.toList.all fun u => !Tryz.prog.wantsStandIn u) = true := by kernel_rfl
        have hm : t ∈ Tryz.f6.params.toList := by simpa using Array.mem_of_getElem? ht
        exact (show Tryz.prog.wantsStandIn t = false by simpa using List.all_eq_true.1 hall t hm)⟩)
    (by kernel_rfl)
#print axioms lineNumbers_card

set_option maxRecDepth 100000 in
theorem lineTellsUpto_lifted (os : Os) (started : os.Started) (H : Type) (enc : TypeId × Value → H) (F : Stop.Interp) :
    ReturnsInHanded {} Tryz.checked os 3 .any ((Rows.OpenSpec.upto Rows.lineTellsSpec).preRow enc Tryz.prog Tryz.f3 [] false laid5) (((Rows.OpenSpec.upto Rows.lineTellsSpec).at F).post enc Tryz.prog Tryz.f3 false true false false) := by
  refine law_liftedU (C := Tryz.checked) own started (by kernel_rfl) Tryz.func3
    ⟨World.laidAll Tryz.prog os laid5, fun _ _ => 0, ⟨#[], #[.string ⟨#[]⟩, rat0, nat0], []⟩, World.laidAll_os _ _ _, World.shaped_of_ZipB (by kernel_rfl) (by kernel_rfl), rfl, (Input.okWide_of_okWideB (by kernel_rfl)).2,
      OpenSpec.preRow_of_cond 8 (x := ([.lit (.string []), .agg [.agg [.lit (.bool false), .nil], .nil], .nil], [], [])) (by kernel_rfl) (by kernel_rfl) (fun k hk => by cases hk; kernel_rfl) (by kernel_rfl) (by rw [MakeChecks.laidMetH_plain _ _ _ (by kernel_rfl)]; exact laidMet_laidAll _ (by kernel_rfl) (by kernel_rfl)),
      by simp only [Assume.holds]; exact ⟨by simp, by simp, fun _ => Modest.zero, by simp, by simp⟩⟩
    laidOut rfl Tryz.isBool4 rfl (reads (by kernel_rfl)) (fun ds h => ?_) fun W hsh hx => ?_
  · match ds, h with
    | [_, _, _], _ => rfl
  · haveI := Tryz.tab10_of (plain hx) (by simp)
    haveI := Tryz.tab64_of (plain hx) (by simp)
    haveI := Tryz.maxLen_of hsh
    rw [Tryz.params3]
    refine openAllU_str Tryz.underlying9 fun x1 h1 => ?_
    refine openAllU_agg Tryz.underlying27 (fun _ _ _ h w => Tryz.open_rat h w) fun x2 h2 => ?_
    refine openAllU_strs Tryz.underlying28 Tryz.underlying9 (by kernel_rfl) (of_decide_eq_true (by kernel_rfl)) fun x3 h3 => ?_
    exact openAllU_nil (lineTells_spec h2 (fun hl => join_bulk h3 hl))
theorem lineTellsUpto_row : Rows.LineTellsUptoSaid :=
  OpenClaim.holds_of_cond 3 Tryz.f3 rfl rfl rfl rfl rfl rfl rfl ⟨rfl, rfl, rfl, rfl, rfl⟩ rfl rfl rfl rfl rfl (by kernel_rfl) Tryz.func3 (by kernel_rfl)
    (of_decide_eq_true (by kernel_rfl)) (by unfold Func.isWrapper; first | (rw [if_pos (by decide +kernel)]; kernel_rfl) | (rw [if_neg (by decide +kernel)]; exact ⟨rfl, rfl⟩))
    (fun os started H enc _ F => by rw [OpenClaim.pre_eq_preRow]; exact lineTellsUpto_lifted os started H enc F)
theorem lineTellsUpto_card : Rows.LineTellsUptoCardSaid :=
  Claim7.holds_tied_plain_at .later [] [.data, .data, .data, .data, .pinned] true _ false lineTellsUpto_row (fun _ h => by cases h) (by kernel_rfl) (fun _ h => by cases h) lineTellsUpto_row_tie rfl ⟨rfl, rfl⟩ (by kernel_rfl) rfl
    (fun f fn hf hfn => by
      obtain rfl : f = 3 := Option.some.inj ((show Tryz.prog.funcNamed "strait/straitlaw11.LineTells" = some 3 by kernel_rfl).symm.trans hf) |>.symm
      obtain rfl : fn = Tryz.f3 := (Option.some.inj (Tryz.func3.symm.trans hfn)).symm
      exact ⟨by kernel_rfl, fun j t ht => by
        have hall : (Tryz.f3.params.toList.all fun u => !Tryz.prog.wantsStandIn u) = true := by kernel_rfl
        have hm : t ∈ Tryz.f3.params.toList := by simpa using Array.mem_of_getElem? ht
        exact (show Tryz.prog.wantsStandIn t = false by simpa using List.all_eq_true.1 hall t hm)⟩)
    (by kernel_rfl)
#print axioms lineTellsUpto_card

end Go.Proofs.YtcdlcfihjfhkgaaGreatDoor
