/- The laws PlannerLines hold, as rows and as tied cards: whatever the arguments, the call answers true and turns nothing. Conditions: those of the rows, no other. -/
import Derived.Test.YtceodgbmninaoaaGreatDoorSzn
import Derived.Test.YtceodgbmninaoaaGreatDoorSnx
import Derived.Test.YtceodgbmninaoaaGreatDoorSu3
import Derived.Test.YtceodgbmninaoaaGreatDoorCards
import Derived.Test.YtceodgbmninaoaaGreatDoorTie
import Derived.SevenTiedAt
set_option linter.all false
namespace Go.Proofs.YtceodgbmninaoaaGreatDoor
open Go Go.Sv Num Go.RowKit Go.ChangeShapes Go.WideShapes
theorem own:ownKnob Tryz.prog.godebug=none:=by kernel_rfl
theorem fP:laidOutB Tryz.prog=true:=by kernel_rfl
abbrev dy:List (String×DataW Unit):=[("math/bits.deBruijn32tab",Rows.laid_math_bits_deBruijn32tab),("math/bits.deBruijn64tab",Rows.laid_math_bits_deBruijn64tab),("internal/strconv.uint64pow10",Rows.laid_internal_strconv_uint64pow10),("unicode/utf8.acceptRanges",Rows.laid_unicode_utf8_acceptRanges),("unicode/utf8.first",Rows.laid_unicode_utf8_first)]
theorem plain {W:World} (h:laidMetH Tryz.prog dy W):laidMet Tryz.prog dy W:=by rwa [MakeChecks.laidMetH_plain _ _ _ (by kernel_rfl)] at h
theorem reads {l:List TypeId} (h:(l.all fun t=>Tryz.prog.readableRec t&&decide (t<Tryz.prog.types.size))=true):∀ t∈l,Tryz.prog.readableRec t=true∧t<Tryz.prog.types.size:=fun t ht=>by
 have:=List.all_eq_true.1 h t ht
 simpa using this
abbrev du:Value:=.slice none 0 0
abbrev pt0:Value:=.agg #[.bool false,du,du,.bool false,du,du]
abbrev rat0:Value:=.agg #[.bool false,du,du]
abbrev int0:Value:=.agg #[.bool false,du]
abbrev sc0:Value:=.agg #[du,du,du]
theorem fR {P:Program} (h:(P.funcs.toList.all fun f=> !f.goes)=true) (f:FuncId):P.goes f=false:=by
 have hg:∀ g:FuncId,(P.funcs[g]?).any Func.goes=false:=fun g=>by
  cases e:P.funcs[g]? with
  | none=>rfl
  | some fn=>have:=List.all_eq_true.1 h fn (by simpa using Array.mem_of_getElem? e);simpa using this
 have h1:((P.closure f).any fun g=>(P.funcs[g]?).any Func.goes)=false:=by
  rw [List.any_eq_false];intro g _;rw [hg g];decide
 have h2:P.funcs.any Func.goes=false:=by
  rw [←Array.any_toList,List.any_eq_false];intro fn hf
  have:=List.all_eq_true.1 h fn hf
  simpa using this
 unfold Program.goes
 rw [h1,h2,Bool.and_false];rfl
theorem fS {P:Program} {c:OpenClaim} (hs:c.start= .entering) (h:(P.funcs.toList.all fun f=> !f.goes)=true):false=c.goesBy P:=by
 unfold OpenClaim.goesBy Program.goesAt Program.goesFrom
 rw [hs]
 cases P.funcNamed c.func with
 | none=>rfl
 | some f=>show false=(P.goes f||false);rw [fR h f];rfl
theorem eI:(Tryz.prog.funcs.toList.all fun f=> !f.goes)=true:=by kernel_rfl
theorem eH {P:Program} {f:FuncId} {fn:Func} {s:ChangeSpec} {c:OpenClaim} (h0:(c.wf (OpenSpec.ofChange s))=true) (h1:(laidOutB P)=true) (h2:(mapsRowed P)=true) (h3:(fn.params.all (P.readableRec ·))=true) (h4:(namedTie P c.named s.vars)=true) (h5:((c.stops==[]))=true) (h6:((P.stops==[]))=true) (h7:((c.knobs==[]))=true) (h8:((P.stopKnobs==[]))=true) (h9:((c.inPlace==P.inPlace f))=true) (h10:((c.unfollowed==P.unfollowed f))=true) (h11:((c.recurses==P.recurses f))=true) (h12:((c.named==P.varsNamed f))=true) (h13:((c.maps==(fn.params.toList++s.plain.varTypes P).any (P.mapsRec ·)))=true) (h14:((c.ifaces==(fn.params.toList++s.plain.varTypes P).any (P.ifacesRec ·)))=true) (h15:((c.mapsOut==P.mapsAmong fn.resultTypes.toList))=true) (h16:((c.loops==(fn.params.toList++s.plain.varTypes P).any (P.loopsFrom ·)))=true) (h17:((c.wideKeys==(fn.params.toList++s.plain.varTypes P++fn.resultTypes.toList).any (P.wideKeysFrom ·)))=true) (h18:(s.vars.all (P.varReadable ·))=true) (h19:(fn.resultTypes.all (fun t=>P.readableRec t&&decide (t<P.types.size)))=true) (h20:((c.ifacesOut==fn.resultTypes.toList.any (P.ifacesRec ·)))=true) (h21:((c.loopsOut==fn.resultTypes.toList.any (P.loopsFrom ·)))=true) (h22:((c.plainKeys==P.plainKeys))=true) (h23:(c.shortTexts.isNone)=true) (h24:(P.stopsHeard)=true) (h25:(P.mayEnter)=true) (h26:((c.lifted==P.liftsFinal))=true) (h27:((P.make==some c.make))=true) (h28:((c.kinds==(if c.domain.isEmpty then [] else fn.params.toList.map fun t=>match P.underlying t with | some (.int k)=>some k | _=>none)))=true) (h29:((c.pinned==c.pinnedBy))=true) (h30:((c.veiled==(fn.params.toList++s.plain.varTypes P++fn.resultTypes.toList).any (P.veiledRec ·)))=true) (h31:(c.veiledFits P fn.params.toList (fn.params.toList++s.plain.varTypes P++fn.resultTypes.toList))=true):joinedFacts P f fn s c=true:=by
 simp only [joinedFacts,Bool.and_eq_true]
 exact⟨⟨⟨⟨⟨⟨⟨⟨⟨⟨⟨⟨⟨⟨⟨⟨⟨⟨⟨⟨⟨⟨⟨⟨⟨⟨⟨⟨⟨⟨⟨h0,h1⟩,h2⟩,h3⟩,h4⟩,h5⟩,h6⟩,h7⟩,h8⟩,h9⟩,h10⟩,h11⟩,h12⟩,h13⟩,h14⟩,h15⟩,h16⟩,h17⟩,h18⟩,h19⟩,h20⟩,h21⟩,h22⟩,h23⟩,h24⟩,h25⟩,h26⟩,h27⟩,h28⟩,h29⟩,h30⟩,h31⟩
set_option maxRecDepth 100000 in
theorem bD (os:Os) (started:os.Started) (H:Type) (enc:TypeId×Value→H):
  ReturnsInHanded {} Tryz.checked os 3 .any (fun w args=>(Rows.plannerLinesSpec.pre enc Tryz.prog Tryz.f3 [] false w args∧laidMetH Tryz.prog dy w)∧sizedMet enc Tryz.prog Tryz.f3 (OpenSpec.ofChange Rows.plannerLinesSpec) false w args)
   (Rows.plannerLinesSpec.post enc Tryz.prog Tryz.f3 false true false false):=by
 refine zhR (C:=Tryz.checked) (X:=fun w=>laidMetH Tryz.prog dy w) (fun _ _ hh h=>h.of_heap hh) own started (by kernel_rfl) Tryz.func3
  (ChangeSpec.witness_shaped (enc:=enc) (C:=Tryz.checked) (os:=os) (X:=fun w _=>laidMetH Tryz.prog dy w) false (World.laidAll Tryz.prog os dy) #[.string ⟨#[]⟩] 8 (World.laidAll_os _ _ _) (World.shaped_of_ZipB (by kernel_rfl) (by kernel_rfl)) (by kernel_rfl) (by kernel_rfl) (by kernel_rfl)
   (by rw [MakeChecks.laidMetH_plain _ _ _ (by kernel_rfl)];exact laidMet_laidAll _ (by kernel_rfl) (by kernel_rfl)))
  fP rfl isBool4 rfl (reads (by kernel_rfl)) (fun ds h=>?_) fun W hsh hx=>?_
 ·match ds,h with
  | [_],_=>rfl
 ·haveI:=fb (plain hx) (by simp)
  haveI:=fa (plain hx) (by simp)
  haveI:=eG hsh
  rw [Tryz.params3]
  refine zh8 Tryz.underlying9 fun x1 h1=>?_
  exact zhQ (qy)
theorem dc:(Rows.plannerLinesRow.wf (OpenSpec.ofChange Rows.plannerLinesSpec))=true:=by kernel_rfl
theorem cZ:(laidOutB Tryz.prog)=true:=by kernel_rfl
theorem cY:(mapsRowed Tryz.prog)=true:=by kernel_rfl
theorem cX:(Tryz.f3.params.all (Tryz.prog.readableRec ·))=true:=by kernel_rfl
theorem cW:(namedTie Tryz.prog Rows.plannerLinesRow.named Rows.plannerLinesSpec.vars)=true:=by kernel_rfl
theorem cV:((Rows.plannerLinesRow.stops==[]))=true:=by kernel_rfl
theorem cU:((Tryz.prog.stops==[]))=true:=by kernel_rfl
theorem cT:((Rows.plannerLinesRow.knobs==[]))=true:=by kernel_rfl
theorem cS:((Tryz.prog.stopKnobs==[]))=true:=by kernel_rfl
theorem cQ:((Rows.plannerLinesRow.inPlace==Tryz.prog.inPlace 3))=true:=by kernel_rfl
theorem bj:((Rows.plannerLinesRow.unfollowed==Tryz.prog.unfollowed 3))=true:=by kernel_rfl
theorem cD:((Rows.plannerLinesRow.recurses==Tryz.prog.recurses 3))=true:=by
 unfold Program.recurses
 rw [show Tryz.prog.unfollowed 3=true from (beq_iff_eq.1 bj).symm];rfl
theorem cC:((Rows.plannerLinesRow.named==Tryz.prog.varsNamed 3))=true:=by kernel_rfl
theorem cB:((Rows.plannerLinesRow.maps==(Tryz.f3.params.toList++Rows.plannerLinesSpec.plain.varTypes Tryz.prog).any (Tryz.prog.mapsRec ·)))=true:=by kernel_rfl
theorem cA:((Rows.plannerLinesRow.ifaces==(Tryz.f3.params.toList++Rows.plannerLinesSpec.plain.varTypes Tryz.prog).any (Tryz.prog.ifacesRec ·)))=true:=by kernel_rfl
theorem cz:((Rows.plannerLinesRow.mapsOut==Tryz.prog.mapsAmong Tryz.f3.resultTypes.toList))=true:=by kernel_rfl
theorem cy:((Rows.plannerLinesRow.loops==(Tryz.f3.params.toList++Rows.plannerLinesSpec.plain.varTypes Tryz.prog).any (Tryz.prog.loopsFrom ·)))=true:=by kernel_rfl
theorem cx:((Rows.plannerLinesRow.wideKeys==(Tryz.f3.params.toList++Rows.plannerLinesSpec.plain.varTypes Tryz.prog++Tryz.f3.resultTypes.toList).any (Tryz.prog.wideKeysFrom ·)))=true:=by kernel_rfl
theorem cw:(Rows.plannerLinesSpec.vars.all (Tryz.prog.varReadable ·))=true:=by kernel_rfl
theorem cu:(Tryz.f3.resultTypes.all (fun t=>Tryz.prog.readableRec t&&decide (t<Tryz.prog.types.size)))=true:=by kernel_rfl
theorem ct:((Rows.plannerLinesRow.ifacesOut==Tryz.f3.resultTypes.toList.any (Tryz.prog.ifacesRec ·)))=true:=by kernel_rfl
theorem cq:((Rows.plannerLinesRow.loopsOut==Tryz.f3.resultTypes.toList.any (Tryz.prog.loopsFrom ·)))=true:=by kernel_rfl
theorem cn:((Rows.plannerLinesRow.plainKeys==Tryz.prog.plainKeys))=true:=by kernel_rfl
theorem cm:(Rows.plannerLinesRow.shortTexts.isNone)=true:=by kernel_rfl
theorem ck:(Tryz.prog.stopsHeard)=true:=by kernel_rfl
theorem cj:(Tryz.prog.mayEnter)=true:=by kernel_rfl
theorem ci:((Rows.plannerLinesRow.lifted==Tryz.prog.liftsFinal))=true:=by kernel_rfl
theorem cg:((Tryz.prog.make==some Rows.plannerLinesRow.make))=true:=by kernel_rfl
theorem cf:((Rows.plannerLinesRow.kinds==(if Rows.plannerLinesRow.domain.isEmpty then [] else Tryz.f3.params.toList.map fun t=>match Tryz.prog.underlying t with | some (.int k)=>some k | _=>none)))=true:=by kernel_rfl
theorem ce:((Rows.plannerLinesRow.pinned==Rows.plannerLinesRow.pinnedBy))=true:=by kernel_rfl
theorem cd:((Rows.plannerLinesRow.veiled==(Tryz.f3.params.toList++Rows.plannerLinesSpec.plain.varTypes Tryz.prog++Tryz.f3.resultTypes.toList).any (Tryz.prog.veiledRec ·)))=true:=by kernel_rfl
theorem ca:(Rows.plannerLinesRow.veiledFits Tryz.prog Tryz.f3.params.toList (Tryz.f3.params.toList++Rows.plannerLinesSpec.plain.varTypes Tryz.prog++Tryz.f3.resultTypes.toList))=true:=by kernel_rfl
theorem bE:joinedFacts Tryz.prog 3 Tryz.f3 Rows.plannerLinesSpec Rows.plannerLinesRow=true:=eH dc cZ cY cX cW cV cU cT cS cQ bj cD cC cB cA cz cy cx cw cu ct cq cn cm ck cj ci cg cf ce cd ca
theorem bZ:Rows.PlannerLinesSaid:=
 OpenClaim.holds_of_wide 3 Tryz.f3 rfl rfl rfl rfl rfl rfl rfl ⟨rfl,rfl,rfl,rfl,rfl⟩ rfl rfl rfl rfl rfl (by kernel_rfl) Tryz.func3 bE
  (of_decide_eq_true (by kernel_rfl)) (by unfold Func.isWrapper;first | (rw [if_pos (by decide +kernel)];kernel_rfl) | (rw [if_neg (by decide +kernel)];exact⟨rfl,rfl⟩))
  (fun os started H enc _=>bD os started H enc)
theorem plannerLines_card:Rows.PlannerLinesCardSaid:=
 Claim7.holds_tied_plain_at .later [] [.data,.data,.data,.data,.pinned] true _ true bZ (fun _ h=>by cases h) (by kernel_rfl) (fun _ h=>by cases h) plannerLines_row_tie rfl ⟨rfl,rfl⟩ (by kernel_rfl) rfl
  (fun f fn hf hfn=>by
   obtain rfl:f=3:=Option.some.inj ((show Tryz.prog.funcNamed "strait/straitlaw31.PlannerLines" =some 3 by kernel_rfl).symm.trans hf) |>.symm
   obtain rfl:fn=Tryz.f3:=(Option.some.inj (Tryz.func3.symm.trans hfn)).symm
   exact⟨by kernel_rfl,fun j t ht=>by
    have hall:(Tryz.f3.params.toList.all fun u=> !Tryz.prog.wantsStandIn u)=true:=by kernel_rfl
    have hm:t∈Tryz.f3.params.toList:=by simpa using Array.mem_of_getElem? ht
    exact (show Tryz.prog.wantsStandIn t=false by simpa using List.all_eq_true.1 hall t hm)⟩)
  (fS rfl eI)
#print axioms plannerLines_card
end Go.Proofs.YtceodgbmninaoaaGreatDoor
