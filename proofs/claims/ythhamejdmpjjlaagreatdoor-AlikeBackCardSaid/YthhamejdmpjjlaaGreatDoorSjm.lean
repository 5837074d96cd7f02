/- The laws AlikeBack hold, as rows and as tied cards: whatever the arguments, the call answers true and turns nothing. Conditions: those of the rows, no other. -/
import Derived.Test.YthhamejdmpjjlaaGreatDoorSzn
import Derived.Test.YthhamejdmpjjlaaGreatDoorSnv
import Derived.Test.YthhamejdmpjjlaaGreatDoorScg
import Derived.Test.YthhamejdmpjjlaaGreatDoorSgx
import Derived.Test.YthhamejdmpjjlaaGreatDoorCards
import Derived.Test.YthhamejdmpjjlaaGreatDoorTie
import Derived.SevenTiedAt
namespace Go.Proofs.YthhamejdmpjjlaaGreatDoor
open Go Go.Sv Num Go.RowKit Go.ChangeShapes Go.WideShapes
theorem own:ownKnob Tryz.prog.godebug=none:=by kernel_rfl
theorem laidOut:laidOutB Tryz.prog=true:=by kernel_rfl
abbrev laid5:List (String×DataW Unit):=[("math/bits.deBruijn32tab",Rows.laid_math_bits_deBruijn32tab),("math/bits.deBruijn64tab",Rows.laid_math_bits_deBruijn64tab),("internal/strconv.uint64pow10",Rows.laid_internal_strconv_uint64pow10),("unicode/utf8.acceptRanges",Rows.laid_unicode_utf8_acceptRanges),("unicode/utf8.first",Rows.laid_unicode_utf8_first)]
theorem plain {W:World} (h:laidMetH Tryz.prog laid5 W):laidMet Tryz.prog laid5 W:=by rwa [MakeChecks.laidMetH_plain _ _ _ (by kernel_rfl)] at h
theorem reads {l:List TypeId} (h:(l.all fun t=>Tryz.prog.readableRec t&&decide (t<Tryz.prog.types.size))=true):∀ t∈l,Tryz.prog.readableRec t=true∧t<Tryz.prog.types.size:=fun t ht=>by
 have:=List.all_eq_true.1 h t ht
 simpa using this
abbrev nat0:Value:=.slice none 0 0
abbrev pt0:Value:=.agg #[.bool false,nat0,nat0,.bool false,nat0,nat0]
abbrev rat0:Value:=.agg #[.bool false,nat0,nat0]
abbrev int0:Value:=.agg #[.bool false,nat0]
abbrev sc0:Value:=.agg #[nat0,nat0,nat0]
theorem goes_no {P:Program} (h:(P.funcs.toList.all fun f=> !f.goes)=true) (f:FuncId):P.goes f=false:=by
 have hg:∀ g:FuncId,(P.funcs[g]?).any Func.goes=false:=fun g=>by
  cases e:P.funcs[g]? with
  | none=>rfl
  | some fn=>have:=List.all_eq_true.1 h fn (by simpa using Array.mem_of_getElem? e);simpa using this
 have h1:((P.closure f).any fun g=>(P.funcs[g]?).any Func.goes)=false:=by
  rw [List.any_eq_false];intro g _;rw [hg g];decide
 have h2:P.funcs.any Func.goes=false:=by
  rw [←Array.any_toList,List.any_eq_false];intro fn hf
  have:=List.all_eq_true.1 h fn hf
  simpa using this
 unfold Program.goes
 rw [h1,h2,Bool.and_false];rfl
theorem goes_by {P:Program} {c:OpenClaim} (hs:c.start= .entering) (h:(P.funcs.toList.all fun f=> !f.goes)=true):false=c.goesBy P:=by
 unfold OpenClaim.goesBy Program.goesAt Program.goesFrom
 rw [hs]
 cases P.funcNamed c.func with
 | none=>rfl
 | some f=>show false=(P.goes f||false);rw [goes_no h f];rfl
theorem goes_none:(Tryz.prog.funcs.toList.all fun f=> !f.goes)=true:=by kernel_rfl
theorem joined_of {P:Program} {f:FuncId} {fn:Func} {s:ChangeSpec} {c:OpenClaim} (h0:(c.wf (OpenSpec.ofChange s))=true) (h1:(laidOutB P)=true) (h2:(mapsRowed P)=true) (h3:(fn.params.all (P.readableRec ·))=true) (h4:(namedTie P c.named s.vars)=true) (h5:((c.stops==[]))=true) (h6:((P.stops==[]))=true) (h7:((c.knobs==[]))=true) (h8:((P.stopKnobs==[]))=true) (h9:((c.inPlace==P.inPlace f))=true) (h10:((c.unfollowed==P.unfollowed f))=true) (h11:((c.recurses==P.recurses f))=true) (h12:((c.named==P.varsNamed f))=true) (h13:((c.maps==(fn.params.toList++s.plain.varTypes P).any (P.mapsRec ·)))=true) (h14:((c.ifaces==(fn.params.toList++s.plain.varTypes P).any (P.ifacesRec ·)))=true) (h15:((c.mapsOut==P.mapsAmong fn.resultTypes.toList))=true) (h16:((c.loops==(fn.params.toList++s.plain.varTypes P).any (P.loopsFrom ·)))=true) (h17:((c.wideKeys==(fn.params.toList++s.plain.varTypes P++fn.resultTypes.toList).any (P.wideKeysFrom ·)))=true) (h18:(s.vars.all (P.varReadable ·))=true) (h19:(fn.resultTypes.all (fun t=>P.readableRec t&&decide (t<P.types.size)))=true) (h20:((c.ifacesOut==fn.resultTypes.toList.any (P.ifacesRec ·)))=true) (h21:((c.loopsOut==fn.resultTypes.toList.any (P.loopsFrom ·)))=true) (h22:((c.plainKeys==P.plainKeys))=true) (h23:(c.shortTexts.isNone)=true) (h24:(P.stopsHeard)=true) (h25:(P.mayEnter)=true) (h26:((c.lifted==P.liftsFinal))=true) (h27:((P.make==some c.make))=true) (h28:((c.kinds==(if c.domain.isEmpty then [] else fn.params.toList.map fun t=>match P.underlying t with | some (.int k)=>some k | _=>none)))=true) (h29:((c.pinned==c.pinnedBy))=true) (h30:((c.veiled==(fn.params.toList++s.plain.varTypes P++fn.resultTypes.toList).any (P.veiledRec ·)))=true) (h31:(c.veiledFits P fn.params.toList (fn.params.toList++s.plain.varTypes P++fn.resultTypes.toList))=true):joinedFacts P f fn s c=true:=by
 simp only [joinedFacts,Bool.and_eq_true]
 exact⟨⟨⟨⟨⟨⟨⟨⟨⟨⟨⟨⟨⟨⟨⟨⟨⟨⟨⟨⟨⟨⟨⟨⟨⟨⟨⟨⟨⟨⟨⟨h0,h1⟩,h2⟩,h3⟩,h4⟩,h5⟩,h6⟩,h7⟩,h8⟩,h9⟩,h10⟩,h11⟩,h12⟩,h13⟩,h14⟩,h15⟩,h16⟩,h17⟩,h18⟩,h19⟩,h20⟩,h21⟩,h22⟩,h23⟩,h24⟩,h25⟩,h26⟩,h27⟩,h28⟩,h29⟩,h30⟩,h31⟩
set_option maxRecDepth 100000 in
theorem alikeBack_lifted (os:Os) (started:os.Started) (H:Type) (enc:TypeId×Value→H):
  ReturnsInHanded {} Tryz.checked os 3 .any (fun w args=>(Rows.alikeBackSpec.pre enc Tryz.prog Tryz.f3 [] false w args∧laidMetH Tryz.prog laid5 w)∧sizedMet enc Tryz.prog Tryz.f3 (OpenSpec.ofChange Rows.alikeBackSpec) false w args)
   (Rows.alikeBackSpec.post enc Tryz.prog Tryz.f3 false true false false):=by
 refine zdh (C:=Tryz.checked) (X:=fun w=>laidMetH Tryz.prog laid5 w) (fun _ _ hh h=>h.of_heap hh) own started (by kernel_rfl) Tryz.func3
  (ChangeSpec.witness_shaped (enc:=enc) (C:=Tryz.checked) (os:=os) (X:=fun w _=>laidMetH Tryz.prog laid5 w) false (World.laidAll Tryz.prog os laid5) #[sc0,.int .i64 0] 8 (World.laidAll_os _ _ _) (World.shaped_of_ZipB (by kernel_rfl) (by kernel_rfl)) (by kernel_rfl) (by kernel_rfl) (by kernel_rfl)
   (by rw [MakeChecks.laidMetH_plain _ _ _ (by kernel_rfl)];exact laidMet_laidAll _ (by kernel_rfl) (by kernel_rfl)))
  laidOut rfl Tryz.isBool4 rfl (reads (by kernel_rfl)) (fun ds h=>?_) fun W hsh hx=>?_
 ·match ds,h with
  | [_,_],_=>rfl
 ·haveI:=Tryz.tab10_of (plain hx) (by simp)
  haveI:=Tryz.tab64_of (plain hx) (by simp)
  haveI:=Tryz.maxLen_of hsh
  rw [Tryz.params3]
  refine zde Tryz.underlying26 (fun _ _ _ h w=>Tryz.open_scene h w) fun x1 h1=>?_;refine zdf (k:=.i64) Tryz.underlying3 fun x2 h2=>?_
  simp [Lit.wf,IntKind.min,IntKind.max,IntKind.signed,IntKind.bits] at h2
  exact zdg (qT h1)
theorem alikeBack_j0:(Rows.alikeBackRow.wf (OpenSpec.ofChange Rows.alikeBackSpec))=true:=by kernel_rfl
theorem alikeBack_j1:(laidOutB Tryz.prog)=true:=by kernel_rfl
theorem alikeBack_j2:(mapsRowed Tryz.prog)=true:=by kernel_rfl
theorem alikeBack_j3:(Tryz.f3.params.all (Tryz.prog.readableRec ·))=true:=by kernel_rfl
theorem alikeBack_j4:(namedTie Tryz.prog Rows.alikeBackRow.named Rows.alikeBackSpec.vars)=true:=by kernel_rfl
theorem alikeBack_j5:((Rows.alikeBackRow.stops==[]))=true:=by kernel_rfl
theorem alikeBack_j6:((Tryz.prog.stops==[]))=true:=by kernel_rfl
theorem alikeBack_j7:((Rows.alikeBackRow.knobs==[]))=true:=by kernel_rfl
theorem alikeBack_j8:((Tryz.prog.stopKnobs==[]))=true:=by kernel_rfl
theorem alikeBack_j9:((Rows.alikeBackRow.inPlace==Tryz.prog.inPlace 3))=true:=by kernel_rfl
theorem alikeBack_j10:((Rows.alikeBackRow.unfollowed==Tryz.prog.unfollowed 3))=true:=by kernel_rfl
theorem alikeBack_j11:((Rows.alikeBackRow.recurses==Tryz.prog.recurses 3))=true:=by
 unfold Program.recurses
 rw [show Tryz.prog.unfollowed 3=true from (beq_iff_eq.1 alikeBack_j10).symm];rfl
theorem alikeBack_j12:((Rows.alikeBackRow.named==Tryz.prog.varsNamed 3))=true:=by kernel_rfl
theorem alikeBack_j13:((Rows.alikeBackRow.maps==(Tryz.f3.params.toList++Rows.alikeBackSpec.plain.varTypes Tryz.prog).any (Tryz.prog.mapsRec ·)))=true:=by kernel_rfl
theorem alikeBack_j14:((Rows.alikeBackRow.ifaces==(Tryz.f3.params.toList++Rows.alikeBackSpec.plain.varTypes Tryz.prog).any (Tryz.prog.ifacesRec ·)))=true:=by kernel_rfl
theorem alikeBack_j15:((Rows.alikeBackRow.mapsOut==Tryz.prog.mapsAmong Tryz.f3.resultTypes.toList))=true:=by kernel_rfl
theorem alikeBack_j16:((Rows.alikeBackRow.loops==(Tryz.f3.params.toList++Rows.alikeBackSpec.plain.varTypes Tryz.prog).any (Tryz.prog.loopsFrom ·)))=true:=by kernel_rfl
theorem alikeBack_j17:((Rows.alikeBackRow.wideKeys==(Tryz.f3.params.toList++Rows.alikeBackSpec.plain.varTypes Tryz.prog++Tryz.f3.resultTypes.toList).any (Tryz.prog.wideKeysFrom ·)))=true:=by kernel_rfl
theorem alikeBack_j18:(Rows.alikeBackSpec.vars.all (Tryz.prog.varReadable ·))=true:=by kernel_rfl
theorem alikeBack_j19:(Tryz.f3.resultTypes.all (fun t=>Tryz.prog.readableRec t&&decide (t<Tryz.prog.types.size)))=true:=by kernel_rfl
theorem alikeBack_j20:((Rows.alikeBackRow.ifacesOut==Tryz.f3.resultTypes.toList.any (Tryz.prog.ifacesRec ·)))=true:=by kernel_rfl
theorem alikeBack_j21:((Rows.alikeBackRow.loopsOut==Tryz.f3.resultTypes.toList.any (Tryz.prog.loopsFrom ·)))=true:=by kernel_rfl
theorem alikeBack_j22:((Rows.alikeBackRow.plainKeys==Tryz.prog.plainKeys))=true:=by kernel_rfl
theorem alikeBack_j23:(Rows.alikeBackRow.shortTexts.isNone)=true:=by kernel_rfl
theorem alikeBack_j24:(Tryz.prog.stopsHeard)=true:=by kernel_rfl
theorem alikeBack_j25:(Tryz.prog.mayEnter)=true:=by kernel_rfl
theorem alikeBack_j26:((Rows.alikeBackRow.lifted==Tryz.prog.liftsFinal))=true:=by kernel_rfl
theorem alikeBack_j27:((Tryz.prog.make==some Rows.alikeBackRow.make))=true:=by kernel_rfl
theorem alikeBack_j28:((Rows.alikeBackRow.kinds==(if Rows.alikeBackRow.domain.isEmpty then [] else Tryz.f3.params.toList.map fun t=>match Tryz.prog.underlying t with | some (.int k)=>some k | _=>none)))=true:=by kernel_rfl
theorem alikeBack_j29:((Rows.alikeBackRow.pinned==Rows.alikeBackRow.pinnedBy))=true:=by kernel_rfl
theorem alikeBack_j30:((Rows.alikeBackRow.veiled==(Tryz.f3.params.toList++Rows.alikeBackSpec.plain.varTypes Tryz.prog++Tryz.f3.resultTypes.toList).any (Tryz.prog.veiledRec ·)))=true:=by kernel_rfl
theorem alikeBack_j31:(Rows.alikeBackRow.veiledFits Tryz.prog Tryz.f3.params.toList (Tryz.f3.params.toList++Rows.alikeBackSpec.plain.varTypes Tryz.prog++Tryz.f3.resultTypes.toList))=true:=by kernel_rfl
theorem alikeBack_closed:joinedFacts Tryz.prog 3 Tryz.f3 Rows.alikeBackSpec Rows.alikeBackRow=true:=joined_of alikeBack_j0 alikeBack_j1 alikeBack_j2 alikeBack_j3 alikeBack_j4 alikeBack_j5 alikeBack_j6 alikeBack_j7 alikeBack_j8 alikeBack_j9 alikeBack_j10 alikeBack_j11 alikeBack_j12 alikeBack_j13 alikeBack_j14 alikeBack_j15 alikeBack_j16 alikeBack_j17 alikeBack_j18 alikeBack_j19 alikeBack_j20 alikeBack_j21 alikeBack_j22 alikeBack_j23 alikeBack_j24 alikeBack_j25 alikeBack_j26 alikeBack_j27 alikeBack_j28 alikeBack_j29 alikeBack_j30 alikeBack_j31
theorem alikeBack_row:Rows.AlikeBackSaid:=
 OpenClaim.holds_of_wide 3 Tryz.f3 rfl rfl rfl rfl rfl rfl rfl ⟨rfl,rfl,rfl,rfl,rfl⟩ rfl rfl rfl rfl rfl (by kernel_rfl) Tryz.func3 alikeBack_closed
  (of_decide_eq_true (by kernel_rfl)) (by unfold Func.isWrapper;first | (rw [if_pos (by decide +kernel)];kernel_rfl) | (rw [if_neg (by decide +kernel)];exact⟨rfl,rfl⟩))
  (fun os started H enc _=>alikeBack_lifted os started H enc)
theorem alikeBack_card:Rows.AlikeBackCardSaid:=
 Claim7.holds_tied_plain_at .later [] [.data,.data,.data,.data,.pinned] true _ true alikeBack_row (fun _ h=>by cases h) (by kernel_rfl) (fun _ h=>by cases h) alikeBack_row_tie rfl ⟨rfl,rfl⟩ (by kernel_rfl) rfl
  (fun f fn hf hfn=>by
   obtain rfl:f=3:=Option.some.inj ((show Tryz.prog.funcNamed "strait/straitlaw32.AlikeBack" =some 3 by kernel_rfl).symm.trans hf) |>.symm
   obtain rfl:fn=Tryz.f3:=(Option.some.inj (Tryz.func3.symm.trans hfn)).symm
   exact⟨by kernel_rfl,fun j t ht=>by
    have hall:(Tryz.f3.params.toList.all fun u=> !Tryz.prog.wantsStandIn u)=true:=by kernel_rfl
    have hm:t∈Tryz.f3.params.toList:=by simpa using Array.mem_of_getElem? ht
    exact (show Tryz.prog.wantsStandIn t=false by simpa using List.all_eq_true.1 hall t hm)⟩)
  (goes_by rfl goes_none)
#print axioms alikeBack_card
end Go.Proofs.YthhamejdmpjjlaaGreatDoor
