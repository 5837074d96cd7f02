/- The facts that join a row to its translation. -/
import Derived.Test.YtceodgbmninaoaaGreatDoorSzn
import Derived.Test.YtceodgbmninaoaaGreatDoorSnx
import Derived.Test.YtceodgbmninaoaaGreatDoorCards
import Derived.Test.YtceodgbmninaoaaGreatDoorTie
import Derived.SevenTiedAt
set_option linter.all false
namespace Go.Proofs.YtceodgbmninaoaaGreatDoor
open Go Go.Sv Num Go.RowKit Go.ChangeShapes Go.WideShapes
theorem own:ownKnob Tryz.prog.godebug=none:=by kernel_rfl
theorem fS:laidOutB Tryz.prog=true:=by kernel_rfl
abbrev cQ:List (String×DataW Unit):=[("math/bits.deBruijn32tab",Rows.laid_math_bits_deBruijn32tab),("math/bits.deBruijn64tab",Rows.laid_math_bits_deBruijn64tab),("internal/strconv.uint64pow10",Rows.laid_internal_strconv_uint64pow10),("unicode/utf8.acceptRanges",Rows.laid_unicode_utf8_acceptRanges),("unicode/utf8.first",Rows.laid_unicode_utf8_first)]
theorem plain {W:World} (h:laidMetH Tryz.prog cQ W):laidMet Tryz.prog cQ W:=by rwa [MakeChecks.laidMetH_plain _ _ _ (by kernel_rfl)] at h
theorem reads {l:List TypeId} (h:(l.all fun t=>Tryz.prog.readableRec t&&decide (t<Tryz.prog.types.size))=true):∀ t∈l,Tryz.prog.readableRec t=true∧t<Tryz.prog.types.size:=fun t ht=>by
 have:=List.all_eq_true.1 h t ht
 simpa using this
abbrev cK:Value:=.slice none 0 0
abbrev pt0:Value:=.agg #[.bool false,cK,cK,.bool false,cK,cK]
abbrev rat0:Value:=.agg #[.bool false,cK,cK]
abbrev int0:Value:=.agg #[.bool false,cK]
abbrev sc0:Value:=.agg #[cK,cK,cK]
theorem fU {P:Program} (h:(P.funcs.toList.all fun f=> !f.goes)=true) (f:FuncId):P.goes f=false:=by
 have hg:∀ g:FuncId,(P.funcs[g]?).any Func.goes=false:=fun g=>by
  cases e:P.funcs[g]? with
  | none=>rfl
  | some fn=>have:=List.all_eq_true.1 h fn (by simpa using Array.mem_of_getElem? e);simpa using this
 have h1:((P.closure f).any fun g=>(P.funcs[g]?).any Func.goes)=false:=by
  rw [List.any_eq_false];intro g _;rw [hg g];decide
 have h2:P.funcs.any Func.goes=false:=by
  rw [←Array.any_toList,List.any_eq_false];intro fn hf
  have:=List.all_eq_true.1 h fn hf
  simpa using this
 unfold Program.goes
 rw [h1,h2,Bool.and_false];rfl
theorem fV {P:Program} {c:OpenClaim} (hs:c.start= .entering) (h:(P.funcs.toList.all fun f=> !f.goes)=true):false=c.goesBy P:=by
 unfold OpenClaim.goesBy Program.goesAt Program.goesFrom
 rw [hs]
 cases P.funcNamed c.func with
 | none=>rfl
 | some f=>show false=(P.goes f||false);rw [fU h f];rfl
theorem eL:(Tryz.prog.funcs.toList.all fun f=> !f.goes)=true:=by kernel_rfl
theorem eK {P:Program} {f:FuncId} {fn:Func} {s:ChangeSpec} {c:OpenClaim} (h0:(c.wf (OpenSpec.ofChange s))=true) (h1:(laidOutB P)=true) (h2:(mapsRowed P)=true) (h3:(fn.params.all (P.readableRec ·))=true) (h4:(namedTie P c.named s.vars)=true) (h5:((c.stops==[]))=true) (h6:((P.stops==[]))=true) (h7:((c.knobs==[]))=true) (h8:((P.stopKnobs==[]))=true) (h9:((c.inPlace==P.inPlace f))=true) (h10:((c.unfollowed==P.unfollowed f))=true) (h11:((c.recurses==P.recurses f))=true) (h12:((c.named==P.varsNamed f))=true) (h13:((c.maps==(fn.params.toList++s.plain.varTypes P).any (P.mapsRec ·)))=true) (h14:((c.ifaces==(fn.params.toList++s.plain.varTypes P).any (P.ifacesRec ·)))=true) (h15:((c.mapsOut==P.mapsAmong fn.resultTypes.toList))=true) (h16:((c.loops==(fn.params.toList++s.plain.varTypes P).any (P.loopsFrom ·)))=true) (h17:((c.wideKeys==(fn.params.toList++s.plain.varTypes P++fn.resultTypes.toList).any (P.wideKeysFrom ·)))=true) (h18:(s.vars.all (P.varReadable ·))=true) (h19:(fn.resultTypes.all (fun t=>P.readableRec t&&decide (t<P.types.size)))=true) (h20:((c.ifacesOut==fn.resultTypes.toList.any (P.ifacesRec ·)))=true) (h21:((c.loopsOut==fn.resultTypes.toList.any (P.loopsFrom ·)))=true) (h22:((c.plainKeys==P.plainKeys))=true) (h23:(c.shortTexts.isNone)=true) (h24:(P.stopsHeard)=true) (h25:(P.mayEnter)=true) (h26:((c.lifted==P.liftsFinal))=true) (h27:((P.make==some c.make))=true) (h28:((c.kinds==(if c.domain.isEmpty then [] else fn.params.toList.map fun t=>match P.underlying t with | some (.int k)=>some k | _=>none)))=true) (h29:((c.pinned==c.pinnedBy))=true) (h30:((c.veiled==(fn.params.toList++s.plain.varTypes P++fn.resultTypes.toList).any (P.veiledRec ·)))=true) (h31:(c.veiledFits P fn.params.toList (fn.params.toList++s.plain.varTypes P++fn.resultTypes.toList))=true):joinedFacts P f fn s c=true:=by
 simp only [joinedFacts,Bool.and_eq_true]
 exact⟨⟨⟨⟨⟨⟨⟨⟨⟨⟨⟨⟨⟨⟨⟨⟨⟨⟨⟨⟨⟨⟨⟨⟨⟨⟨⟨⟨⟨⟨⟨h0,h1⟩,h2⟩,h3⟩,h4⟩,h5⟩,h6⟩,h7⟩,h8⟩,h9⟩,h10⟩,h11⟩,h12⟩,h13⟩,h14⟩,h15⟩,h16⟩,h17⟩,h18⟩,h19⟩,h20⟩,h21⟩,h22⟩,h23⟩,h24⟩,h25⟩,h26⟩,h27⟩,h28⟩,h29⟩,h30⟩,h31⟩
theorem ea:(Rows.topAlikeRow.wf (OpenSpec.ofChange Rows.topAlikeSpec))=true:=by kernel_rfl
theorem dZ:(laidOutB Tryz.prog)=true:=by kernel_rfl
theorem dY:(mapsRowed Tryz.prog)=true:=by kernel_rfl
theorem dX:(Tryz.f5.params.all (Tryz.prog.readableRec ·))=true:=by kernel_rfl
theorem dW:(namedTie Tryz.prog Rows.topAlikeRow.named Rows.topAlikeSpec.vars)=true:=by kernel_rfl
theorem dV:((Rows.topAlikeRow.stops==[]))=true:=by kernel_rfl
theorem dU:((Tryz.prog.stops==[]))=true:=by kernel_rfl
theorem dT:((Rows.topAlikeRow.knobs==[]))=true:=by kernel_rfl
theorem dS:((Tryz.prog.stopKnobs==[]))=true:=by kernel_rfl
theorem dR:((Rows.topAlikeRow.inPlace==Tryz.prog.inPlace 5))=true:=by kernel_rfl
theorem cm:((Rows.topAlikeRow.unfollowed==Tryz.prog.unfollowed 5))=true:=by kernel_rfl
theorem dM:((Rows.topAlikeRow.recurses==Tryz.prog.recurses 5))=true:=by
 unfold Program.recurses
 rw [show Tryz.prog.unfollowed 5=true from (beq_iff_eq.1 cm).symm];rfl
theorem dL:((Rows.topAlikeRow.named==Tryz.prog.varsNamed 5))=true:=by kernel_rfl
theorem dK:((Rows.topAlikeRow.maps==(Tryz.f5.params.toList++Rows.topAlikeSpec.plain.varTypes Tryz.prog).any (Tryz.prog.mapsRec ·)))=true:=by kernel_rfl
theorem dJ:((Rows.topAlikeRow.ifaces==(Tryz.f5.params.toList++Rows.topAlikeSpec.plain.varTypes Tryz.prog).any (Tryz.prog.ifacesRec ·)))=true:=by kernel_rfl
theorem dI:((Rows.topAlikeRow.mapsOut==Tryz.prog.mapsAmong Tryz.f5.resultTypes.toList))=true:=by kernel_rfl
theorem dH:((Rows.topAlikeRow.loops==(Tryz.f5.params.toList++Rows.topAlikeSpec.plain.varTypes Tryz.prog).any (Tryz.prog.loopsFrom ·)))=true:=by kernel_rfl
theorem dG:((Rows.topAlikeRow.wideKeys==(Tryz.f5.params.toList++Rows.topAlikeSpec.plain.varTypes Tryz.prog++Tryz.f5.resultTypes.toList).any (Tryz.prog.wideKeysFrom ·)))=true:=by kernel_rfl
theorem dF:(Rows.topAlikeSpec.vars.all (Tryz.prog.varReadable ·))=true:=by kernel_rfl
theorem dE:(Tryz.f5.resultTypes.all (fun t=>Tryz.prog.readableRec t&&decide (t<Tryz.prog.types.size)))=true:=by kernel_rfl
theorem dD:((Rows.topAlikeRow.ifacesOut==Tryz.f5.resultTypes.toList.any (Tryz.prog.ifacesRec ·)))=true:=by kernel_rfl
theorem dC:((Rows.topAlikeRow.loopsOut==Tryz.f5.resultTypes.toList.any (Tryz.prog.loopsFrom ·)))=true:=by kernel_rfl
theorem dB:((Rows.topAlikeRow.plainKeys==Tryz.prog.plainKeys))=true:=by kernel_rfl
theorem dA:(Rows.topAlikeRow.shortTexts.isNone)=true:=by kernel_rfl
theorem dz:(Tryz.prog.stopsHeard)=true:=by kernel_rfl
theorem dy:(Tryz.prog.mayEnter)=true:=by kernel_rfl
theorem dx:((Rows.topAlikeRow.lifted==Tryz.prog.liftsFinal))=true:=by kernel_rfl
theorem dw:((Tryz.prog.make==some Rows.topAlikeRow.make))=true:=by kernel_rfl
theorem dv:((Rows.topAlikeRow.kinds==(if Rows.topAlikeRow.domain.isEmpty then [] else Tryz.f5.params.toList.map fun t=>match Tryz.prog.underlying t with | some (.int k)=>some k | _=>none)))=true:=by kernel_rfl
theorem du:((Rows.topAlikeRow.pinned==Rows.topAlikeRow.pinnedBy))=true:=by kernel_rfl
theorem dr:((Rows.topAlikeRow.veiled==(Tryz.f5.params.toList++Rows.topAlikeSpec.plain.varTypes Tryz.prog++Tryz.f5.resultTypes.toList).any (Tryz.prog.veiledRec ·)))=true:=by kernel_rfl
theorem dq:(Rows.topAlikeRow.veiledFits Tryz.prog Tryz.f5.params.toList (Tryz.f5.params.toList++Rows.topAlikeSpec.plain.varTypes Tryz.prog++Tryz.f5.resultTypes.toList))=true:=by kernel_rfl
theorem cA:joinedFacts Tryz.prog 5 Tryz.f5 Rows.topAlikeSpec Rows.topAlikeRow=true:=eK ea dZ dY dX dW dV dU dT dS dR cm dM dL dK dJ dI dH dG dF dE dD dC dB dA dz dy dx dw dv du dr dq
end Go.Proofs.YtceodgbmninaoaaGreatDoor
