/- The laws TopAlike hold, as rows and as tied cards: whatever the arguments, the call answers true and turns nothing. Conditions: those of the rows, no other. -/
import Derived.Test.YtceodgbmninaoaaGreatDoorSjp
import Derived.Test.YtceodgbmninaoaaGreatDoorStz
set_option linter.all false
namespace Go.Proofs.YtceodgbmninaoaaGreatDoor
open Go Go.Sv Num Go.RowKit Go.ChangeShapes Go.WideShapes
theorem oI {H:Type} {enc:TypeId×Value→H} {P:Program} {W:World} {Q:List SV→Prop} {t:TypeId} {ts:List TypeId} {ss:List SV} {k:IntKind} (ht:P.underlying t=some (.int k)) (c:∀ n:Int,Wz enc P W Q ts (ze k n::ss)):Wz enc P W Q (t::ts) ss:=fun _ _ _ _ a d _=>by
 obtain⟨n,rfl,_,_,_⟩:=open_int ht a d
 exact⟨_,rfl,c n⟩
set_option maxRecDepth 100000 in
theorem cz (os:Os) (started:os.Started) (H:Type) (enc:TypeId×Value→H):
  ReturnsInHanded {} Tryz.checked os 5 .any (fun w args=>(Rows.topAlikeSpec.pre enc Tryz.prog Tryz.f5 [] false w args∧laidMetH Tryz.prog cQ w)∧sizedMet enc Tryz.prog Tryz.f5 (OpenSpec.ofChange Rows.topAlikeSpec) false w args)
   (Rows.topAlikeSpec.post enc Tryz.prog Tryz.f5 false true false false):=by
 refine zhR (C:=Tryz.checked) (X:=fun w=>laidMetH Tryz.prog cQ w) (fun _ _ hh h=>h.of_heap hh) own started (by kernel_rfl) Tryz.func5
  (ChangeSpec.witness_shaped (enc:=enc) (C:=Tryz.checked) (os:=os) (X:=fun w _=>laidMetH Tryz.prog cQ w) false (World.laidAll Tryz.prog os cQ) #[.string ⟨#[]⟩,.int .i64 0] 8 (World.laidAll_os _ _ _) (World.shaped_of_ZipB (by kernel_rfl) (by kernel_rfl)) (by kernel_rfl) (by kernel_rfl) (by kernel_rfl)
   (by rw [MakeChecks.laidMetH_plain _ _ _ (by kernel_rfl)];exact laidMet_laidAll _ (by kernel_rfl) (by kernel_rfl)))
  fS rfl aP rfl (reads (by kernel_rfl)) (fun ds h=>?_) fun W hsh hx=>?_
 ·match ds,h with
  | [_,_],_=>rfl
 ·haveI:=cM (plain hx) (by simp)
  haveI:=cL (plain hx) (by simp)
  haveI:=cF hsh
  rw [Tryz.params5]
  refine zh8 Tryz.underlying9 fun x1 h1=>?_
  refine oI Tryz.underlying3 fun x2=>?_
  exact zhQ topAlike_spec
theorem dp:Rows.TopAlikeSaid:=
 OpenClaim.holds_of_wide 5 Tryz.f5 rfl rfl rfl rfl rfl rfl rfl ⟨rfl,rfl,rfl,rfl,rfl⟩ rfl rfl rfl rfl rfl (by kernel_rfl) Tryz.func5 cA
  (of_decide_eq_true (by kernel_rfl)) (by unfold Func.isWrapper;first | (rw [if_pos (by decide +kernel)];kernel_rfl) | (rw [if_neg (by decide +kernel)];exact⟨rfl,rfl⟩))
  (fun os started H enc _=>cz os started H enc)
theorem topAlike_card:Rows.TopAlikeCardSaid:=
 Claim7.holds_tied_plain_at .later [] [.data,.data,.data,.data,.pinned] true _ true dp (fun _ h=>by cases h) (by kernel_rfl) (fun _ h=>by cases h) topAlike_row_tie rfl ⟨rfl,rfl⟩ (by kernel_rfl) rfl
  (fun f fn hf hfn=>by
   obtain rfl:f=5:=Option.some.inj ((show Tryz.prog.funcNamed "strait/straittop.TopAlike" =some 5 by kernel_rfl).symm.trans hf) |>.symm
   obtain rfl:fn=Tryz.f5:=(Option.some.inj (Tryz.func5.symm.trans hfn)).symm
   exact⟨by kernel_rfl,fun j t ht=>by
    have hall:(Tryz.f5.params.toList.all fun u=> !Tryz.prog.wantsStandIn u)=true:=by kernel_rfl
    have hm:t∈Tryz.f5.params.toList:=by simpa using Array.mem_of_getElem? ht
    exact (show Tryz.prog.wantsStandIn t=false by simpa using List.all_eq_true.1 hall t hm)⟩)
  (fV rfl eL)
#print axioms topAlike_card
end Go.Proofs.YtceodgbmninaoaaGreatDoor
