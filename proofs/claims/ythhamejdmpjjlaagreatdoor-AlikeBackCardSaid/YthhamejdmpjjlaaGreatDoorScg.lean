/- scene: a line of a text. -/
import Derived.Test.YthhamejdmpjjlaaGreatDoorSca
import Derived.Test.YthhamejdmpjjlaaGreatDoorSnv
import Derived.Test.YthhamejdmpjjlaaGreatDoorSzn
import Derived.Test.YthhamejdmpjjlaaGreatDoorRows
import Derived.Test.YthhamejdmpjjlaaGreatDoorSsd
namespace Num
open Go Go.Lib
structure Rd where
 rob:List (Rat×Rat)
 obs:List (List (Rat×Rat))
 que:List ((Rat×Rat)×(Rat×Rat))
 code:Int
def JC (rd:Rd) (w:List UInt8) (l:List (Rat×Rat)):Option Rd:=
 if w=YT then (if rd.rob=[] then some {rd with rob:=l} else none)
 else if w=XC then (if rd.rob=[]∨rd.que≠[] then none else some {rd with obs:=rd.obs++[l]})
 else if w=XD then (match l with | [a,b]=>if rd.rob=[] then none else some {rd with que:=rd.que++[(a,b)]} | _=>none)
 else none
def okP (r:List (List UInt8)):Bool:=decide (r.length%2=0)&&decide ((0:Int)<((vL r).length:Nat))
def UA (rd:Rd) (w:List UInt8) (r:List (List UInt8)):Option Rd:=if r.all gdW&&okP r then JC {rd with code:=cdF rd.code r} w (vL r) else none
def Yk (rd:Rd) (s:List UInt8):Option Rd:=if Jn (uw 32 s) then (match uw 32 s with | w::r=>UA rd w r | []=>none) else none
end Num
namespace Go.Proofs
open Go Go.Sv Num
variable {G:Imm}
def zbS (l:List QP):SV:=match l with | []=>eqS (.slice none 0 0) | _=>zU 6 yy l
theorem ZP {l:List QP} (h:l≠[]):zbS l=zU 6 yy l:=by cases l with | nil=>exact absurd rfl h | cons _ _=>rfl
abbrev RHn (b:Nat) (s0:SV) (obs:List (List QP)) (que:List (QP×QP)) (k:Int) (qo qq:Option (Nat×Nat)):HL:=
 [⟨some b,267,[s0,eqS (rowV qo obs.length),eqS (rowV qq que.length),intS .i64 k],0⟩,rowE qo 22 1 obs.length (obs.flatMap uo),rowE qq 43 12 que.length (que.flatMap vX)]
abbrev RH (b:Nat) (rd:Rd) (qo qq:Option (Nat×Nat)):HL:=RHn b (zbS rd.rob) rd.obs rd.que rd.code qo qq
def RHo (b:Nat) (o:Option Rd) (qo qq:Option (Nat×Nat)):HL:=match o with | some rd=>RH b rd qo qq | none=>[]
def rOk (o:Option Rd) (qo qq:Option (Nat×Nat)):Prop:=match o with | some rd=>yu qo rd.obs.length∧yu qq rd.que.length | none=>True
abbrev QD (b:Nat) (o:Option Rd) (v:SV) (H':HL):Prop:=∃ qo qq,rOk o qo qq∧v=zm o.isSome∧H'=RHo b o qo qq
abbrev ptB (b:Nat):Value:=.pointer (some ⟨b,0,none⟩)
theorem zfS {b:Nat} {rd:Rd} {qo qq:Option (Nat×Nat)} {l:List QP} (hl:l≠[]) (h1:yu qo rd.obs.length) (h2:yu qq rd.que.length):CallSpec Tryz.prog G 254 [eqS (ptB b),zU 6 yy l] (RH b rd qo qq) (QD b (JC rd YT l)):=by
 obtain⟨rob,obs,que,k⟩:=rd
 by_cases hr:rob=[]
 ·subst hr
  refine (CallSpec.frame [] [_,_] (ziS (l:=l))).mono ?_
  rintro s H' ⟨H1,⟨rfl,rfl⟩,rfl⟩
  exact⟨qo,qq,⟨h1,h2⟩,rfl,by show _=RHn b (zbS l) _ _ _ _ _;rw [ZP hl];rfl⟩
 ·unfold RH
  simp only [ZP hr]
  refine (CallSpec.frame [] [_,_] (zfQ hr (l:=l))).weak ?_
  rintro s H' ⟨H1,⟨rfl,rfl⟩,rfl⟩
  refine⟨_,[],fun _ _ h=>h,List.nil_sublist _,none,none,?_⟩
  rw [show JC ⟨rob,obs,que,k⟩ YT l=none by simp [JC,hr]]
  exact⟨trivial,rfl,rfl⟩
theorem ziV {b:Nat} {rd:Rd} {qo qq:Option (Nat×Nat)} {l:List QP} (h1:yu qo rd.obs.length) (h2:yu qq rd.que.length) (h3:rd.obs.length≤2000000000):CallSpec Tryz.prog G 255 [eqS (ptB b),zU 6 yy l] (RH b rd qo qq) (QD b (JC rd XC l)):=by
 obtain⟨rob,obs,que,k⟩:=rd
 have hne:(XC=YT)↔False:=by decide
 by_cases hr:rob=[]
 ·subst hr
  refine (CallSpec.frame [] [_,_] (zle (l:=l))).weak ?_
  rintro s H' ⟨H1,⟨rfl,rfl⟩,rfl⟩
  refine⟨_,[],fun _ _ h=>h,List.nil_sublist _,none,none,?_⟩
  rw [show JC ⟨[],obs,que,k⟩ XC l=none by simp [JC]]
  exact⟨trivial,rfl,rfl⟩
 ·unfold RH
  simp only [ZP hr]
  by_cases hq:que=[]
  ·subst hq
   refine (CallSpec.frame [] [_] (zne hr h1 h2 h3 (l:=l))).mono ?_
   rintro s H' ⟨H1,⟨qo',hq',rfl,rfl⟩,rfl⟩
   rw [show JC ⟨rob,obs,[],k⟩ XC l=some ⟨rob,obs++[l],[],k⟩ by simp [JC,hr]]
   exact⟨qo',qq,⟨hq',h2⟩,rfl,by show _=RHn b (zbS rob) _ _ _ _ _;rw [ZP hr];rfl⟩
  ·refine (CallSpec.frame [] [_,_] (zlf hr h2 (by simpa using hq) (l:=l))).weak ?_
   rintro s H' ⟨H1,⟨rfl,rfl⟩,rfl⟩
   refine⟨_,[],fun _ _ h=>h,List.nil_sublist _,none,none,?_⟩
   rw [show JC ⟨rob,obs,que,k⟩ XC l=none by simp [JC,hq]]
   exact⟨trivial,rfl,rfl⟩
theorem zgZ {rob:List QP} {obs:List (List QP)} {que:List (QP×QP)} {k:Int} {l:List QP} (h:l.length≠2):JC ⟨rob,obs,que,k⟩ XD l=none:=by
 unfold JC
 rw [if_neg (by decide),if_neg (by decide),if_pos rfl]
 match l,h with
 | [],_=>rfl
 | [_],_=>rfl
 | [_,_],h=>exact absurd rfl h
 | _::_::_::_,_=>rfl
theorem zfT {b:Nat} {rd:Rd} {qo qq:Option (Nat×Nat)} {l:List QP} (h1:yu qo rd.obs.length) (h2:yu qq rd.que.length) (h3:rd.que.length≤2000000000):CallSpec Tryz.prog G 256 [eqS (ptB b),zU 6 yy l] (RH b rd qo qq) (QD b (JC rd XD l)):=by
  obtain⟨rob,obs,que,k⟩:=rd
  have none':∀ (s:SV) (H1:HL),s=zm false→JC ⟨rob,obs,que,k⟩ XD l=none→∃ s2 H2,(∀I v,s.den I v→s2.den I v)∧H2.Sublist H1∧QD b (JC ⟨rob,obs,que,k⟩ XD l) s2 H2:=fun s H1 hs hd=>
    ⟨s,[],fun _ _ h=>h,List.nil_sublist _,none,none,by rw [hd];exact⟨trivial,hs,rfl⟩⟩
  by_cases hr:rob=[]
  · subst hr
    refine (CallSpec.frame [] [_,_] (ziT (l:=l))).weak ?_
    rintro s H' ⟨H1,⟨rfl,rfl⟩,rfl⟩
    refine none' _ _ rfl ?_
    by_cases hl:l.length=2
    · match l,hl with
      | [_,_],_=>rfl
    · exact zgZ hl
  · unfold RH
    simp only [ZP hr]
    by_cases hl:l.length=2
    · match l,hl with
      | [p1,p2],_=>
        refine (CallSpec.frame [] [] (zlg hr h2 h3)).mono ?_
        rintro s H' ⟨H1,⟨qq',hq',rfl,rfl⟩,rfl⟩
        rw [show JC ⟨rob,obs,que,k⟩ XD [p1,p2]=some ⟨rob,obs,que++[(p1,p2)],k⟩ by
          unfold JC;rw [if_neg (by decide),if_neg (by decide),if_pos rfl];simp [hr]]
        exact⟨qo,qq',⟨h1,hq'⟩,rfl,by show _=RHn b (zbS rob) _ _ _ _ _;rw [ZP hr];rfl⟩
    · refine (CallSpec.frame [] [_,_] (ziU hr hl)).weak ?_
      rintro s H' ⟨H1,⟨rfl,rfl⟩,rfl⟩
      exact none' _ _ rfl (zgZ hl)
def isW (w:List UInt8):Bool:=decide (w=YT)||(decide (w=XC)||decide (w=XD))
abbrev fB (b f:Nat):Value:=.func (.func f) #[ptB b] #[]
def atW (b:Nat) (w:List UInt8):Value:=if w=YT then fB b 254 else if w=XC then fB b 255 else if w=XD then fB b 256 else .nilFunc
theorem Vb (l m:List UInt8):((⟨l.toArray⟩:ByteArray)==⟨m.toArray⟩)=decide (l=m):=by
 show (l.toArray==m.toArray)=decide (l=m)
 rw [Bool.eq_iff_iff,beq_iff_eq,decide_eq_true_iff]
 exact⟨fun h=>by simpa using h,fun h=>by rw [h]⟩
theorem zp9 (w:List UInt8) (v1 v2 v3:Value):Instr.findNow .string (.string ⟨w.toArray⟩) [{key:=.string ⟨YT.toArray⟩,val:=v1,born:=0},{key:=.string ⟨XC.toArray⟩,val:=v2,born:=1},{key:=.string ⟨XD.toArray⟩,val:=v3,born:=2}] 0=some (if w=YT then some (0,v1) else if w=XC then some (1,v2) else if w=XD then some (2,v3) else none):=by
 simp only [Instr.findNow,Instr.sameNow,Vb]
 by_cases h1:w=YT
 ·simp [h1]
 ·by_cases h2:w=XC
  ·simp [h2]
  ·by_cases h3:w=XD
   ·simp [h3]
   ·simp [h1,h2,h3]
theorem znj (W:World):(zeroValue 321).run Tryz.prog W= .ok .nilFunc W:=by
 have h:(Tryz.prog.info? 321).bind (·.zero)=some .nilFunc:=by kernel_rfl
 obtain⟨i,hi,hz⟩:=Option.bind_eq_some_iff.1 h
 simp [zeroValue,typeInfo,hi,hz]
theorem zo8 {H:HL} {o:Oper} {g:List (Nat×SV)} {x:Operand} {u b:Nat} {w:List UInt8} (hop:o.op= .binOp .neq 321 x (.const .nilFunc) u) (hx:xd g x=some (eqS (atW b w))):OpOK Tryz.prog G H o g (zm (isW w)):=by
 unfold atW at hx
 unfold isW
 by_cases h1:w=YT
 ·rw [if_pos h1] at hx;rw [decide_eq_true h1];exact Qr Tryz.underlying321 hop hx
 ·rw [if_neg h1] at hx
  by_cases h2:w=XC
  ·rw [if_pos h2] at hx;rw [decide_eq_false h1,decide_eq_true h2];exact Qr Tryz.underlying321 hop hx
  ·rw [if_neg h2] at hx
   by_cases h3:w=XD
   ·rw [if_pos h3] at hx;rw [decide_eq_false h1,decide_eq_false h2,decide_eq_true h3];exact Qr Tryz.underlying321 hop hx
   ·rw [if_neg h3] at hx;rw [decide_eq_false h1,decide_eq_false h2,decide_eq_false h3];exact zfO Tryz.underlying321 hop hx
theorem zo9 {o:Oper} {g:List (Nat×SV)} {x y:Operand} {ts:Array TypeId} {b:Nat} {rd:Rd} {qo qq:Option (Nat×Nat)} {w:List UInt8} {l:List QP} (hw:isW w=true) (hop:o.op= .call {callee:=.value x,args:= #[y],argTypes:=ts}) (hx:xd g x=some (eqS (atW b w))) (hy:uJ g [y]=some [zU 6 yy l]) (hl:l≠[])
  (h1:yu qo rd.obs.length) (h2:yu qq rd.que.length) (h3:rd.obs.length≤2000000000) (h4:rd.que.length≤2000000000):OpL Tryz.prog G o g (RH b rd qo qq) (QD b (JC rd w l)):=by
 unfold atW at hx
 by_cases e1:w=YT
 ·rw [if_pos e1] at hx;subst e1;exact zbP hop hx hy (zfS hl h1 h2)
 ·rw [if_neg e1] at hx
  by_cases e2:w=XC
  ·rw [if_pos e2] at hx;subst e2;exact zbP hop hx hy (ziV h1 h2 h3)
  ·rw [if_neg e2] at hx
   by_cases e3:w=XD
   ·rw [if_pos e3] at hx;subst e3;exact zbP hop hx hy (zfT h1 h2 h4)
   ·unfold isW at hw;rw [decide_eq_false e1,decide_eq_false e2,decide_eq_false e3] at hw;cases hw
theorem zqa (b:Nat) (w:List UInt8):atW b w=zld .nilFunc (if w=YT then some ((0:Nat),fB b 254) else if w=XC then some (1,fB b 255) else if w=XD then some (2,fB b 256) else none):=by
 unfold atW
 by_cases e1:w=YT
 ·rw [if_pos e1,if_pos e1];rfl
 ·rw [if_neg e1,if_neg e1]
  by_cases e2:w=XC
  ·rw [if_pos e2,if_pos e2];rfl
  ·rw [if_neg e2,if_neg e2]
   by_cases e3:w=XD
   ·rw [if_pos e3,if_pos e3];rfl
   ·rw [if_neg e3,if_neg e3];rfl
theorem Run.opH {P:Program} {E:Env} {r0:Option Nat} {gd:Nat→Option Nat} {p:Bool} {o:Oper} {ops:List Oper} {K:St→Prop} (pre Hp suf:HL) {n0 d0:Nat} {g:List (Nat×SV)} {h:HL} {d:List Nat} {i:Nat×Bool} {Q:SV→HL→Prop} (hp:p=false) (hH:h=pre++Hp++suf) (ho:OpL P G o g Hp Q) (hg:zH gd g o true) (ht:o.dst=some d0) (hd:Nat.blt d0 n0=true)
  (hr:∀ s H',Q s H'→Run P G E r0 gd p ops ⟨n0,(d0,s)::g,pre++H'++suf,d,i⟩ K):Run P G E r0 gd p (o::ops) ⟨n0,g,h,d,i⟩ K:=by
 refine Run.loc (S:=⟨n0,g,h,d,i⟩) (pre:=pre) (Hp:=Hp) (suf:=suf) hp hH ho hg (by simp only [dstOk,ht];exact hd) fun s H' hq=>?_
 rw [ht];exact hr s H' hq
theorem zlk {rd:Rd} {w:List UInt8} {l:List QP} (h:isW w=false):JC rd w l=none:=by
 unfold isW at h
 simp only [Bool.or_eq_false_iff,decide_eq_false_iff_not] at h
 unfold JC
 rw [if_neg h.1,if_neg h.2.1,if_neg h.2.2]
theorem zac [Tab G] [MaxLen G] {ws:List (List UInt8)} {b:Nat} {k0:Int} {s0 s1 s2:SV} (hws:∀ w∈ws,w.length≤1000000000) (hwl:ws.length≤2000000000):CallSpec Tryz.prog G 257 [eqS (ptB b),zU 1 tC ws] [⟨some b,267,[s0,s1,s2,intS .i64 k0],0⟩] (fun v H'=>∃ k,(ws.all gdW=true→k=cdF k0 ws)∧v=xn [zU 6 yy (if ws.all gdW=true then vL ws else []),zm (ws.all gdW&&okP ws)]∧H'=[⟨some b,267,[s0,s1,s2,intS .i64 k],0⟩]):=by
 refine (zbR (k0:=k0) (s0:=s0) (s1:=s1) (s2:=s2) hws hwl).weak ?_
 rintro s H1 (⟨ha,rfl,rfl⟩ | ⟨ha,k,rfl,rfl⟩)
 ·exact⟨_,_,fun _ _ h=>h,List.Sublist.refl _,_,fun _=>rfl,by rw [ha,if_pos rfl];rfl,rfl⟩
 ·refine⟨xn [zU 6 yy (if ws.all gdW=true then vL ws else []),zm (ws.all gdW&&okP ws)],_,?_,List.Sublist.refl _,k,fun h=>absurd (ha.symm.trans h) (by decide),rfl,rfl⟩
  rw [ha,if_neg (by decide)]
  rintro I v ⟨xs,hv,hd⟩
  refine⟨xs,hv,?_⟩
  obtain⟨x,r1,rfl,hx,hr1⟩:=xW hd
  obtain⟨y,r2,rfl,hy,hr2⟩:=xW hr1
  exact zW (show (zU 6 yy []).den I x by rw [show x= .slice none 0 0 from hx];exact⟨none,0,rfl,Nat.le_refl _,Nat.zero_le _,.inl rfl⟩) (zW hy hr2)
theorem qg [Tab G] [MaxLen G] {s:List UInt8} {b:Nat} {rd:Rd} {qo qq:Option (Nat×Nat)} (hs:s.length≤1000000000) (h1:yu qo rd.obs.length) (h2:yu qq rd.que.length) (h3:rd.obs.length≤2000000000) (h4:rd.que.length≤2000000000):CallSpec Tryz.prog G 206 [eqS (ptB b),xb s] (RH b rd qo qq) (QD b (Yk rd s)):=by
 obtain⟨w,r,hwr⟩:∃ w r,uw 32 s=w::r:=by cases h:uw 32 s with | nil=>exact absurd h (zfd 32 s) | cons w r=>exact⟨w,r,rfl⟩
 have hsp:=zfF (G:=G) (s:=s) hs
 have hmem:∀ x∈uw 32 s,x.length≤1000000000:=fun x hx=>Nat.le_trans (zgR hx) hs
 have hln:=zbI 32 s
 rw [hwr] at hsp hmem hln
 rw [List.length_cons] at hln
 have hmr:∀ x∈r,x.length≤1000000000:=fun x hx=>hmem x (by simp [hx])
 have hF:Yk rd s=if Jn (w::r) then UA rd w r else none:=by unfold Yk;rw [hwr]
 obtain⟨F,hFe⟩:∃ F,F=Jn (w::r):=⟨_,rfl⟩
 rw [←hFe] at hsp hF
 rw [hF]
 clear hF
 refine zs Tryz.func206 ?_;refine zg ?_;refine zf hsp ?_;(iterate 5 refine zz ?_);refine zJ ?_;refine zh ?_;refine zg ?_;refine zd (fun _ k16=>?_) fun _ k16=>?_
 ·obtain rfl:F=false:=by cases F;rfl;exact absurd rfl k16
  have hNo:(if false=true then UA rd w r else none)=none:=rfl
  refine zg ?_;refine zj ?_
  exact⟨_,[],.one (.tmp rfl),List.nil_sublist _,none,none,by rw [hNo];exact⟨trivial,rfl,rfl⟩⟩
 ·obtain rfl:F=true:=by cases F;exact absurd k16 (by decide);rfl
  have hYes:(if true=true then UA rd w r else none)=UA rd w r:=rfl
  refine zE ?_;refine zfM ?_;refine RunV.map rfl rfl rfl rfl fun bm=>?_;refine RunV.one (zG rfl rfl) rfl rfl rfl ?_;refine RunV.one (qb rfl rfl) rfl rfl rfl ?_;refine RunV.ins (w:=YT) rfl Tryz.underlying322 Tryz.underlying9 rfl rfl rfl (by simp [Instr.findNow,Instr.sameNow,Vb]) rfl rfl ?_;refine RunV.one (zG rfl rfl) rfl rfl rfl ?_;refine RunV.one (qb rfl rfl) rfl rfl rfl ?_;refine RunV.ins (w:=XC) rfl Tryz.underlying322 Tryz.underlying9 rfl rfl rfl (by simp [Instr.findNow,Instr.sameNow,Vb]) rfl rfl ?_;refine RunV.one (zG rfl rfl) rfl rfl rfl ?_;refine RunV.one (qb rfl rfl) rfl rfl rfl ?_;refine RunV.ins (w:=XD) rfl Tryz.underlying322 Tryz.underlying9 rfl rfl rfl (by simp [Instr.findNow,Instr.sameNow,Vb]) rfl rfl ?_;(iterate 2 refine RunV.one (zG rfl rfl) rfl rfl rfl ?_);refine RunV.one (zi rfl rfl rfl (by omega) (y:=w) rfl) rfl rfl rfl ?_;refine RunV.one (yN rfl rfl) rfl rfl rfl ?_;refine RunV.look (v:=atW b w) rfl Tryz.underlying322 Tryz.underlying9 rfl rfl znj (zp9 w _ _ _) (zqa b w) rfl rfl rfl ?_;refine zg ?_;refine zo ((xX (lo:=1) (hi:=(w::r).length) (m:=0) rfl rfl (.inr ⟨_,_,rfl,rfl⟩) (.inl ⟨rfl,rfl,rfl⟩) (.inl rfl) (by simp) (Nat.le_refl _)).sub (show ∀I v,(zU 1 tC (((w::r).take (w::r).length).drop 1)).den I v→(zU 1 tC r).den I v from fun I v h=>by rw [List.take_length] at h;exact h)) ?_;refine Run.callH [] [_] [_,_] rfl rfl rfl rfl (zac hmr (by omega)) rfl rfl rfl ?_
  rintro s1 H1 ⟨k,hk,rfl,rfl⟩
  (iterate 5 refine zz ?_);refine zx ?_
  refine Run.oneB (zG rfl rfl) rfl rfl rfl (fun h6_0=>?_) (fun h6_0=>?_)
  ·have hgo:=(Bool.and_eq_true _ _).mp h6_0
   rw [if_pos hgo.1]
   obtain rfl:=hk hgo.1
   have hne:vL r≠[]:=by intro e;have:=hgo.2;unfold okP at this;rw [e] at this;simp at this
   have hLW:UA rd w r=JC ⟨rd.rob,rd.obs,rd.que,cdF rd.code r⟩ w (vL r):=if_pos h6_0
   refine zg ?_;refine zo (zo8 rfl rfl) ?_
   refine Run.oneB (wg rfl rfl rfl) rfl rfl rfl (fun h6_4=>?_) (fun h6_4=>?_)
   ·refine zz ?_;(iterate 2 refine zz ?_);refine Run.opH [] (RH b ⟨rd.rob,rd.obs,rd.que,cdF rd.code r⟩ qo qq) [] rfl rfl (zo9 h6_4 rfl rfl rfl hne h1 h2 h3 h4) (gB rfl rfl rfl rfl) rfl rfl ?_
    rintro s2 H2 ⟨qo2,qq2,ho2,rfl,rfl⟩
    refine zg ?_;refine zj ?_
    exact⟨_,_,.one (.tmp rfl),List.Sublist.refl _,qo2,qq2,by rw [hYes,hLW];exact⟨ho2,rfl,by simp⟩⟩
   ·have hNo:(if true=true then UA rd w r else none)=none:=hYes.trans (hLW.trans (zlk h6_4))
    refine zg ?_;refine zj ?_
    exact⟨_,[],.one (.tmp rfl),List.nil_sublist _,none,none,by rw [hNo];exact⟨trivial,rfl,rfl⟩⟩
  ·have hNo:(if true=true then UA rd w r else none)=none:=hYes.trans (if_neg (by rw [h6_0];decide))
   refine zg ?_;refine zj ?_
   exact⟨_,[],.one (.tmp rfl),List.nil_sublist _,none,none,by rw [hNo];exact⟨trivial,rfl,rfl⟩⟩
end Go.Proofs
namespace Num
open Go Go.Lib
def rd0:Rd:=⟨[],[],[],0⟩
def zot (o:Option Rd) (s:List UInt8):Option Rd:=o.bind fun rd=>Yk rd s
def goF (ls:List (List UInt8)):Option Rd:=ls.foldl zot (some rd0)
def vF (t:List UInt8):(List (Rat×Rat)×List (List (Rat×Rat))×List ((Rat×Rat)×(Rat×Rat)))×Int:=
 if vr t then (match goF (uw 10 (trimSuffix t [10])) with | none=>(([],[],[]),1) | some rd=>if rd.code≠0 then (([],[],[]),rd.code) else ((rd.rob,rd.obs,rd.que),0)) else (([],[],[]),1)
theorem ziW (ls:List (List UInt8)):ls.foldl zot none=none:=by
 induction ls with
 | nil=>rfl
 | cons s r ih=>exact ih
theorem zg0 {ls:List (List UInt8)} {g:Nat} {w:List UInt8} {rd:Rd} (hw:ls[g]? =some w) (h:goF (ls.take g)=some rd):goF (ls.take (g+1))=Yk rd w:=by
 unfold goF at h ⊢
 rw [wo hw,List.foldl_append,h];rfl
theorem zg1 {ls:List (List UInt8)} {g:Nat} (h:goF (ls.take g)=none):goF ls=none:=by
 unfold goF at h ⊢
 rw [←List.take_append_drop g ls,List.foldl_append,h];exact ziW _
theorem zll {rd rd':Rd} {w:List UInt8} {l:List (Rat×Rat)} (h:JC rd w l=some rd'):rd'.obs.length≤rd.obs.length+1∧rd'.que.length≤rd.que.length+1:=by
 unfold JC at h
 split at h
 ·split at h
  ·cases h;exact⟨Nat.le_succ _,Nat.le_succ _⟩
  ·cases h
 ·split at h
  ·split at h
   ·cases h
   ·cases h;exact⟨by simp,Nat.le_succ _⟩
  ·split at h
   ·split at h
    ·split at h
     ·cases h
     ·cases h;exact⟨Nat.le_succ _,by simp⟩
    ·cases h
   ·cases h
theorem qh {rd rd':Rd} {s:List UInt8} (h:Yk rd s=some rd'):rd'.obs.length≤rd.obs.length+1∧rd'.que.length≤rd.que.length+1:=by
 unfold Yk at h
 split at h
 ·split at h
  ·unfold UA at h
   split at h
   ·have h2:=zll h;exact h2
   ·cases h
  ·cases h
 ·cases h
end Num
namespace Go.Proofs
open Go Go.Sv Num
variable {G:Imm}
theorem zpa {l:List QP} (I:Imm) (v:Value) (h:(zbS l).den I v):(zU 6 yy l).den I v:=by
 cases l with
 | nil=>rw [show v= .slice none 0 0 from h];exact⟨none,0,rfl,Nat.le_refl _,Nat.zero_le _,.inl rfl⟩
 | cons _ _=>exact h
theorem VN (I:Imm) (v:Value) (h:(zl [eqS (.slice none 0 0),eqS (.slice none 0 0),eqS (.slice none 0 0)]).den I v):(zl (XV ([],[],[]))).den I v:=by
 obtain⟨xs,hv,hd,h1⟩:=h
 obtain⟨x,y,z,rfl,hx,hy,hz⟩:=uC hd
 have n0:∀ {α:Type} {st:Nat} {f:α→List SV} {v:Value},v= .slice none 0 0→(zU st f []).den I v:=fun e=>by rw [e];exact⟨none,0,rfl,Nat.le_refl _,Nat.zero_le _,.inl rfl⟩
 exact⟨_,hv,zW (n0 hx) (zW (n0 hy) (zW (n0 hz) dens_nil)),h1⟩
theorem zlm {r:List QP} {o:List (List QP)} {q:List (QP×QP)} (I:Imm) (v:Value) (h:(zl [zbS r,zU 1 uo o,zU 12 vX q]).den I v):(zl (XV (r,o,q))).den I v:=by
 obtain⟨xs,hv,hd,h1⟩:=h
 obtain⟨x,y,z,rfl,hx,hy,hz⟩:=uC hd
 exact⟨_,hv,zW (zpa I x hx) (zW hy (zW hz dens_nil)),h1⟩
theorem zbT [Tab G] [MaxLen G] {t:List UInt8} (ht:t.length≤1000000000):zp Tryz.prog G 153 [xb t] (xn [zl (XV (vF t).1),intS .i64 (vF t).2]):=by
 have hls:=zfG (G:=G) (s:=t) ht
 obtain⟨L,hL⟩:∃ L,L=if vr t=true then uw 10 (Lib.trimSuffix t [10]) else []:=⟨_,rfl⟩
 obtain⟨E,hE⟩:∃ E:Int,E=if t=[]∨vr t=true then 0 else 110:=⟨_,rfl⟩
 rw [←hL,←hE] at hls
 have hLl:L.length≤1000000001:=by rw [hL];split;exact Nat.le_trans (zbI _ _) (by have:=zfE t 10;omega);exact Nat.zero_le _
 have hLw:∀ x∈L,x.length≤1000000000:=by rw [hL];split;exact fun x hx=>Nat.le_trans (zgR hx) (by have:=zfE t 10;omega);exact fun x hx=>by cases hx
 have hL0:vr t=false→L=[]:=fun h=>by rw [hL,h];rfl
 have hL1:vr t=true→0<L.length:=fun h=>by rw [hL,if_pos h];exact List.length_pos_iff.2 (zfd _ _)
 have hE1:vr t=true→E=0:=fun h=>by rw [hE,if_pos (.inr h)]
 have hP0:vr t=false→vF t=(([],[],[]),1):=fun h=>by unfold vF;rw [if_neg (by rw [h];decide)]
 have hP1:vr t=true→vF t=(match goF L with | none=>(([],[],[]),1) | some rd=>if rd.code≠0 then (([],[],[]),rd.code) else ((rd.rob,rd.obs,rd.que),0)):=fun h=>by unfold vF;rw [if_pos h,hL,if_pos h]
 refine zs Tryz.func153 ?_;refine zr ?_;refine xg fun b2=>?_;refine zz ?_;refine zJ ?_;refine ut ?_;refine zr ?_;refine zz ?_;refine zf hls ?_;(iterate 5 refine zz ?_);refine zx ?_;refine zz ?_;refine Run.box rfl rfl rfl rfl rfl rfl fun b6=>?_;refine zz ?_;refine zx ?_;refine zz ?_
 refine Run.oneB (zZ rfl rfl rfl rfl) rfl rfl rfl (fun h3_1=>?_) (fun h3_1=>?_)
 ·have k3_1:=beq_iff_eq.1 h3_1
  (iterate 4 refine zz ?_);refine zo ((wg rfl rfl rfl).sub (yx (c:=vr t) (by rw [Bool.eq_iff_iff,decide_eq_true_iff];exact⟨fun h=>by cases hc:vr t with | true=>rfl | false=>rw [hL0 hc] at h;exact absurd h (by decide),fun h=>by have:=hL1 h;omega⟩))) ?_;refine zz ?_;refine zJ ?_;refine zh ?_;refine us ?_;refine zh ?_;refine zP (yL 43 12) ?_;refine zP (yL 22 1) ?_;refine zP (Zd (List.perm_middle (l₁:=[_,_]) (a:=_) (l₂:=[_]))) ?_;refine zr ?_;(iterate 3 refine zz ?_);refine zJ ?_;refine zQ ?_;refine ZA (fun (g:Nat) (rd:Rd) (qo qq:Option (Nat×Nat))=>⟨_,[(26,intS .i64 (g:Nat)),(25,intS .i64 L.length),(24,zU 1 tC L),(7,zm (vr t)),(6,eqS (ptB b6)),(2,eqS (.pointer (some ⟨b2,0,none⟩)))],RH b6 rd qo qq++[⟨some b2,26,[eqS (.slice none 0 0),eqS (.slice none 0 0),eqS (.slice none 0 0)],0⟩],[],(0,false)⟩) (fun g rd qo qq=>g≤L.length∧goF (L.take g)=some rd∧yu qo rd.obs.length∧yu qq rd.que.length∧rd.obs.length≤g∧rd.que.length≤g) (fun g _ _ _=>L.length-g) 0 rd0 none none ⟨Nat.zero_le _,rfl,rfl,rfl,Nat.zero_le _,Nat.zero_le _⟩ (zL zk rfl) ?_
  rintro g rd qo qq ⟨hg,hgo,hq1,hq2,ho1,ho2⟩
  refine zr ?_;refine zz ?_;refine zJ ?_;refine zh ?_;refine wE (fun h27=>?_) fun h27=>?_
  ·have k27:=of_decide_eq_true h27
   obtain⟨w,hw⟩:∃ w,L[g]? =some w:=⟨_,List.getElem?_eq_getElem (by omega)⟩
   have hok:vr t=true:=by cases hc:vr t with | true=>rfl | false=>rw [hL0 hc] at hw;cases hw
   have hwl:=hLw w (List.mem_of_getElem? hw)
   have hgs:=zg0 hw hgo
   refine zE ?_;refine zh ?_;refine zQ ?_;refine zr ?_;refine zo (zi rfl rfl rfl (by omega) (y:=w) (hw)) ?_;(iterate 2 refine zz ?_);refine zx ?_;refine zo ((zG rfl rfl).sub (yx (c:=true) (hok))) ?_;(iterate 3 refine zz ?_);refine Run.callH [] (RH b6 rd qo qq) [_] rfl rfl rfl rfl (qg hwl hq1 hq2 (by omega) (by omega)) (gB rfl rfl rfl rfl) rfl rfl ?_
   rintro s1 H1 ⟨qo2,qq2,hr2,rfl,rfl⟩
   (iterate 2 refine zz ?_);refine zx ?_;(iterate 2 refine zz ?_);refine zJ ?_;refine wE (fun h37=>?_) fun h37=>?_
   ·have hnone:Yk rd w=none:=by cases hc:Yk rd w with | none=>rfl | some _=>rw [hc] at h37;cases h37
    rw [hnone]
    have hP:vF t=(([],[],[]),1):=by rw [hP1 hok,zg1 (hgs.trans hnone)]
    refine zI ?_;refine zh ?_;refine zQ ?_;refine zr ?_;refine zo ((zG rfl rfl).sub (yx (c:=false) (rfl))) ?_;(iterate 2 refine zz ?_);refine zJ ?_;refine xt rfl rfl ?_;refine zr ?_;refine zo ((yW rfl rfl rfl).sub VN) ?_;refine zw ?_;refine zz ?_;refine zJ ?_;refine zj ?_
    exact⟨_,[],.many (.cons (.agg 0 inferInstance rfl rfl rfl rfl) (.cons (.tmp rfl) .nil)),List.nil_sublist _,by rw [hP];rfl,rfl⟩
   ·obtain⟨rd2,hrd⟩:∃ rd2,Yk rd w=some rd2:=by cases hc:Yk rd w with | none=>rw [hc] at h37;cases h37 | some x=>exact⟨x,rfl⟩
    have hln:=qh hrd
    rw [hrd] at hr2 ⊢
    refine zE ?_;refine zO ?_;refine za ((g+1:Nat):Int) ?_;refine zz ?_;refine zJ ?_
    exact⟨g+1,rd2,qo2,qq2,⟨by omega,hgs.trans hrd,hr2.1,hr2.2,by omega,by omega⟩,by omega,zL (zb rfl (zb rfl (zb rfl (xk rfl (by rw [hok];rfl) (zb rfl (zb rfl (trivial))))))) rfl⟩
  ·have k27:=of_decide_eq_false h27
   obtain rfl:g=L.length:=by omega
   rw [List.take_length] at hgo
   refine zI ?_;refine zh ?_;refine zQ ?_;refine zr ?_;(iterate 3 refine zz ?_);refine zJ ?_;refine wE (fun h39=>?_) fun h39=>?_
   ·have hbad:vr t=false:=by simpa using h39
    have hP:=hP0 hbad
    refine zr ?_;refine zo ((yW rfl rfl rfl).sub VN) ?_;refine zw ?_;refine zz ?_;refine zJ ?_;refine zj ?_
    exact⟨_,[],.many (.cons (.agg 3 inferInstance rfl rfl rfl rfl) (.cons (.tmp rfl) .nil)),List.nil_sublist _,by rw [hP];rfl,rfl⟩
   ·have hok:vr t=true:=by simpa using h39
    have hP2:=hP1 hok
    rw [hgo] at hP2
    refine zr ?_;(iterate 6 refine zz ?_);refine zJ ?_;refine wE (fun h43=>?_) fun h43=>?_
    ·have k43:=bne_iff_ne.1 h43
     have hP:=hP2.trans (if_pos k43)
     refine wH 6 [5] _ (by kernel_rfl) (.cons_cons _ (.cons_cons _ (.cons_cons _ (.cons _ .slnil)))) ?_;refine RunE.one ((yW rfl rfl rfl).sub VN) rfl rfl rfl (by kernel_rfl) ?_;refine RunE.lat (zG rfl rfl) rfl rfl rfl ?_;refine RunE.lat (yT rfl rfl) rfl rfl rfl ?_;refine RunE.lat (zN rfl rfl rfl) rfl rfl rfl ?_;refine RunE.lat (yn 0 rfl rfl rfl rfl) rfl rfl rfl ?_
     refine RunE.nil ⟨_,rfl,?_⟩
     refine .loc1n 3 (xI rfl rfl rfl rfl (by first | decide | (simp;done) | (simp;omega))) rfl rfl rfl ?_
     rintro s1 H1 ⟨rfl,rfl⟩
     refine⟨(.cons_cons _ (.cons_cons _ (.cons_cons _ (.cons _ .slnil)))),?_⟩
     refine RunE.nil ?_;refine zz ?_;refine zJ ?_;refine zj ?_
     exact⟨_,[],.many (.cons (.agg 3 inferInstance rfl rfl rfl rfl) (.cons (.tmp rfl) .nil)),List.nil_sublist _,by rw [hP];rfl,rfl⟩
    ·have k43:=bne_eq_false_iff_eq.1 h43
     have hP:=hP2.trans (if_neg (fun h=>h k43))
     refine zE ?_;refine zP (Zd (List.perm_middle (l₁:=[_,_]) (a:=_) (l₂:=[_])).symm) ?_;refine zP (wN [_] [_,_] [] [_] [_] hq1 (l:=rd.obs) (f:=uo) rfl rfl (fun _ _=>rfl) (by unfold yP;omega)) ?_;refine zP (wN [_,_] [_] [] [] [_] hq2 (l:=rd.que) (f:=vX) rfl rfl (fun _ _=>rfl) (by unfold yP;omega)) ?_;refine zr ?_;(iterate 3 refine zz ?_);refine zo ((show OpOK _ _ _ _ _ (zl [zbS rd.rob,zU 1 uo rd.obs,zU 12 vX rd.que]) from zC 0 rfl rfl rfl rfl rfl).sub zlm) ?_;refine zw ?_;refine zz ?_;refine zJ ?_;refine zj ?_
     exact⟨_,[],.many (.cons (.agg 1 inferInstance rfl rfl rfl rfl) (.cons (.tmp rfl) .nil)),List.nil_sublist _,by rw [hP];rfl,rfl⟩
 ·have k3_1:=beq_eq_false_iff_ne.1 h3_1
  refine zz ?_;(iterate 3 refine zq ?_);refine zo ((wg rfl rfl rfl).sub (yx (c:=vr t) (by cases hc:vr t with | false=>rfl | true=>exact absurd (hE1 hc) k3_1))) ?_;refine zz ?_;refine zJ ?_;refine zh ?_;refine us ?_;refine zh ?_;refine zP (yL 43 12) ?_;refine zP (yL 22 1) ?_;refine zP (Zd (List.perm_middle (l₁:=[_,_]) (a:=_) (l₂:=[_]))) ?_;refine zr ?_;(iterate 3 refine zz ?_);refine zJ ?_;refine zQ ?_;refine ZA (fun (g:Nat) (rd:Rd) (qo qq:Option (Nat×Nat))=>⟨_,[(26,intS .i64 (g:Nat)),(25,intS .i64 L.length),(24,zU 1 tC L),(7,zm (vr t)),(6,eqS (ptB b6)),(2,eqS (.pointer (some ⟨b2,0,none⟩)))],RH b6 rd qo qq++[⟨some b2,26,[eqS (.slice none 0 0),eqS (.slice none 0 0),eqS (.slice none 0 0)],0⟩],[],(0,false)⟩) (fun g rd qo qq=>g≤L.length∧goF (L.take g)=some rd∧yu qo rd.obs.length∧yu qq rd.que.length∧rd.obs.length≤g∧rd.que.length≤g) (fun g _ _ _=>L.length-g) 0 rd0 none none ⟨Nat.zero_le _,rfl,rfl,rfl,Nat.zero_le _,Nat.zero_le _⟩ (zL zk rfl) ?_
  rintro g rd qo qq ⟨hg,hgo,hq1,hq2,ho1,ho2⟩
  refine zr ?_;refine zz ?_;refine zJ ?_;refine zh ?_;refine wE (fun h27=>?_) fun h27=>?_
  ·have k27:=of_decide_eq_true h27
   obtain⟨w,hw⟩:∃ w,L[g]? =some w:=⟨_,List.getElem?_eq_getElem (by omega)⟩
   have hok:vr t=true:=by cases hc:vr t with | true=>rfl | false=>rw [hL0 hc] at hw;cases hw
   have hwl:=hLw w (List.mem_of_getElem? hw)
   have hgs:=zg0 hw hgo
   refine zE ?_;refine zh ?_;refine zQ ?_;refine zr ?_;refine zo (zi rfl rfl rfl (by omega) (y:=w) (hw)) ?_;(iterate 2 refine zz ?_);refine zx ?_;refine zo ((zG rfl rfl).sub (yx (c:=true) (hok))) ?_;(iterate 3 refine zz ?_);refine Run.callH [] (RH b6 rd qo qq) [_] rfl rfl rfl rfl (qg hwl hq1 hq2 (by omega) (by omega)) (gB rfl rfl rfl rfl) rfl rfl ?_
   rintro s1 H1 ⟨qo2,qq2,hr2,rfl,rfl⟩
   (iterate 2 refine zz ?_);refine zx ?_;(iterate 2 refine zz ?_);refine zJ ?_;refine wE (fun h37=>?_) fun h37=>?_
   ·have hnone:Yk rd w=none:=by cases hc:Yk rd w with | none=>rfl | some _=>rw [hc] at h37;cases h37
    rw [hnone]
    have hP:vF t=(([],[],[]),1):=by rw [hP1 hok,zg1 (hgs.trans hnone)]
    refine zI ?_;refine zh ?_;refine zQ ?_;refine zr ?_;refine zo ((zG rfl rfl).sub (yx (c:=false) (rfl))) ?_;(iterate 2 refine zz ?_);refine zJ ?_;refine xt rfl rfl ?_;refine zr ?_;refine zo ((yW rfl rfl rfl).sub VN) ?_;refine zw ?_;refine zz ?_;refine zJ ?_;refine zj ?_
    exact⟨_,[],.many (.cons (.agg 0 inferInstance rfl rfl rfl rfl) (.cons (.tmp rfl) .nil)),List.nil_sublist _,by rw [hP];rfl,rfl⟩
   ·obtain⟨rd2,hrd⟩:∃ rd2,Yk rd w=some rd2:=by cases hc:Yk rd w with | none=>rw [hc] at h37;cases h37 | some x=>exact⟨x,rfl⟩
    have hln:=qh hrd
    rw [hrd] at hr2 ⊢
    refine zE ?_;refine zO ?_;refine za ((g+1:Nat):Int) ?_;refine zz ?_;refine zJ ?_
    exact⟨g+1,rd2,qo2,qq2,⟨by omega,hgs.trans hrd,hr2.1,hr2.2,by omega,by omega⟩,by omega,zL (zb rfl (zb rfl (zb rfl (xk rfl (by rw [hok];rfl) (zb rfl (zb rfl (trivial))))))) rfl⟩
  ·have k27:=of_decide_eq_false h27
   obtain rfl:g=L.length:=by omega
   rw [List.take_length] at hgo
   refine zI ?_;refine zh ?_;refine zQ ?_;refine zr ?_;(iterate 3 refine zz ?_);refine zJ ?_;refine wE (fun h39=>?_) fun h39=>?_
   ·have hbad:vr t=false:=by simpa using h39
    have hP:=hP0 hbad
    refine zr ?_;refine zo ((yW rfl rfl rfl).sub VN) ?_;refine zw ?_;refine zz ?_;refine zJ ?_;refine zj ?_
    exact⟨_,[],.many (.cons (.agg 3 inferInstance rfl rfl rfl rfl) (.cons (.tmp rfl) .nil)),List.nil_sublist _,by rw [hP];rfl,rfl⟩
   ·have hok:vr t=true:=by simpa using h39
    have hP2:=hP1 hok
    rw [hgo] at hP2
    refine zr ?_;(iterate 6 refine zz ?_);refine zJ ?_;refine wE (fun h43=>?_) fun h43=>?_
    ·have k43:=bne_iff_ne.1 h43
     have hP:=hP2.trans (if_pos k43)
     refine wH 6 [5] _ (by kernel_rfl) (.cons_cons _ (.cons_cons _ (.cons_cons _ (.cons _ .slnil)))) ?_;refine RunE.one ((yW rfl rfl rfl).sub VN) rfl rfl rfl (by kernel_rfl) ?_;refine RunE.lat (zG rfl rfl) rfl rfl rfl ?_;refine RunE.lat (yT rfl rfl) rfl rfl rfl ?_;refine RunE.lat (zN rfl rfl rfl) rfl rfl rfl ?_;refine RunE.lat (yn 0 rfl rfl rfl rfl) rfl rfl rfl ?_
     refine RunE.nil ⟨_,rfl,?_⟩
     refine .loc1n 3 (xI rfl rfl rfl rfl (by first | decide | (simp;done) | (simp;omega))) rfl rfl rfl ?_
     rintro s1 H1 ⟨rfl,rfl⟩
     refine⟨(.cons_cons _ (.cons_cons _ (.cons_cons _ (.cons _ .slnil)))),?_⟩
     refine RunE.nil ?_;refine zz ?_;refine zJ ?_;refine zj ?_
     exact⟨_,[],.many (.cons (.agg 3 inferInstance rfl rfl rfl rfl) (.cons (.tmp rfl) .nil)),List.nil_sublist _,by rw [hP];rfl,rfl⟩
    ·have k43:=bne_eq_false_iff_eq.1 h43
     have hP:=hP2.trans (if_neg (fun h=>h k43))
     refine zE ?_;refine zP (Zd (List.perm_middle (l₁:=[_,_]) (a:=_) (l₂:=[_])).symm) ?_;refine zP (wN [_] [_,_] [] [_] [_] hq1 (l:=rd.obs) (f:=uo) rfl rfl (fun _ _=>rfl) (by unfold yP;omega)) ?_;refine zP (wN [_,_] [_] [] [] [_] hq2 (l:=rd.que) (f:=vX) rfl rfl (fun _ _=>rfl) (by unfold yP;omega)) ?_;refine zr ?_;(iterate 3 refine zz ?_);refine zo ((show OpOK _ _ _ _ _ (zl [zbS rd.rob,zU 1 uo rd.obs,zU 12 vX rd.que]) from zC 0 rfl rfl rfl rfl rfl).sub zlm) ?_;refine zw ?_;refine zz ?_;refine zJ ?_;refine zj ?_
     exact⟨_,[],.many (.cons (.agg 1 inferInstance rfl rfl rfl rfl) (.cons (.tmp rfl) .nil)),List.nil_sublist _,by rw [hP];rfl,rfl⟩
end Go.Proofs
namespace Go.Proofs
open Go Go.Sv Num
variable {G:Imm}
def zqb (l:List RP):Prop:=20<l.length∨∃ p∈l,6<psz p
def zrd (q:RP×RP):Prop:=6<psz q.1∨6<psz q.2
def zre (s:Sc):Prop:=zqb s.1∨20<s.2.1.length∨(∃l∈s.2.1,zqb l)∨20<s.2.2.length∨∃ q∈s.2.2,zrd q
noncomputable instance gr12_dec {s:Sc}:Decidable (zre s):=Classical.propDecidable _
end Go.Proofs
namespace Go.Proofs
open Go Go.Sv Num
variable {G:Imm}
def XE (l:List QP):List RP:=l.map Qq
def zln (q:QP×QP):RP×RP:=(Qq q.1,Qq q.2)
def UB (s:QS):Sc:=(XE s.1,s.2.1.map XE,s.2.2.map zln)
theorem YX {α:Type} {f:α→α} (h:∀ x,f x=x) (l:List α):l.map f=l:=(List.map_congr_left fun x _=>h x).trans (List.map_id _)
theorem zbU (s:QS):Yj (UB s)=s:=by
 unfold Yj UB
 refine Prod.ext (JB _) (Prod.ext ?_ ?_)
 ·show (s.2.1.map XE).map Uy=s.2.1
  rw [List.map_map];exact YX (fun l=>JB l) _
 ·show (s.2.2.map zln).map pv2=s.2.2
  rw [List.map_map];exact YX (fun q=>by show (pv (Qq q.1),pv (Qq q.2))=q;rw [zbQ,zbQ]) _
theorem zg2 {s:QS} (I:Imm) (v:Value) (h:(zl (XV s)).den I v):(zl (Yn (UB s))).den I v:=by
 obtain⟨xs,hv,hd,h1⟩:=h
 obtain⟨x,y,z,rfl,hx,hy,hz⟩:=uC hd
 refine⟨_,hv,zW (JA Qq (fun _=>rfl) hx) (zW (zgT XE (fun l _ i r hr=>?_) hy) (zW (JA zln (fun _=>rfl) hz) dens_nil)),h1⟩
 cases i with
 | zero=>cases hr;exact⟨_,rfl,fun v h=>JA Qq (fun _=>rfl) h⟩
 | succ i=>cases hr
def uN (s:QS):List QP:=s.1++(s.2.1.flatten++s.2.2.flatMap fun q=>[q.1,q.2])
theorem qi (s:Sc):Je s=s.1++(s.2.1.flatten++s.2.2.flatMap fun q=>[q.1,q.2]):=by
 unfold Je scL
 rw [List.flatMap_cons,List.flatMap_append,List.flatMap_map,List.flatMap_map]
 show s.1++(s.2.1.flatMap id++_)=_
 rw [List.flatMap_id]
theorem zlo (l:List (List QP)):(l.map XE).flatten=XE l.flatten:=by
 induction l with
 | nil=>rfl
 | cons x l ih=>rw [List.map_cons,List.flatten_cons,ih,List.flatten_cons];unfold XE;rw [List.map_append]
theorem ziX (l:List (QP×QP)):((l.map zln).flatMap fun q=>[q.1,q.2])=XE (l.flatMap fun q=>[q.1,q.2]):=by
 induction l with
 | nil=>rfl
 | cons x l ih=>rw [List.map_cons,List.flatMap_cons,ih,List.flatMap_cons];unfold XE;rw [List.map_append];rfl
theorem zaS (s:QS):Je (UB s)=XE (uN s):=by
 rw [qi]
 unfold UB uN
 rw [zlo,ziX];unfold XE;rw [List.map_append,List.map_append]
theorem qj {s:QS} {k n:Nat} (hk:0<k) (hp:∀ p∈uN s,Bq p.1 k∧Bq p.2 k) (hl:(uN s).length≤n) (hr:s.2.1.length+s.2.2.length+1≤n):ScOk (UB s) k n:=by
 refine⟨hk,fun x hx p hpx=>?_,by rw [zaS];unfold XE;rwa [List.length_map],by rw [ZI];unfold UB;simpa using hr⟩
 have:p∈Je (UB s):=List.mem_flatMap.2 ⟨x,hx,hpx⟩
 rw [zaS] at this
 obtain⟨q,hq,rfl⟩:=List.mem_map.1 this
 exact zlj (hp q hq)
instance dqs:DecidableEq (List (Rat×Rat)×List (List (Rat×Rat))×List ((Rat×Rat)×(Rat×Rat))):=instDecidableEqProd
abbrev S0:QS:=([(0,0),(1,0),(0,1)],[],[])
end Go.Proofs
namespace Go.Proofs
open Go Go.Sv Num
variable {G:Imm}
abbrev qk (p:RP):Prop:=(xU p.1.2.1∧xU p.1.2.2)∧xU p.2.2.1∧xU p.2.2.2
structure ScLim (s:Sc):Prop where
 rob:∀ p∈s.1,qk p
 obs:∀ l∈s.2.1,∀p∈l,qk p
 que:∀ q∈s.2.2,qk q.1∧qk q.2
theorem zpb (l:List (List RP)) (h:∀ x∈l,x.length≤20):l.flatten.length≤20*l.length:=by
  induction l with
  | nil=>simp
  | cons x l ih=>
    have h1:=h x (by simp)
    have h2:=ih fun y hy=>h y (by simp [hy])
    rw [List.flatten_cons,List.length_append,List.length_cons];omega
theorem znk (l:List (RP×RP)):(l.flatMap fun q=>[q.1,q.2]).length=2*l.length:=by
 induction l with
 | nil=>rfl
 | cons x l ih=>rw [List.flatMap_cons,List.length_append,ih,List.length_cons];simp;omega
theorem UC {α:Type} {st:Nat} {f:α→List SV} {I:Imm} {v:Value} (h:(eqS (.slice none 0 0)).den I v):(zU st f []).den I v:=by
 rw [show v= .slice none 0 0 from h];exact⟨none,0,rfl,Nat.le_refl _,Nat.zero_le _,.inl rfl⟩
theorem zpc {l:List RP} (I:Imm) (v:Value) (h:(zl [zU 6 pc l,eqS (.slice none 0 0),eqS (.slice none 0 0)]).den I v):(zl (Yn (l,[],[]))).den I v:=by
 obtain⟨xs,hv,hd,h1⟩:=h
 obtain⟨x,y,z,rfl,hx,hy,hz⟩:=uC hd
 exact⟨_,hv,zW hx (zW (UC hy) (zW (UC hz) dens_nil)),h1⟩
def obP (l:List (List RP)):List QP:=(l.map Uy).flatten
def quP (l:List (RP×RP)):List QP:=l.flatMap fun q=>[pv q.1,pv q.2]
theorem zpd (s:Sc):(Je s).map pv=Uy s.1++obP s.2.1++quP s.2.2:=by
 rw [qi,List.map_append,List.map_append,List.append_assoc]
 unfold obP quP
 congr 1
 congr 1
 ·rw [List.map_flatten];rfl
 ·rw [List.map_flatMap];rfl
end Go.Proofs
namespace Go.Proofs
open Go Go.Sv Num Go.RowKit Go.ChangeShapes Go.WideShapes
section
variable {H:Type} {enc:TypeId×Value→H} {W:World} {base:Nat} {spare:Nat→Bool} {held:Bool}
theorem Tryz.open_rat {n:Nat} {cs:List Value} {x:DataW H×List MemPlace} (h:DataW.trod enc Tryz.prog W base spare held n 39 cs=some x) (hw:vi Tryz.prog 39 x.1):∃ y:Bool×List Nat×List Nat,(xU y.2.1∧xU y.2.2)∧dens (wz W) (qc y) cs∧xF cs:=by
 obtain⟨c0,c1,y0,y1,n,rfl,h0,w0,h1,w1⟩:=Uo Tryz.underlying39 rfl (by kernel_rfl) (by kernel_rfl) h hw
 obtain⟨z,hz,hd,ho⟩:=Tryz.open_int h0 w0
 obtain⟨v,l,rfl,hl,hv⟩:=Tryz.open_nat h1 w1
 refine⟨(z.1,z.2,l),⟨hz,hl⟩,hd.append (zW hv dens_nil),fun x hx=>?_⟩
 rcases List.mem_append.1 hx with hx | hx
 ·exact ho x hx
 ·rw [List.mem_singleton.1 hx]
  exact Xd _ _ hv
theorem Tryz.open_pt {n:Nat} {cs:List Value} {x:DataW H×List MemPlace} (h:DataW.trod enc Tryz.prog W base spare held n 41 cs=some x) (hw:vi Tryz.prog 41 x.1):∃ p:(Bool×List Nat×List Nat)×(Bool×List Nat×List Nat),((xU p.1.2.1∧xU p.1.2.2)∧xU p.2.2.1∧xU p.2.2.2)∧dens (wz W) (pc p) cs∧xF cs:=by
 obtain⟨c0,c1,y0,y1,n,rfl,h0,w0,h1,w1⟩:=Uo Tryz.underlying41 rfl (by kernel_rfl) (by kernel_rfl) h hw
 obtain⟨y,hy,hd,ho⟩:=Tryz.open_rat h0 w0
 obtain⟨z,hz,hd',ho'⟩:=Tryz.open_rat h1 w1
 refine⟨(y,z),⟨hy,hz⟩,hd.append hd',fun x hx=>?_⟩
 rcases List.mem_append.1 hx with hx | hx
 ·exact ho x hx
 ·exact ho' x hx
theorem Tryz.open_pts {n:Nat} {cs:List Value} {x:DataW H×List MemPlace} (h:DataW.trod enc Tryz.prog W base spare held n 22 cs=some x) (hw:vi Tryz.prog 22 x.1):∃ v l,cs=[v]∧(∀p∈l,(xU p.1.2.1∧xU p.1.2.2)∧xU p.2.2.1∧xU p.2.2.2)∧(zU 6 pc l).den (wz W) v:=
 WV Tryz.underlying22 (by kernel_rfl) (by omega) (of_decide_eq_true (by kernel_rfl)) (fun _=>rfl) (fun _ _ _ h w=>Tryz.open_pt h w) h hw
end
end Go.Proofs
namespace Go.Sv
open Go Go.RowKit Go.ChangeShapes Go.WideShapes Go.Deep
section
variable {H:Type} {enc:TypeId×Value→H} {P:Program} {W:World} {base:Nat} {spare:Nat→Bool} {held:Bool}
theorem zbV {t:TypeId} {f0 f1 f2:Field} {fuel:Nat} {cs:List Value} {x:DataW H×List MemPlace} (ht:P.underlying t=some (.struct #[f0,f1,f2])) (h:DataW.trod enc P W base spare held fuel t cs=some x):
    ∃y0 y1 y2 n,x=(.agg [y0.1,y1.1,y2.1],y0.2++(y1.2++y2.2))∧cs.length=P.cellsOf t∧DataW.trod enc P W base spare held n f0.type ((cs.drop f0.offset).take (P.cellsOf f0.type))=some y0 ∧
      DataW.trod enc P W base spare held n f1.type ((cs.drop f1.offset).take (P.cellsOf f1.type))=some y1∧DataW.trod enc P W base spare held n f2.type ((cs.drop f2.offset).take (P.cellsOf f2.type))=some y2:=by
  obtain⟨xs,n,_,rfl,hl,hlen,hf⟩:=DataW.trod_struct ht h
  match xs,hlen with
  | [y0,y1,y2],_=>exact⟨y0,y1,y2,n,by simp,hl,by simpa using hf 0 f0 rfl,by simpa using hf 1 f1 rfl,by simpa using hf 2 f2 rfl⟩
theorem zfU {t:TypeId} {f0 f1 f2:Field} {fuel:Nat} {cs:List Value} {x:DataW H×List MemPlace} (ht:P.underlying t=some (.struct #[f0,f1,f2])) (h0:f0.offset=0) (h1:f1.offset=P.cellsOf f0.type) (h2:f2.offset=P.cellsOf f0.type+P.cellsOf f1.type) (hc:P.cellsOf t=P.cellsOf f0.type+P.cellsOf f1.type+P.cellsOf f2.type)
  (h:DataW.trod enc P W base spare held fuel t cs=some x) (hw:vi P t x.1):∃ c0 c1 c2 y0 y1 y2 n,cs=c0++(c1++c2)∧DataW.trod enc P W base spare held n f0.type c0=some y0∧vi P f0.type y0.1∧DataW.trod enc P W base spare held n f1.type c1=some y1∧vi P f1.type y1.1∧DataW.trod enc P W base spare held n f2.type c2=some y2∧vi P f2.type y2.1:=by
 obtain⟨y0,y1,y2,n,rfl,hl,k0,k1,k2⟩:=zbV ht h
 simp only [vi,DataW.weights,ht,DataW.weightsEach,List.map_cons,List.map_nil,List.append_nil,List.all_append,Bool.and_eq_true] at hw
 refine⟨_,_,_,y0,y1,y2,n,?_,k0,hw.1,k1,hw.2.1,k2,hw.2.2⟩
 rw [h0,h1,h2,List.drop_zero,List.take_of_length_le (l:=cs.drop (P.cellsOf f0.type+P.cellsOf f1.type)) (by rw [List.length_drop];omega),←List.drop_drop,List.take_append_drop,List.take_append_drop]
end
end Go.Sv
namespace Go.Proofs
open Go Go.Sv Num Go.RowKit Go.ChangeShapes Go.WideShapes
section
variable {H:Type} {enc:TypeId×Value→H} {W:World} {base:Nat} {spare:Nat→Bool} {held:Bool}
theorem Tryz.open_rowEl {n:Nat} {cs:List Value} {x:DataW H×List MemPlace} (h:DataW.trod enc Tryz.prog W base spare held n 22 cs=some x) (hw:vi Tryz.prog 22 x.1):∃ l:List RP,(∀p∈l,qk p)∧dens (wz W) (XU l) cs∧xF cs:=by
 obtain⟨v,l,rfl,hl,hv⟩:=Tryz.open_pts h hw
 exact⟨l,hl,zW hv dens_nil,fun x hx=>by rw [List.mem_singleton.1 hx];exact Xd _ _ hv⟩
theorem Tryz.open_prows {n:Nat} {cs:List Value} {x:DataW H×List MemPlace} (h:DataW.trod enc Tryz.prog W base spare held n 23 cs=some x) (hw:vi Tryz.prog 23 x.1):∃ v l,cs=[v]∧(∀r∈l,∀p∈r,qk p)∧(zU 1 XU l).den (wz W) v:=
 WV Tryz.underlying23 (by kernel_rfl) (by omega) (of_decide_eq_true (by kernel_rfl)) (fun _=>rfl) (fun _ _ _ h w=>Tryz.open_rowEl h w) h hw
theorem Tryz.open_que {n:Nat} {cs:List Value} {x:DataW H×List MemPlace} (h:DataW.trod enc Tryz.prog W base spare held n 43 cs=some x) (hw:vi Tryz.prog 43 x.1):∃ q:RP×RP,(qk q.1∧qk q.2)∧dens (wz W) (Jo q) cs∧xF cs:=by
 obtain⟨c0,c1,y0,y1,n,rfl,h0,w0,h1,w1⟩:=Uo Tryz.underlying43 rfl (by kernel_rfl) (by kernel_rfl) h hw
 obtain⟨y,hy,hd,ho⟩:=Tryz.open_pt h0 w0
 obtain⟨z,hz,hd',ho'⟩:=Tryz.open_pt h1 w1
 refine⟨(y,z),⟨hy,hz⟩,hd.append hd',fun x hx=>?_⟩
 rcases List.mem_append.1 hx with hx | hx
 ·exact ho x hx
 ·exact ho' x hx
theorem Tryz.open_ques {n:Nat} {cs:List Value} {x:DataW H×List MemPlace} (h:DataW.trod enc Tryz.prog W base spare held n 24 cs=some x) (hw:vi Tryz.prog 24 x.1):∃ v l,cs=[v]∧(∀q∈l,qk q.1∧qk q.2)∧(zU 12 Jo l).den (wz W) v:=
 WV Tryz.underlying24 (by kernel_rfl) (by omega) (of_decide_eq_true (by kernel_rfl)) (fun _=>rfl) (fun _ _ _ h w=>Tryz.open_que h w) h hw
theorem Tryz.open_scene {n:Nat} {cs:List Value} {x:DataW H×List MemPlace} (h:DataW.trod enc Tryz.prog W base spare held n 26 cs=some x) (hw:vi Tryz.prog 26 x.1):∃ s:Sc,ScLim s∧dens (wz W) (Yn s) cs∧xF cs:=by
 obtain⟨c0,c1,c2,y0,y1,y2,n,rfl,h0,w0,h1,w1,h2,w2⟩:=zfU Tryz.underlying26 rfl (by kernel_rfl) (by kernel_rfl) (by kernel_rfl) h hw
 obtain⟨v0,r,rfl,hr,d0⟩:=Tryz.open_pts h0 w0
 obtain⟨v1,o,rfl,ho,d1⟩:=Tryz.open_prows h1 w1
 obtain⟨v2,q,rfl,hq,d2⟩:=Tryz.open_ques h2 w2
 refine⟨(r,o,q),⟨hr,ho,hq⟩,zW d0 (zW d1 (zW d2 dens_nil)),fun x hx=>?_⟩
 rcases List.mem_cons.1 hx with rfl | hx
 ·exact Xd _ _ d0
 ·rcases List.mem_cons.1 hx with rfl | hx
  ·exact Xd _ _ d1
  ·rw [List.mem_singleton.1 hx];exact Xd _ _ d2
end
end Go.Proofs
namespace Num
open Go Go.Proofs
abbrev V2:=Rat×Rat
abbrev cr (a b p:V2):Rat:=Uv a.1 a.2 b.1 b.2 p.1 p.2
def vM (p q:V2):Int:=qZ p.1 p.2 q.1 q.2
def le2 (p q:V2):Prop:=p.1<q.1∨(p.1=q.1∧p.2≤q.2)
def onS (a b p:V2):Prop:=cr a b p=0∧btw a.1 b.1 p.1∧btw a.2 b.2 p.2
theorem zg3 {p q:Rat}:0<ue p q↔q<p:=by unfold ue;split <;> (try split) <;> constructor <;> intro h <;> first | grind | (exfalso;grind)
theorem zbW {p q:Rat}:ue p q<0↔p<q:=by unfold ue;split <;> (try split) <;> constructor <;> intro h <;> first | grind | (exfalso;grind)
theorem JD {p q:V2}:vM p q≤0↔le2 p q:=by
 unfold vM qZ le2
 by_cases h:ue p.1 q.1=0
 ·rw [if_pos h]
  have e:=Ww.1 h
  have h2:=zg3 (p:=p.2) (q:=q.2)
  constructor
  ·intro h1;exact .inr ⟨e,by grind⟩
  ·rintro (h1 | h1)
   ·grind
   ·grind
 ·rw [if_neg h]
  have e:¬ p.1=q.1:=fun e=>h (Ww.2 e)
  have h2:=zbW (p:=p.1) (q:=q.1)
  have h3:=zg3 (p:=p.1) (q:=q.1)
  constructor
  ·intro h1;exact .inl (by grind)
  ·rintro (h1 | h1)
   ·grind
   ·exact absurd h1.1 e
theorem cmp2_pos {p q:V2}:0<vM p q↔¬ le2 p q:=by rw [←JD];omega
theorem le2_total (p q:V2):le2 p q∨le2 q p:=by unfold le2;grind
theorem YY (p:V2):le2 p p:=by unfold le2;grind
theorem ZQ {p q r:V2} (h1:le2 p q) (h2:le2 q r):le2 p r:=by unfold le2 at *;grind
theorem uq {p q:V2} (h1:le2 p q) (h2:le2 q p):p=q:=by unfold le2 at *;exact Prod.ext (by grind) (by grind)
theorem Vc {p q:V2}:vM p q=0↔p=q:=by
 have:=Qn (x:=p.1) (y:=p.2) (u:=q.1) (v:=q.2)
 unfold vM
 constructor
 ·intro h
  rw [h] at this
  have:=of_decide_eq_true this.symm
  exact Prod.ext this.1 this.2
 ·rintro rfl
  rw [decide_eq_true ⟨rfl,rfl⟩] at this
  exact beq_iff_eq.1 this
theorem qm {p q:V2}:vM p q<0↔¬ le2 q p:=by
 have h1:=JD (p:=p) (q:=q)
 have h2:=Vc (p:=p) (q:=q)
 constructor
 ·intro h hq
  have:=uq (h1.1 (by omega)) hq
  exact absurd (h2.2 this) (by omega)
 ·intro h
  have h3:=(le2_total p q).resolve_right h
  have h4:=h1.2 h3
  have h5:vM p q≠0:=fun e=>h (by rw [h2.1 e];exact YY _)
  omega
theorem zbX {a b p:V2}:onS b a p↔onS a b p:=zk6 ..
theorem zqc {w z u v:Rat} (hw:0<w) (hz:0≤z) (hz2:z≤w) (h:w*v=u*z):btw 0 u v:=by
 by_cases hu:0≤u
 ·left
  have g1:=Rat.mul_nonneg hu hz
  have g2:=Rat.mul_nonneg hu (show 0≤w-z by grind)
  constructor
  ·refine Rat.not_lt.1 fun hv=>?_
   have:=Rat.mul_pos hw (show 0< -v by grind)
   grind
  ·refine Rat.not_lt.1 fun hv=>?_
   have:=Rat.mul_pos hw (show 0<v-u by grind)
   grind
 ·right
  have g1:=Rat.mul_nonneg (show 0≤ -u by grind) hz
  have g2:=Rat.mul_nonneg (show 0≤ -u by grind) (show 0≤w-z by grind)
  constructor
  ·refine Rat.not_lt.1 fun hv=>?_
   have:=Rat.mul_pos hw (show 0<u-v by grind)
   grind
  ·refine Rat.not_lt.1 fun hv=>?_
   have:=Rat.mul_pos hw (show 0<v by grind)
   grind
theorem mz {d x:Rat} (h:d*x=0) (hd:d≠0):x=0:=(Rat.mul_eq_zero.1 h).resolve_left hd
theorem vY {a b p:V2} (h:le2 a b):onS a b p↔cr a b p=0∧le2 a p∧le2 p b:=by
 obtain⟨a1,a2⟩:=a;obtain⟨b1,b2⟩:=b;obtain⟨p1,p2⟩:=p
 unfold onS le2 at *
 simp only at *
 constructor
 ·rintro⟨hc,hx,hy⟩
  refine⟨hc,?_⟩
  unfold cr Uv at hc
  rcases h with h | ⟨h,h'⟩
  ·have h1:a1≤p1∧p1≤b1:=by grind
   constructor
   ·by_cases e:a1=p1
    ·right
     refine⟨e,?_⟩
     have:(b1-a1)*(p2-a2)=0:=by grind
     have:=mz this (by grind)
     grind
    ·left;grind
   ·by_cases e:p1=b1
    ·right
     refine⟨e,?_⟩
     have:(b1-a1)*(p2-b2)=0:=by grind
     have:=mz this (by grind)
     grind
    ·left;grind
  ·constructor <;> right <;> grind
 ·rintro⟨hc,h1,h2⟩
  refine⟨hc,?_⟩
  unfold cr Uv at hc
  rcases h with h | ⟨h,h'⟩
  ·have hx:a1≤p1∧p1≤b1:=by grind
   refine⟨.inl hx,?_⟩
   have:=zqc (w:=b1-a1) (z:=p1-a1) (u:=b2-a2) (v:=p2-a2) (by grind) (by grind) (by grind) (by grind)
   unfold btw at this ⊢
   grind
  ·constructor <;> left <;> grind
theorem ne2 {p q:V2} (h:p≠q):q.1-p.1≠0∨q.2-p.2≠0:=by
 by_cases h1:q.1-p.1=0
 ·right;intro h2;exact h (Prod.ext (by grind) (by grind))
 ·exact .inl h1
theorem col {a b p q x:V2} (hab:a≠b) (hp:cr a b p=0) (hq:cr a b q=0) (hx:cr a b x=0):cr p q x=0:=by
 unfold cr Uv at hp hq hx
 rcases ne2 hab with h | h <;> refine mz ?_ h <;> unfold cr Uv <;> grind
theorem JE {c d p q x:V2} (hpq:p≠q) (hp:cr c d p=0) (hq:cr c d q=0) (hx:cr p q x=0):cr c d x=0:=by
 unfold cr Uv at hp hq hx
 rcases ne2 hpq with h | h <;> refine mz ?_ h <;> unfold cr Uv <;> grind
def den (a b c d:V2):Rat:=(b.1-a.1)*(d.2-c.2)-(b.2-a.2)*(d.1-c.1)
theorem zbY {a b c d p x:V2} (hab:a≠b) (hp:cr a b p=0) (hq:cr c d p=0) (hd:den a b c d=0) (hx:cr a b x=0):cr c d x=0:=by
 unfold cr Uv at hp hq hx
 unfold den at hd
 rcases ne2 hab with h | h <;> refine mz ?_ h <;> unfold cr Uv <;> grind
theorem zlp (a b c d:V2):den c d a b= -den a b c d:=by unfold den;grind
theorem zaT {a b c d p q:V2} (hd:den a b c d≠0) (hp:cr a b p=0) (hp2:cr c d p=0) (hq:cr a b q=0) (hq2:cr c d q=0):p=q:=by
 unfold cr Uv at hp hp2 hq hq2
 have h1:den a b c d*(p.1-q.1)=0:=by unfold den;grind
 have h2:den a b c d*(p.2-q.2)=0:=by unfold den;grind
 exact Prod.ext (by have:=mz h1 hd;grind) (by have:=mz h2 hd;grind)
def lnR (a b c d:V2):Rat:=((c.1-a.1)*(d.2-c.2)-(c.2-a.2)*(d.1-c.1))/den a b c d
def Jq (a b c d:V2):V2:=(a.1+(b.1-a.1)*lnR a b c d,a.2+(b.2-a.2)*lnR a b c d)
theorem zlq {a b c d:V2} (hd:den a b c d≠0):cr a b (Jq a b c d)=0∧cr c d (Jq a b c d)=0:=by
 refine⟨zfH ..,?_⟩
 have ht:lnR a b c d*den a b c d=(c.1-a.1)*(d.2-c.2)-(c.2-a.2)*(d.1-c.1):=Rat.div_mul_cancel hd
 unfold Jq cr Uv
 simp only
 unfold den at ht
 grind
abbrev Sg:=V2×V2
def Jr (s:Sg) (p:V2):Bool:=decide (vM s.1 p≤0)&&decide (vM p s.2≤0)
def Ze (s:Sg) (p:V2):Bool:=Jr s p&&decide (ue (cr s.1 s.2 p) 0=0)
def xZ (a b:V2):Sg:=if 0<vM a b then (b,a) else (a,b)
def VO (s t:Sg):V2:=if 0<vM t.1 s.1 then t.1 else s.1
def VP (s t:Sg):V2:=if vM t.2 s.2<0 then t.2 else s.2
def qn:Int×V2×V2:=(0,(0,0),(0,0))
def mtF (s t:Sg):Int×V2×V2:=
 if 0<vM (VO s t) (VP s t) then qn
 else if Ze s (VO s t)&&Ze t (VO s t)&&Ze s (VP s t)&&Ze t (VP s t) then ((if vM (VO s t) (VP s t)=0 then 1 else 2),VO s t,VP s t)
 else if den s.1 s.2 t.1 t.2=0 then qn
 else if Jr s (Jq s.1 s.2 t.1 t.2)&&Jr t (Jq s.1 s.2 t.1 t.2) then (1,Jq s.1 s.2 t.1 t.2,Jq s.1 s.2 t.1 t.2) else qn
def SK (I:V2→Prop) (k:Int):Prop:=(k=0∧∀ p,¬I p)∨(k=1∧∃ p,I p∧∀ q,I q→q=p)∨(k=2∧∃ p q,I p∧I q∧p≠q)
theorem SK.uniq {I:V2→Prop} {k j:Int} (h:SK I k) (g:SK I j):k=j:=by
 rcases h with ⟨rfl,h⟩ | ⟨rfl,p,h1,h2⟩ | ⟨rfl,p,q,h1,h2,h3⟩ <;> rcases g with ⟨rfl,g⟩ | ⟨rfl,u,g1,g2⟩ | ⟨rfl,u,v,g1,g2,g3⟩
 ·rfl
 ·exact absurd g1 (h u)
 ·exact absurd g1 (h u)
 ·exact absurd h1 (g p)
 ·rfl
 ·exact absurd ((h2 u g1).trans (h2 v g2).symm) g3
 ·exact absurd h1 (g p)
 ·exact absurd ((g2 p h1).trans (g2 q h2).symm) h3
 ·rfl
theorem SK.map {I J:V2→Prop} {k:Int} (f g:V2→V2) (hf:∀ p,I p→J (f p)) (hg:∀ p,J p→I (g p)) (hfg:∀ p,f (g p)=p) (hgf:∀ p,g (f p)=p) (h:SK I k):SK J k:=by
 rcases h with ⟨rfl,h⟩ | ⟨rfl,p,h1,h2⟩ | ⟨rfl,p,q,h1,h2,h3⟩
 ·exact .inl ⟨rfl,fun p hp=>h _ (hg p hp)⟩
 ·exact .inr (.inl ⟨rfl,f p,hf p h1,fun q hq=>by rw [←hfg q,h2 _ (hg q hq)]⟩)
 ·exact .inr (.inr ⟨rfl,f p,f q,hf p h1,hf q h2,fun e=>h3 (by rw [←hgf p,e,hgf])⟩)
theorem SK.congr {I J:V2→Prop} {k:Int} (h:∀ p,I p↔J p) (hk:SK I k):SK J k:=hk.map id id (fun p=>(h p).1) (fun p=>(h p).2) (fun _=>rfl) (fun _=>rfl)
theorem UD {s:Sg} {p:V2}:Jr s p=true↔le2 s.1 p∧le2 p s.2:=by unfold Jr;rw [Bool.and_eq_true,decide_eq_true_iff,decide_eq_true_iff,JD,JD]
theorem Zj {s:Sg} {p:V2} (h:le2 s.1 s.2):Ze s p=true↔onS s.1 s.2 p:=by
 unfold Ze;rw [Bool.and_eq_true,UD,decide_eq_true_iff,Ww,vY h]
 exact And.comm
theorem zqd {s t:Sg} {p:V2} (h1:le2 s.1 p) (h2:le2 t.1 p):le2 (VO s t) p:=by unfold VO;split <;> assumption
theorem zqe {s t:Sg} {p:V2} (h1:le2 p s.2) (h2:le2 p t.2):le2 p (VP s t):=by unfold VP;split <;> assumption
theorem zqf (s t:Sg):le2 s.1 (VO s t)∧le2 t.1 (VO s t):=by
 unfold VO;split
 ·rename_i h
  rw [cmp2_pos] at h
  exact⟨(le2_total _ _).resolve_right h,YY _⟩
 ·rename_i h
  rw [cmp2_pos] at h
  exact⟨YY _,Classical.not_not.1 h⟩
theorem zqg (s t:Sg):le2 (VP s t) s.2∧le2 (VP s t) t.2:=by
 unfold VP;split
 ·rename_i h
  rw [qm] at h
  exact⟨(le2_total _ _).resolve_right h,YY _⟩
 ·rename_i h
  rw [qm] at h
  exact⟨YY _,Classical.not_not.1 h⟩
abbrev In (s t:Sg) (p:V2):Prop:=onS s.1 s.2 p∧onS t.1 t.2 p
theorem Vd (a b:V2):cr a b a=0:=zk5 ..
theorem YZ (a b:V2):cr a b b=0:=zm9 ..
theorem XF {s t:Sg} (hs:le2 s.1 s.2) (ht:le2 t.1 t.2) (h1:cr s.1 s.2 t.1=0) (h2:cr s.1 s.2 t.2=0) (h3:cr t.1 t.2 s.1=0) (h4:cr t.1 t.2 s.2=0) (hl:le2 (VO s t) (VP s t)):
  (Ze s (VO s t)&&Ze t (VO s t)&&Ze s (VP s t)&&Ze t (VP s t))=true:=by
 have a1:=zqf s t
 have a2:=zqg s t
 have c1:cr s.1 s.2 (VO s t)=0∧cr t.1 t.2 (VO s t)=0:=by
  unfold VO;split
  ·exact⟨h1,Vd _ _⟩
  ·exact⟨Vd _ _,h3⟩
 have c2:cr s.1 s.2 (VP s t)=0∧cr t.1 t.2 (VP s t)=0:=by
  unfold VP;split
  ·exact⟨h2,YZ _ _⟩
  ·exact⟨YZ _ _,h4⟩
 simp only [Bool.and_eq_true]
 refine⟨⟨⟨(Zj hs).2 ((vY hs).2 ⟨c1.1,a1.1,ZQ hl a2.1⟩),(Zj ht).2 ((vY ht).2 ⟨c1.2,a1.2,ZQ hl a2.2⟩)⟩,(Zj hs).2 ((vY hs).2 ⟨c2.1,ZQ a1.1 hl,a2.1⟩)⟩,(Zj ht).2 ((vY ht).2 ⟨c2.2,ZQ a1.2 hl,a2.2⟩)⟩
theorem zpe {s t:Sg} (hs:le2 s.1 s.2) (ht:le2 t.1 t.2):SK (In s t) (mtF s t).1:=by
 have lohi:∀ p,In s t p→le2 (VO s t) p∧le2 p (VP s t):=fun p ⟨h1,h2⟩=>by
  have g1:=((vY hs).1 h1).2
  have g2:=((vY ht).1 h2).2
  exact⟨zqd g1.1 g2.1,zqe g1.2 g2.2⟩
 unfold mtF
 by_cases c1:0<vM (VO s t) (VP s t)
 ·rw [if_pos c1]
  rw [cmp2_pos] at c1
  exact .inl ⟨rfl,fun p hp=>c1 (ZQ (lohi p hp).1 (lohi p hp).2)⟩
 ·rw [if_neg c1]
  have hl:le2 (VO s t) (VP s t):=by rw [cmp2_pos] at c1;exact Classical.not_not.1 c1
  by_cases c2:(Ze s (VO s t)&&Ze t (VO s t)&&Ze s (VP s t)&&Ze t (VP s t))=true
  ·rw [if_pos c2]
   simp only [Bool.and_eq_true] at c2
   obtain⟨⟨⟨d1,d2⟩,d3⟩,d4⟩:=c2
   have i1:In s t (VO s t):=⟨(Zj hs).1 d1,(Zj ht).1 d2⟩
   have i2:In s t (VP s t):=⟨(Zj hs).1 d3,(Zj ht).1 d4⟩
   by_cases e:vM (VO s t) (VP s t)=0
   ·rw [if_pos e]
    rw [Vc] at e
    exact .inr (.inl ⟨rfl,_,i1,fun q hq=>uq (by rw [e];exact (lohi q hq).2) (lohi q hq).1⟩)
   ·rw [if_neg e]
    exact .inr (.inr ⟨rfl,_,_,i1,i2,fun h=>e (Vc.2 h)⟩)
  ·rw [if_neg c2]
   -- no two points
   have one:∀ p q,In s t p→In s t q→p=q:=fun p q hp hq=>by
    refine Classical.byContradiction fun hpq=>c2 ?_
    have ps:=(vY hs).1 hp.1
    have qs:=(vY hs).1 hq.1
    have pt:=(vY ht).1 hp.2
    have qt:=(vY ht).1 hq.2
    have ns:s.1≠s.2:=fun e=>hpq ((uq (by rw [e];exact ps.2.2) ps.2.1).trans (uq (by rw [e];exact qs.2.2) qs.2.1).symm)
    have nt:t.1≠t.2:=fun e=>hpq ((uq (by rw [e];exact pt.2.2) pt.2.1).trans (uq (by rw [e];exact qt.2.2) qt.2.1).symm)
    refine XF hs ht ?_ ?_ ?_ ?_ hl
    ·exact JE hpq ps.1 qs.1 (col nt pt.1 qt.1 (Vd _ _))
    ·exact JE hpq ps.1 qs.1 (col nt pt.1 qt.1 (YZ _ _))
    ·exact JE hpq pt.1 qt.1 (col ns ps.1 qs.1 (Vd _ _))
    ·exact JE hpq pt.1 qt.1 (col ns ps.1 qs.1 (YZ _ _))
   by_cases c3:den s.1 s.2 t.1 t.2=0
   ·rw [if_pos c3]
    refine .inl ⟨rfl,fun p hp=>c2 ?_⟩
    have ps:=(vY hs).1 hp.1
    have pt:=(vY ht).1 hp.2
    by_cases ns:s.1=s.2
    ·have e:p=s.1:=uq (by rw [ns];exact ps.2.2) ps.2.1
     refine XF hs ht ?_ ?_ (by rw [←e];exact pt.1) (by rw [←ns,←e];exact pt.1) hl
     ·rw [ns];exact Uw ..
     ·rw [ns];exact Uw ..
    ·by_cases nt:t.1=t.2
     ·have e:p=t.1:=uq (by rw [nt];exact pt.2.2) pt.2.1
      refine XF hs ht (by rw [←e];exact ps.1) (by rw [←nt,←e];exact ps.1) ?_ ?_ hl
      ·rw [nt];exact Uw ..
      ·rw [nt];exact Uw ..
     ·have c4:den t.1 t.2 s.1 s.2=0:=by rw [zlp,c3];rfl
      exact XF hs ht (zbY nt pt.1 ps.1 c4 (Vd _ _)) (zbY nt pt.1 ps.1 c4 (YZ _ _)) (zbY ns ps.1 pt.1 c3 (Vd _ _)) (zbY ns ps.1 pt.1 c3 (YZ _ _)) hl
   ·rw [if_neg c3]
    obtain⟨l1,l2⟩:=zlq c3
    by_cases c4:(Jr s (Jq s.1 s.2 t.1 t.2)&&Jr t (Jq s.1 s.2 t.1 t.2))=true
    ·rw [if_pos c4]
     rw [Bool.and_eq_true,UD,UD] at c4
     have hi:In s t (Jq s.1 s.2 t.1 t.2):=⟨(vY hs).2 ⟨l1,c4.1⟩,(vY ht).2 ⟨l2,c4.2⟩⟩
     exact .inr (.inl ⟨rfl,_,hi,fun q hq=>one _ _ hq hi⟩)
    ·rw [if_neg c4]
     refine .inl ⟨rfl,fun p hp=>c4 ?_⟩
     have ps:=(vY hs).1 hp.1
     have pt:=(vY ht).1 hp.2
     have e:=zaT c3 ps.1 pt.1 l1 l2
     rw [←e,Bool.and_eq_true,UD,UD]
     exact⟨ps.2,pt.2⟩
theorem JF (a b:V2):le2 (xZ a b).1 (xZ a b).2:=by
 unfold xZ;split
 ·rename_i h;rw [cmp2_pos] at h;exact (le2_total _ _).resolve_left h
 ·rename_i h;rw [cmp2_pos] at h;exact Classical.not_not.1 h
theorem JG {a b p:V2}:onS (xZ a b).1 (xZ a b).2 p↔onS a b p:=by
 unfold xZ;split
 ·exact zbX
 ·exact Iff.rfl
def UU (a b c d:V2):Int:=(mtF (xZ a b) (xZ c d)).1
abbrev Bo (a b c d p:V2):Prop:=onS a b p∧onS c d p
theorem UE (a b c d:V2):SK (Bo a b c d) (UU a b c d):=(zpe (JF a b) (JF c d)).congr fun p=>by unfold In Bo;rw [JG,JG]
theorem Qs {a b c d a' b' c' d':V2} (h:∀ p,Bo a b c d p↔Bo a' b' c' d' p):UU a b c d=UU a' b' c' d':=((UE a b c d).congr h).uniq (UE a' b' c' d')
theorem zlr (a b c d:V2):UU c d a b=UU a b c d:=Qs fun _=>And.comm
theorem zls (a b c d:V2):UU b a c d=UU a b c d:=Qs fun _=>by unfold Bo;rw [zbX]
theorem zlt (a b c d:V2):UU a b d c=UU a b c d:=Qs fun _=>by unfold Bo;rw [zbX (a:=c)]
def Qt (p v:V2):V2:=(p.1+v.1,p.2+v.2)
def VQ (p v:V2):V2:=(p.1-v.1,p.2-v.2)
end Num
