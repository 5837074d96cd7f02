/- A drawn region with several effects: the general rule; the rule for a new block and what is stored into it. -/
import Derived.Test.YthhamejdmpjjlaaGreatDoorSvw
import Derived.ProofKit
import Derived.LaidMore
import Derived.OpenShut
import Derived.Stop.Joined
import Derived.Carry
import Derived.Handed
import Derived.Deep.Slices
namespace Go.Sv
open Go Go.RowKit
section
variable {P:Program} {G:Imm} {E:Env} {r:Option Nat} {S:St}
theorem Yb {g:List (Nat×SV)} {t:Nat} {s s':SV} {y:Operand} (hy:y≠ .tmp t) (h:xd g y=some s):xd ((t,s')::g) y=some s:=by
  cases y with
  | tmp u=>
    simp only [xd,look] at h ⊢
    have:Nat.beq u t=false:=by
      cases hb:Nat.beq u t with
      | false=>rfl
      | true=>exact absurd (congrArg Operand.tmp (Nat.eq_of_beq_eq_true hb)) hy
    rw [this];exact h
  | const v=>exact h
  | global b=>exact h
  | func f=>exact h
end
end Go.Sv
/- A field of a struct that is held as a value; a drawn region in which two new blocks are made and filled. -/
namespace Go.Sv
open Go Go.RowKit
section
variable {P:Program} {G:Imm} {E:Env} {r:Option Nat} {S:St} {H:HL} {o:Oper} {g:List (Nat×SV)}
def phase (L:Nat→Prop) (a c:Nat) (v:SV) (t:TypeId) (zs:List Value) (ds:List SV) (p:HL):Prop:=
 (¬L a∧¬ L c∧p=[])∨(L a∧¬ L c∧∃ b,v=eqS (.pointer (some ⟨b,0,none⟩))∧p=[⟨some b,t,zs.map eqS,0⟩])∨(L a∧L c∧∃ b,v=eqS (.pointer (some ⟨b,0,none⟩))∧p=[⟨some b,t,xM (zs.map eqS) 0 ds,0⟩])
theorem phase.other {L:Nat→Prop} {a c k:Nat} {v v':SV} {t:TypeId} {zs:List Value} {ds:List SV} {p:HL} (h:phase L a c v t zs ds p) (ha:k≠a) (hc:k≠c) (hv:v'=v):phase (fun j=>j=k∨L j) a c v' t zs ds p:=by
 subst hv
 rcases h with ⟨h1,h2,h3⟩ | ⟨h1,h2,h3⟩ | ⟨h1,h2,h3⟩
 ·exact .inl ⟨fun h=>h.elim (fun e=>ha e.symm) h1,fun h=>h.elim (fun e=>hc e.symm) h2,h3⟩
 ·exact .inr (.inl ⟨.inr h1,fun h=>h.elim (fun e=>hc e.symm) h2,h3⟩)
 ·exact .inr (.inr ⟨.inr h1,.inr h2,h3⟩)
theorem phase.before {L:Nat→Prop} {a c:Nat} {v:SV} {t:TypeId} {zs:List Value} {ds:List SV} {p:HL} (h:phase L a c v t zs ds p) (ha:¬ L a):p=[]∧¬ L c:=by
 rcases h with ⟨_,h1,h2⟩ | ⟨h1,_⟩ | ⟨h1,_⟩
 ·exact⟨h2,h1⟩
 ·exact absurd h1 ha
 ·exact absurd h1 ha
theorem phase.made {L:Nat→Prop} {a c:Nat} {v:SV} {t:TypeId} {zs:List Value} {ds:List SV} {p:HL} (h:phase L a c v t zs ds p) (ha:L a) (hc:¬ L c):∃ b,v=eqS (.pointer (some ⟨b,0,none⟩))∧p=[⟨some b,t,zs.map eqS,0⟩]:=by
 rcases h with ⟨h1,_⟩ | ⟨_,_,h2⟩ | ⟨_,h1,_⟩
 ·exact absurd ha h1
 ·exact h2
 ·exact absurd h1 hc
theorem phase.full {L:Nat→Prop} {a c:Nat} {v:SV} {t:TypeId} {zs:List Value} {ds:List SV} {p:HL} (h:phase L a c v t zs ds p) (ha:L a) (hc:L c):∃ b,v=eqS (.pointer (some ⟨b,0,none⟩))∧p=[⟨some b,t,xM (zs.map eqS) 0 ds,0⟩]:=by
 rcases h with ⟨h1,_⟩ | ⟨_,h1,_⟩ | ⟨_,_,h2⟩
 ·exact absurd ha h1
 ·exact absurd hc h1
 ·exact h2
def zbx (l:List Oper) (N:Nat):Bool:=ua l&&(vm l&&(ub l&&Zr l (N+4)))
structure NewB (P:Program) (n:Nat) (g:List (Nat×SV)) (oA oC:Oper) (da db:Nat) (t:TypeId) (zs:List Value) (ds:List SV):Prop where
 e:∃ m y s,IsZero P t zs∧HasSize P t m∧FlatC s ds∧oA.op= .alloc t∧oA.dst=some da∧oA.guard=none∧Nat.blt da n=true∧oC.op= .store t (.tmp da) y∧oC.dst=none∧oC.guard=none∧y≠ .tmp da∧y≠ .tmp db∧xd g y=some s∧ds.length=m∧zs.length=ds.length
structure EffA2 (P:Program) (G:Imm) (E:Env) (r:Option Nat) (gd:Nat→Option Nat) (n:Nat) (h:HL) (d:List Nat) (ix:Nat×Bool) (oA oB oC oD:Oper) (rest:List Oper) (g:List (Nat×SV)) (K:St→Prop):Prop where
  e:∃ da db t t' zs zs' ds ds',da≠db∧NewB P n g oA oC da db t zs ds∧NewB P n g oB oD db da t' zs' ds' ∧
    ∀b b',Run P G E r gd false rest ⟨n,(db,eqS (.pointer (some ⟨b',0,none⟩)))::(da,eqS (.pointer (some ⟨b,0,none⟩)))::g,⟨some b',t',xM (zs'.map eqS) 0 ds',0⟩::⟨some b,t,xM (zs.map eqS) 0 ds,0⟩::h,d,ix⟩ K
theorem NewB.mk1 {n:Nat} {oA oC:Oper} {da db:Nat} {t m:TypeId} {zs:List Value} {y:Operand} {s:SV} {ds:List SV} [IsZero P t zs] [HasSize P t m] [FlatC s ds] (h1:oA.op= .alloc t) (h2:oA.dst=some da) (h3:oA.guard=none) (h4:Nat.blt da n=true) (h5:oC.op= .store t (.tmp da) y) (h6:oC.dst=none) (h7:oC.guard=none) (h8:y≠ .tmp da) (h9:y≠ .tmp db) (h10:xd g y=some s) (h11:ds.length=m) (h12:zs.length=ds.length):NewB P n g oA oC da db t zs ds:=
 ⟨m,y,s,inferInstance,inferInstance,inferInstance,h1,h2,h3,h4,h5,h6,h7,h8,h9,h10,h11,h12⟩
theorem zkB (N:Nat) {l:List Oper} {oA oB oC oD:Oper} {Q:Exit→St→Prop} {n:Nat} {g:List (Nat×SV)} {h:HL} {d:List Nat} {i:Nat×Bool} (hok:zbx l N=true) (hoA:l[N]? =some oA) (hoB:l[N+1]? =some oB) (hoC:l[N+2]? =some oC) (hoD:l[N+3]? =some oD)
  (hr:RunE P G (xA l) n h h (fun _=>false) 0 (l.take N) g (fun g'=>EffA2 P G E r (xA l) n h d i oA oB oC oD (l.drop (N+4)) g' (fun S'=>Q .normal S'))):TA P G E r l ⟨n,g,h,d,i⟩ Q:=by
 simp only [zbx,Bool.and_eq_true] at hok
 obtain⟨hed,hnd,hrd,htail⟩:=hok
 obtain⟨sv,⟨da,db,t,t',zs,zs',ds,ds',hdab,⟨m,y,s,hz,hsz,hfl,hAop,hAd,hAg,hdn,hCop,hCd,hCg,hya,hyb,hy,hm,hzl⟩,⟨m',y',s',hz',hsz',hfl',hBop,hBd,hBg,hdn',hDop,hDd,hDg,hya',hyb',hy',hm',hzl'⟩,hK⟩,hst⟩:=ZY hr
 have hND:=yt hoD
 have hlen:(l.take N).length=N:=by simp;omega
 have hlen4:(l.take (N+4)).length=N+4:=by simp;omega
 rw [hlen] at hy hy'
 simp only [hlen] at hK
 have e1:∀ (sv':Nat→SV) k,(∀j,j<N→sv' j=sv j)→k≤N→xT (l.take (N+4)) sv' g k=xT (l.take N) sv g k:=fun sv' k hsv hk=>by
  rw [vp hk,vp (by omega)];exact uc fun j hj=>hsv j (by omega)
 have e2:∀ (sv':Nat→SV),(∀j,j<N→sv' j=sv j)→xT (l.take (N+4)) sv' g (N+1)=(da,sv' N)::xT (l.take N) sv g N:=fun sv' hsv=>by
  rw [vQ (o:=oA) (by rw [xJ (by omega)];exact hoA),hAd,e1 sv' N hsv (Nat.le_refl _)];rfl
 have e3:∀ (sv':Nat→SV),(∀j,j<N→sv' j=sv j)→xT (l.take (N+4)) sv' g (N+2)=(db,sv' (N+1))::(da,sv' N)::xT (l.take N) sv g N:=fun sv' hsv=>by
  rw [vQ (o:=oB) (by rw [xJ (by omega)];exact hoB),hBd,e2 sv' hsv];rfl
 have e4:∀ (sv':Nat→SV),(∀j,j<N→sv' j=sv j)→xT (l.take (N+4)) sv' g (N+3)=(db,sv' (N+1))::(da,sv' N)::xT (l.take N) sv g N:=fun sv' hsv=>by
  rw [Ub (o:=oC) (by rw [xJ (by omega)];exact hoC) hCd,e3 sv' hsv]
 have e5:∀ (sv':Nat→SV),(∀j,j<N→sv' j=sv j)→xT (l.take (N+4)) sv' g (l.take (N+4)).length=(db,sv' (N+1))::(da,sv' N)::xT (l.take N) sv g N:=fun sv' hsv=>by
  rw [hlen4,Ub (o:=oD) (by rw [xJ (by omega)];exact hoD) hDd,e4 sv' hsv]
 have hCA:Reach l (N+2) N:=by
  rcases vA hrd hoC (t:=da) (uH (by rw [hCop];simp [Op.operands])) hoA hAd with h1 | ⟨_,h1⟩ | ⟨h1,_⟩
  ·omega
  ·exact h1
  ·omega
 have hDB:Reach l (N+3) (N+1):=by
  rcases vA hrd hoD (t:=db) (uH (by rw [hDop];simp [Op.operands])) hoB hBd with h1 | ⟨_,h1⟩ | ⟨h1,_⟩
  ·omega
  ·exact h1
  ·omega
 refine Ju (S:=⟨n,g,h,d,i⟩) (N:=N+4) (Q:=Q)
  (R:=fun L sv' hc=>(∀j,j<N→sv' j=sv j)∧∃ pB pA,hc=pB++pA++h∧phase L N (N+2) (sv' N) t zs ds pA∧phase L (N+1) (N+3) (sv' (N+1)) t' zs' ds' pB)
  hed hnd hrd htail (by omega) sv (fun k o hk hkN=>?_) (fun L sv' hc hR hall=>?_) fun L hL=>⟨fun _ _=>rfl,[],[],rfl,.inl ⟨hL _,hL _,rfl⟩,.inl ⟨hL _,hL _,rfl⟩⟩
 ·by_cases hkA:k=N
  ·subst hkA
   rw [hoA] at hk;cases hk
   refine⟨fun u hu=>by rw [hAd] at hu;cases hu;exact Nat.le_of_ble_eq_true hdn,fun L sv' hc hR hn hpre hcl=>.inr ⟨by simp [zH,hAg],?_⟩⟩
   obtain⟨hsv,pB,pA,rfl,phA,phB⟩:=hR
   obtain⟨rfl,hnc⟩:=phA.before hn
   refine⟨pB,[],h,_,by simp,WM hAop,fun s1 H' ⟨b,h1,h2⟩=>⟨fun j j1=>by rw [xw (by omega)];exact hsv j j1,pB,H',rfl,.inr (.inl ⟨.inl rfl,fun h3=>?_,b,by rw [uf,h1],by rw [h2]⟩),phB.other (by omega) (by omega) (xw (by omega))⟩⟩
   rcases h3 with h3 | h3
   ·omega
   ·exact hnc h3
  ·by_cases hkB:k=N+1
   ·subst hkB
    rw [hoB] at hk;cases hk
    refine⟨fun u hu=>by rw [hBd] at hu;cases hu;exact Nat.le_of_ble_eq_true hdn',fun L sv' hc hR hn hpre hcl=>.inr ⟨by simp [zH,hBg],?_⟩⟩
    obtain⟨hsv,pB,pA,rfl,phA,phB⟩:=hR
    obtain⟨rfl,hnc⟩:=phB.before hn
    refine⟨[],[],pA++h,_,by simp,WM hBop,fun s1 H' ⟨b,h1,h2⟩=>⟨fun j j1=>by rw [xw (by omega)];exact hsv j j1,H',pA,by simp,phA.other (by omega) (by omega) (xw (by omega)),.inr (.inl ⟨.inl rfl,fun h3=>?_,b,by rw [uf,h1],by rw [h2]⟩)⟩⟩
    rcases h3 with h3 | h3
    ·omega
    ·exact hnc h3
   ·by_cases hkC:k=N+2
    ·subst hkC
     rw [hoC] at hk;cases hk
     refine⟨fun u hu=>(by rw [hCd] at hu;cases hu),fun L sv' hc hR hn hpre hcl=>.inr ⟨by simp [zH,hCg],?_⟩⟩
     obtain⟨hsv,pB,pA,rfl,phA,phB⟩:=hR
     have hLN:L N:=hCA.listed (L:=L) hcl fun o' ho'=>by rw [hoC] at ho';cases ho';exact hpre
     obtain⟨b,hb1,rfl⟩:=phA.made hLN hn
     rw [e3 sv' hsv,hb1]
     have hyy:xd ((db,sv' (N+1))::(da,eqS (.pointer (some ⟨b,0,none⟩)))::xT (l.take N) sv g N) y=some s:=Yb hyb (Yb hya hy)
     have hxx:xd ((db,sv' (N+1))::(da,eqS (.pointer (some ⟨b,0,none⟩)))::xT (l.take N) sv g N) (.tmp da)=some (eqS (.pointer (some ⟨b,0,none⟩))):=Yb (fun h=>hdab (by cases h;rfl)) (by simp [xd,look])
     have hL:=xI (P:=P) (G:=G) (e:=t) (k:=0) (cs:=zs.map eqS) (hsz:=hsz) (hf:=hfl) hCop hxx hyy hm (by rw [Nat.zero_add,List.length_map,hzl];exact Nat.le_refl _)
     refine⟨pB,[⟨some b,t,zs.map eqS,0⟩],h,_,rfl,hL,fun s1 H' ⟨h1,h2⟩=>⟨fun j j1=>by rw [xw (by omega)];exact hsv j j1,pB,H',rfl,.inr (.inr ⟨.inr hLN,.inl rfl,b,by rw [xw (by omega)];exact hb1,by rw [h2]⟩),phB.other (by omega) (by omega) (xw (by omega))⟩⟩
    ·by_cases hkD:k=N+3
     ·subst hkD
      rw [hoD] at hk;cases hk
      refine⟨fun u hu=>(by rw [hDd] at hu;cases hu),fun L sv' hc hR hn hpre hcl=>.inr ⟨by simp [zH,hDg],?_⟩⟩
      obtain⟨hsv,pB,pA,rfl,phA,phB⟩:=hR
      have hLN:L (N+1):=hDB.listed (L:=L) hcl fun o' ho'=>by rw [hoD] at ho';cases ho';exact hpre
      obtain⟨b,hb1,rfl⟩:=phB.made hLN hn
      rw [e4 sv' hsv,hb1]
      have hyy:xd ((db,eqS (.pointer (some ⟨b,0,none⟩)))::(da,sv' N)::xT (l.take N) sv g N) y'=some s':=Yb hya' (Yb hyb' hy')
      have hxx:xd ((db,eqS (.pointer (some ⟨b,0,none⟩)))::(da,sv' N)::xT (l.take N) sv g N) (.tmp db)=some (eqS (.pointer (some ⟨b,0,none⟩))):=by simp [xd,look]
      have hL:=xI (P:=P) (G:=G) (e:=t') (k:=0) (cs:=zs'.map eqS) (hsz:=hsz') (hf:=hfl') hDop hxx hyy hm' (by rw [Nat.zero_add,List.length_map,hzl'];exact Nat.le_refl _)
      refine⟨[],[⟨some b,t',zs'.map eqS,0⟩],pA++h,_,by simp,hL,fun s1 H' ⟨h1,h2⟩=>⟨fun j j1=>by rw [xw (by omega)];exact hsv j j1,H',pA,by simp,phA.other (by omega) (by omega) (xw (by omega)),.inr (.inr ⟨.inr hLN,.inl rfl,b,by rw [xw (by omega)];exact hb1,by rw [h2]⟩)⟩⟩
     ·have hkN2:k<N:=by omega
      obtain⟨g1,g2⟩:=hst k o (by rw [xJ hkN2];exact hk)
      refine⟨g1,fun L sv' hc hR hn hpre hcl=>.inl ⟨?_,hR.1,?_⟩⟩
      ·rw [e1 sv' k hR.1 (by omega),hR.1 k hkN2]
       rcases g2 with ⟨⟨h1,h2⟩ | h1,h3⟩ | h1
       ·cases h2
       ·refine .inl ⟨?_,h3⟩
        obtain⟨_,pB,pA,rfl,_,_⟩:=hR
        exact HoldsH.sub_ok (List.sublist_append_right _ _) h1
       ·exact .inr h1
      ·obtain⟨_,pB,pA,hh,phA,phB⟩:=hR
       exact⟨pB,pA,hh,phA.other (by omega) (by omega) rfl,phB.other (by omega) (by omega) rfl⟩
 ·obtain⟨hsv,pB,pA,rfl,phA,phB⟩:=hR
  obtain⟨b,hb1,rfl⟩:=phA.full (hall N (by omega)) (hall (N+2) (by omega))
  obtain⟨b',hb2,rfl⟩:=phB.full (hall (N+1) (by omega)) (hall (N+3) (by omega))
  have:=hK b b'
  simp only [e5 sv' hsv,hb1,hb2];exact this
theorem zc9 [Mixed P] (N:Nat) {id:Nat} {l:List Oper} {oA oB oC oD:Oper} {y:Code} {Q:Exit→St→Prop} {n:Nat} {g:List (Nat×SV)} {h:HL} {d:List Nat} {i:Nat×Bool} (hok:zbx l N=true) (hoA:l[N]? =some oA) (hoB:l[N+1]? =some oB) (hoC:l[N+2]? =some oC) (hoD:l[N+3]? =some oD)
  (hr:RunE P G (xA l) n h h (fun _=>false) 0 (l.take N) g (fun g'=>EffA2 P G E r (xA l) n h d i oA oB oC oD (l.drop (N+4)) g' (fun S'=>T P G E r y S' Q))):T P G E r (.seq (.region id l.toArray true) y) ⟨n,g,h,d,i⟩ Q:=
 zh (zkB N hok hoA hoB hoC hoD hr).T
end
end Go.Sv
/- A drawn region in which three new blocks are made and filled. Written by mkdraw.py. -/
namespace Go.Sv
open Go Go.RowKit
section
variable {P:Program} {G:Imm} {E:Env} {r:Option Nat} {S:St}
end
end Go.Sv
/- A call that is lent an owned block: it reads it, and hands it back as it was. -/
namespace Go.Sv
open Go Go.RowKit
class Plain (s:SV):Prop where
 h:∀ I J v,s.den I v→s.den J v
instance {x:Value}:Plain (eqS x):=⟨fun _ _ _ h=>h⟩
instance:Plain zbh:=⟨fun _ _ _ h=>h⟩
section
variable {P:Program} {G:Imm} {E:Env} {r:Option Nat} {S:St} {gd:Nat→Option Nat} {p:Bool} {o:Oper} {ops:List Oper} {K:St→Prop} {H:HL} {g:List (Nat×SV)}
end
end Go.Sv
/- A drawn region with any number of effects that wait for one another; the pure operations may come ahead of an effect or behind it, as their edges let them. -/
namespace Go.Sv
open Go Go.RowKit
section
variable {P:Program} {G:Imm} {E:Env} {r:Option Nat} {S:St}
def EffM (P:Program) (G:Imm) (E:Env) (gd:Nat→Option Nat) (n:Nat) (Hc:HL) (o:Oper) (g:List (Nat×SV)) (h:HL) (ix:Nat×Bool) (C:List (Nat×SV)→HL→Nat×Bool→Prop):Prop:=
 (∃pre Hp suf Kl,h=pre++Hp++suf∧OpL P G o g Hp Kl∧zH gd g o true∧dstOk o n=true∧∀ s H',Kl s H'→Hc.Sublist (pre++H'++suf)∧C (Wg o.dst s g) (pre++H'++suf) ix) ∨
 (∃Kx,OpX P G E o g ix Kx∧zH gd g o true∧dstOk o n=true∧∀ s i',Kx s i'→Hc.Sublist h∧C (Wg o.dst s g) h i') ∨
 (zH gd g o false∧dstOk o n=true∧Hc.Sublist h∧C (Wg o.dst (eqS undef) g) h ix)
def zda (P:Program) (G:Imm) (E:Env) (r:Option Nat) (l:List Oper) (n:Nat) (d:List Nat) (M:Nat) (K:St→Prop):(Ns:List Nat)→(k:Nat)→(Hc:HL)→List (Nat×SV)→HL→Nat×Bool→Prop
 | [],k,_,g,h,ix=>RunE P G (xA l) n h h (fun _=>false) k ((l.take M).drop k) g (fun g'=>Run P G E r (xA l) false (l.drop M) ⟨n,g',h,d,ix⟩ K)
 | N::Ns,k,Hc,g,h,ix=>RunE P G (xA l) n h Hc (Xo l N) k ((l.take N).drop k) g (fun g'=>∃ oN,l[N]? =some oN∧EffM P G E (xA l) n Hc oN g' h ix (fun g2 h2 i2=>zda P G E r l n d M K Ns (N+1) Hc g2 h2 i2))
def Wn (l:List Oper) (M:Nat):Nat→List Nat→Bool
 | k,[]=>Nat.ble k M
 | k,N::Ns=>Nat.ble k N&&(Nat.blt N M&&(((List.range l.length).all fun j=>Nat.ble j N||((zcD l).getD j 0).testBit N)&&Wn l M (N+1) Ns))
def WU (l:List Oper) (M:Nat) (Ns:List Nat):Bool:=ua l&&(vm l&&(ub l&&(Zr l M&&(Nat.ble M l.length&&Wn l M 0 Ns))))
theorem zau:∀ {l1 l2:List Oper} {sv:Nat→SV} {g:List (Nat×SV)} {i:Nat},xT (l1++l2) sv g (l1.length+i)=xT l2 (fun j=>sv (l1.length+j)) (xT l1 sv g l1.length) i
  | [],l2,sv,g,i=>by simp [xT]
  | o::l1,l2,sv,g,i=>by
    rw [List.cons_append,List.length_cons,show l1.length+1+i=(l1.length+i)+1 by omega,wY,wY,zau]
    congr 1
    funext j
    congr 1
    omega
def fact (P:Program) (G:Imm) (l:List Oper) (M n:Nat) (g0:List (Nat×SV)) (sv:Nat→SV) (h:HL) (j:Nat) (o:Oper):Prop:=
 (∀t,o.dst=some t→t<n)∧((OpOK P G h o (xT (l.take M) sv g0 j) (sv j)∧zH (xA l) (xT (l.take M) sv g0 j) o true)∨(zH (xA l) (xT (l.take M) sv g0 j) o false∧sv j=eqS undef))
theorem fact.sub {l:List Oper} {M n:Nat} {g0:List (Nat×SV)} {sv:Nat→SV} {h h':HL} {j:Nat} {o:Oper} (hs:h.Sublist h') (f:fact P G l M n g0 sv h j o):fact P G l M n g0 sv h' j o:=
 ⟨f.1,f.2.imp (fun⟨a,b⟩=>⟨HoldsH.sub_ok hs a,b⟩) id⟩
theorem fact.congr {l:List Oper} {M n:Nat} {g0:List (Nat×SV)} {sv sv':Nat→SV} {h:HL} {j:Nat} {o:Oper} (hs:∀ i,i≤j→sv' i=sv i) (f:fact P G l M n g0 sv h j o):fact P G l M n g0 sv' h j o:=by
 unfold fact at f ⊢
 rw [hs j (Nat.le_refl _),show xT (l.take M) sv' g0 j=xT (l.take M) sv g0 j from uc fun i hi=>hs i (by omega)]
 exact f
theorem zav {l:List Oper} {M N k n:Nat} {g0 g:List (Nat×SV)} {h Hc:HL} {early:Nat→Bool} {sv:Nat→SV} {K:List (Nat×SV)→Prop} (hkN:k≤N) (hNM:N≤M) (hM:M≤l.length) (hg:xT (l.take M) sv g0 k=g)
  (hr:RunE P G (xA l) n h Hc early k ((l.take N).drop k) g K):
  ∃sv':Nat→SV,(∀j,j<k→sv' j=sv j)∧K (xT (l.take M) sv' g0 N)∧∀ j o,k≤j→j<N→l[j]? =some o→(fact P G l M n g0 sv' h j o∧early j=true)∨fact P G l M n g0 sv' Hc j o:=by
 obtain⟨sv1,hK,hst⟩:=ZY hr
 let sv':Nat→SV:=fun j=>if j<k then sv j else sv1 (j-k)
 have hlt:∀ j,j<k→sv' j=sv j:=fun j hj=>by simp only [sv',hj,if_true]
 have hge:∀ j,sv' (k+j)=sv1 j:=fun j=>by
  have h1:¬ (k+j<k):=by omega
  simp only [sv',h1,if_false]
  congr 1;omega
 have hkl:(l.take k).length=k:=by simp;omega
 have hg':∀ i,k+i≤N→xT (l.take M) sv' g0 (k+i)=xT ((l.take N).drop k) sv1 g i:=fun i hi=>by
  rw [show xT (l.take M) sv' g0 (k+i)=xT (l.take N) sv' g0 (k+i) from by rw [vp (by omega),vp (by omega)]]
  have e:l.take N=l.take k++(l.take N).drop k:=by
   have:=(List.take_append_drop k (l.take N)).symm
   rwa [List.take_take,Nat.min_eq_left hkN] at this
  have e2:=zau (l1:=l.take k) (l2:=(l.take N).drop k) (sv:=sv') (g:=g0) (i:=i)
  rw [←e,hkl] at e2
  rw [e2]
  have e3:xT (l.take k) sv' g0 k=g:=by
   rw [←hg,vp (Nat.le_refl _),vp (by omega)]
   exact uc hlt
  rw [e3]
  exact uc fun j _=>hge j
 have hlen:((l.take N).drop k).length=N-k:=by simp;omega
 refine⟨sv',hlt,?_,fun j o hkj hjN ho=>?_⟩
 ·have:=hg' (N-k) (by omega)
  rw [show k+(N-k)=N by omega] at this
  rw [this,←hlen]
  exact hK
 ·obtain⟨i,rfl⟩:∃ i,j=k+i:=⟨j-k,by omega⟩
  have hoi:((l.take N).drop k)[i]? =some o:=by
   rw [List.getElem?_drop,xJ (by omega)];exact ho
  obtain⟨h1,h2⟩:=hst i o hoi
  unfold fact
  rw [hg' i (by omega),hge]
  rcases h2 with ⟨⟨h3,h4⟩ | h3,h5⟩ | h3
  ·exact .inl ⟨⟨h1,.inl ⟨h3,h5⟩⟩,h4⟩
  ·exact .inr ⟨h1,.inl ⟨h3,h5⟩⟩
  ·exact .inr ⟨h1,.inr h3⟩
def QW (P:Program) (G:Imm) (E:Env) (r:Option Nat) (l:List Oper) (n:Nat) (d:List Nat) (M:Nat) (K:St→Prop) (Hc:HL) (g0:List (Nat×SV)) (L:Nat→Prop) (sv:Nat→SV) (hc:HL) (ix:Nat×Bool):Prop:=
  Hc.Sublist hc∧(∀j,L j→j<l.length) ∧
  ((∃N Ns,Wn l M N (N::Ns)=true∧¬ L N∧(∀j o,j<N→l[j]? =some o→¬ L j→(fact P G l M n g0 sv hc j o∧Xo l N j=true)∨fact P G l M n g0 sv Hc j o) ∧
      ∃oN,l[N]? =some oN∧EffM P G E (xA l) n Hc oN (xT (l.take M) sv g0 N) hc ix (fun g2 h2 i2=>zda P G E r l n d M K Ns (N+1) Hc g2 h2 i2)) ∨
   ((∀j o,j<M→l[j]? =some o→¬ L j→fact P G l M n g0 sv hc j o)∧Run P G E r (xA l) false (l.drop M) ⟨n,xT (l.take M) sv g0 M,hc,d,ix⟩ K))
theorem Wo {l:List Oper} {M k N:Nat} {Ns:List Nat} (h:Wn l M k (N::Ns)=true):k≤N∧N<M∧(∀j,j<l.length→N<j→Reach l j N)∧Wn l M (N+1) Ns=true∧Wn l M N (N::Ns)=true:=by
 simp only [Wn,Bool.and_eq_true] at h ⊢
 obtain⟨h1,h2,h3,h4⟩:=h
 refine⟨Nat.le_of_ble_eq_true h1,Nat.le_of_ble_eq_true h2,fun j hj hN=>?_,h4,(Nat.ble_eq▸Nat.le_refl N:Nat.ble N N=true),h2,h3,h4⟩
 have:=List.all_eq_true.1 h3 j (List.mem_range.2 hj)
 simp only [Bool.or_eq_true] at this
 rcases this with h5 | h5
 ·exact absurd (Nat.le_of_ble_eq_true h5) (by omega)
 ·exact masks_reach h5
theorem zdb {l:List Oper} {n M k:Nat} {d:List Nat} {ix:Nat×Bool} {K:St→Prop} {Hc:HL} {g0 g:List (Nat×SV)} {L:Nat→Prop} {sv:Nat→SV} {h:HL} {Ns:List Nat} (hM:M≤l.length) (hok:Wn l M k Ns=true) (hg:xT (l.take M) sv g0 k=g) (hHc:Hc.Sublist h)
    (hL:∀ j,L j→j<k) (hkl:k≤l.length) (hlate:∀ j o,j<k→l[j]? =some o→¬ L j→fact P G l M n g0 sv Hc j o) (hr:zda P G E r l n d M K Ns k Hc g h ix):
    ∃sv',(∀j,j<k→sv' j=sv j)∧QW P G E r l n d M K Hc g0 L sv' h ix:=by
  cases Ns with
  | nil=>
    have hkM:k≤M:=Nat.le_of_ble_eq_true hok
    obtain⟨sv',h1,h2,h3⟩:=zav hkM (Nat.le_refl _) hM hg hr
    refine⟨sv',h1,hHc,fun j hj=>Nat.lt_of_lt_of_le (hL j hj) hkl,.inr ⟨fun j o hj ho hn=>?_,h2⟩⟩
    rcases Nat.lt_or_ge j k with hjk | hjk
    · exact ((hlate j o hjk ho hn).congr fun i hi=>h1 i (by omega)).sub hHc
    · rcases h3 j o hjk hj ho with ⟨h4,h5⟩ | h4
      · exact h4
      · exact h4
  | cons N Ns=>
    obtain⟨hkN,hNM,_,_,hok'⟩:=Wo hok
    obtain⟨sv',h1,h2,h3⟩:=zav hkN (by omega) hM hg hr
    refine⟨sv',h1,hHc,fun j hj=>Nat.lt_of_lt_of_le (hL j hj) hkl,.inl ⟨N,Ns,hok',fun h=>?_,fun j o hj ho hn=>?_,h2⟩⟩
    · have:=hL N h;omega
    · rcases Nat.lt_or_ge j k with hjk | hjk
      · exact .inr ((hlate j o hjk ho hn).congr fun i hi=>h1 i (by omega))
      · exact h3 j o hjk hj ho
theorem ze3 {l:List Oper} {n M:Nat} {d:List Nat} {ic:Nat×Bool} {K:St→Prop} {Hc:HL} {g0:List (Nat×SV)} (hM:M≤l.length) {k:Nat} {o:Oper} (hk:l[k]? =some o) (hkM:k<M) {L:Nat→Prop} {sv':Nat→SV} {hc:HL} (hR:QW P G E r l n d M K Hc g0 L sv' hc ic) (hn:¬ L k)
  (hpre:∀ e∈o.after.toList,Region.binds .any e=true→L e.on) (hcl:∀ j o',l[j]? =some o'→L j→∀ e∈o'.after.toList,Region.binds .any e=true→L e.on):
  (∀t,o.dst=some t→t<n)∧((((OpOK P G hc o (xT (l.take M) sv' g0 k) (sv' k)∧zH (xA l) (xT (l.take M) sv' g0 k) o true)∨(zH (xA l) (xT (l.take M) sv' g0 k) o false∧sv' k=eqS undef))∧QW P G E r l n d M K Hc g0 (fun j=>j=k∨L j) sv' hc ic) ∨
   (zH (xA l) (xT (l.take M) sv' g0 k) o true∧∃ pre Hp suf Kl,hc=pre++Hp++suf∧OpL P G o (xT (l.take M) sv' g0 k) Hp Kl∧∀ s H',Kl s H'→∃ sv2,(∀j,(j=k∨L j)→sv2 j=VE sv' k s j)∧QW P G E r l n d M K Hc g0 (fun j=>j=k∨L j) sv2 (pre++H'++suf) ic) ∨
   (zH (xA l) (xT (l.take M) sv' g0 k) o true∧∃ Kx,OpX P G E o (xT (l.take M) sv' g0 k) ic Kx∧∀ s i',Kx s i'→∃ sv2,(∀j,(j=k∨L j)→sv2 j=VE sv' k s j)∧QW P G E r l n d M K Hc g0 (fun j=>j=k∨L j) sv2 hc i') ∨
   (zH (xA l) (xT (l.take M) sv' g0 k) o false∧∃ sv2,(∀j,(j=k∨L j)→sv2 j=VE sv' k (eqS undef) j)∧QW P G E r l n d M K Hc g0 (fun j=>j=k∨L j) sv2 hc ic)):=by
 have hkl:=yt hk
 have hpre':∀ o',l[k]? =some o'→∀ e∈o'.after.toList,Region.binds .any e=true→L e.on:=fun o' ho'=>by rw [hk] at ho';cases ho';exact hpre
 obtain⟨hHc',hlen,⟨N,Ns,hok',hLN,hf,oN,hoN,heff⟩ | ⟨hf,hrun⟩⟩:=hR
 ·obtain⟨_,hNM,haft,hok'',_⟩:=Wo hok'
  rcases Nat.lt_trichotomy k N with hkN | hkN | hkN
  ·have hfact:fact P G l M n g0 sv' hc k o:=by
    rcases hf k o hkN hk hn with ⟨h1,_⟩ | h1
    ·exact h1
    ·exact h1.sub hHc'
   exact⟨hfact.1,.inl ⟨hfact.2,hHc',fun j hj=>hj.elim (fun e=>e▸hkl) (hlen j),.inl ⟨N,Ns,hok',fun h=>h.elim (fun e=>by omega) hLN,fun j o hj ho hnL=>hf j o hj ho fun h=>hnL (.inr h),oN,hoN,heff⟩⟩⟩
  ·subst hkN
   rw [hk] at hoN;cases hoN
   have hLlt:∀ j,L j→j<k:=fun j hj=>by
    rcases Nat.lt_trichotomy j k with h1 | h1 | h1
    ·exact h1
    ·subst h1;exact absurd hj hLN
    ·exact absurd ((haft j (hlen j hj) h1).listed (L:=L) hcl fun o' ho'=>hcl j o' ho' hj) hLN
   have go:∀ (s:SV) (h2:HL) (i2:Nat×Bool),Hc.Sublist h2→zda P G E r l n d M K Ns (k+1) Hc (Wg o.dst s (xT (l.take M) sv' g0 k)) h2 i2→∃ sv2,(∀j,(j=k∨L j)→sv2 j=VE sv' k s j)∧QW P G E r l n d M K Hc g0 (fun j=>j=k∨L j) sv2 h2 i2:=fun s h2 i2 hsub hrun=>by
    have hge:xT (l.take M) (VE sv' k s) g0 (k+1)=Wg o.dst s (xT (l.take M) sv' g0 k):=by
     rw [vQ (o:=o) (by rw [xJ (by omega)];exact hk),uf]
     congr 1
     exact uc fun j hj=>xw (by omega)
    obtain⟨sv2,h1,h2⟩:=zdb (sv:=VE sv' k s) (L:=fun j=>j=k∨L j) hM hok'' hge hsub (fun j hj=>hj.elim (fun e=>by omega) fun h=>by have:=hLlt j h;omega) (by omega) (fun j o' hj ho' hnL=>by
     have hjk:j<k:=by
      have:j≠k:=fun e=>hnL (.inl e)
      omega
     rcases hf j o' hjk ho' (fun h=>hnL (.inr h)) with ⟨_,h3⟩ | h3
     ·exact absurd ((masks_reach h3).listed (L:=L) hcl hpre') (fun h=>hnL (.inr h))
     ·exact h3.congr fun i hi=>xw (by omega)) hrun
    exact⟨sv2,fun j hj=>h1 j (hj.elim (fun e=>by omega) fun h=>by have:=hLlt j h;omega),h2⟩
   rcases heff with ⟨pre,Hp,suf,Kl,hsp,hop,hg,hdst,hall⟩ | ⟨Kx,hop,hg,hdst,hall⟩ | ⟨hg,hdst,hall⟩
   ·exact⟨vP hdst,.inr (.inl ⟨hg,pre,Hp,suf,Kl,hsp,hop,fun s H' hkl'=>go s _ _ (hall s H' hkl').1 (hall s H' hkl').2⟩)⟩
   ·exact⟨vP hdst,.inr (.inr (.inl ⟨hg,Kx,hop,fun s i' hkx=>go s _ _ (hall s i' hkx).1 (hall s i' hkx).2⟩))⟩
   ·exact⟨vP hdst,.inr (.inr (.inr ⟨hg,go _ _ _ hall.1 hall.2⟩))⟩
  ·exact absurd ((haft k hkl hkN).listed (L:=L) hcl hpre') hLN
 ·have hfact:=hf k o hkM hk hn
  exact⟨hfact.1,.inl ⟨hfact.2,hHc',fun j hj=>hj.elim (fun e=>e▸hkl) (hlen j),.inr ⟨fun j o hj ho hnL=>hf j o hj ho fun h=>hnL (.inr h),hrun⟩⟩⟩
theorem Un (M:Nat) (Ns:List Nat) (Hc:HL) {l:List Oper} {Q:Exit→St→Prop} {n:Nat} {g:List (Nat×SV)} {h:HL} {d:List Nat} {i:Nat×Bool} (hok:WU l M Ns=true) (hHc:Hc.Sublist h)
  (hr:zda P G E r l n d M (fun S'=>Q .normal S') Ns 0 Hc g h i):TA P G E r l ⟨n,g,h,d,i⟩ Q:=by
 simp only [WU,Bool.and_eq_true] at hok
 obtain⟨hed,hnd,hrd,htail,hM,hN⟩:=hok
 have hM:=Nat.le_of_ble_eq_true hM
 obtain⟨sv,_,hst⟩:=zdb (sv:=fun _=>eqS undef) (L:=fun _=>False) hM hN (vG _ _ _) hHc (fun j hj=>hj.elim) (Nat.zero_le _) (fun j o hj=>absurd hj (by omega)) hr
 refine zeG (S:=⟨n,g,h,d,i⟩) (R:=fun L sv' hc ic=>QW P G E r l n d M (fun S'=>Q .normal S') Hc g L sv' hc ic) hed hnd hrd htail hM sv (fun k o hk hkM=>?_) (fun L sv' hc ic hR hall=>?_) fun L hL=>by rw [show L=fun _=>False from funext fun j=>eq_false (hL j)];exact hst
 ·exact fun L sv' hc ic hR hn hpre hcl=>ze3 hM hk hkM hR hn hpre hcl
 ·obtain⟨_,_,⟨N,Ns,hok',hLN,_⟩ | ⟨_,hrun⟩⟩:=hR
  ·obtain⟨_,hNM,_⟩:=Wo hok'
   exact absurd (hall N hNM) hLN
  ·rw [show (l.take M).length=M by simp;omega]
   exact hrun
def zgH (l:List Oper) (N:Nat):Bool:=WU l (N+2) [N,N+1]
structure EffAA (P:Program) (G:Imm) (E:Env) (r:Option Nat) (gd:Nat→Option Nat) (n:Nat) (h:HL) (d:List Nat) (ix:Nat×Bool) (oA oB:Oper) (rest:List Oper) (g:List (Nat×SV)) (K:St→Prop):Prop where
  e:∃ t m zs da x y s ds,IsZero P t zs∧HasSize P t m∧FlatC s ds∧oA.op= .alloc t∧oA.dst=some da∧oA.guard=none∧Nat.blt da n=true∧oB.op= .store t x y∧oB.dst=none∧oB.guard=none∧x= .tmp da∧y≠ .tmp da∧xd g y=some s∧ds.length=m∧zs.length=ds.length ∧
    ∀b,Run P G E r gd false rest ⟨n,(da,eqS (.pointer (some ⟨b,0,none⟩)))::g,⟨some b,t,xM (zs.map eqS) 0 ds,0⟩::h,d,ix⟩ K
theorem zkC (N:Nat) {l:List Oper} {oA oB:Oper} {Q:Exit→St→Prop} {n:Nat} {g:List (Nat×SV)} {h:HL} {d:List Nat} {i:Nat×Bool} (hok:zgH l N=true) (hoA:l[N]? =some oA) (hoB:l[N+1]? =some oB)
  (hr:RunE P G (xA l) n h h (fun _=>false) 0 (l.take N) g (fun g'=>EffAA P G E r (xA l) n h d i oA oB (l.drop (N+2)) g' (fun S'=>Q .normal S'))):TA P G E r l ⟨n,g,h,d,i⟩ Q:=by
 refine Un (N+2) [N,N+1] h hok (List.Sublist.refl _) (hr.mono (fun _ h=>by cases h) fun g' ⟨⟨t,m,zs,da,x,y,s,ds,hz,hsz,hfl,hAop,hAd,hAg,hdn,hBop,hBd,hBg,hx,hyx,hy,hm,hzl,hK⟩⟩=>⟨oA,hoA,.inl ⟨[],[],h,_,rfl,WM hAop,by simp [zH,hAg],by unfold dstOk;rw [hAd];exact hdn,?_⟩⟩)
 rintro s1 H1 ⟨b,rfl,rfl⟩
 have hyy:xd ((da,eqS (.pointer (some ⟨b,0,none⟩)))::g') y=some s:=Yb hyx hy
 have hxx:xd ((da,eqS (.pointer (some ⟨b,0,none⟩)))::g') x=some (eqS (.pointer (some ⟨b,0,none⟩))):=by rw [hx];simp [xd,look]
 refine⟨List.sublist_cons_self _ _,?_⟩
 rw [hAd]
 show RunE _ _ _ _ _ _ _ _ ((l.take (N+1)).drop (N+1)) _ _
 rw [List.drop_take,Nat.sub_self,List.take_zero]
 refine .nil ⟨oB,hoB,.inl ⟨[],[⟨some b,t,zs.map eqS,0⟩],h,_,rfl,xI (hsz:=hsz) (hf:=hfl) hBop hxx hyy hm (by rw [Nat.zero_add,List.length_map,hzl];exact Nat.le_refl _),by simp [zH,hBg],by unfold dstOk;rw [hBd],?_⟩⟩
 rintro s2 H2 ⟨_,rfl⟩
 refine⟨List.sublist_cons_self _ _,?_⟩
 rw [hBd]
 show RunE _ _ _ _ _ _ _ _ ((l.take (N+2)).drop (N+2)) _ _
 rw [List.drop_take,Nat.sub_self,List.take_zero]
 exact .nil (hK b)
theorem EffAA.mk1 {gd:Nat→Option Nat} {n:Nat} {h:HL} {d:List Nat} {ix:Nat×Bool} {oA oB:Oper} {rest:List Oper} {g:List (Nat×SV)} {K:St→Prop} {t m:TypeId} {zs:List Value} {da:Nat} {x y:Operand} {s:SV} {ds:List SV} [IsZero P t zs] [HasSize P t m] [FlatC s ds] (h1:oA.op= .alloc t) (h2:oA.dst=some da) (h3:oA.guard=none) (h4:Nat.blt da n=true) (h5:oB.op= .store t x y) (h6:oB.dst=none) (h7:oB.guard=none) (h8:x= .tmp da) (h9:y≠ .tmp da) (h10:xd g y=some s) (h11:ds.length=m) (h12:zs.length=ds.length)
  (h13:∀ b,Run P G E r gd false rest ⟨n,(da,eqS (.pointer (some ⟨b,0,none⟩)))::g,⟨some b,t,xM (zs.map eqS) 0 ds,0⟩::h,d,ix⟩ K):EffAA P G E r gd n h d ix oA oB rest g K:=
 ⟨⟨t,m,zs,da,x,y,s,ds,inferInstance,inferInstance,inferInstance,h1,h2,h3,h4,h5,h6,h7,h8,h9,h10,h11,h12,h13⟩⟩
theorem Yc [Mixed P] (N:Nat) {id:Nat} {l:List Oper} {oA oB:Oper} {y:Code} {Q:Exit→St→Prop} {n:Nat} {g:List (Nat×SV)} {h:HL} {d:List Nat} {i:Nat×Bool} (hok:zgH l N=true) (hoA:l[N]? =some oA) (hoB:l[N+1]? =some oB)
  (hr:RunE P G (xA l) n h h (fun _=>false) 0 (l.take N) g (fun g'=>EffAA P G E r (xA l) n h d i oA oB (l.drop (N+2)) g' (fun S'=>T P G E r y S' Q))):T P G E r (.seq (.region id l.toArray true) y) ⟨n,g,h,d,i⟩ Q:=
 zh (zkC N hok hoA hoB hr).T
section
variable {gd:Nat→Option Nat} {n:Nat} {g:List (Nat×SV)} {h Hc:HL} {o:Oper} {ix:Nat×Bool} {C:List (Nat×SV)→HL→Nat×Bool→Prop}
theorem EffM.loc1 (j:Nat) {t:Nat} {q:HE} {Kl:SV→HL→Prop} (ho:OpL P G o g [q] Kl) (hH:h[j]? =some q) (hg:zH gd g o true) (ht:o.dst=some t) (hd:Nat.blt t n=true) (hr:∀ s H',Kl s H'→Hc.Sublist (wh h j H')∧C ((t,s)::g) (wh h j H') ix):EffM P G E gd n Hc o g h ix C:=
 .inl ⟨h.take j,[q],h.drop (j+1),Kl,uk hH,ho,hg,by unfold dstOk;rw [ht];exact hd,fun s H' hk=>by
  have:=hr s H' hk
  rw [vn hH] at this
  rw [ht];exact this⟩
theorem EffM.loc1n (j:Nat) {q:HE} {Kl:SV→HL→Prop} (ho:OpL P G o g [q] Kl) (hH:h[j]? =some q) (hg:zH gd g o true) (ht:o.dst=none) (hr:∀ s H',Kl s H'→Hc.Sublist (wh h j H')∧C g (wh h j H') ix):EffM P G E gd n Hc o g h ix C:=
 .inl ⟨h.take j,[q],h.drop (j+1),Kl,uk hH,ho,hg,by unfold dstOk;rw [ht],fun s H' hk=>by
  have:=hr s H' hk
  rw [vn hH] at this
  rw [ht];exact this⟩
theorem EffM.env {t:Nat} {Kx:SV→Nat×Bool→Prop} (ho:OpX P G E o g ix Kx) (hs:Hc.Sublist h) (hg:zH gd g o true) (ht:o.dst=some t) (hd:Nat.blt t n=true) (hr:∀ s i',Kx s i'→C ((t,s)::g) h i'):EffM P G E gd n Hc o g h ix C:=
 .inr (.inl ⟨Kx,ho,hg,by unfold dstOk;rw [ht];exact hd,fun s i' hk=>⟨hs,by rw [ht];exact hr s i' hk⟩⟩)
theorem EffM.no {t:Nat} (hs:Hc.Sublist h) (hg:zH gd g o false) (ht:o.dst=some t) (hd:Nat.blt t n=true) (hr:C ((t,eqS undef)::g) h ix):EffM P G E gd n Hc o g h ix C:=
 .inr (.inr ⟨hg,by unfold dstOk;rw [ht];exact hd,hs,by rw [ht];exact hr⟩)
theorem EffM.append (j:Nat) {t0:Nat} {t e st bytes:Nat} {zs:List Value} [IsSl P t e st] [IsElem P e zs bytes] {x y:Operand} {q:Option (Nat×Nat)} {m:Nat} {cs:List SV} {α:Type} {f:α→List SV} {l:List α}
  (hop:o.op= .call {callee:=.builtin .append,args:= #[x,y],argTypes:= #[t,t]}) (hx:xd g x=some (eqS (rowV q m))) (hy:xd g y=some (zU st f l)) (hH:h[j]? =some (rowE q e st m cs)) (hg:zH gd g o true) (ht:o.dst=some t0) (hd:Nat.blt t0 n=true)
  (hq:yu q m) (hl:cs.length=m*st) (hf:∀ z∈l,(f z).length=st) (hb:(m+l.length)*bytes≤yP) (hm:m+l.length≤yP)
  (hr:∀ q',yu q' (m+l.length)→Hc.Sublist (wh h j [rowE q' e st (m+l.length) (cs++l.flatMap f)])∧C ((t0,eqS (rowV q' (m+l.length)))::g) (wh h j [rowE q' e st (m+l.length) (cs++l.flatMap f)]) ix):EffM P G E gd n Hc o g h ix C:=
 .loc1 j (QO hop hx hy hq hl hf hb hm) hH hg ht hd fun s H' ⟨q',e0,e1,e2⟩=>by subst e1;subst e2;exact hr q' e0
end
theorem RunE.no {P:Program} {G:Imm} {gd:Nat→Option Nat} {n:Nat} {g:List (Nat×SV)} {h Hc:HL} {early:Nat→Bool} {o:Oper} {ops:List Oper} {k t:Nat} {K:List (Nat×SV)→Prop} (hg:zH gd g o false) (ht:o.dst=some t) (hd:Nat.blt t n=true) (hr:RunE P G gd n h Hc early (k+1) ops ((t,eqS undef)::g) K):RunE P G gd n h Hc early k (o::ops) g K:=
 .skip hg (by unfold dstOk;rw [ht];exact hd) (by rw [ht];exact hr)
theorem RunE.oneB {P:Program} {G:Imm} {gd:Nat→Option Nat} {n:Nat} {g:List (Nat×SV)} {h Hc:HL} {early:Nat→Bool} {o:Oper} {ops:List Oper} {k t:Nat} {b:Bool} {K:List (Nat×SV)→Prop} (ho:OpOK P G h o g (zm b)) (hg:zH gd g o true) (ht:o.dst=some t) (hd:Nat.blt t n=true) (he:early k=true)
  (h1:b=true→RunE P G gd n h Hc early (k+1) ops ((t,zm true)::g) K) (h2:b=false→RunE P G gd n h Hc early (k+1) ops ((t,zm false)::g) K):RunE P G gd n h Hc early k (o::ops) g K:=by
 cases b with
 | true=>exact .one ho hg ht hd he (h1 rfl)
 | false=>exact .one ho hg ht hd he (h2 rfl)
theorem vj [Mixed P] (M:Nat) (Ns:List Nat) (Hc:HL) {id:Nat} {l:List Oper} {Q:Exit→St→Prop} {n:Nat} {g:List (Nat×SV)} {h:HL} {d:List Nat} {i:Nat×Bool} (hok:WU l M Ns=true) (hHc:Hc.Sublist h)
 (hr:zda P G E r l n d M (fun S'=>Q .normal S') Ns 0 Hc g h i):T P G E r (.region id l.toArray true) ⟨n,g,h,d,i⟩ Q:=(Un M Ns Hc hok hHc hr).T
theorem wH [Mixed P] (M:Nat) (Ns:List Nat) (Hc:HL) {id:Nat} {l:List Oper} {y:Code} {Q:Exit→St→Prop} {n:Nat} {g:List (Nat×SV)} {h:HL} {d:List Nat} {i:Nat×Bool} (hok:WU l M Ns=true) (hHc:Hc.Sublist h)
  (hr:zda P G E r l n d M (fun S'=>T P G E r y S' Q) Ns 0 Hc g h i):T P G E r (.seq (.region id l.toArray true) y) ⟨n,g,h,d,i⟩ Q:=
 zh (Un M Ns Hc hok hHc hr).T
theorem zaw [Mixed P] (p:List Nat) (M:Nat) (Ns:List Nat) (Hc:HL) {id:Nat} {l:List Oper} {y:Code} {Q:Exit→St→Prop} {n:Nat} {g:List (Nat×SV)} {h:HL} {d:List Nat} {i:Nat×Bool} (hp:Qb p l=true) (hok:WU (xy p l) M Ns=true) (hHc:Hc.Sublist h)
  (hr:zda P G E r (xy p l) n d M (fun S'=>T P G E r y S' Q) Ns 0 Hc g h i):T P G E r (.seq (.region id l.toArray true) y) ⟨n,g,h,d,i⟩ Q:=
 zh (zbq p hp (Un M Ns Hc hok hHc hr)).T
end
end Go.Sv
namespace Go.Sv
open Go Go.RowKit Go.ChangeShapes Go.WideShapes Go.Deep
def wz (W:World):Imm:=fun b=>match W.heap[b]? with | some (.cells c _ _)=>some c | _=>none
theorem zdc (W:World):Holds (wz W) (wz W) W:=by
 refine⟨Imm.le_refl _,fun b c h=>?_⟩
 unfold wz at h
 split at h
 ·rename_i c' e f hb
  cases h
  exact⟨e,f,hb⟩
 ·cases h
theorem Ky {W:World} {b o:Nat} {v:Value} (h:W.cell? ⟨b,o,none⟩=some v):∃ c,wz W b=some c∧c[o]? =some v:=by
 unfold World.cell? at h
 unfold wz
 split at h
 ·rename_i c e f hb
  rw [hb]
  exact⟨c,rfl,by simpa using h⟩
 ·cases h
theorem zax {P:Program} {W:World} {n:String} {g:Nat} {cs:Array Value} (hg:P.globalNamed n=some g) (h:W.var? P n=some cs):wz W g=some cs:=by
 simp only [World.var?,hg,Option.bind_some] at h
 unfold wz
 exact h
theorem zgI {α:Type} {p:Nat→α→Prop}:∀ n:Nat,(∀i,i<n→∃ y,p i y)→∃ l:List α,l.length=n∧∀ i y,l[i]? =some y→p i y
  | 0,_=>⟨[],rfl,fun i y h=>by simp at h⟩
  | n+1,h=>by
    obtain⟨l,h1,h2⟩:=zgI n fun i hi=>h i (by omega)
    obtain⟨z,hz⟩:=h n (by omega)
    refine⟨l++[z],by simp [h1],fun i y hy=>?_⟩
    by_cases hi:i<n
    · exact h2 i y (by rwa [List.getElem?_append_left (by omega)] at hy)
    · rw [List.getElem?_append_right (by omega)] at hy
      have hin:i=n:=by
        rcases Nat.lt_or_ge (i-l.length) 1 with h3 | h3
        · omega
        · rw [List.getElem?_eq_none (by simpa using h3)] at hy
          cases hy
      subst hin
      rw [h1,Nat.sub_self] at hy
      cases hy
      exact hz
section
variable {H:Type} {enc:TypeId×Value→H} {P:Program} {W:World} {base:Nat} {spare:Nat→Bool} {held:Bool}
abbrev vi (P:Program) (t:TypeId) (d:DataW H):Prop:=(d.weights P t).all (· ≤reachBytes)=true
theorem zdd {e:TypeId}:∀ {l:List (DataW H)},(DataW.weightsAll P e l).all (· ≤reachBytes)=true→∀ d∈l,vi P e d
  | [],_,_,h=>by cases h
  | _::_,hw,d,h=>by
    rw [DataW.weightsAll,List.all_append,Bool.and_eq_true] at hw
    rcases List.mem_cons.1 h with rfl | h
    · exact hw.1
    · exact zdd hw.2 d h
theorem ze4 {b o st:Nat} {ss:List SV} {cs:List Value} (hc:W.cells? base ⟨b,o,none⟩ st=some cs) (h0:0<st) (hl:ss.length=st) (hd:dens (wz W) ss cs) (h1:xF cs):cellsAt (wz W) b o ss:=by
 obtain⟨_,hlen,hcell⟩:=World.cells?_some hc
 have get:∀ i,i<st→∃ v,cs[i]? =some v∧W.cell? ⟨b,o+i,none⟩=some v:=fun i hi=>by
  have:=hcell i hi
  rw [add_plain] at this
  exact⟨cs[i]'(by omega),by simp,by rw [this];simp⟩
 obtain⟨v0,_,hv0⟩:=get 0 h0
 obtain⟨c,hI,_⟩:=Ky hv0
 refine⟨c,hI,fun i s hs=>?_⟩
 have hi:i<st:=by
  rcases Nat.lt_or_ge i ss.length with h | h
  ·omega
  ·rw [List.getElem?_eq_none h] at hs
   cases hs
 obtain⟨v,hv,hw⟩:=get i hi
 obtain⟨c',hI',hx⟩:=Ky hw
 rw [hI] at hI'
 cases hI'
 exact⟨v,hx,hd.2 i s v hs hv,h1 v (List.mem_of_getElem? hv)⟩
theorem WV {α:Type} {t e st:Nat} {f:α→List SV} {Good:α→Prop} {fuel:Nat} {cs:List Value} {x:DataW H×List MemPlace}
  (ht:P.underlying t=some (.slice e)) (hc:P.cellsOf e=st) (h0:0<st) (hb:0<P.bytesOf e) (hst:∀ y,(f y).length=st)
  (hel:∀ (n:Nat) (cs:List Value) (x:DataW H×List MemPlace),DataW.trod enc P W base spare held n e cs=some x→vi P e x.1→∃ y,Good y∧dens (wz W) (f y) cs∧xF cs)
  (h:DataW.trod enc P W base spare held fuel t cs=some x) (hw:vi P t x.1):∃ v l,cs=[v]∧(∀y∈l,Good y)∧(zU st f l).den (wz W) v:=by
 rcases open_slice ht h with ⟨rfl,rfl⟩ | ⟨a,len,cap,m,n,D,Pl,rfl,_,hl,_,hm,rfl,hx⟩
 ·exact⟨_,[],rfl,(fun _ h=>by cases h),none,0,rfl,Nat.le_refl _,Nat.zero_le _,.inl rfl⟩
 ·have hlm:len≤m:=by rw [hm];split <;> omega
  simp only [vi,DataW.weights,ht,List.all_cons,Bool.and_eq_true,List.all_append,decide_eq_true_eq,List.length_map,List.length_range] at hw
  obtain⟨hw0,hw1,_⟩:=hw
  have hbig:len≤yP:=by
   have:len*1≤(len+(m-len))*P.bytesOf e:=Nat.mul_le_mul (by omega) hb
   unfold reachBytes at hw0
   unfold yP
   omega
  rcases Nat.eq_zero_or_pos len with rfl | hpos
  ·exact⟨_,[],rfl,(fun _ h=>by cases h),some a,cap,rfl,Nat.zero_le _,Nat.zero_le _,.inl rfl⟩
  ·obtain⟨b,o,sp⟩:=a
   have hsp:sp=none:=by
    obtain⟨cs',h1,_⟩:=hx 0 (by omega)
    obtain⟨_,hlen,hcell⟩:=World.cells?_some h1
    have g0:=hcell 0 (by omega)
    rw [show cs'[0]? =some (cs'[0]'(by omega)) by simp] at g0
    simpa [Addr.add] using World.cell?_spot g0
   subst hsp
   obtain⟨l,hll,hlp⟩:=zgI (p:=fun i (y:α)=>Good y∧cellsAt (wz W) b (o+i*st) (f y)) len fun i hi=>by
    obtain⟨cs',h1,h2⟩:=hx i (by omega)
    rw [hc,add_plain] at h1
    obtain⟨y,hg,hd,ho⟩:=hel n cs' (D i,Pl i) h2 (zdd hw1 _ (List.mem_map.2 ⟨i,by simpa using hi,rfl⟩))
    exact⟨y,hg,ze4 h1 h0 (hst y) hd ho⟩
   refine⟨_,l,rfl,fun y hy=>?_,some ⟨b,o,none⟩,cap,by rw [hll],by omega,by omega,.inr ⟨b,o,rfl,fun i y hy=>(hlp i y hy).2⟩⟩
   obtain⟨i,hi⟩:=List.getElem?_of_mem hy
   exact (hlp i y hi).1
theorem Uo {t:TypeId} {f0 f1:Field} {fuel:Nat} {cs:List Value} {x:DataW H×List MemPlace} (ht:P.underlying t=some (.struct #[f0,f1])) (h0:f0.offset=0) (h1:f1.offset=P.cellsOf f0.type) (hc:P.cellsOf t=P.cellsOf f0.type+P.cellsOf f1.type)
  (h:DataW.trod enc P W base spare held fuel t cs=some x) (hw:vi P t x.1):∃ c0 c1 y0 y1 n,cs=c0++c1∧DataW.trod enc P W base spare held n f0.type c0=some y0∧vi P f0.type y0.1∧DataW.trod enc P W base spare held n f1.type c1=some y1∧vi P f1.type y1.1:=by
 obtain⟨y0,y1,n,rfl,hl,k0,k1⟩:=trod_struct2 ht h
 simp only [vi,DataW.weights,ht,DataW.weightsEach,List.map_cons,List.map_nil,List.append_nil,List.all_append,Bool.and_eq_true] at hw
 refine⟨_,_,y0,y1,n,?_,k0,hw.1,k1,hw.2⟩
 rw [h0,h1,List.drop_zero,List.take_of_length_le (l:=cs.drop _) (by rw [List.length_drop];omega),List.take_append_drop]
end
section
variable {H:Type} {enc:TypeId×Value→H} {P:Program}
theorem zmS {α:Type} {f:α→List SV} {Good:α→Prop} {W:World} {b0:Nat} {t:TypeId} {fs:Array Field} {v:Value} {d:DataW H} {ps:List MemPlace} {base:Nat} {spare:Nat→Bool} {held:Bool} (ht:P.underlying t=some (.struct fs)) (hval:Value.okWide P W .any b0 t v)
  (hd:DataW.Trod enc P W base spare held t v d ps) (hw:vi P t d) (hel:∀ n cs x,DataW.trod enc P W base spare held n t cs=some x→vi P t x.1→∃ y,Good y∧dens (wz W) (f y) cs∧xF cs):∃ y,Good y∧(zl (f y)).den (wz W) v:=by
 obtain⟨cs,rfl,_⟩:=okWide_struct ht hval
 obtain⟨n,hn⟩:=hd
 obtain⟨y,hg,h1,h2⟩:=hel n cs.toList (d,ps) (by simpa [Value.cells] using hn) hw
 exact⟨y,hg,cs.toList,by simp,h1,h2⟩
theorem zmT {W:World} {b0:Nat} {t:TypeId} {k:IntKind} {v:Value} {d:DataW H} {ps:List MemPlace} {base:Nat} {spare:Nat→Bool} {held:Bool} (ht:P.underlying t=some (.int k)) (hval:Value.okWide P W .any b0 t v)
  (hd:DataW.Trod enc P W base spare held t v d ps):∃ n:Int,(Lit.int k n).wf=true∧(intS k n).den (wz W) v:=by
 obtain⟨n,rfl,_,_,h⟩:=open_int ht hval hd
 exact⟨n,h,rfl⟩
theorem Kz {W:World} {t e:TypeId} {k:IntKind} {n fuel base:Nat} {spare:Nat→Bool} {held:Bool} {cs:List Value} {zs:List Int} {ps:List MemPlace} (ht:P.underlying t=some (.array n e)) (he:P.underlying e=some (.int k)) (hc:P.cellsOf e=1) (hn:P.cellsOf t=n) (hz:zs.length=n)
  (h:DataW.trod enc P W base spare held fuel t cs=some (.agg (zs.map fun z=>.lit (.int k z)),ps)):cs=zs.map (.int k ·):=by
 obtain⟨xs,m,rfl,hx,hlen,hxn,hel⟩:=DataW.trod_array ht h
 simp only [Prod.mk.injEq,DataW.agg.injEq] at hx
 refine List.ext_getElem (by simp;omega) fun i h1 h2=>?_
 have hi:i<n:=by omega
 have h3:=hel i hi
 rw [hc,Nat.mul_one,List.getElem?_eq_getElem (by omega)] at h3
 obtain⟨z,e1,e2,_⟩:=DataW.trod_int he h3
 have e3:(zs.map fun z=>(DataW.lit (.int k z):DataW H))[i]? =(xs.map (·.1))[i]? :=by rw [hx.1]
 rw [List.getElem?_map,List.getElem?_map,List.getElem?_eq_getElem (by omega),List.getElem?_eq_getElem (by omega)] at e3
 simp only [Option.map_some,Option.some.injEq,e2,DataW.lit.injEq,Lit.int.injEq,true_and] at e3
 have e4:(cs.drop i)[0]? =some (.int k z):=by
  have:((cs.drop i).take 1)[0]? =some (.int k z):=by rw [e1];rfl
  simpa using this
 rw [List.getElem?_drop,Nat.add_zero,List.getElem?_eq_getElem h1] at e4
 simp only [Option.some.injEq] at e4
 simp [e4,e3]
theorem Vw {W W':World} (hl:laidOutB P=true) (hb:Below W.heap.size W W'):∀ {ts:List TypeId} {vs:List Value} {ds:List (DataW H)} {ps:List MemPlace},(∀t∈ts,P.readableRec t=true∧t<P.types.size) →
    DataW.TrodAll enc P W 0 (fun _=>true) true ts vs ds ps→(∀x∈ps,x.block<W.heap.size)→DataW.TrodAll enc P W' 0 (fun b=>decide (b<W.heap.size)) true ts vs ds ps
  | [],_,_,_,_,h,_=>by
    obtain⟨rfl,rfl,rfl⟩:=trodAll_nil h
    exact trodAll_mk0
  | t::ts,_,_,_,hr,h,hlt=>by
    obtain⟨v,vs,d,ds,p,q,rfl,rfl,rfl,h1,h2⟩:=trodAll_cons h
    exact trodAll_cons_mk (Below.trod hl (hr t (by simp)).1 (hr t (by simp)).2 h1 hb fun x hx=>hlt x (by simp [hx])) (Vw hl hb (fun t ht=>hr t (by simp [ht])) h2 fun x hx=>hlt x (by simp [hx]))
theorem zil {f:Func} {s:ChangeSpec} {W W':World} {args:Array Value} {ds:List (DataW H)} {before:List MemPlace} {tb:TypeId} {b:Bool} (hl:laidOutB P=true) (hres:f.resultTypes= #[tb]) (htb:P.underlying tb=some .bool) (hvars:s.vars=[])
  (hr:∀ t∈f.params.toList,P.readableRec t=true∧t<P.types.size) (hfn:s.fn H ds={results:=[.lit (.bool b)],args:=ds})
  (hW:DataW.Whole enc P f.params.toList s.vars false W args.toList ds [] before) (hA:DataW.TrodAll enc P W 0 (fun _=>true) true f.params.toList args.toList ds before) (hb:Below W.heap.size W W'):
  s.post enc P f false true false false W args (.bool b) W':=by
 refine⟨ds,[],before,[],before,[],hW,?_,?_,?_,Below.frame hb _,fun h=>by cases h⟩
 ·rw [hres,List.append_nil,hfn]
  exact trodAll_mk1 (shut_bool htb b)
 ·rw [List.append_nil,hfn]
  exact Vw hl hb hr hA fun x hx=>by simpa using hW.lt x hx
 ·rw [hvars,List.append_nil,hfn]
  exact rfl
theorem Qj {t:TypeId} {ts:List TypeId} {d:DataW H} {ds:List (DataW H)} (h:(DataW.weightsEach P (t::ts) (d::ds)).all (· ≤reachBytes)=true):vi P t d∧(DataW.weightsEach P ts ds).all (· ≤reachBytes)=true:=by
 rw [DataW.weightsEach,List.all_append,Bool.and_eq_true] at h
 exact h
def Zi (enc:TypeId×Value→H) (P:Program) (W:World) (Q:List SV→Prop):List TypeId→List SV→Prop
 | [],ss=>Q ss.reverse
 | t::ts,ss=>∀ (b0:Nat) (v:Value) (d:DataW H) (ps:List MemPlace),Value.okWide P W .any b0 t v→DataW.Trod enc P W 0 (fun _=>true) true t v d ps→vi P t d→∃ s:SV,s.den (wz W) v∧Zi enc P W Q ts (s::ss)
section
variable {W:World} {Q:List SV→Prop} {t:TypeId} {ts:List TypeId} {ss:List SV}
theorem zde {α:Type} {f:α→List SV} {Good:α→Prop} {fs:Array Field} (ht:P.underlying t=some (.struct fs)) (hel:∀ n cs (x:DataW H×List MemPlace),DataW.trod enc P W 0 (fun _=>true) true n t cs=some x→vi P t x.1→∃ y,Good y∧dens (wz W) (f y) cs∧xF cs)
  (hn:∀ y,Good y→Zi enc P W Q ts (zl (f y)::ss)):Zi enc P W Q (t::ts) ss:=fun _ _ _ _ hv hd hw=>by
 obtain⟨y,hg,h⟩:=zmS ht hv hd hw hel
 exact⟨_,h,hn y hg⟩
theorem zdf {k:IntKind} (ht:P.underlying t=some (.int k)) (hn:∀ n:Int,(Lit.int k n).wf=true→Zi enc P W Q ts (intS k n::ss)):Zi enc P W Q (t::ts) ss:=fun _ _ _ _ hv hd _=>by
 obtain⟨n,hg,h⟩:=zmT ht hv hd
 exact⟨_,h,hn n hg⟩
theorem zdg (h:Q ss.reverse):Zi enc P W Q [] ss:=h
end
theorem QX {W:World} {Q:List SV→Prop} {base:Nat}:∀ {ts:List TypeId} {vs:List Value} {ds:List (DataW H)} {ps:List MemPlace} {acc:List SV},Zi enc P W Q ts acc→DataW.TrodAll enc P W 0 (fun _=>true) true ts vs ds ps →
    (∀(j:Nat) t v,ts[j]? =some t→vs[j]? =some v→Value.okWide P W .any base t v)→(DataW.weightsEach P ts ds).all (· ≤reachBytes)=true→ds.length=ts.length∧∃ ss,dens (wz W) ss vs∧Q (acc.reverse++ss)
  | [],_,_,_,acc,ho,h,_,_=>by
    obtain⟨rfl,rfl,rfl⟩:=trodAll_nil h
    exact⟨rfl,[],dens_nil,by simpa [Zi] using ho⟩
  | t::ts,_,_,_,acc,ho,h,hv,hw=>by
    obtain⟨v,vs,d,ds,p,q,rfl,rfl,rfl,h1,h2⟩:=trodAll_cons h
    obtain⟨w1,w2⟩:=Qj hw
    obtain⟨s,hs,ho'⟩:=ho base v d p (hv 0 t v rfl rfl) h1 w1
    obtain⟨hlen,ss,hd,hq⟩:=QX ho' h2 (fun j t' v' a b=>hv (j+1) t' v' (by simpa using a) (by simpa using b)) w2
    exact⟨by simp [hlen],s::ss,zW hs hd,by simpa using hq⟩
theorem zby {C:Checked} {f:FuncId} {fn:Func} {s:ChangeSpec} {tb:TypeId} {W:World} {base:Nat} {args:Array Value} {ds gs:List (DataW H)} {before:List MemPlace}
  (hl:laidOutB C.prog=true) (hres:fn.resultTypes= #[tb]) (htb:C.prog.underlying tb=some .bool) (hvars:s.vars=[]) (hr:∀ t∈fn.params.toList,C.prog.readableRec t=true∧t<C.prog.types.size)
  (hsfn:∀ ds:List (DataW H),ds.length=fn.params.toList.length→s.fn H ds={results:=[.lit (.bool true)],args:=ds})
  (hlaw:Zi enc C.prog W (fun ss=>zp C.prog (wz W) f ss (zm true)) fn.params.toList [])
  (hval:∀ (j:Nat) t v,fn.params[j]? =some t→args[j]? =some v→Value.okWide C.prog W .any base t v) (hW:DataW.Whole enc C.prog fn.params.toList s.vars false W args.toList ds gs before)
  (hw:(DataW.weightsEach C.prog (fn.params.toList++s.plain.varTypes C.prog) (ds++gs)).all (· ≤reachBytes)=true):
  Calls C.prog f args W fun e W'=>∃ v,e= .returned v∧s.post enc C.prog fn false true false false W args v W':=by
 have hW':=hW
 obtain⟨p,q,hA,hV,rfl,_,_⟩:=hW
 rw [hvars] at hV
 obtain⟨rfl,rfl⟩:=trodVars_none hV
 have hvt:s.plain.varTypes C.prog=[]:=by
  simp [ChangeSpec.plain,DataSpec.varTypes,hvars]
 rw [hvt,List.append_nil,List.append_nil] at hw
 rw [List.append_nil] at hW'
 obtain⟨hlen,ss,hd,hq⟩:=QX hlaw hA (fun j t v a b=>hval j t v (by simpa using a) (by simpa using b)) hw
 have hmain:=hq.main (wz W) W args.toList (zdc W) ⟨by simp [bs],fun _ h=>by cases h⟩ hd
 rw [show args.toList.toArray=args by simp] at hmain
 refine hmain.mono ?_
 rintro e W' ⟨v,I',s',H',rfl,⟨rfl,rfl⟩,hv,_,_,hf⟩
 obtain rfl:v= .bool true:=hv
 exact⟨_,rfl,zil hl hres htb hvars hr (hsfn ds hlen) hW' hA ⟨hf.os,hf.tape,hf.output,hf.size,fun k hk=>hf.old k hk (by simp [bs])⟩⟩
theorem zdh {C:Checked} {os:Os} {f:FuncId} {fn:Func} {s:ChangeSpec} {X:World→Prop} {tb:TypeId} (hX:∀ w w':World,w.heap=w'.heap→X w→X w') (own:ownKnob C.prog.godebug=none) (started:os.Started) (noInit:C.prog.inits.idxOf? f=none) (hfn:C.prog.funcs[f]? =some fn)
  (witness:∃ (w:World) (tape:Tape) (i:Input),w.os=os∧(w.forCall tape i).Shaped C.prog∧i.vars=[]∧Input.okWide C.prog (w.forCall tape i) .any w.heap.size f i ∧
   ((s.pre enc C.prog fn [] false (w.forCall tape i).memory i.args∧X (w.forCall tape i).memory)∧sizedMet enc C.prog fn (OpenSpec.ofChange s) false (w.forCall tape i).memory i.args)∧({}:Assume).holds C.prog (lone (Frame.enter C.prog f i.args .normal) [] (w.forCall tape i)))
  (hl:laidOutB C.prog=true) (hres:fn.resultTypes= #[tb]) (htb:C.prog.underlying tb=some .bool) (hvars:s.vars=[]) (hr:∀ t∈fn.params.toList,C.prog.readableRec t=true∧t<C.prog.types.size)
  (hsfn:∀ ds:List (DataW H),ds.length=fn.params.toList.length→s.fn H ds={results:=[.lit (.bool true)],args:=ds})
  (hlaw:∀ W,W.ShapedOpen C.prog→X W→Zi enc C.prog W (fun ss=>zp C.prog (wz W) f ss (zm true)) fn.params.toList []):
  ReturnsInHanded {} C os f .any (fun w args=>(s.pre enc C.prog fn [] false w args∧X w)∧sizedMet enc C.prog fn (OpenSpec.ofChange s) false w args) (s.post enc C.prog fn false true false false):=by
 refine returnsInHanded_of_calls own started noInit witness ?_
 intro w tape i _ hsh _ hok hpre _
 obtain⟨_,_,_,fn',hfn',_,_,_,_,hval⟩:=hok
 obtain rfl:fn'=fn:=Option.some.inj (hfn'.symm.trans hfn)
 obtain⟨⟨⟨ds,gs,before,hw,_⟩,hx⟩,hz⟩:=hpre
 have hw':=DataW.Whole.of_heap (w':=w.forCall tape i) (by rfl) hw
 refine (zby hl hres htb hvars hr hsfn (hlaw _ hsh (hX _ _ (by rfl) hx)) hval hw' (hz.weights hw)).mono fun e W' ⟨v,he,hp⟩=>?_
 subst he
 exact ChangeSpec.post_blind hp
end
end Go.Sv
