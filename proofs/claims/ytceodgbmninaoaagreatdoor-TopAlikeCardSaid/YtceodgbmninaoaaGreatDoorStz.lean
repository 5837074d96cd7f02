/- TopAlike. -/
import Derived.Test.YtceodgbmninaoaaGreatDoorSyb
set_option linter.all false
namespace Go.Proofs
open Go Go.Sv Num
variable {G:Imm}
theorem abk (a b:Rat):eM a b a:=by unfold eM;grind
theorem abf (a b:Rat):eM a b b:=by unfold eM;grind
end Go.Proofs
namespace Num
open Go Go.Proofs
theorem SK.uniq {I:V2->Prop} {k j:Int} (h:SK I k) (g:SK I j):k=j:=by
 rcases h with ⟨rfl,h⟩ | ⟨rfl,p,h1,a⟩ | ⟨rfl,p,q,h1,a,d⟩ <;> rcases g with ⟨rfl,g⟩ | ⟨rfl,u,c,b⟩ | ⟨rfl,u,v,c,b,e⟩
 .rfl
 .exact M1 c (h u)
 .exact M1 c (h u)
 .exact M1 h1 (g p)
 .rfl
 .exact M1 ((a u c).trans (a v b).symm) e
 .exact M1 h1 (g p)
 .exact M1 ((b p h1).trans (b q a).symm) d
 .rfl
theorem aan {a b c d f e c' d':V2} (h:∀ p,Bo a b c d p↔Bo f e c' d' p):kin a b c d=kin f e c' d':=((zuT a b c d).congr h).uniq (zuT f e c' d')
theorem abd (a b c d:V2):kin c d a b=kin a b c d:=aan fun _=>And.comm
theorem ab1 (a b c d:V2):kin b a c d=kin a b c d:=aan fun _=>by unfold Bo;rw [zuS]
theorem ab0 (a b c d:V2):kin a b d c=kin a b c d:=aan fun _=>by unfold Bo;rw [zuS (a:=c)]
end Num
namespace Num
open Go Go.Proofs
theorem ab6 {n:Nat} {c:Nat->V2} (h:Per n c) (i:Nat):c (i%n+1)=c (i+1):=by rw [<-h (i%n+1),Nat.mod_add_mod,h]
theorem aak {l:List V2} {k:Nat} (c:k<=l.length) (i:Nat):vc (l.drop k++l.take k) i=vc l (i+k):=by
 have b:(l.drop k++l.take k).length=l.length:=by rw [Aw,Cc,BG];omega
 rcases Bm l.length with a | a
 .have:l=[]:=Aa a;subst this;simp [vc]
 have hi:=Be i a;unfold vc;rw [b];have e:(i+k)%l.length=if i%l.length+k<l.length then i%l.length+k else i%l.length+k-l.length:=by
  rw [<-Nat.mod_add_mod];split
  .exact CZ C
  .rw [Nat.mod_eq_sub_mod C];exact CZ C
 rw [e,Ay,Ay];congr 1;split
 .rw [Ad (by rw [Cc];omega),AV,Ao]
 .rw [Ae (by rw [Cc];omega),Cc,Dh C];congr 1;omega
end Num
namespace Num
open Go Go.Proofs
theorem ack {l:List V2} {k:Nat} (a:k<=l.length):(l.drop k++l.take k).length=l.length:=by rw [Aw,Cc,BG];omega
theorem ab4 (a b:List Rat):(a++b).sum=a.sum+b.sum:=by
 induction a with
 | nil=>rw [BJ,CF];grind
 | cons x a ih=>rw [B1,CC,CC,ih];grind
end Num
namespace Num
open Go Go.Proofs
theorem abh {α:Type} {f:α->Nat}:∀ {l:List α} {i:Nat} {x:α},l[i]? =some x->f x<=(l.map f).sum
 | [],i,x,h=>by simp at h
 | y::l,0,x,h=>by simp at h;subst h;rw [Ar,CC];omega
 | y::l,i+1,x,h=>by
  rw [Bh] at h
  have:=abh (f:=f) h;rw [Ar,CC];omega
end Num
namespace Num
open Go Go.Proofs
theorem aa9 {l:List V2} (h:0<l.length) (a:Int):((a.tmod (l.length:Nat)+(l.length:Nat))%(l.length:Nat)).toNat<=l.length:=by
 obtain⟨K,b,e,_,_⟩:=l6 (z:=a) h;rw [e,BQ];omega
end Num
namespace Num
open Go Go.Proofs
theorem abt {α:Type} (l:List α):eF (eF l)=l:=by cases l <;> simp [eF]
end Num
namespace Num.Pl
open Go Go.Proofs
def aad (obs:List (List V2)):List T3:=obs.flatMap fun l=>Yn (l.length+1) (uh l) []
end Num.Pl
namespace Go.Proofs
open Go Go.Sv Num Num.Pl
theorem aaq (obs:List (List RawP)):Xu obs=aad (obs.map xR):=by
 unfold Xu aad;rw [Eb];congr 1;funext l;rw [show (xR l).length=l.length from BR _]
variable {G:Imm}
end Go.Proofs
set_option linter.all false
namespace Num.Pl
open Go Go.Proofs
theorem aar {α:Type} {lt:α->α->Bool} (d:Sort.SWO lt) (j:∀ x y,lt x y=false->lt y x=false->x=y) {l m:List α} (h:l.Perm m):sortL lt l=sortL lt m:=by
 have i:∀ l:List α,(sortL lt l).Pairwise fun a b=>lt b a=false:=fun l=>
  (List.pairwise_mergeSort (le:=fun a b=> !lt b a) (fun a b c h1 g=>by
   rw [DA] at *
   exact d.ntrans _ _ _ g h1) (fun a b=>by
   cases e:lt b a with
   | false=>rfl
   | true=>
    cases f:lt a b with
    | false=>rfl
    | true=>have:=d.trans _ _ _ e f;rw [d.irrefl] at this;cases this) l).imp fun h=>by simpa using h
 exact ((sortL_perm lt l).trans (h.trans (sortL_perm lt m).symm)).eq_of_pairwise (fun a b _ _ h1 g=>j a b g h1) (i l) (i m)
theorem abr {α β γ:Type} (f:α->β->List γ):∀ (l:List α) (m:List β),(l.flatMap fun a=>m.flatMap fun b=>f a b).Perm (m.flatMap fun b=>l.flatMap fun a=>f a b)
 | [],m=>by
  have:(m.flatMap fun _=>([]:List γ))=[]:=List.flatMap_eq_nil_iff.2 fun _ _=>rfl;show List.Perm [] (m.flatMap fun _=>([]:List γ));rw [this]
 | a::l,m=>by
  have c:∀ (m:List β),(m.flatMap fun b=>f a b++l.flatMap fun a=>f a b).Perm ((m.flatMap fun b=>f a b)++m.flatMap fun b=>l.flatMap fun a=>f a b):=fun m=>by
   induction m with
   | nil=>exact .refl _
   | cons b m ih=>
    rw [BM,BM,BM];refine (List.Perm.append_left _ ih).trans ?_;rw [Bw,Bw];refine List.Perm.append_left _ ?_;rw [<-Bw,<-Bw];exact List.Perm.append_right _ List.perm_append_comm
  rw [BM];exact ((abr f l m).append_left _).trans (c m).symm
theorem acl (s t:Sg):QZ t s=QZ s t:=by
 unfold QZ;split <;> rename_i h <;> split <;> rename_i g
 .rw [bn] at h g;exact M1 (bf s.1 t.1) (by rintro (k | k);exact h k;exact g k)
 .rfl
 .rfl
 .rw [bn,Classical.not_not] at h g;exact Zt g h
theorem acm (s t:Sg):Ja t s=Ja s t:=by
 unfold Ja;split <;> rename_i h <;> split <;> rename_i g
 .rw [UV] at h g;exact M1 (bf s.2 t.2) (by rintro (k | k);exact g k;exact h k)
 .rfl
 .rfl
 .rw [UV,Classical.not_not] at h g;exact Zt h g
theorem acn (s t:Sg):qB t s=qB s t:=by
 unfold qB;rw [acl,acm];have c:(YH t (QZ s t)&&YH s (QZ s t)&&YH t (Ja s t)&&YH s (Ja s t))=(YH s (QZ s t)&&YH t (QZ s t)&&YH s (Ja s t)&&YH t (Ja s t)):=by
  cases YH t (QZ s t) <;> cases YH s (QZ s t) <;> cases YH t (Ja s t) <;> cases YH s (Ja s t) <;> rfl
 rw [c];have b:=zrw s.1 s.2 t.1 t.2;by_cases d:den s.1 s.2 t.1 t.2=0
 .have d':den t.1 t.2 s.1 s.2=0:=by rw [b,d];rfl
  rw [MX d,MX d']
 .have d':¬ den t.1 t.2 s.1 s.2=0:=fun e=>d (by rw [b] at e;grind)
  have a:=zrx d;have l2:=zrx d';rw [MY d,MY d',zeO d a.1 a.2 l2.2 l2.1,Bool.and_comm (QY t _)]
theorem abx (p q:List V2):Yp q p=Yp p q:=by
 unfold Yp;rw [aar iL iP (abr _ (uc q) (uc p))];simp only [acn]
theorem aae (b:Bx) (p q:V2):Qg (Qg b p) q=Qg (Qg b q) p:=by
 unfold Qg;refine Prod.ext (Prod.ext ?_ ?_) (Prod.ext ?_ ?_) <;> simp only <;> grind
theorem aa0 {l m:List V2} (h:l.Perm m):gz l=gz m:=by
 have d:∀ {x y:V2} {L:List V2},x∈L->y∈L->L.foldl Qg (x,x)=L.foldl Qg (y,y):=fun {x y L} hx hy=>by
  have st:∀ {z:V2} (b:Bx),z∈L->L.foldl Qg b=L.foldl Qg (Qg b z):=fun {z} b hz=>by
   obtain⟨f,l2,rfl⟩:=List.append_of_mem hz;have e:(f++z::l2).Perm (z::(f++l2)):=De;rw [e.foldl_eq' (fun a _ c _ b=>aae b a c),e.foldl_eq' (fun a _ c _ b=>aae b a c),Au,Au];congr 1;unfold Qg;refine Prod.ext (Prod.ext ?_ ?_) (Prod.ext ?_ ?_) <;> simp only <;> grind
  rw [st _ hy,st (y,y) hx];congr 1;unfold Qg;refine Prod.ext (Prod.ext ?_ ?_) (Prod.ext ?_ ?_) <;> simp only <;> grind
 cases l with
 | nil=>rw [h.nil_eq]
 | cons x l=>
  cases m with
  | nil=>exact M1 h.symm.nil_eq B
  | cons y m=>
   show (x::l).foldl Qg (x,x)=(y::m).foldl Qg (y,y);rw [d (y:=y) Dv (h.mem_iff.2 Dv)];exact h.foldl_eq' (fun a _ c _ b=>aae b a c) _
theorem aby (p q:List V2):wX [q,p]=wX [p,q]:=by
 have fl:([q,p]:List (List V2)).flatten.Perm ([p,q]:List (List V2)).flatten:=by
  simp only [Bg,List.flatten_nil,BV];exact List.perm_append_comm
 have fr:yP [q,p]=yP [p,q]:=by unfold yP;rw [aa0 fl]
 have d:∀ {β:Type} (f:List V2->List β),(([q,p]:List (List V2)).flatMap f).Perm (([p,q]:List (List V2)).flatMap f):=fun f=>by
  simp only [BM,Ef,BV];exact List.perm_append_comm
 have xs:∀ b,vo [q,p] b=vo [p,q] b:=fun b=>by
  unfold vo;have e:∀ (a c:List V2),lF [a,c]=[(a,c)]:=fun a c=>rfl;rw [e,e];refine MW dd (aar g7 g9 ?_);simp only [BM,Ef,BV,abx p q];exact List.Perm.append_right _ (List.Perm.append_left _ List.perm_append_comm)
 have h:∀ b lo hi,WJ lo hi b (wg [q,p])=WJ lo hi b (wg [p,q]):=fun b lo hi=>by
  unfold WJ;split
  .rfl
  .exact MW dd (aar lI lK (List.Perm.append_right _ (((d _).filter _).map _)))
 have j:∀ b x,ZT [q,p] b x=ZT [p,q] b x:=fun b x=>by
  unfold ZT;exact Bk fun y _=>h b y.1 y.2
 have g:∀ b x l,vP [q,p] b x l=vP [p,q] b x l:=fun b x l=>by
  unfold vP;exact Bk fun i _=>MW dd (aar g7 g9 (List.Perm.append_left _ ((fl.filter _).map _)))
 unfold wX;simp only [fr,xs,j,g]
theorem ab7 (p q:List V2) (c:Ce):Jt [q,p] c=Jt [p,q] c:=by
 unfold Jt;show (!(fL q _||(fL p _||false)))= !(fL p _||(fL q _||false));rw [Bool.or_false,Bool.or_false,Bool.or_comm]
theorem ab8 {a rob':List V2} (h:rob'.Perm a) (t:T3):xh rob' t=xh a t:=by
 have e:wM (rob'.map JW)=wM (a.map JW):=by
  unfold wM ZS;rw [aar iL iP (h.map JW)]
 unfold xh iF;rw [e]
def aab (m l:List V2):Prop:=∃ k,k<=l.length/\m=l.drop k++l.take k
theorem ab9 {m l:List V2} (h:aab m l):m.Perm l:=by
 obtain⟨k,_,rfl⟩:=h;have:=List.perm_append_comm (l₁:=l.drop k) (l₂:=l.take k);rwa [BB] at this
theorem aca {m l:List V2} (h:aab m l) {e:V2×V2}:e∈uc m↔e∈uc l:=by
 obtain⟨k,a,rfl⟩:=h;have b:=ack a;unfold uc;rw [b];simp only [Bc,AI];constructor
 .rintro⟨i,hi,rfl⟩;refine⟨(i+k)%l.length,Be _ (by omega),?_⟩;rw [aak a,aak a,show i+1+k=i+k+1 by omega,<-zmE l (i+k),<-ab6 (zmE l) (i+k),zmE]
 .rintro⟨i,hi,rfl⟩;refine⟨(i+(l.length-k))%l.length,Be _ (by omega),?_⟩;have e:∀ j,vc l ((i+(l.length-k))%l.length+j+k)=vc l (i+j):=fun j=>by
   rw [<-zmE l,An,Nat.mod_add_mod,show i+(l.length-k)+(j+k)=i+j+l.length by omega,Nat.add_mod_right,zmE]
  have d:=e 0;have c:=e 1;rw [aak a,aak a,show (i+(l.length-k))%l.length+1+k=(i+(l.length-k))%l.length+1+k from rfl];exact Prod.ext d c
theorem aau {α:Type} {p:α->Bool} {l m:List α} (h:∀ x,x∈l↔x∈m):l.any p=m.any p:=by
 rw [DR,EE,EE];exact⟨fun⟨x,a,b⟩=>⟨x,(h x).1 a,b⟩,fun⟨x,a,b⟩=>⟨x,(h x).2 a,b⟩⟩
theorem acb {m l:List V2} (h:aab m l) (b:List V2):ia m b=ia l b:=by
 unfold ia;rw [aau fun x=>aca h];congr 1;refine MW (List.any _) (funext fun e=>?_);unfold Qf;rw [DR,B9,B9];exact⟨fun g x hx=>g x ((ab9 h).mem_iff.2 hx),fun g x hx=>g x ((ab9 h).mem_iff.1 hx)⟩
theorem abs {m l:List V2} (h:aab m l) {b ts':List T3} (hp:ts'.Perm b) (p:V2):Js m ts' p=Js l b p:=by
 have e:∀ t,ia (m.map fun a=>add2 a p) (Zu t)=ia (l.map fun a=>add2 a p) (Zu t):=fun t=>acb (by
  obtain⟨k,c,rfl⟩:=h
  exact⟨k,by rw [BR];exact c,by rw [Cp,List.map_drop,List.map_take]⟩) _
 unfold Js;rw [DR,B9,B9];exact⟨fun g t ht=>by rw [<-e];exact g t (hp.mem_iff.2 ht),fun g t ht=>by rw [e];exact g t (hp.mem_iff.1 ht)⟩
theorem abo {m l:List V2} (h:aab m l) {f ts':List T3} (hp:ts'.Perm f) (k:f.length<=2) (q:V2×V2):(wV (vb m ts') q).1=(wV (vb l f) q).1:=by
  have ps:ts'.map (xh m)=ts'.map (xh l):=Bk fun t _=>ab8 (ab9 h) t;have two:ts'=f\/∃ a b,f=[a,b]/\ts'=[b,a]:=by
    have j:=hp.length_eq
    match f,ts',k,j with
    | [],[],_,_=>exact .inl Z
    | [a],[b],_,_=>have:=hp.mem_iff.1 (EA b);rw [AS.1 this];exact .inl Z
    | [a,b],[c,d],_,_=>
      have pc:=hp.mem_iff.1 (show c∈[c,d] from Dv);simp only [DZ,D6,or_false] at pc;rcases pc with rfl | rfl
      . have:=(List.perm_cons c).1 hp
        have:=this.mem_iff.1 (EA d);rw [AS.1 this];exact .inl Z
      . have:=(List.perm_cons c).1 (hp.trans (En c a []))
        have:=this.mem_iff.1 (EA d);rw [AS.1 this];exact .inr ⟨_,_,Z,Z⟩
  have p:wX (ts'.map (xh m))=wX (f.map (xh l)):=by
    rw [ps];rcases two with e | ⟨a,b,g,e2⟩
    . rw [e]
    . rw [g,e2];exact aby _ _
  have o:∀ c,Jt (ts'.map (xh m)) c=Jt (f.map (xh l)) c:=fun c=>by
    rw [ps];rcases two with e | ⟨a,b,g,e2⟩
    . rw [e]
    . rw [g,e2];exact ab7 _ _ c
  have n:Jt (ts'.map (xh m))=Jt (f.map (xh l)):=funext o;have i:∀ s t,Zn (vb m ts') s t=Zn (vb l f) s t:=fun s t=>by
    unfold Zn uL zfq vb;simp only [p,n]
  unfold wV;rw [(FV:(vb m ts').rob=m),(FV:(vb l f).rob=l),(FV:(vb m ts').tris=ts'),(FV:(vb l f).tris=f),abs h hp,abs h hp,i]
end Num.Pl
set_option linter.all false
namespace Num.Pl
open Go Go.Proofs
theorem abg {l:List V2}:∀ g,0<g->g<=l.length->∃ i:Nat,Zc l g=i/\i<g/\∀ j,j<g->le2 (l.getD i (0,0)) (l.getD j (0,0))
  | 0,h,_=>M1 h (Nat.lt_irrefl _)
  | g+1,_,hg=>by
    unfold Zc
    by_cases c:g=0
    . subst c
      rw [MX (.inl (J:(-1:Int)<0))];exact⟨0,Z,by omega,fun j a=>by rw [(C:j=0)];exact Vs _⟩
    . obtain⟨i,e,hi,h⟩:=abg (l:=l) g (by omega) (by omega)
      rw [e,BQ]
      by_cases d:vN (l.getD g (0,0)) (l.getD i (0,0))<0
      . rw [MX (.inr d)]
        have d':=(bf (l.getD g (0,0)) (l.getD i (0,0))).resolve_right (UV.1 d);refine⟨g,Z,by omega,fun j a=>?_⟩
        rcases Nat.lt_succ_iff_lt_or_eq.1 a with k | rfl
        . exact XR d' (h j k)
        . exact Vs _
      . rw [MY (by omega)]
        refine⟨i,Z,by omega,fun j a=>?_⟩
        rcases Nat.lt_succ_iff_lt_or_eq.1 a with k | rfl
        . exact h j k
        . exact Classical.not_not.1 fun k=>d (UV.2 k)
theorem abn {β:Type} {f:List V2->β} (h:∀ a r,2<=r.length->r.length<=3->f (r++[a])=f (a::r)) {l:List V2} (c:3<=l.length) (b:l.length<=4):∀ k,k<=l.length->f (l.drop k++l.take k)=f l
 | 0,_=>by simp
 | k+1,hk=>by
  rw [<-abn h c b k (by omega),AO (C:k<l.length),B1,<-h _ _ GV GV,Bw,List.take_append_getElem]
def aac (l:List V2):List V2:=Wj l (ko l) false
theorem aaz {l:List V2} (h:0<l.length):∃ i,i<l.length/\aac l=l.drop i++l.take i/\∀ x∈l,le2 (l.getD i (0,0)) x:=by
 obtain⟨i,e,hi,k⟩:=abg (l:=l) l.length h (Af _);refine⟨i,hi,?_,fun x hx=>?_⟩
 .unfold aac Wj ko;rw [e];have:(((i:Nat):Int).tmod (l.length:Nat)+(l.length:Nat))%(l.length:Nat)=(i:Nat):=by
   rw [Int.tmod_eq_of_lt C C,Int.add_emod_right,Int.emod_eq_of_lt C C]
  simp only [Bool.false_eq_true,if_false];rw [this,BQ]
 .obtain⟨j,a,rfl⟩:=List.getElem_of_mem hx;have:=k j a;rwa [Ay (i:=j),AL a] at this
theorem aam {a:V2} {r:List V2} (h:(a::r).Nodup) (d:2<=r.length) (c:r.length<=3):aac (r++[a])=aac (a::r):=by
 obtain⟨i,hi,e,k⟩:=aaz (l:=r++[a]) B;obtain⟨j,b,f,m⟩:=aaz (l:=a::r) B;rw [e,f]
 match r,d,c with
 | [_,_],_,_ | [_,_,_],_,_=>
  simp at h hi b k m
  rcases (by omega:i=0\/i=1\/i=2\/i=3) with rfl | rfl | rfl | rfl <;> rcases (by omega:j=0\/j=1\/j=2\/j=3) with rfl | rfl | rfl | rfl <;> first | rfl | (simp at* <;> grind [Zt])
theorem aas {β:Type} {f:List V2->β} (h:∀ a r,2<=r.length->r.length<=3->f (r++[a])=f (a::r)) {m l:List V2} (b:aab m l) (e:3<=l.length) (d:l.length<=4):f m=f l:=by
 obtain⟨k,c,rfl⟩:=b;exact abn h e d k c
theorem aav (l:List V2):aab l l:=⟨0,BL _,B⟩
theorem aap (l:List V2) (k:Int):aab (Wj l k false) l:=by
 by_cases h:0<l.length
 .exact⟨_,aa9 h k,by unfold Wj;simp⟩
 .obtain rfl:l=[]:=Aa C;rw [zfc];exact aav _
theorem abe {l:List V2} (h:ZW l=true):3<=l.length:=by unfold ZW at h;simp at h;exact h.1
theorem aa3 {a b c:V2}:ZW [a,b,c]=true↔[a,b,c].Nodup/\kin a b b c=1/\kin a b c a=1/\kin b c c a=1:=by
 simp [ZW,eG,zcS,vc,KI,Co];grind
theorem aa4 {a b c d:V2}:ZW [a,b,c,d]=true↔[a,b,c,d].Nodup/\kin a b b c=1/\kin a b c d=0/\kin a b d a=1/\kin b c c d=1/\kin b c d a=0/\kin c d d a=1:=by
 simp [ZW,eG,zcS,vc,KI,Co];grind
theorem acd (a:V2) (r:List V2) (c:2<=r.length) (b:r.length<=3):ZW (r++[a])=ZW (a::r):=by
 match r,c,b with
 | [_,_],_,_ | [_,_,_],_,_=>simp [ZW,eG,zcS,vc,KI,Co];grind [abd]
theorem aa1 {l:List V2} (h:ZW l=true) (e:l.length<=4):l.Nodup:=by
 match l,abe h,e with
 | [a,b,c],_,_=>exact (aa3.1 h).1
 | [a,b,c,d],_,_=>exact (aa4.1 h).1
theorem aa5 {l:List V2} (b:3<=l.length) (a:l.length<=4):ZW (eF l)=ZW l:=by
 match l,b,a with
 | [_,_,_],_,_ | [_,_,_,_],_,_=>simp [eF,ZW,eG,zcS,vc,KI,Co];grind [abd,ab1,ab0]
theorem aba (a:V2) (r:List V2) (c:2<=r.length) (b:r.length<=3):Ut (r++[a])=Ut (a::r):=by
 unfold Ut;rw [acd a r c b]
 match r,c,b with
 | [_,_],_,_ | [_,_,_],_,_=>simp [ue,trn,vc,Co];grind
theorem aai {a b c:V2}:gK [a,b,c]=x2 a b+(x2 b c+(x2 c a+0)):=by simp [gK,fb,Co,vc]
theorem aaj {a b c d:V2}:gK [a,b,c,d]=x2 a b+(x2 b c+(x2 c d+(x2 d a+0))):=by simp [gK,fb,Co,vc]
theorem aa6 (a:V2) (r:List V2) (c:2<=r.length) (b:r.length<=3):gK (r++[a])=gK (a::r):=by
 match r,c,b with
 | [_,_],_,_ | [_,_,_],_,_=>simp [gK,fb,Co,vc];grind
theorem ace {l:List V2} (b:3<=l.length) (a:l.length<=4):gK (eF l)= -gK l:=by
 match l,b,a with
 | [_,_,_],_,_ | [_,_,_,_],_,_=>simp [eF,gK,fb,Co,vc,x2];grind
def aal (a b:V2) (t:Rat):V2:=(a.1+t*(b.1-a.1),a.2+t*(b.2-a.2))
theorem abi {a b:V2} {t:Rat} (d:0<=t) (g:t<=1):em a b (aal a b t):=by
 have bt:∀ u v:Rat,eM u v (u+t*(v-u)):=fun u v=>by
  by_cases c:u<=v
  .have f:=DN d (GZ:0<=v-u);have e:=DN (GZ:0<=1-t) (GZ:0<=v-u);exact .inl ⟨by grind,by grind⟩
  .have f:=DN d (GZ:0<=u-v);have e:=DN (GZ:0<=1-t) (GZ:0<=u-v);exact .inr ⟨by grind,by grind⟩
 exact⟨by unfold aal cr qz;grind,bt _ _,bt _ _⟩
theorem acf {a b c d p:V2} (h:Bo a b c d p) (e:kin a b c d=0):False:=by
 rcases zuT a b c d with ⟨_,k⟩ | ⟨k,_⟩ | ⟨k,_⟩
 .exact k p h
 .rw [e] at k;cases k
 .rw [e] at k;cases k
theorem acg {a b c d p q:V2} (h:kin a b c d=1) (hp:Bo a b c d p) (hq:Bo a b c d q):p=q:=by
 rcases zuT a b c d with ⟨k,_⟩ | ⟨_,r,_,k⟩ | ⟨k,_⟩
 .rw [h] at k;cases k
 .rw [k p hp,k q hq]
 .rw [h] at k;cases k
theorem aaw {l:List V2} (h:ZW l=true) (y:l.length<=4):gK l≠0:=by
  match l,abe h,y with
  | [a,b,c],_,_=>
    intro e;rw [aai] at e;obtain⟨i,k1,v,k2⟩:=aa3.1 h;rw [<-abd] at v;simp at i;have z:cr a b c=0:=by unfold x2 at e;unfold cr qz;grind
    have zb:cr c a b=0:=by unfold x2 at e;unfold cr qz;grind
    have zc:cr b c a=0:=by unfold x2 at e;unfold cr qz;grind
    have D:∀ {p q:V2},p≠q->p.1≠q.1\/p.2≠q.2:=fun {p q} h=>by
      by_cases e:p.1=q.1
      . exact .inr fun f=>h (Prod.ext e f)
      . exact .inl e
    have le:∀ p q:V2,em p q q/\em p q p:=fun p q=>⟨⟨Vt _ _,abf _ _,abf _ _⟩,⟨QI _ _,abk _ _,abk _ _⟩⟩
    -- one of the three lies between the others
    have s:em a b c\/em b c a\/em c a b:=by
      have r:=fun p q:V2=>bf p q;rcases r a b with h1 | h1 <;> rcases r b c with k | k <;> rcases r c a with j | j
      . exact M1 (Zt h1 (XR k j)) i.1.1
      . exact .inr (.inr (zuS.1 ((Za j).2 ⟨by rw [show cr a c b= -cr c a b from zrq ..];rw [zb];rfl,h1,k⟩)))
      . exact .inr (.inl (zuS.1 ((Za k).2 ⟨by rw [show cr c b a= -cr b c a from zrq ..];rw [zc];rfl,j,h1⟩)))
      . exact .inl ((Za h1).2 ⟨z,j,k⟩)
      . exact .inl (zuS.1 ((Za h1).2 ⟨by rw [show cr b a c= -cr a b c from zrq ..];rw [z];rfl,k,j⟩))
      . exact .inr (.inl ((Za k).2 ⟨zc,h1,j⟩))
      . exact .inr (.inr ((Za j).2 ⟨zb,k,h1⟩))
      . exact M1 (Zt (XR j k) h1) i.1.1
    rcases s with t | t | t
    . exact i.2 (acg k1 ⟨(le a b).1,(le b c).2⟩ ⟨t,(le b c).1⟩)
    . exact (Ne.symm i.1.2) (acg k2 ⟨(le b c).1,(le c a).2⟩ ⟨t,(le c a).1⟩)
    . exact i.1.1 (acg v ⟨(le c a).1,(le a b).2⟩ ⟨t,(le a b).1⟩)
  | [a,b,c,d],_,_=>
    intro e;rw [aaj] at e;obtain⟨i,_,k1,_,_,k2,_⟩:=aa4.1 h;simp at i;have par:x2 (Yw c a) (Yw d b)=0:=by unfold x2 at *;unfold Yw;grind
    have A:∀ x:Rat,0<=x*x:=fun x=>by
      rcases Rat.le_total (a:=0) (b:=x) with g | g
      . exact DN g g
      . have:=DN (GZ:0<= -x) (GZ:0<= -x);grind
    -- d - b is so many times c - a
    obtain⟨m,E,m2⟩:∃ m:Rat,d.1-b.1=m*(c.1-a.1)/\d.2-b.2=m*(c.2-a.2):=by
      unfold x2 Yw at par;simp only at par
      by_cases g:c.1-a.1=0
      . have w:c.2-a.2≠0:=fun f=>i.1.2.1 (Prod.ext (by grind) (by grind))
        have q:(d.2-b.2)/(c.2-a.2)*(c.2-a.2)=d.2-b.2:=DO w;refine⟨(d.2-b.2)/(c.2-a.2),?_,q.symm⟩;rw [g] at par;have:(c.2-a.2)*(d.1-b.1)=0:=by grind
        rw [mz this w,g];grind
      . have q:(d.1-b.1)/(c.1-a.1)*(c.1-a.1)=d.1-b.1:=DO g
        refine⟨(d.1-b.1)/(c.1-a.1),q.symm,?_⟩;have:(c.1-a.1)*((d.2-b.2)-(d.1-b.1)/(c.1-a.1)*(c.2-a.2))=0:=by grind
        have:=mz this g
        grind
    by_cases F:0<=m
    . have p:0<1+m:=by grind
      have q:m/(1+m)*(1+m)=m:=DO fun c=>by rw [c] at p;exact DL p
      generalize m/(1+m)=t at *
      have o:0<=t:=ED.1 fun c=>by have:=DM (GZ:0< -t) p;grind
      have n:t<=1:=ED.1 fun c=>by have:=DM (GZ:0<t-1) p;grind
      have u:aal b c t=aal d a t:=by unfold aal;exact Prod.ext (by grind) (by grind)
      exact acf ⟨abi o n,by rw [u];exact abi o n⟩ k2
    . have p:0<1-m:=by grind
      have q:1/(1-m)*(1-m)=1:=DO fun c=>by rw [c] at p;exact DL p
      generalize 1/(1-m)=t at *
      have o:0<=t:=ED.1 fun c=>by have:=DM (GZ:0< -t) p;grind
      have n:t<=1:=ED.1 fun c=>by have:=DM (GZ:0<t-1) (GZ:0< -m);grind
      have u:aal a b t=aal c d t:=by unfold aal;exact Prod.ext (by grind) (by grind)
      exact acf ⟨abi o n,by rw [u];exact abi o n⟩ k1
theorem abc (l:List V2):uh l=aac (if vK (gK l) 0<0 then eF l else l):=rfl
theorem aa7 {a:V2} {r:List V2} (h:ZW (a::r)=true) (f:2<=r.length) (e:r.length<=3):uh (r++[a])=uh (a::r):=by
 have g:=aa1 h GV;rw [abc,abc,aa6 a r f e];split
 .match r,f,e with
  | [b,c],_,_=>exact (aam (a:=b) (r:=[a,c]) (by simp at *;grind) B B).symm
  | [b,c,d],_,_=>exact (aam (a:=b) (r:=[a,d,c]) (by simp at *;grind) B B).symm
 .exact aam g f e
theorem abq {m l:List V2} (h:aab m l) (b:ZW l=true) (c:l.length<=4):uh m=uh l:=by
 have d:=abe b;have:=aas (f:=fun l=>if ZW l=true then uh l else []) (fun a r i j=>by
  simp only [acd a r i j];split
  .exact aa7 (by assumption) i j
  .rfl) h d c
 simpa only [aas acd h d c,b,if_true] using this
theorem ach {l:List V2} (a:ZW l=true) (b:l.length<=4):uh (eF l)=uh l:=by
 have d:=abe a;have e:=aaw a b;have tn:∀ x:Rat,vK x 0<0↔x<0:=fun x=>vG;rw [abc,abc,ace d b]
 by_cases c:gK l<0
 .rw [MY (by rw [tn];grind),MX ((tn _).2 c)]
 .rw [MX ((tn _).2 GZ),MY (by rw [tn];exact c),abt]
def aaf (k:Int) (i:Nat) (r:List V2):List V2:=if (k+i).tmod 2=0 then eF (Wj r (k+i) false) else Wj r (k+i) false
theorem aao (k:Int) (i:Nat) (r:List V2):(aaf k i r).length=r.length:=by unfold aaf;split <;> simp [KY,Yl]
theorem aax (k:Int) (i:Nat) {r:List V2} (a:ZW r=true) (b:r.length<=4):ZW (aaf k i r)=true:=by
 have e:=aas acd (aap r (k+i)) (abe a) b;unfold aaf;split
 .rw [aa5 (by rw [Yl];exact abe a) (by rw [Yl];exact b),e,a]
 .rw [e,a]
theorem abu {k:Int} {i:Nat} {r:List V2} {p:V2} (h:p∈aaf k i r):p∈r:=by
 unfold aaf at h
 split at h
 .exact zfb (ziO.1 h)
 .exact zfb h
theorem ab3 {k:Int} {i:Nat} {r:List V2} (a:ZW r=true) (b:r.length<=4):uh (aaf k i r)=uh r:=by
 unfold aaf;split
 .rw [ach (by rw [aas acd (aap r _) (abe a) b];exact a) (by rw [Yl];exact b),abq (aap r _) a b]
 .exact abq (aap r _) a b
def aag (k:Int) (obs:List (List V2)) (i:Nat):List (List V2):=(List.range i).map fun j=>aaf k j (obs.getD (obs.length-1-j) [])
theorem abb {β:Type} (f:List V2->β) {k:Int} {obs:List (List V2)} (hf:∀ i r,r∈obs->f (aaf k i r)=f r):(aag k obs obs.length).map f=(obs.map f).reverse:=by
 unfold aag;refine Dj B fun i h1 a=>?_;simp at h1
 rw [List.getElem_map,List.getElem_map,List.getElem_range,List.getElem_reverse,List.getElem_map,Ay,AL C];simp only [AA,BR];exact hf _ _ (Bf _)
theorem abj {k:Int} {obs:List (List V2)} {r:List V2} (h:r∈aag k obs obs.length):∃ i,∃s∈obs,r=aaf k i s:=by
 unfold aag at h
 obtain⟨j,a,rfl⟩:=Bc.1 h;have a:=AI.1 a;refine⟨j,_,?_,Z⟩;rw [Ay,AL C];exact Bf _
theorem abl {k:Int} {obs:List (List V2)} (h:∀ r∈obs,ZW r=true/\r.length<=4):(aad (aag k obs obs.length)).Perm (aad obs):=by
 have e:aad (aag k obs obs.length)=((aag k obs obs.length).map fun l=>Yn (l.length+1) (uh l) []).flatten:=by unfold aad;rw [BW]
 have e2:aad obs=(obs.map fun l=>Yn (l.length+1) (uh l) []).flatten:=by unfold aad;rw [BW]
 rw [e,e2,abb (fun l=>Yn (l.length+1) (uh l) []) fun i r hr=>by rw [aao,ab3 (h r hr).1 (h r hr).2]];exact (List.reverse_perm _).flatten
end Num.Pl
set_option linter.all false
namespace Num.Pl
open Go Go.Lib Go.Proofs
def aaa (k:Int) (q:QS):QS:=(Wj q.1 k false,aag k q.2.1 q.2.1.length,q.2.2)
theorem aa8 {k:Int} {q:QS} {p:V2} (h:p∈vC (aaa k q)):p∈vC q:=by
 unfold vC aaa at *;rcases Bu.1 h with h | h
 .exact Ei _ (zfb (show p∈Wj q.1 k false from h))
 .rcases Bu.1 h with h | h
  .obtain⟨l,b,hp⟩:=EH.1 h;obtain⟨i,s,a,rfl⟩:=abj b;exact Ej _ (Ei _ (EH.2 ⟨s,a,abu hp⟩))
  .exact Ej _ (Ej _ h)
theorem aat (k:Int) (obs:List (List V2)) (n:Nat):(aag k obs n).length=n:=by unfold aag;simp
theorem abm {α β:Type} (f:α->β) (p:β->Bool) (l:List α):l.any (fun x=>p (f x))=(l.map f).any p:=by rw [List.any_map];rfl
theorem aay (k:Int) {q:QS} (f:Xh q=0) (b:q.1.length<=4) (d:∀ r∈q.2.1,ZW r=true/\r.length<=4):Xh (aaa k q)=0:=by
 have e:((aag k q.2.1 q.2.1.length).map fun r=>(r.length,ZW r))=(q.2.1.map fun r=>(r.length,ZW r)).reverse:=abb _ fun i r b=>by rw [aao,aax k i (d r b).1 (d r b).2,(d r b).1]
 have a:∀ p:Nat×Bool->Bool,((aag k q.2.1 q.2.1.length).any fun r=>p (r.length,ZW r))=q.2.1.any fun r=>p (r.length,ZW r):=fun p=>by
  rw [abm (fun r:List V2=>(r.length,ZW r)),e,List.any_reverse,abm (fun r:List V2=>(r.length,ZW r))]
 have s:((aag k q.2.1 q.2.1.length).map fun r=>r.length-2).sum=(q.2.1.map fun r=>r.length-2).sum:=by
  rw [abb (fun r:List V2=>r.length-2) fun i r _=>by rw [aao]];exact (List.reverse_perm _).sum_nat
 have j:=a fun x=> !cu x.1 6;have g:=a fun x=> !x.2;have c:Ut (Wj q.1 k false)=Ut q.1:=by
  by_cases h:3<=q.1.length
  .exact aas aba (aap ..) h b
  .unfold Ut ZW;rw [Yl,MS h];simp
 rw [<-f];unfold Xh aaa;simp only [Yl,aat,c,s] at *;rw [j,g]
section
variable {t:List UInt8} {k:Int} (hf:Qk t=true) (h0:(textF t).2=0)
include hf h0
theorem ab5:Xh (textF t).1=0:=by
 obtain⟨hp,e⟩:=nz h0;rw [e];unfold textF at h0
 rw [MX hp] at h0
 by_cases c:Xh (yS t).1=0
 .exact c
 .rw [MY c] at h0;exact M1 h0 c
theorem abp:∀ r∈(textF t).1.2.1,ZW r=true/\r.length<=4:=fun r b=>by
 have a:=ab5 hf h0;refine⟨?_,?_⟩
 .unfold Xh at a
  split at a
  .cases a
  .split at a
   .cases a
   .split at a
    .cases a
    .rename_i c;rw [Bool.not_eq_false,DA] at c;have:=Ey.1 c r b
     simpa using this
 .unfold Qk at hf
  rw [show decide ((textF t).2≠0)=false from MS (fun c=>c h0),AF] at hf
  simp only [AD,decide_eq_true_eq] at hf
  have h1:((Uf (textF t).1).2.1.map fun r=>r.length-2).sum<=2:=hf.2.1.1.1;obtain⟨i,hi⟩:=Dr (show Ue r∈(Uf (textF t).1).2.1 from List.mem_map_of_mem b);have:=abh (f:=fun r:List RP=>r.length-2) hi;have l:(Ue r).length=r.length:=BR _;omega
theorem abw:textF (prT (aaa k (textF t).1))=(aaa k (textF t).1,0)/\bT (prT (aaa k (textF t).1))/\ScOk (Uf (aaa k (textF t).1)) 1 5000:=by
 have hx:=u9 hf;have a:=hx.ok h0;have n:=abp hf h0;have E:=ab5 hf h0;obtain⟨hp,e⟩:=nz h0;obtain⟨z,y,w,F,_⟩:=(WH t).1 hp;rw [<-e] at z y w F;obtain⟨q,hq⟩:∃ q,q=(textF t).1:=⟨_,Z⟩;rw [<-hq] at z y w F a E n ⊢;have b:∀ p∈vC (aaa k q),nD p.1<=6/\nD p.2<=6:=fun p hp=>w p (aa8 hp);have d:Xh (aaa k q)=0:=aay k E a.fw.r4 n;have M:(aaa k q).1≠[]:=fun c=>z (Aa (by have:=MW List.length c;rwa [(FV:(aaa k q).1=Wj q.1 k false),Yl] at this))
 have L:∀ l∈(aaa k q).2.1,l≠[]:=fun l o c=>by
  obtain⟨i,s,j,rfl⟩:=abj o;exact y s j (Aa (by have:=MW List.length c;rwa [aao] at this))
 have N:yS (prT (aaa k q))=(aaa k q,0):=by
  rw [zlC (q:=aaa k q) M L (fun p hp=>⟨by have:=(b p hp).1;omega,by have:=(b p hp).2;omega⟩),MY];intro h;obtain⟨p,hp,h⟩:=lV.1 h;have:=b p hp;omega
 have e2:textF (prT (aaa k q))=(aaa k q,0):=by unfold textF;rw [N];exact (MX Z).trans (MX d)
 have K:=hx.len;have v:(aag k q.2.1 q.2.1.length).flatten.length=q.2.1.flatten.length:=by
  rw [List.length_flatten,List.length_flatten,abb List.length fun i r _=>aao k i r];exact (List.reverse_perm _).sum_nat
 have H:(vC (aaa k q)).length=(vC q).length:=by
  unfold vC aaa;simp only [Aw,Yl,v]
 have g:ScOk (Uf (aaa k q)) 1 5000:=zr6 J (fun p hp=>⟨fH (b p hp).1,fH (b p hp).2⟩) C (by show (aag k q.2.1 q.2.1.length).length+q.2.2.length+1<=5000;rw [aat];omega);have tp:(Xu ((aaa k q).2.1.map Ue)).Perm (Xu (q.2.1.map Ue)):=by
  have pv:∀ l:List (List V2),(l.map Ue).map xR=l:=fun l=>by rw [As];exact (Bk fun r _=>m5 r).trans (Dm _)
  rw [aaq,aaq,pv,pv];exact abl n
 refine⟨e2,⟨s9 d a.qn b,fun _=>?_⟩,g⟩;rw [e2];refine⟨?_,fun l o=>?_,?_,a.qb,a.qn⟩
 .have f:=a.fw;refine⟨?_,?_,fun p hp=>f.rb p (zfb (show p∈Wj q.1 k false from hp)),fun u hu=>f.tb u (tp.mem_iff.1 hu),by rw [tp.length_eq];exact f.t2⟩
  .show 0<(Wj q.1 k false).length;rw [Yl];exact f.r0
  .show (Wj q.1 k false).length<=4;rw [Yl];exact f.r4
 .obtain⟨m,I,rfl⟩:=Bc.1 o;obtain⟨i,s,j,rfl⟩:=abj I;obtain⟨D,A,G⟩:=a.ob _ (List.mem_map_of_mem j);have ll:∀ r:List V2,(Ue r).length=r.length:=fun r=>BR _;rw [ll] at D A;refine⟨by rw [ll,aao];exact D,by rw [ll,aao];exact A,fun p hp=>?_⟩
  obtain⟨x,hx,rfl⟩:=Bc.1 hp;exact G _ (List.mem_map_of_mem (abu hx))
 .show (aag k q.2.1 q.2.1.length).length<=1000;rw [aat];exact a.on
theorem ab2:(ZZ (prT (aaa k (textF t).1))).map (·.1)=(ZZ t).map (·.1):=by
 have e:=(abw (k:=k) hf h0).1;have b:=((u9 hf).ok h0).fw;have a:=abp hf h0;unfold ZZ gN;rw [e,MX Z,MX h0];unfold aaa;rw [As,As];refine Bk fun x _=>?_;have pv:∀ l:List (List V2),(l.map Ue).map xR=l:=fun l=>by rw [As];exact (Bk fun r _=>m5 r).trans (Dm _)
 refine abo (aap _ k) ?_ b.t2 x;rw [aaq,aaq,pv,pv];exact abl a
end
end Num.Pl
namespace Go.Proofs
open Go Go.Sv Num Num.Pl
variable {G:Imm}
theorem aa2 (l:List V2):(l.flatMap zL).length=l.length*6:=yG (f:=zL) GY l
theorem aci {l:List V2} {g:Nat} (h:g<l.length):(eF l)[g]? =l[(l.length-g)%l.length]? :=by
 match l,g,h with
 | a::r,0,_=>simp [eF]
 | a::r,g+1,h=>
  rw [Ap] at *;rw [CZ (by omega),(C:r.length+1-(g+1)=(r.length-1-g)+1)]
  exact List.getElem?_reverse (by omega)
theorem acj {l:List V2} (H:l.length<=100) {k:Int}:G0 G 20 [MK k,zR 6 zL l] (zR 6 zL (Wj l k false)):=by
 refine Fq Tryz.func20 ?_;refine xK (fun s=>?_) fun s=>?_
 .have x:=MU.1 s;have t:l.length=0:=C;have e:l=[]:=Aa t;refine zr<|Fi ((yt Z Z).sub (show ∀I v,(G8).den I v->(zR 6 zL (Wj l k false)).den I v from fun I v h=>by rw [e,zfc];cases h;exact UI)) ?_;refine zj ?_
  exact⟨_,[],.one (.tmp Z),BZ _,Z,Z⟩
 .have x:=MT.1 s;have t:0<l.length:=C;obtain⟨K,y,a,p,o⟩:=l6 (z:=k) (n:=l.length) t;have b:Wj l k false=l.drop K++l.take K:=by unfold Wj;simp only [a,BQ];rfl
  obtain⟨j,g⟩:∃ j,j=k.tmod (l.length:Nat):=⟨_,Z⟩;rw [<-g] at a p o
  rw [b]
  clear b
  obtain⟨A,r⟩:∃ A,A=l.drop K:=⟨_,Z⟩;obtain⟨B,q⟩:∃ B,B=l.take K:=⟨_,Z⟩;have E:A.length=l.length-K:=by rw [r,Cc]
  have D:B.length=K:=by rw [q,BG];omega
  rw [<-r,<-q];refine Fh ?_;refine Fi ((zmL Z Z Z C).sub (zI g.symm)) ?_;refine Fi (yK (z:=j+(l.length:Int)) Z Z Z (MW some C) (wrap_i64 C C)) ?_;refine zo ((wt Z Z Z C C).sub (zI a)) ?_;refine zz ?_;refine zM<|qS [1,2,3,5,6,7,0,4,8,9] 9 [6,7,8] _ V V .slnil<|FB ?_;refine FD ((xU (lo:=K) (hi:=l.length) (m:=0) Z Z (.inr ⟨_,_,Z,Z⟩) (.inl ⟨Z,Z,Z⟩) (.inl Z) C C).sub (show ∀I v,(zR 6 zL ((l.take l.length).drop K)).den I v->(zR 6 zL A).den I v from fun I v h=>by rw [B3,<-r] at h;exact h)) ?_;refine FD ((xU (lo:=0) (hi:=K) (m:=0) Z Z (.inl ⟨Z,Z⟩) (.inr ⟨_,_,Z,Z⟩) (.inl Z) C C).sub (show ∀I v,(zR 6 zL ((l.take K).drop 0)).den I v->(zR 6 zL B).den I v from fun I v h=>by rw [CI,<-q] at h;exact h)) ?_
  refine .loc0 (Jz Z Z J Z (.inl Z) Z Z) Z Z Z ?_;rintro s1 H1 ⟨F,i,rfl,rfl⟩;refine⟨(.cons _ .slnil),?_⟩;refine FB ?_;refine FH 0 Z Z Z Z i Z fun w d=>⟨(.cons _ .slnil),?_⟩;refine FB ?_;refine FH 0 Z Z Z Z d (by rw [Br];exact aa2 A) fun u c=>⟨(.cons _ .slnil),?_⟩
  refine ab.nil<|ae.ghost _ Z (yF 0 26 Z Z c (l:=A++B) (f:=zL) (by rw [Aw,Br]) Gv GX GK)<|Fh ?_;refine zj ?_
  exact⟨_,[],.one (.tmp Z),BZ _,Z,Z⟩
theorem abz {l:List V2} (o:l.length<=100):G0 G 21 [zR 6 zL l] (zR 6 zL (eF l)):=by
 have e:(eF l).length=l.length:=KY l;refine zs Tryz.func21 ?_;refine zr<|zz ?_;refine zx<|zz ?_;refine zM<|zi<|Fs (yI 48 6) ?_;refine Xt [0,2] (fun (g:Nat) (q:G3) z=>(4,ML g)::(3,eqS (rowV q g))::z) (fun g q=>[rowE q 48 6 g (((eF l).take g).flatMap zL)]) (fun g q=>g<=l.length/\zX q g) (fun g q=>l.length-g) 0 none ⟨BL _,Z⟩ ?_;rintro g q ⟨p,hq⟩;refine Fh ?_;refine FR (fun j=>?_) fun j=>?_
 .have k:=MO j;have h:g<l.length:=C;have m:(l.length-g)%l.length<l.length:=Be _ C;obtain⟨x,hx⟩:∃ x,l[(l.length-g)%l.length]? =some x:=⟨_,AL m⟩;have d:(eF l)[g]? =some x:=(aci h).trans hx;have c:=yp d;have i:((eF l).take g).length=g:=by rw [BG];omega
  refine Fj ((l.length-g:Nat):Int) ?_;refine Fi ((wt Z Z Z C C).sub (zI (n:=(((l.length-g)%l.length:Nat):Int)) B)) ?_;refine Fx 0 Z Z Z Z hq (by rw [yG (st:=6) GY,i]) fun b a=>?_;refine Fj ((g+1:Nat):Int) ?_
  exact⟨g+1,b,⟨C,a⟩,C,MN (by rw [c,CB];rfl)⟩
 .have k:=MP j;obtain rfl:g=l.length:=C;refine zK<|Fs (yF 0 3 Z Z hq (l:=eF l) (f:=zL) e Gi GX GK) ?_;exact zj ⟨_,[],.one (.tmp Z),BZ _,Z,Z⟩
end Go.Proofs
namespace Go.Proofs
open Go Go.Sv Num Num.Pl
variable {G:Imm}
theorem aah {k:Int} {obs:List (List V2)} {g:Nat} {r:List V2} (h:obs[obs.length-1-g]? =some r):aag k obs (g+1)=aag k obs g++[aaf k g r]:=by
 unfold aag;rw [Co,Cp,List.map_singleton,Ay,h];rfl
theorem topAlike_spec [ao G] [ba G] [aK G] {t:G6} {k:Int}:G0 G 5 [strS t,MK k] (zp true):=by
 obtain⟨s,H⟩:∃ s,s=(if Qk t then (textF t).1 else ([],[],[])):=⟨_,Z⟩;have n:=rm (G:=G) (t:=t);rw [<-H] at n
 refine Fq Tryz.func5 ?_;refine zf n ?_;refine zz ?_;refine zo ((show OpOK _ _ _ _ _ (zl (qsC s)) from xp Z Z Z)) ?_;refine Fi ((show OpOK _ _ _ _ _ (zp (Qk t&&decide ((textF t).2=0))) from xp Z Z Z)) ?_;refine yT fun N=>?_;refine zw ?_;refine zz ?_;refine zM<|zi<|Vx [0,1,4,5] (fun (e:Bool) z=>(28,zp e)::z) (fun e=>[⟨some N,33,[zR 6 zL s.1,zR 1 Zm s.2.1,zR 12 ZP s.2.2],0⟩]) (fun e=>e=true\/((Qk t&&decide ((textF t).2=0))=true/\ -1073741824<=k/\k<=1073741824)) ?_ ?_
 .refine zJ<|zz ?_;refine FJ (fun h=>?_) fun h=>?_
  .refine Fh ?_;exact⟨true,.inl Z,MM⟩
  .refine zz ?_;(iterate 2 refine zz ?_);refine FF (fun d=>?_) fun d=>?_
   .have m:=MO d;exact⟨true,.inl Z,MM⟩
   .have m:=MP d;exact⟨decide (k< -1073741824),by
     by_cases c:k< -1073741824
     .exact .inl (MR c)
     .exact .inr ⟨by simpa using h,C,C⟩,MM⟩
 .rintro e Y;refine FR (fun A=>?_) fun A=>?_
  .refine Fk t7 ?_;exact zj ⟨_,[],.one (.tmp Z),BZ _,Z,Z⟩
  .obtain⟨hb,X,W⟩:=Y.resolve_left (by rw [A];decide);obtain⟨a,i⟩:=Bool.and_eq_true_iff.1 hb;have i:=MO i;rw [MX a] at H
   have hx:=u9 a;obtain⟨S,R,Q⟩:=abw (k:=k) a i;have x:=ab2 (k:=k) a i;have O:=abp a i;have p:=(hx.ok i).fw.r4;have L:=(hx.ok i).on;rw [<-H] at S R Q x O p L;have M:=u6 (G:=G) hx i;have y:=u6 (G:=G) R (by rw [S])
   rw [x] at y
   have I:=tw (G:=G) Q;generalize prT (aaa k s)=u at *
   generalize td ((ZZ t).map (·.1))=K at *
   refine Fh ?_;refine zf M ?_;refine zz ?_;refine zo ((show OpOK _ _ _ _ _ (strS K) from xp Z Z Z)) ?_;refine Fi ((show OpOK _ _ _ _ _ (MK 0) from xp Z Z Z)) ?_;refine xv 9 [7,8] _ V (.cons_cons _ .slnil)<|FB ?_;refine ag (zb Z Z (acj (l:=s.1) C)) Z Z Z<|ag (zS Z Z Z) Z Z Z<|ag ((show OpOK _ _ _ _ _ (zR 12 ZP s.2.2) from zQ 0 Z Z Z Z)) Z Z Z<|FD ((show OpOK _ _ _ _ _ (zl [zR 6 zL (Wj s.1 k false),G8,zR 12 ZP s.2.2]) from yQ Z Z V)) ?_;refine .loc0 (VJ Z) Z Z Z ?_;rintro s1 H1 ⟨P,rfl,rfl⟩;refine⟨(.cons _ (.cons_cons _ .slnil)),?_⟩;refine FB ?_;refine .loc1n 0 (xf Z Z Z Z Gg) Z Z Z ?_;rintro s1 H1 ⟨rfl,rfl⟩;refine⟨(.cons _ (.cons_cons _ .slnil)),?_⟩;refine ab.nil<|zM<|zi<|zr<|zz ?_;refine zM<|zN<|zH (yI 29 1)<|Xt [1,4,5,7,9] (fun (g:Nat) (q:G3) z=>(10,ML g)::z) (fun g q=>[rowE q 29 1 g ((aag k s.2.1 g).flatMap Zm),⟨some P,33,[zR 6 zL (Wj s.1 k false),eqS (rowV q g),zR 12 ZP s.2.2],0⟩,⟨some N,33,[zR 6 zL s.1,zR 1 Zm s.2.1,zR 12 ZP s.2.2],0⟩]) (fun g q=>g<=s.2.1.length/\zX q g) (fun g q=>s.2.1.length-g) 0 none ⟨BL _,Z⟩ ?_;rintro g q ⟨hg,hq⟩;refine Fh ?_;refine FR (fun j=>?_) fun j=>?_
   .have F:=MO j;obtain⟨r,o⟩:=FU s.2.1 (s.2.1.length-1-g);have p:=(O r (AE o)).2;refine Fi (yK (z:=k+(g:Nat)) Z Z Z (MW some C) (wrap_i64 C C)) ?_;refine Fj ((s.2.1.length-1:Nat):Int) ?_;refine Fj ((s.2.1.length-1-g:Nat):Int) ?_;refine zo (zb Z Z (acj (l:=r) C)) ?_;refine zz ?_;refine zM<|Vx [1,4,5,7,9,10,42,43,44,45,46,49,50,51,52,53,54,55,56,57,58,59,60,61,62] (fun (w:List V2) z=>(11,zR 6 zL w)::z) (fun w=>[rowE q 29 1 g ((aag k s.2.1 g).flatMap Zm),⟨some P,33,[zR 6 zL (Wj s.1 k false),eqS (rowV q g),zR 12 ZP s.2.2],0⟩,⟨some N,33,[zR 6 zL s.1,zR 1 Zm s.2.1,zR 12 ZP s.2.2],0⟩]) (fun w=>w=aaf k g r) ?_ ?_
    .refine Fh ?_;refine Fi (yK (z:=k+(g:Nat)) Z Z Z (MW some C) (wrap_i64 C C)) ?_;refine Fi ((zmL Z Z Z J)) ?_;refine Fp (fun b=>?_) fun b=>?_
     .have E:=MU.1 b;refine Fl Z Z (abz (l:=Wj r (k+(g:Nat)) false) (by rw [Yl];omega)) ?_;exact⟨eF (Wj r (k+(g:Nat)) false),by unfold aaf;rw [MX (by simpa using b)],MM⟩
     .have E:=MT.1 b;exact⟨Wj r (k+(g:Nat)) false,by unfold aaf;rw [MY (by simpa using b)],MM⟩
    .rintro w U;refine Fh ?_;refine Fx 0 Z Z Z Z hq (by rw [yG (st:=1) GY,aat,Cr]) fun D v=>?_;refine Fj ((g+1:Nat):Int) ?_
     exact⟨g+1,D,⟨C,v⟩,C,MN (by rw [aah o,U,CB];rfl)⟩
   .have F:=MP j;obtain rfl:g=s.2.1.length:=C;refine zK<|Fs (vB [_] [_] [] [] [_] hq (l:=aag k s.2.1 s.2.1.length) (f:=Zm) (aat ..) Z GX GK) ?_;refine Fk I ?_;refine zf y ?_;refine zz ?_;refine zo ((show OpOK _ _ _ _ _ (strS K) from xp Z Z Z)) ?_;refine zo ((show OpOK _ _ _ _ _ (MK 0) from xp Z Z Z)) ?_;(iterate 2 refine zz ?_);refine zx<|zz ?_;refine Fi ((zZ Z Z Z Z).sub (yz (c:=true) Z)) ?_;refine Fi ((xL Z Z Z Z).sub (yz (c:=true) B)) ?_;refine Fk t7 ?_;exact zj ⟨_,[],.one (.tmp Z),BZ _,Z,Z⟩
end Go.Proofs
