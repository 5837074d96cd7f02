/- straittop: the points of a line that tells one point, and. -/
import Derived.Test.YtceodgbmninaoaaGreatDoorSu3
import Derived.Test.YtceodgbmninaoaaGreatDoorScn
set_option linter.all false
namespace Go.Proofs
open Go Go.Sv Num Num.Pl
variable {G:Imm}
theorem z7 [ao G] {w:G6} {row:List RP} {k n:Nat} (a:0<k) (E:64*k+20000<=65536) (o:∀ p∈row,wL k p) (N:row.length<=n) (Q:n<=1000000) (M:w.length<=8):G0 G 35 [strS w,zR 6 pc row] (strS (lnT w (pvs row))):=by
 have x:∀ p∈pvs row,(uE p.1).length<=50000/\(uE p.2).length<=50000:=fun p hp=>by
  obtain⟨r,O,rfl⟩:=Bc.1 hp;have s:=o r O;exact⟨w5 (xH s.1 a).bq C,w5 (xH s.2 a).bq C⟩
 have h:=tr M x;have R:(pvs row).length*100002<=1000000*100002:=BK _ (by unfold pvs;rw [BR];omega)
 have i:lnT w (pvs row)=Lib.join (ziz w (pvs row)) [32]++[10]:=rfl;refine zs Tryz.func35 ?_;refine zg ?_;refine ae.buildRow Z Z Z Z Z Z J Z (.inr B) Z V fun P D=>zz ?_;refine zM<|zi<|zr<|zz ?_;refine zM<|zN<|uM 1 Z fun F=>?_;unfold yE at F;refine Xt [1] (fun (g:Nat) (q:G3) z=>(6,ML g)::(5,eqS (rowV q (2*g+1)))::z) (fun g q=>[rowE q 9 1 (2*g+1) ((ziz w (pvs (row.take g))).flatMap tC)]) (fun g q=>g<=row.length/\zX q (2*g+1)) (fun g _=>row.length-g) 0 (some (P,1)) ⟨BL _,D⟩ ?_;rintro g q ⟨S,hq⟩;refine Fh ?_;refine FP (fun _ u=>?_) fun _ u=>?_
 .obtain⟨⟨⟨b,l,d⟩,⟨c,m,e⟩⟩,hp⟩:=FU row g;have s:=o _ (AE hp);have L:IsQ b l d (qv (b,l,d)) k:=xH s.1 a;have K:IsQ c m e (qv (c,m,e)) k:=xH s.2 a;have I:=L.bq;have H:=K.bq;have A:=tD (w:=w) hp;refine vA 15 [14] _ V (.cons _ .slnil) ?_;(iterate 3 refine ab.one (zC Z Z) Z Z Z V ?_);refine ab.one (zh Z Z Z C (y:=((b,l,d),(c,m,e))) hp) Z Z Z V<|ab.one (yC Z Z Z) Z Z Z V<|FC ((show OpOK _ _ _ _ _ (zl [zp b,zD l,zD d]) from zG Z Z Z Z)) ?_;refine ab.one (zb Z Z (UZ (q:=qv (b,l,d)) (k:=k) E)) Z Z Z V ?_;(iterate 2 refine ab.one (zC Z Z) Z Z Z V ?_);refine ab.one (zh Z Z Z C (y:=((b,l,d),(c,m,e))) hp) Z Z Z V<|ab.one (yC Z Z Z) Z Z Z V<|FC ((show OpOK _ _ _ _ _ (zl [zp c,zD m,zD e]) from zG Z Z Z Z)) ?_;refine FC (zb Z Z (UZ (q:=qv (c,m,e)) (k:=k) E)) ?_;refine ar.append 0 Z Z Z Z Z Z Z hq (by rw [ji,jR];unfold pvs;rw [BR,BG];omega) (fun z v=>by rcases DZ.1 v with rfl | v;rfl;rw [AS.1 v];rfl) GF GF fun t j=>⟨(.cons _ .slnil),?_⟩
  refine ab.nil<|zg ?_;refine Do (g+1) ?_;exact⟨g+1,t,⟨C,j⟩,C,MN (by rw [A,CB];rfl)⟩
 .obtain rfl:g=row.length:=C;rw [B3];refine zK<|Fs (yF 0 5 Z Z hq (l:=ziz w (pvs row)) (f:=tC) (by rw [jR];simp [pvs]) Z GX GK) ?_;refine Fl Z Z (u7 (by rw [i,Aw] at h;simp only [DX] at h;omega)) ?_;refine Fi ((vD Z Z Z (by rw [i,Aw] at h;simp only [DX] at h ⊢;omega)).sub (WS i.symm)) ?_
  exact zj zt
theorem x4 [ao G] {s:Sc} {k n:Nat} (h:ScOk s k n) (H:64*k+20000<=65536) (K:n<=1000000):G0 G 16 [zl (dO s)] (strS (jo s)):=by
 have d:=h.pt _ (j8 s);have r:=h.lrow (j8 s);have D:=h.row;have L:=h.len;rw [hM] at D
 simp only at d r
 have hsz:(scL s).length*9+(zdb s).length*100002<=1000000*9+1000000*100002:=Nat.add_le_add (BK _ (by rw [hM];omega)) (BK _ C)
 refine Fq Tryz.func16 ?_;refine Fl Z Z (z7 h.pos H d r K J) ?_;refine xi (γ:=Nat) (fun g=>⟨_,[(4,ML g),(3,strS (((scL s).take (g+1)).flatMap lnX)),(1,yo (dO s))],[],[],(0,false)⟩) (fun g=>g<=s.2.1.length) (fun g=>s.2.1.length-g) 0 (BL _) (aA (aa Z (xm Z (by simp [scL,lnX]) (aa Z trivial)))) ?_
 rintro g M;refine Fh ?_;refine Fo (fun _ A=>?_) fun _ A=>?_
 .obtain⟨l,u⟩:=FU s.2.1 g;have w:=mj (AE u);have c:=h.pt _ w;have x:=h.lrow w;simp only at c x
  have a:=l9 lnX (zvm u);have b:=h.text C (g+1+1);rw [a,(FV:lnX (ZX,l)=lnT ZX (pvs l))] at b
  rw [(FV:lnX (ZX,l)=lnT ZX (pvs l))] at a
  refine Fh ?_;refine Fl Z Z (z7 h.pos H c x K J) ?_;refine Fi ((vD Z Z Z (by rw [Aw] at b;omega)).sub (WS a.symm)) ?_;refine Do (g+1) ?_
  exact⟨g+1,C,C,MM⟩
 .obtain rfl:g=s.2.1.length:=C;refine Qj [1] (fun (g:Nat) z=>(5,ML g)::(3,strS (((scL s).take (s.2.1.length+g+1)).flatMap lnX))::z) (fun g=>[]) (fun g=>g<=s.2.2.length) (fun g=>s.2.2.length-g) 0 (BL _) ?_;rintro g M;refine Fh ?_;refine Fo (fun _ y=>?_) fun _ y=>?_
  .obtain⟨⟨⟨⟨q,j,o⟩,⟨p,i,m⟩⟩,⟨⟨b2,l2,d2⟩,⟨c2,m2,e2⟩⟩⟩,t⟩:=FU s.2.2 g;have F:=t8 (AE t);have c:=h.pt _ F;simp only at c
   have a:=l9 lnX (tp t);have b:=h.text C (s.2.1.length+g+1+1);rw [a,(FV:lnX (Yh,[((q,j,o),(p,i,m)),((b2,l2,d2),(c2,m2,e2))])=lnT Yh (pvs [((q,j,o),(p,i,m)),((b2,l2,d2),(c2,m2,e2))]))] at b
   rw [(FV:lnX (Yh,[((q,j,o),(p,i,m)),((b2,l2,d2),(c2,m2,e2))])=lnT Yh (pvs [((q,j,o),(p,i,m)),((b2,l2,d2),(c2,m2,e2))]))] at a
   refine wW 17 V<|Fh ?_;refine Fl Z Z ((z7 (row:=[((q,j,o),(p,i,m)),((b2,l2,d2),(c2,m2,e2))]) (n:=2) h.pos H c B J J).args ⟨fun _ _ h=>h,fun I v h=>ke (f:=pc) (l:=[((q,j,o),(p,i,m)),((b2,l2,d2),(c2,m2,e2))]) h,trivial⟩) ?_;refine Fi ((vD Z Z Z (by rw [Aw] at b;omega)).sub (WS a.symm)) ?_;refine Do (g+1) ?_
   exact⟨g+1,C,C,MM⟩
  .obtain rfl:g=s.2.2.length:=C;have E:((scL s).take (s.2.1.length+s.2.2.length+1)).flatMap lnX=jo s:=by unfold jo;rw [<-hM,B3]
   exact zj (zu (e:=MW strS E))
end Go.Proofs
namespace Num.Pl
open Go Go.Lib Go.Proofs
variable {α:Type} {lt:α->α->Bool} {l:List V2} {c:Rat}
def sy:G6:=[114,111,98,111,116,32,48,32,48,32,49,32,48,32,48,32,49,10,113,117,101,114,121,32,48,32,48,32,49,47,50,32,48,10]
def tK:G6:=[114,111,98,111,116,32,48,32,48,32,49,32,48,32,48,32,49,10,111,98,115,116,97,99,108,101,32,50,32,45,50,32,52,32,45,50,32,50,32,50,10,113,117,101,114,121,32,48,32,48,32,53,32,48,10,113,117,101,114,121,32,50,32,48,32,53,32,48,10]
abbrev rC:QS:=([(0,0),(1,0),(0,1)],[],[((0,0),(1/2,0))])
abbrev rD:QS:=([(0,0),(1,0),(0,1)],[[(2,-2),(4,-2),(2,2)]],[((0,0),(5,0)),((2,0),(5,0))])
theorem rq:yS sy=(rC,0):=by decide +kernel
theorem rt:yS tK=(rD,0):=by rfl
theorem tf:textF sy=(rC,0):=by unfold textF;rw [rq];decide +kernel
theorem tg:textF tK=(rD,0):=by unfold textF;rw [rt];decide +kernel
theorem tU:Qk sy=true:=by unfold Qk;rw [tf];decide +kernel
theorem tV:Qk tK=true:=by unfold Qk;rw [tg];decide +kernel
def ti {α:Type} (lt:α->α->Bool) (x:α):List α->List α
 | []=>[x]
 | y::l=>if lt y x then y::ti lt x l else x::y::l
def tL {α:Type} (lt:α->α->Bool):List α->List α
 | []=>[]
 | x::l=>ti lt x (tL lt l)
theorem y5 (lt:α->α->Bool) (x:α):∀ l,(ti lt x l).Perm (x::l)
  | []=>.refl _
  | y::l=>by
    unfold ti
    split
    . exact ((y5 lt x l).cons y).trans (.swap x y l)
    rfl
theorem x5 (lt:α->α->Bool):∀ l,(tL lt l).Perm l
 | []=>.refl _
 | x::l=>(y5 lt x _).trans ((x5 lt l).cons x)
theorem v8 (f:Sort.SWO lt) (x:α):∀ {l:List α},l.Pairwise (fun a b=>lt b a=false)->(ti lt x l).Pairwise fun a b=>lt b a=false
  | [],_=>by unfold ti;simp
  | y::l,h=>by
    obtain⟨h1,g⟩:=EF.1 h;unfold ti
    split
    . rename_i c
      refine EF.2 ⟨fun z d=>?_,v8 f x g⟩;rcases DZ.1 ((y5 lt x l).mem_iff.1 d) with rfl | d
      . cases e:lt z y
        . rfl
        . have:=f.trans _ _ _ e c
          rw [f.irrefl] at this;grind
      grind
    . rename_i c
      rw [Bool.not_eq_true] at c;refine EF.2 ⟨fun z d=>?_,h⟩;rcases DZ.1 d with rfl | d
      . exact c
      . exact f.ntrans _ _ _ (h1 z d) c
theorem u5 (c:Sort.SWO lt):∀ l,(tL lt l).Pairwise fun a b=>lt b a=false
 | []=>.nil
 | x::l=>v8 c x (u5 c l)
theorem z6 (d:Sort.SWO lt) (f:∀ x y,lt x y=false->lt y x=false->x=y) (l:List α):Num.sortL lt l=tL lt l:=by
 refine List.Perm.eq_of_pairwise (fun a b _ _ h1 h2=>f a b h2 h1) ?_ (u5 d l) ((Num.sortL_perm lt l).trans (x5 lt l).symm);unfold Num.sortL
 have h:=List.pairwise_mergeSort (le:=fun x y=> !lt y x) (fun a b c h1 h2=>by
  rw [DA] at *;exact d.ntrans _ _ _ h2 h1) (fun a b=>by
  cases e:lt b a
  .simp
  .cases e2:lt a b
   .simp
   .have:=d.trans _ _ _ e e2
    rw [d.irrefl] at this;grind) l
 grind
def sE:Nat->List V2->List V2->List V2
 | 0,_,_=>[]
 | _+1,[],q=>q
 | _+1,p,[]=>p
 | n+1,a::p,b::q=>if JV a b then a::sE n p (b::q) else b::sE n (a::p) q
theorem tj:∀ (n:Nat) (p q:List V2),p.length+q.length<n->vy p q=sE n p q
  | 0,_,_,h=>by omega
  | n+1,[],q,_=>by rw [vy];rfl
  | n+1,a::p,[],_=>by rw [vy];rfl;simp
  | n+1,a::p,b::q,h=>by
    rw [vy,sE];simp only [Ap] at h
    split
    . rw [tj n p (b::q) (by grind)]
    . rw [tj n (a::p) q (by grind)]
abbrev y9:List V2:=[(0,0),(1,0),(0,1)]
abbrev tk:T3:=((2,-2),(4,-2),(2,2))
theorem sF:Xu ([[(2,-2),(4,-2),(2,2)]].map Ue)=[tk]:=by decide +kernel
abbrev y7:List V2:=[(1,-2),(2,-3),(4,-3),(4,-2),(2,2),(1,2)]
theorem sG:wM (Zu tk)=[(2,-2),(4,-2),(2,2)]:=by
 unfold wM;simp only [z6 iL iP];decide +kernel
theorem sH:wM (y9.map JW)=[(-1,0),(0,-1),(0,0)]:=by
 unfold wM;simp only [z6 iL iP];decide +kernel
theorem sI:xh y9 tk=y7:=by
 unfold xh iF;rw [sG,sH];simp only;rw [tj 7 _ _ (by decide +kernel)]
 unfold wM;simp only [z6 iL iP];decide +kernel
abbrev y4:Bx:=((0,-4),(5,3))
theorem sJ:yP [y7]=y4:=by decide +kernel
theorem sK:vo [y7] y4=[0,1,2,4,5]:=by unfold vo;rw [z6 g7 g9];rfl
theorem sM:ZT [y7] y4 [0,1,2,4,5]=[[(-4,-4),(3,3)],[(-4,-4),(-2,-3),(2,2),(3,3)],[(-4,-4),(-3,-3),(2,-2),(3,3)],[(-4,-4),(3,3)]]:=by
 show [WJ 0 1 y4 (wg [y7]),WJ 1 2 y4 (wg [y7]),WJ 2 4 y4 (wg [y7]),WJ 4 5 y4 (wg [y7])]=_;unfold WJ;simp only [z6 lI lK];decide +kernel
abbrev rE:List (List Lv):=[[(-4,-4),(3,3)],[(-4,-4),(-2,-3),(2,2),(3,3)],[(-4,-4),(-3,-3),(2,-2),(3,3)],[(-4,-4),(3,3)]]
theorem sO:vP [y7] y4 [0,1,2,4,5] rE=[[-4,3],[-4,-2,2,3],[-4,-3,2,3],[-4,-3,-2,3],[-4,3]]:=by
 unfold vP;simp only [z6 g7 g9];rfl
abbrev x6:Md:=⟨y4,[0,1,2,4,5],rE,[[-4,3],[-4,-2,2,3],[-4,-3,2,3],[-4,-3,-2,3],[-4,3]]⟩
theorem sQ:wX [y7]=x6:=by
 unfold wX;simp only [sJ,sK,sM,sO]
abbrev x7:Bx:=((-1,-1),(1,1))
abbrev x8:Md:=⟨x7,[-1,1],[[(-1,-1),(1,1)]],[[-1,1],[-1,1]]⟩
theorem tW:vo [] x7=[-1,1]:=by unfold vo;rw [z6 g7 g9];rfl
theorem tX:ZT [] x7 [-1,1]=[[(-1,-1),(1,1)]]:=by
 show [WJ (-1) 1 x7 (wg [])]=_;unfold WJ;rw [z6 lI lK];decide +kernel
theorem tY:vP [] x7 [-1,1] [[(-1,-1),(1,1)]]=[[-1,1],[-1,1]]:=by
 unfold vP;simp only [z6 g7 g9];rfl
theorem tZ:wX []=x8:=by
 unfold wX;simp only [show yP []=x7 by decide +kernel,tW,tX,tY]
theorem rF:(wV (vb y9 [tk]) ((2,0),(5,0))).1=2:=by decide +kernel
theorem sR:vb y9 [tk]=(fun cs=>(fun fr=>(fun js=>(⟨y9,[tk],[y7],x6,cs,fr,js,VC cs js⟩:cI)) (tL fi (fy fr (allG x6 (bS x6).1 (bS x6).2)))) (cs.map (Jt [y7]))) (zV x6):=by
 unfold vb;simp only [Ar,B2,sI,sQ,jB,z6 lH lR]
theorem rG:(wV (vb y9 [tk]) ((0,0),(5,0))).1=0:=by rw [sR];decide +kernel
theorem t6:vb y9 []=(fun cs=>(fun fr=>(fun js=>(⟨y9,[],[],x8,cs,fr,js,VC cs js⟩:cI)) (tL fi (fy fr (allG x8 (bS x8).1 (bS x8).2)))) (cs.map (Jt []))) (zV x8):=by
 unfold vb;simp only [B2,tZ,jB,z6 lH lR]
theorem rH:wV (vb y9 []) ((0,0),(1/2,0))=(0,[(0,0),(1/2,0)],1/2):=by rw [t6];decide +kernel
theorem ru:ZZ sy=[(0,[(0,0),(1/2,0)],1/2)]:=by
 unfold ZZ gN;rw [tf,MX Z];exact MW (fun v=>[v]) rH
theorem rv:(ZZ tK).map (·.1)=[0,2]:=by
 unfold ZZ gN;rw [tg,MX Z];show [(wV (vb y9 (Xu ([[(2,-2),(4,-2),(2,2)]].map Ue))) ((0,0),(5,0))).1,(wV (vb y9 (Xu ([[(2,-2),(4,-2),(2,2)]].map Ue))) ((2,0),(5,0))).1]=_;rw [sF,rG,rF]
theorem zCd [DecidableEq α] {l:List α} (h:l≠[]):dd l≠[]:=fun e=>by
 have a:=kX l;rw [e] at a
 exact h (EB.1 a.symm)
theorem zCe {a:cI} {q:V2×V2} (h:(wV a q).1=0):(wV a q).2.1≠[]:=by
 unfold wV at h ⊢
 split
 .grind
 .rename_i c
  rw [MY c] at h
  split
  .simp
  .rename_i c2
   rw [MY c2] at h
   split
   .rename_i l b
    unfold Zn at b
    simp only at b
    split at b
    .obtain⟨m,_,rfl⟩:=DB.1 b;exact zCd B
    grind
   grind
theorem zAc {t:G6} {v:Vd} (h:v∈ZZ t):v.1=0->v.2.1≠[]:=by
 unfold ZZ at h
 split at h
 .obtain⟨q,_,rfl⟩:=Bc.1 h;exact zCe
 grind
theorem sT (h:l≠[]):9<(join (ww (0,l,c)) [32]).length:=by
  cases l with
  | nil=>grind
  | cons p l=>
    have e:ww (0,p::l,c)=[80,65,84,72]::uE c::uE p.1::uE p.2::(l.flatMap fun p=>[p.1,p.2]).map uE:=rfl;have h1:=fun q=>Er.2 (kc q).1;have d:=h1 c;have b:=h1 p.1;have a:=h1 p.2;rw [e,hG,hG,hG];cases (l.flatMap fun p=>[p.1,p.2]).map uE with
    | nil=>rw [join_one];grind
    | cons u u2=>rw [hG];grind
theorem sV:(join (ww (0,l,c)) [32]).take 5=[80,65,84,72,32]:=by
 rfl
end Num.Pl
namespace Go.Proofs
open Go Go.Sv Num Num.Pl
variable {G:Imm}
theorem y6 [ao G] [ba G] [aK G] {t:G6} (h:bT t) (b:(textF t).2=0):G0 G 8 [strS t] (strS ((ZZ t).flatMap wC))/\G0 G 9 [strS ((ZZ t).flatMap wC)] (yR [zR 1 tC ((ZZ t).map fun v=>Lib.join (ww v) [32]),MK 0]):=by
 have c:=sY (G:=G) h (by omega)
 rw [show uy (textF t).2 (ZZ t)=(ZZ t).flatMap wC by unfold uy;grind] at c
 have f:=(tN h b).2;obtain⟨e,d⟩:=zqw (ZZ t);have a:=za6 (G:=G) (s:=(ZZ t).flatMap wC) C;grind
theorem tw [ao G] {q:QS} (h:ScOk (Uf q) 1 5000):G0 G 16 [zl (qsC q)] (strS (prT q)):=by
 have e:=x4 (G:=G) h J J;rw [zys,ki] at e;exact e.args ⟨fun I v a=>jS I v a,trivial⟩
theorem u6 [ao G] [aK G] {t:G6} (h:bT t) (a:(textF t).2=0):G0 G 15 [strS t] (yR [strS (td ((ZZ t).map (·.1))),MK 0]):=by
 have c:(ZZ t).length<=3:=by unfold ZZ;rw [MX a,BR];exact (h.ok a).qn
 have b:=zzR (tv (G:=G) h) C;rw [a] at b
 exact rj b (tN h a).1.kd C
theorem t7 [ao G] [ba G] [aK G]:G0 G 14 [] (zp true):=by
  have ra:=(y6 (G:=G) (u9 tU) (by rw [tf])).1
  obtain⟨rb,e⟩:=y6 (G:=G) (u9 tV) (by rw [tg])
  rw [ru,show ([(0,[(0,0),(1/2,0)],1/2)]:List Vd).flatMap wC=[80,65,84,72,32,49,47,50,32,48,32,48,32,49,47,50,32,48,10] by decide +kernel] at ra
  have i:=rv;have d:∀ v∈ZZ tK,v.1=0->v.2.1≠[]:=fun v h=>zAc h;obtain⟨vs,f⟩:∃ vs,vs=ZZ tK:=⟨_,Z⟩;rw [<-f] at rb e i d
  clear f
  obtain⟨l,c,m,rfl,p⟩:∃ l c m,vs=[(0,l,c),(2,m)]/\l≠[]:=by
    match vs,i,d with
    | [(a,l,c),(b,m)],i,d=>
      simp_all
  have j:=sT (c:=c) p;have g:=sV (l:=l) (c:=c);obtain⟨out,o⟩:∃ out,out=([(0,l,c),(2,m)]:List Vd).flatMap wC:=⟨_,Z⟩;rw [<-o] at rb e;rw [(FV:(([(0,l,c),(2,m)]:List Vd).map fun v=>Lib.join (ww v) [32])=[Lib.join (ww (0,l,c)) [32],[66,76,79,67,75,69,68]])] at e;obtain⟨L0,k⟩:∃ L0,L0=(Lib.join (ww (0,l,c)) [32]):=⟨_,Z⟩;rw [<-k] at e j g;refine Fq Tryz.func14 ?_;refine Fk ra ?_;refine Fk rb ?_;refine Fk e ?_;refine zo ((xL Z Z Z Z).sub (yz (c:=true) Z)) ?_;(iterate 2 refine zz ?_);refine zo ((zZ Z Z Z Z).sub (yz (c:=true) Z)) ?_;(iterate 3 refine zz ?_);refine zo ((wI Z Z).sub (zI (n:=2) Z)) ?_;refine Fi ((zZ Z Z Z Z).sub (yz (c:=true) Z)) ?_;refine Fi ((by exact (zh Z Z Z C Z))) ?_
  refine zo (wS Z Z) ?_;refine Fi ((zZ Z Z Z Z).sub (yz (MR C))) ?_;refine Fi ((by exact (zh Z Z Z C Z))) ?_
  refine Fi ((XC Z Z (.inl ⟨Z,Z⟩) (.inr ⟨_,_,Z,Z⟩) C C).sub (WS g)) ?_;refine Fi ((xL Z Z Z Z).sub (yz (c:=true) Z)) ?_;refine Fi ((by exact (zh Z Z Z C Z))) ?_
  refine Fi ((xL Z Z Z Z).sub (yz (c:=true) Z)) ?_;exact zj zt
end Go.Proofs
