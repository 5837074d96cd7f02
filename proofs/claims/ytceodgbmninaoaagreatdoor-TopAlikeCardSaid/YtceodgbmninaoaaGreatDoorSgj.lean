/- Codes of scenes and texts. -/
import Derived.Test.YtceodgbmninaoaaGreatDoorScd
import Derived.Test.YtceodgbmninaoaaGreatDoorSgf
import Derived.Test.YtceodgbmninaoaaGreatDoorSsd
import Derived.Test.YtceodgbmninaoaaGreatDoorSv1
set_option linter.all false
namespace Num
open Go Go.Proofs
def Xh (q:QS):Int:=
 if (cu q.1.length 6&&decide (q.2.1.length<=4)&& !(q.2.1.any fun r=> !cu r.length 6)&&decide ((q.2.1.map fun r=>r.length-2).sum<=6)&&decide (q.2.2.length<=8))=false then 4
 else if Ut q.1=false then 5 else if (!(q.2.1.any fun r=> !ZW r))=false then 6 else 0
def ziD (s:Sc):Xg s=Xh (nrm s):=by
 have b:clB s 0=(cu (nrm s).1.length 6&&decide ((nrm s).2.1.length<=4)&& !((nrm s).2.1.any fun r=> !cu r.length 6)&&decide (((nrm s).2.1.map fun r=>r.length-2).sum<=6)&&decide ((nrm s).2.2.length<=8)):=by
  show Yx s=_;unfold Yx tris nrm pvs;simp only [BR,List.any_map,As,Function.comp_def]
 have h1:clB s 1=Ut (nrm s).1:=rfl;have a:clB s 2= !((nrm s).2.1.any fun r=> !ZW r):=by
  show (!(s.2.1.any fun r=> !ZW (r.map pv)))=_;unfold nrm;rw [List.any_map];rfl
 unfold Xg Xh;grind
def textF (t:G6):QS×Int:=
 if (yS t).2=0 then (if Xh (yS t).1=0 then ((yS t).1,0) else (([],[],[]),Xh (yS t).1)) else (([],[],[]),(yS t).2)
end Num
namespace Go.Proofs
open Go Go.Sv Num
variable {G:Imm}
def mn {s:Sc} {k n:Nat} (h:ScOk s k n) (c:n<=1000000):eV s k:=by
 have h1:=h.row;rw [hM] at h1
 have b:=h.lrow (j8 s);exact⟨h.pos,h.pt _ (j8 s),fun r a=>h.pt _ (mj a),by grind,C,fun r a=>by have:=h.lrow (mj a);grind,C⟩
def zlv [ao G] [aK G] {t:G6} {k:Nat} (ht:t.length<=1000000000) (b:(yS t).2=0->eV (Uf (yS t).1) k) (j:100000*k+100000<=cap):G0 G 48 [strS t] (yR [zl (qsC (textF t).1),MK (textF t).2]):=by
 have hp:=zgr (G:=G) ht;obtain⟨⟨q,c⟩,hq⟩:∃ x,x=yS t:=⟨_,Z⟩;have d:textF t=if c=0 then (if Xh q=0 then (q,0) else (([],[],[]),Xh q)) else (([],[],[]),c):=by unfold textF;rw [<-hq]
 rw [<-hq] at hp b
 rw [d];simp only at hp b ⊢
 refine Fq Tryz.func48 ?_;refine Fm fun b2=>?_;refine Fk hp ?_;refine yT fun i=>?_;refine zg ?_;refine yL (K:=fun S1=>∃ e:Int,e=(if c=0 then Xh q else c)/\aC S1 ⟨20,[(5,MK e),(4,G9 i),(2,G9 b2)],[⟨some i,33,qsC q,0⟩,⟨some b2,33,[G8,G8,G8],0⟩],[],(0,false)⟩) ?_ ?_
 .refine zg ?_;refine Fo ?_ ?_<;>intro _ k12
  .refine Fi ((zb Z Z ((zpA (b k12) j).args (args':=[zl (qsC q)]) ⟨jS,trivial⟩)).sub (zI (by rw [ziD,ki]))) ?_;exact J2
  .exact J3
 .rintro S1 ⟨e,he,g⟩;refine xq g<|Fh ?_;refine FQ ?_ ?_<;>intro _ k16
  .exact HF
  .have a:c=0:=M4 fun h=>by omega
   have f:Xh q=0:=by rw [MX a] at he;exact he.symm.trans k16
   exact zj (zu (e:=by rw [MX a,MX f];rfl))
end Go.Proofs
namespace Num
open Go Go.Lib Go.Proofs
def Yj (a b:Int):Int:=if a=0 then b else if b=0 then a else min a b
def kZ {a b:Int} (h:b≠0):Yj a b=JT a b:=by unfold Yj JT;omega
def kindF (w:G6):Int:=if w=Xf then 0 else if w=ZX then 1 else if w=Yh then 2 else -1
def zbl (w:G6) (r:G1):Int×List Rat×Int:=
 if kindF w<0\/(kindF w=2/\r.length≠4)\/r.length%2≠0\/r.length=0 then (kindF w,[],1)
 else if r.all QM then (kindF w,r.map fun x=>(xx x).1,Uv 0 r) else (kindF w,[],1)
def zaq (s:G6):Int×List Rat×Int:=if WG (wA 32 s) then (match wA 32 s with | w::r=>zbl w r | []=>(-1,[],1)) else (-1,[],1)
def prN (ns:List Rat) (g:Nat):List V2:=fb g fun i=>(ns.getD (2*i) 0,ns.getD (2*i+1) 0)
def ziE (a:List Rat) (g:Nat):prN a (g+1)=prN a g++[(a.getD (2*g) 0,a.getD (2*g+1) 0)]:=zeQ ..
def XH (a:List Rat) (g:Nat):(prN a g).length=g:=zie ..
def zm8 (r:G1):∀ g,2*g<=r.length->prN (r.map fun x=>(xx x).1) g=vJ (r.take (2*g))
 | 0,_=>rfl
 | g+1,h=>by
  obtain⟨a,d⟩:=FU r (2*g);obtain⟨b,c⟩:=FU r (2*g+1);rw [ziE,zm8 r g (by omega),(C:2*(g+1)=2*g+1+1),yp c,yp d,Bw];rw [(FV:[a]++[b]=[a,b]),m6 _ _ _ (oG (by omega) (by omega))];grind
def zm9 {r:G1} (h:r.length%2=0):prN (r.map fun x=>(xx x).1) (r.length/2)=vJ r:=by
 rw [zm8 r _ (by omega),(C:2*(r.length/2)=r.length),B3]
def zr9 (k:Int) (x:G6):Uu k x=Yj k (Uu 0 x):=by
 have e:∀ c:Int,c≠0->JT k c=Yj k (JT 0 c):=fun c hc=>by rw [<-kZ hc,<-kZ hc];rfl
 unfold Uu;split
 .grind
 .split
  .grind
  .unfold Yj;omega
def zlw (a b c:Int):Yj (Yj a b) c=Yj a (Yj b c):=by unfold Yj;grind
def nQ:∀ (r:G1) (k:Int),Uv k r=Yj k (Uv 0 r)
 | [],k=>by unfold Uv Yj;simp
 | x::r,k=>by
  show Uv (Uu k x) r=Yj k (Uv (Uu 0 x) r);rw [nQ r (Uu k x),nQ r (Uu 0 x),zr9 k x,zlw]
def zym {k:Int} (h:k=0\/k=2\/k=3) (x:G6):Uu k x=0\/Uu k x=2\/Uu k x=3:=by
 unfold Uu JT;omega
def zsa:∀ (r:G1) {k:Int},(k=0\/k=2\/k=3)->Uv k r=0\/Uv k r=2\/Uv k r=3
 | [],_,h=>h
 | x::r,_,h=>zsa r (zym h x)
def zsb {r:G1} {g:Nat} {x:G6} (h:r[g]? =some x) (hx:QM x=true) (a:(r.take g).all QM=true):(r.take (g+1)).all QM=true:=by
 rw [yp h,Dl,a];grind
end Num
namespace Go.Proofs
open Go Go.Sv Num Tryz
variable {G:Imm}
abbrev q3 (q:Rat):List SV:=zP q
def zsc:∀ l:List Rat,(l.flatMap q3).length=l.length*3
 | []=>rfl
 | x::l=>by rw [BM,Aw,zsc l];grind
def mm {l:List Rat} (h:l=[]) (I:Imm) (v:Value) (a:(G8).den I v):(zR 3 q3 l).den I v:=by subst h;cases a;exact UI
def Qa {a b:Int}:G0 G 52 [MK a,MK b] (MK (Yj a b)):=by
 refine Fq func52 ?_;refine Fo ?_ ?_<;>intro _ c
 .exact zj (zu (e:=by unfold Yj;grind))
 .refine Fo ?_ ?_<;>intro _ d
  .exact zj (zu (e:=by unfold Yj;grind))
  .exact zj (zu (e:=by unfold Yj;grind))
def zly {w:G6}:G0 G 85 [strS w] (MK (kindF w)):=by
 refine Fq func85 ?_;refine Fi (xL Z Z Z Z) ?_;refine Fp ?_ ?_<;>intro d
 .exact zj (zu (e:=by unfold kindF;grind))
 .have a:¬ w=Xf:=by simpa using d
  refine Fi (xL Z Z Z Z) ?_;refine Fp ?_ ?_<;>intro c
  .exact zj (zu (e:=by unfold kindF;grind))
  .have f:¬ w=ZX:=by simpa using c
   refine Fi (xL Z Z Z Z) ?_;refine Fp ?_ ?_<;>intro b
   .exact zj (zu (e:=by unfold kindF;grind))
   .have g:¬ w=Yh:=by simpa using b
    exact zj (zu (e:=by unfold kindF;grind))
def zpB {a:List Rat} (n:∀ q∈a,Bq q 7) (r:a.length<=2000):G0 G 53 [zR 3 q3 a] (zR 6 zL (prN a (a.length/2))):=by
 refine zs func53 ?_;refine Fh ?_;refine zH (yI 48 6)<|Xt [0] (fun (g:Nat) (q:G3) z=>(4,MK (2*g:Nat))::(3,eqS (rowV q (prN a g).length))::z) (fun g q=>[rowE q 48 6 (prN a g).length ((prN a g).flatMap zL)]) (fun g q=>2*g<=a.length/\zX q (prN a g).length) (fun g _=>a.length-2*g) 0 none ⟨BL _,Z⟩ ?_;rintro g q ⟨s,hq⟩;rw [XH] at hq ⊢
 refine Fh ?_;refine Do (2*g+1) ?_;refine FP ?_ ?_<;>intro _ o
 .have j:2*g+1<a.length:=by omega
  have t:a[2*g]? =some (a.getD (2*g) 0):=by simp [(C:2*g<a.length)]
  have e2:a[2*g+1]? =some (a.getD (2*g+1) 0):=by simp [j]
  refine vA 13 [12] _ V (.cons _ .slnil)<|FB ?_;refine ab.one (yK (z:=((2*g+1:Nat):Int)) Z Z Z (MW some (by omega)) (wrap_i64 (by omega) (by omega))) Z Z Z V<|ab.one (zh Z Z Z (by omega) e2) Z Z Z V<|ab.one ((AX (zl (zP (a.getD (2*g+1) 0)))<|zG Z Z Z Z)) Z Z Z V<|FC ((AX (zl (zL (a.getD (2*g) 0,a.getD (2*g+1) 0)))<|yQ Z Z V)) ?_
  refine FH 0 Z Z Z Z hq (by rw [uI,XH]) fun c b=>⟨(.cons _ .slnil),?_⟩
  refine ab.nil<|zg ?_;refine Do (2*(g+1)) ?_;exact⟨g+1,c,⟨by omega,by rw [XH];exact b⟩,by omega,an (aa Z (xm Z (by rw [XH];rfl) zk)) (by rw [XH,ziE,CB];rfl)⟩
 .obtain e:g=a.length/2:=by omega
  rw [<-e];have d:∀ p∈(prN a g).map Xs,wL 7 p:=fun p hp=>by
   obtain⟨v,m,rfl⟩:=Bc.1 hp;unfold prN fb at m
   obtain⟨i,hi,rfl⟩:=Bc.1 m;have hi:=AI.1 hi;exact zh9 (n _ (by grind)) (n _ (by grind))
  refine zK<|Fs (yF 0 3 Z Z hq (f:=zL) (XH ..) Z GX GK) ?_;refine Fl Z Z (show zm _ _ _ [zR 6 zL (prN a g)] (zR 6 zL (prN a g)) from by have h:=za0 (G:=G) (xs:=(prN a g).map Xs) J d J (by rw [BR,XH];unfold cap;omega);rw [zuQ] at h;exact h.args ⟨fun _ _ h=>zxT h,trivial⟩) ?_
  exact Hj
theorem zpC {s:G6} (hs:s.length<=2000):G0 G 51 [strS s] (yR [MK (zaq s).1,zR 3 q3 (zaq s).2.1,MK (zaq s).2.2]):=by
  have W:=fun p hp=>KS (c:=32) (s:=s) (p:=p) hp;have a0:=XG 32 s;refine zs func51 ?_;refine zg ?_;refine Fi (zb Z Z (za5 C)) ?_;refine xK (fun O=>?_) fun O=>?_
  . have m:=MV.1 O
    have hf:WG (wA 32 s)=false:=by cases h:WG (wA 32 s) with | false=>rfl | true=>grind
    have hk:zaq s=(-1,[],1):=by unfold zaq;rw [hf];rfl
    refine zr<|zz ?_;refine Fi ((yt Z Z).sub (mm (l:=(zaq s).2.1) (by rw [hk]))) ?_
    exact zj (zu (e:=by rw [hk]))
  . have m:=bne_eq_false_iff_eq.1 O
    have hf:WG (wA 32 s)=true:=by cases h:WG (wA 32 s) with | true=>rfl | false=>grind
    obtain⟨w,r,E⟩:∃ w r,wA 32 s=w::r:=by
      cases h:wA 32 s with
      | nil=>exact M1 h (Yf 32 s)
      | cons w r=>simp
    have hk:zaq s=zbl w r:=by unfold zaq;rw [MX hf,E]
    rw [MX hf,MX hf,E];rw [E] at W a0
    simp only [Ap] at a0
    rw [hk];obtain⟨K,hK⟩:∃ K,K=kindF w:=⟨_,Z⟩;refine zg ?_;refine Fi (zh Z Z Z C (y:=w) Z) ?_;refine zo ((zb Z Z zly).sub (zI hK.symm)) ?_;refine zz ?_;refine zx<|zz ?_;refine zo ((wI Z Z).sub (zI (n:=((r.length+1:Nat):Int)) B)) ?_;refine za ((r.length:Nat):Int) ?_;refine zg ?_;refine zi<|yL (K:=fun S1=>∃ b:Bool,(b=true↔(K<0\/(K=2/\r.length≠4)\/r.length%2≠0\/r.length=0))/\aC S1 ⟨85,[(47,zp b),(8,MK (r.length:Nat)),(7,MK K),(5,zR 1 tC (w::r))],[],[],(0,false)⟩) ?_ ?_
    . refine zJ<|zz ?_
      refine ae.oneB (zZ Z Z Z Z) Z Z Z (fun v=>?_) (fun v=>?_)
      . have R:=MO v
        refine zg ?_;exact⟨true,⟨fun _=>.inl C,fun _=>rfl⟩,MM⟩
      . have R:=MP v
        iterate 2 refine zz ?_
        refine ae.oneB (zZ Z Z Z Z) (gB Z Z Z Z) Z Z (fun u=>?_) (fun u=>?_)
        . have Q:=MU.1 u
          iterate 4 refine zz ?_
          refine ae.oneB (xl Z Z Z) Z Z Z (fun t=>?_) (fun t=>?_)
          . have P:=MV.1 t
            refine zg ?_;exact⟨true,⟨fun _=>.inr (.inl C),fun _=>rfl⟩,MM⟩
          . have P:=bne_eq_false_iff_eq.1 t
            refine zg ?_;refine zo ((wt Z Z Z C C).sub (zI (n:=((r.length%2:Nat):Int)) C)) ?_;refine zz ?_;refine ae.oneB (xl Z Z Z) Z Z Z (fun a=>?_) (fun a=>?_)
            . have i:=MV.1 a
              omega
            . have i:=bne_eq_false_iff_eq.1 a
              refine zg ?_;exact⟨_,(by grind),aA (aa Z (aa Z (aa Z (aa Z (trivial)))))⟩
        . have Q:=MT.1 u
          refine zg ?_;refine zo ((wt Z Z Z C C).sub (zI (n:=((r.length%2:Nat):Int)) C)) ?_;refine zz ?_;refine ae.oneB (xl Z Z Z) Z Z Z (fun a=>?_) (fun a=>?_)
          . have i:=MV.1 a
            refine zg ?_;exact⟨true,⟨fun _=>.inr (.inr (.inl C)),fun _=>rfl⟩,MM⟩
          . have i:=bne_eq_false_iff_eq.1 a
            refine zg ?_;exact⟨_,(by grind),aA (aa Z (aa Z (aa Z (aa Z (trivial)))))⟩
    . rintro S1 ⟨b,hb,F⟩
      refine xq F<|xK (fun N=>?_) fun N=>?_
      . have X:zbl w r=(K,[],1):=by unfold zbl;rw [<-hK,MX (hb.1 N)]
        apply zr;(iterate 2 refine zz ?_);refine Fi ((yt Z Z).sub (mm (l:=(zbl w r).2.1) (by rw [X]))) ?_
        exact zj (zu (e:=by rw [X]))
      . have a5:=fun h=>Ec (N.symm.trans (hb.2 h))
        have d:zbl w r=if r.all QM then (K,r.map fun x=>(xx x).1,Uv 0 r) else (K,[],1):=by unfold zbl;rw [<-hK,MY a5]
        refine zB<|zr<|Fh ?_;refine zH (yI 46 3)<|Xt [7,5] (fun (g:Nat) (q:G3) z=>(10,MK (Uv 0 (r.take g)))::(11,ML (g+1))::(9,eqS (rowV q g))::z) (fun g q=>[rowE q 46 3 g (((r.take g).map (fun x:G6=>(xx x).1)).flatMap q3)]) (fun g q=>g<=r.length/\zX q g/\(r.take g).all QM=true) (fun g _=>r.length-g) 0 none ⟨BL _,Z,Z⟩ ?_;rintro g q ⟨hg,hq,hn⟩;refine zi<|zr ?_;(iterate 2 refine zz ?_);refine Fi ((wI Z Z).sub (zI (n:=((r.length+1:Nat):Int)) B)) ?_;refine xK (fun M=>?_) fun M=>?_
        . have a4:=MO M
          obtain⟨x,hx⟩:=FU r g;have U:=AE hx;have a8:=W x (Bi _ U);have A:Uv 0 (r.take (g+1))=Uu (Uv 0 (r.take g)) x:=by unfold Uv;rw [yp hx,Dt];rfl
          obtain⟨C0,a7⟩:∃ C0,C0=Uv 0 (r.take g):=⟨_,Z⟩;rw [<-a7] at A ⊢
          have a9:=om x;have hms:(r.take (g+1)).map (fun x=>(xx x).1)=(r.take g).map (fun x=>(xx x).1)++[(xx x).1]:=by rw [yp hx,Cp];rfl
          have a6:((r.take g).map fun x=>(xx x).1).length=g:=by rw [BR,BG];omega
          refine zB<|zi<|Fh ?_;refine Fi (zb Z Z (zgg C)) ?_;refine yT fun a2=>?_;refine zg ?_;refine yL (K:=fun S1=>QM x=true/\aC S1 ⟨85,[(10,MK (Uv 0 (r.take (g+1)))),(12,G9 a2),(11,ML (g+1)),(9,eqS (rowV q g)),(7,MK K),(5,zR 1 tC (w::r))],[⟨some a2,46,zP (xx x).1,0⟩,rowE q 46 3 g (((r.take g).map (fun x:G6=>(xx x).1)).flatMap q3)],[],(0,false)⟩) ?_ ?_
          . refine zg ?_;refine xK (fun L=>?_) fun L=>?_
            . have k:=MU.1 L
              have j:QM x=true:=by unfold QM;rw [k];rfl
              have o:Uu C0 x=Yj C0 2:=by unfold Uu;rw [MX k,kZ J]
              refine zg ?_;refine Fk Qa ?_;exact⟨j,(by rw [A,o];exact MM)⟩
            . have k:=MT.1 L
              refine zg ?_;refine xK (fun I=>?_) fun I=>?_
              . have S:=MV.1 I
                have a1:r.all QM=false:=by
                  cases h:r.all QM with
                  | false=>rfl
                  | true=>
                    have:=B9.1 h x U;unfold QM at this;grind
                rw [MY (by grind)] at d
                apply zr;(iterate 2 refine zz ?_);refine Fi ((yt Z Z).sub (mm (l:=(zbl w r).2.1) (by rw [d]))) ?_
                exact zj (zu (e:=by rw [d]))
              . have S:=bne_eq_false_iff_eq.1 I
                have j:QM x=true:=by unfold QM;rw [S];rfl
                refine zg ?_;refine xK (fun H=>?_) fun H=>?_
                . have D:=MO H
                  have o:Uu C0 x=Yj C0 3:=by unfold Uu;rw [MY k,MX D,kZ J]
                  refine zg ?_;refine Fk Qa ?_;exact⟨j,(by rw [A,o];exact MM)⟩
                . have D:=MP H
                  have o:Uu C0 x=C0:=by unfold Uu;rw [MY k,MY D]
                  exact zB ⟨j,(by rw [A,o];exact MM)⟩
          . rintro S1 ⟨j,F⟩
            refine xq F<|zg ?_;refine zo (zy Z Z J Z B V V) ?_;refine ae.append 1 Z Z Z Z Z Z Z Z hq (by rw [zsc,a6]) (fun z hz=>by grind) GF GF fun a3 Y=>zz ?_;refine ae.ghost _ Z (zF (B5 _ _))<|zg ?_;refine Do (g+1+1) ?_
            exact⟨g+1,a3,⟨C,Y,zsb hx j hn⟩,C,an zk Gp⟩
        . have a4:=MP M
          obtain rfl:g=r.length:=C;rw [B3] at hn ⊢
          rw [MX hn] at d
          refine zK<|zH (yF 0 9 Z Z hq (by rw [BR]) Z GX GK)<|zg ?_
          exact zj (zu (e:=by rw [d]))
end Go.Proofs
namespace Num
open Go Go.Proofs
variable {α:Type} {l:List α} {s:Sc}
abbrev G13 (l:List RP):Prop:=20<l.length\/80<gs Ua l l.length
def Sm (s:Sc):Prop:=(¬zyh s/\s.1.length<=8/\s.2.1.length<=8)/\(∀r∈s.2.1,r.length<=8/\¬ G13 r)/\¬ G13 s.1
noncomputable def smB (s:Sc):Bool:= @decide (Sm s) (Classical.propDecidable _)
def nP {P:α->Prop} {g:Nat} {x:α} (h:l[g]? =some x) (hp:P x) (a:∀ y∈l.take g,P y):∀ y∈l.take (g+1),P y:=fun y hy=>by
 rw [Cz,h] at hy
 grind
def zpF (h:Yx s=true):3<=s.1.length/\s.1.length<=6/\s.2.1.length<=4/\(∀r∈s.2.1,3<=r.length)/\tris s<=6/\s.2.2.length<=8:=by
 unfold Yx cu at h
 grind
def zpG (h:Yx s=false):Xg s=4:=by unfold Xg;rw [MX (show clB s 0=false from h)]
end Num
namespace Go.Proofs
open Go Go.Sv Num
variable {G:Imm}
end Go.Proofs
namespace Num
open Go Go.Lib Go.Proofs
variable {K c:Int} {l:List Rat} {p:List V2} {rd:Rd} {s:G6}
def ZQ (rd:Rd):Int:=if rd.que≠[] then 2 else if rd.obs≠[] then 1 else 0
def Yk (rd:Rd) (k:Int) (p:List V2) (c:Int):Rd:=
 if k=0 then {rd with rob:=p,code:=Yj rd.code c} else if k=1 then {rd with obs:=rd.obs++[p],code:=Yj rd.code c}
 else {rd with que:=rd.que++[(p.getD 0 (0,0),p.getD 1 (0,0))],code:=Yj rd.code c}
def zsf {r:G1} (_:r.length≠0) (a:r.length%2=0):(vJ r).length*2=r.length:=by
 have h1:=zm9 a;have b:=MW List.length h1;rw [XH] at b
 omega
theorem zsg (y:rd.rob=[]->rd.obs=[]/\rd.que=[]) (h:zaq s=(K,l,c)):uO rd s =
    if c=1\/¬ (rd.rob=[]↔K=0)\/K<ZQ rd then none else some (Yk rd K (prN l (l.length/2)) c):=by
  unfold zaq at h
  unfold uO;cases hf:WG (wA 32 s) with
  | false=>
    grind
  | true=>
    rw [hf] at h
    rw [MX Z] at h ⊢
    cases hs:wA 32 s with
    | nil=>grind
    | cons w r=>
      rw [hs] at h
      have h:zbl w r=(K,l,c):=h;show Yi rd w r=_;unfold zbl at h
      unfold Yi
      by_cases u:kindF w<0\/(kindF w=2/\r.length≠4)\/r.length%2≠0\/r.length=0
      . rw [MX u] at h
        cases h
        refine Eq.trans ?_ (MX (.inl Z)).symm
        split
        . rename_i q
          rw [AD] at q
          unfold okP at q
          simp only [AD,MQ] at q
          have i:=lc r;rcases u with h | h | h | h
          . have D:¬ w=Xf/\¬ w=ZX/\¬ w=Yh:=by
              unfold kindF at h
              refine⟨fun e=>?_,fun e=>?_,fun e=>?_⟩
              . grind
              . grind
              . grind
            unfold Jd;grind
          . have hq:w=Yh:=by
              have v:=h.1;unfold kindF at v
              split at v
              . omega
              . grind
            have m:=zsf C q.2.1;unfold Jd;grind
          . omega
          omega
        rfl
      . rw [MY u] at h
        have j:r.length%2=0:=C;have A:r.length≠0:=C;have i:=zsf A j;have z:okP r=true:=by unfold okP;rw [MR j,MR C];rfl
        cases hg:r.all QM with
        | false=>
          grind
        | true=>
          rw [hg,MX Z] at h
          have h:=h;obtain⟨g,m⟩:=Prod.mk.inj h;obtain⟨G,I⟩:=Prod.mk.inj m
          clear h m
          subst G;subst I;rw [z,C5,MX Z];rw [g] at u
          have g:=g.symm;have H:=zsa r (.inl Z);have n:(r.map fun x=>(xx x).1).length=r.length:=BR _;rw [n,zm9 j];have L:=nQ r rd.code;obtain⟨p,hp⟩:∃ p,p=vJ r:=⟨_,Z⟩;rw [<-hp] at i ⊢
          rw [L];obtain⟨c,E⟩:∃ c,c=Uv 0 r:=⟨_,Z⟩;rw [<-E] at H ⊢
          have F:c≠1:=C;unfold kindF at g
          unfold Jd
          by_cases o:w=Xf
          . rw [MX o] at g
            rw [MX o];subst g
            by_cases f:rd.rob=[]
            . obtain⟨h1,m⟩:=y f
              rw [MX f,MY]
              . rfl
              . unfold ZQ
                grind
            grind
          . rw [MY o] at g
            rw [MY o]
            by_cases w1:w=ZX
            . rw [MX w1] at g
              rw [MX w1];subst g
              by_cases f:rd.rob=[]
              . grind
              . by_cases hq:rd.que=[]
                . rw [MY (by grind),MY]
                  . rfl
                  . unfold ZQ
                    grind
                . rw [MX (.inr hq),MX (.inr (.inr (by unfold ZQ;grind)))]
            . rw [MY w1] at g
              rw [MY w1]
              by_cases w2:w=Yh
              . rw [MX w2] at g
                rw [MX w2];subst g;have M:r.length=4:=C;obtain⟨a,b,rfl⟩:∃ a b,p=[a,b]:=by
                  match p,i with
                  | [],h=>grind
                  | [a],h=>grind
                  | [a,b],_=>simp
                  | a::b::d::t,h=>grind
                by_cases f:rd.rob=[]
                . grind
                . simp only [f,if_false]
                  rw [MY]
                  . rfl
                  . unfold ZQ
                    grind
              grind
theorem zpH (h:zaq s=(K,l,c)) (b:c≠1):(K=0\/K=1\/K=2)/\l.length≠0/\l.length%2=0/\(K=2->l.length=4)/\(∀q∈l,Bq q 7)/\l.length<=s.length:=by
  unfold zaq at h
  cases hf:WG (wA 32 s) with
  | false=>grind
  | true=>
    rw [hf,MX Z] at h
    cases hs:wA 32 s with
    | nil=>grind
    | cons w r=>
      have a:=XG 32 s;rw [hs] at h a
      have h:zbl w r=(K,l,c):=h;unfold zbl at h
      by_cases d:kindF w<0\/(kindF w=2/\r.length≠4)\/r.length%2≠0\/r.length=0
      . grind
      . rw [MY d] at h
        cases hg:r.all QM with
        | false=>grind
        | true=>
          rw [hg] at h
          obtain⟨h1,g⟩:=Prod.mk.inj h;obtain⟨f,_⟩:=Prod.mk.inj g;have e:kindF w=0\/kindF w=1\/kindF w=2\/kindF w= -1:=by unfold kindF;split;exact .inl Z;split;exact .inr (.inl Z);split;exact .inr (.inr (.inl Z));exact .inr (.inr (.inr Z))
          rw [h1] at d e
          subst f;simp only [BR,Ap] at a ⊢
          refine⟨C,C,C,C,fun q hq=>?_,C⟩;obtain⟨x,_,rfl⟩:=Bc.1 hq;exact m9 x
def zsh (b:K=0\/K=1\/K=2) (a:¬ K<ZQ rd) (e:K=0->rd.obs=[]/\rd.que=[]):ZQ (Yk rd K p c)=K:=by
 rcases b with rfl | rfl | rfl
 .obtain⟨h1,d⟩:=e Z;show ZQ {rd with rob:=p,code:=Yj rd.code c}=0;unfold ZQ;grind
 .show ZQ {rd with obs:=rd.obs++[p],code:=Yj rd.code c}=1;have hq:rd.que=[]:=M4 fun h=>a (by unfold ZQ;grind)
  unfold ZQ;simp_all
 .show ZQ {rd with que:=rd.que++[(p.getD 0 (0,0),p.getD 1 (0,0))],code:=Yj rd.code c}=2;unfold ZQ;simp
def zsi (rd:Rd) (K c:Int) (p:List V2):(Yk rd K p c).code=Yj rd.code c:=by unfold Yk;grind
def zvy (hp:p≠[]) (h:rd.rob=[]↔K=0):(Yk rd K p c).rob≠[]:=by
 unfold Yk;grind
def zsj (rd:Rd) (K c:Int) (p:List V2):(Yk rd K p c).obs.length<=rd.obs.length+1/\(Yk rd K p c).que.length<=rd.que.length+1:=by
 unfold Yk;grind
def zAE {g:Nat}:((((g:Nat):Int)==0) != (K==0))=true↔¬ (g=0↔K=0):=by
 grind
end Num
namespace Go.Proofs
open Go Go.Sv Num
variable {G:Imm}
def zei {t:G6} (ht:t.length<=2000):G0 G 31 [strS t] (yR [zl (qsC (yS t).1),MK (yS t).2]):=by
 obtain⟨ls,hls⟩:∃ ls,ls=(if wr t then wA 10 (Lib.trimSuffix t [10]) else []):=⟨_,rfl⟩;have hli:=za6 (G:=G) (s:=t) (by omega);rw [<-hls] at hli
 have hP0:wr t=false->yS t=(([],[],[]),1):=fun h=>by unfold yS;rw [MY (by rw [h];decide)]
 have hP1:wr t=true->yS t=(match goF ls with | none=>(([],[],[]),1) | some rd=>if rd.code≠0 then (([],[],[]),rd.code) else ((rd.rob,rd.obs,rd.que),0)):=fun h=>by unfold yS;rw [MX h,hls,MX h];rfl
 have hz:ls=[]↔wr t=false:=by
  rw [hls];cases h:wr t with
  | true=>rw [MX rfl];exact⟨fun e=>M1 e (Yf _ _),fun e=>by cases e⟩
  | false=>exact⟨fun _=>rfl,fun _=>rfl⟩
 have hlm:∀ w∈ls,w.length<=2000:=fun w hw=>by
  rw [hls] at hw
  split at hw
  .have h1:=KS hw;have h2:=ig t 10;omega
  .cases hw
 have hll:ls.length<=2001:=by
  rw [hls];split
  .have h1:=XG 10 (Lib.trimSuffix t [10]);have h2:=ig t 10;omega
  .exact BL _
 refine zs Tryz.func31 ?_;apply zr;refine yT fun b2=>?_;refine zz ?_;apply zx;refine zz ?_;refine zf hli ?_;(iterate 5 refine zz ?_);apply zM;apply zi;refine yL (K:=fun S1=>∃ b:Bool,(b=true↔wr t=false)/\aC S1 ⟨95,[(25,zp b),(4,zR 1 tC ls),(2,G9 b2)],[⟨some b2,33,[G8,G8,G8],0⟩],[],(0,false)⟩) ?_ ?_
 .refine zJ<|zz ?_;refine ae.oneB (zZ rfl rfl rfl rfl) rfl rfl rfl (fun h2x1=>?_) (fun h2x1=>?_)
  .have k2x1:=MV.1 h2x1;refine zz ?_;(iterate 3 refine zq ?_);refine zz ?_;apply zM;exact⟨true,⟨fun _=>by cases h:wr t with | false=>rfl | true=>exact M1 (MX (.inr h)) k2x1,fun _=>rfl⟩,MM⟩
  .have k2x1:=bne_eq_false_iff_eq.1 h2x1;(iterate 5 refine zz ?_);apply zM;exact⟨_,(by rw [MU,<-hz];exact⟨fun h=>Aa (by omega),fun h=>by rw [h];rfl⟩),an (aa rfl (aa rfl (aa rfl (trivial)))) rfl⟩
 .rintro S1 ⟨b,hb,hS1⟩;refine xq hS1<|xK ?_ ?_<;>intro h25
  .have hpe:=hP0 (hb.1 h25);apply zr;refine zo ((AX (zl (qsC ([],[],[])))<|(yQ rfl rfl (by kernel_rfl)).sub Wi)) ?_;refine zw ?_;refine zz ?_;apply zM;refine zj ?_;exact⟨_,[],.many (.cons (.agg 0 inferInstance rfl rfl rfl rfl) (.cons (.tmp rfl) (.nil))),BZ _,by rw [hpe];rfl,rfl⟩
  .have hok:wr t=true:=by cases h:wr t with | true=>rfl | false=>rw [hb.2 h] at h25;cases h25
   have hp1:=hP1 hok;refine zB<|zr ?_;refine yT fun b6=>?_;apply zx;(iterate 2 refine zz ?_);apply zM;apply zi;apply zr;refine zz ?_;apply zM;refine zN<|zH (yI 29 1)<|zH (yI 50 12)<|uf (fun (g:Nat) (rd:Rd) (qo qq:G3)=>⟨95,[(9,ML g),(8,MK (ZQ rd)),(7,MK rd.code),(6,G9 b6),(4,zR 1 tC ls),(2,G9 b2)],[rowE qq 50 12 rd.que.length (rd.que.flatMap ZP),rowE qo 29 1 rd.obs.length (rd.obs.flatMap Zm),⟨some b6,33,[robS rd.rob,eqS (rowV qo rd.obs.length),eqS (rowV qq rd.que.length)],0⟩,⟨some b2,33,[G8,G8,G8],0⟩],[],(0,false)⟩) (fun g rd qo qq=>(g<=ls.length/\goF (ls.take g)=some rd)/\(zX qo rd.obs.length/\zX qq rd.que.length)/\(rd.obs.length<=g/\rd.que.length<=g)/\(rd.rob=[]↔g=0)/\(rd.rob=[]->rd.obs=[]/\rd.que=[])) (fun g _ _ _=>ls.length-g) 0 rd0 none none ⟨⟨BL _,rfl⟩,⟨rfl,rfl⟩,⟨BL _,BL _⟩,⟨fun _=>rfl,fun _=>rfl⟩,fun _=>⟨rfl,rfl⟩⟩ MM ?_;rintro g rd qo qq ⟨⟨hg,hgo⟩,⟨hqo,hqq⟩,⟨hol,hql⟩,hrg,hcons⟩;apply zi;apply zr;(iterate 4 refine zz ?_);apply zM;refine xK ?_ ?_<;>intro h30
   .have k30:=MO h30;obtain⟨w,hw⟩:=FU ls g;have hwl:=hlm w (AE hw);obtain⟨⟨K,l,c⟩,hr⟩:∃ x,zaq w=x:=⟨_,rfl⟩;have hline:=zsg hcons hr;have hgs:=zgp hw hgo;have hrs:=zpC (G:=G) (s:=w) hwl;rw [hr] at hrs
    have hpl0:=XH l (l.length/2);obtain⟨p,hp⟩:∃ p,p=prN l (l.length/2):=⟨_,rfl⟩;rw [<-hp] at hline hpl0
    refine zB<|yL (K:=fun S1=>∃ qo2 qq2,((uO rd w=some (Yk rd K p c)/\ZQ (Yk rd K p c)=K)/\((Yk rd K p c).obs.length<=rd.obs.length+1/\(Yk rd K p c).que.length<=rd.que.length+1)/\(Yk rd K p c).rob≠[])/\(zX qo2 (Yk rd K p c).obs.length/\zX qq2 (Yk rd K p c).que.length)/\aC S1 ⟨95,[(9,ML g),(8,MK K),(7,MK (Yj rd.code c)),(6,G9 b6),(4,zR 1 tC ls),(2,G9 b2)],[rowE qq2 50 12 (Yk rd K p c).que.length ((Yk rd K p c).que.flatMap ZP),rowE qo2 29 1 (Yk rd K p c).obs.length ((Yk rd K p c).obs.flatMap Zm),⟨some b6,33,[robS (Yk rd K p c).rob,eqS (rowV qo2 (Yk rd K p c).obs.length),eqS (rowV qq2 (Yk rd K p c).que.length)],0⟩,⟨some b2,33,[G8,G8,G8],0⟩],[],(0,false)⟩) ?_ ?_
    .refine zN<|zr ?_;(iterate 2 refine zz ?_);refine zo (zh rfl rfl rfl (by omega) (y:=w) hw) ?_;refine zz ?_;refine zf hrs ?_;(iterate 7 refine zz ?_);apply zM;apply zi;refine yL (K:=fun S1=>∃ b:Bool,(b=true↔(c=1\/¬ (rd.rob=[]↔K=0)\/K<ZQ rd))/\aC S1 ⟨95,[(55,zp b),(12,MK c),(11,zR 3 q3 l),(10,MK K),(9,ML g),(8,MK (ZQ rd)),(7,MK rd.code),(6,G9 b6),(4,zR 1 tC ls),(2,G9 b2)],[rowE qq 50 12 rd.que.length (rd.que.flatMap ZP),rowE qo 29 1 rd.obs.length (rd.obs.flatMap Zm),⟨some b6,33,[robS rd.rob,eqS (rowV qo rd.obs.length),eqS (rowV qq rd.que.length)],0⟩,⟨some b2,33,[G8,G8,G8],0⟩],[],(0,false)⟩) ?_ ?_
     .refine zJ<|zz ?_;refine ae.oneB (zZ rfl rfl rfl rfl) rfl rfl rfl (fun h10x1=>?_) (fun h10x1=>?_)
      .have k10x1:=MU.1 h10x1;refine zz ?_;(iterate 5 refine zq ?_);(iterate 2 refine zz ?_);(iterate 3 refine zq ?_);refine zz ?_;apply zM;exact⟨true,⟨fun _=>.inl k10x1,fun _=>rfl⟩,MM⟩
      .have k10x1:=MT.1 h10x1;(iterate 5 refine zz ?_);refine zo (Uy rfl rfl rfl aP) ?_;refine ae.oneB (xl rfl rfl rfl) rfl rfl rfl (fun h10x8=>?_) (fun h10x8=>?_)
       .refine zz ?_;(iterate 3 refine zq ?_);refine zz ?_;apply zM;exact⟨true,⟨fun _=>.inr (.inl (by rw [hrg];exact zAE.1 h10x8)),fun _=>rfl⟩,MM⟩
       .refine zz ?_;(iterate 4 refine zz ?_);apply zM;exact⟨decide (K<ZQ rd),⟨fun h=>.inr (.inr (MO h)),fun h=>MR (by rcases h with h | h | h;exact M1 h k10x1;exact M1 (h10x8.symm.trans (zAE.2 (by rw [<-hrg];exact h))) Ec;exact h)⟩,MM⟩
     .rintro S1 ⟨b2_,hb2,hS1⟩;refine xq hS1<|xK ?_ ?_<;>intro h55
      .have hnone:uO rd w=none:=by rw [hline];exact MX (hb2.1 h55)
       have hpe:yS t=(([],[],[]),1):=by rw [hp1,zgq (hgs.trans hnone)]
       apply zr;refine zo ((AX (zl (qsC ([],[],[])))<|(yQ rfl rfl (by kernel_rfl)).sub Wi)) ?_;refine zw ?_;refine zz ?_;apply zM;refine zj ?_;exact⟨_,[],.many (.cons (.agg 3 inferInstance rfl rfl rfl rfl) (.cons (.tmp rfl) (.nil))),BZ _,by rw [hpe];rfl,rfl⟩
      .have hnb:=fun h=>Ec (h55.symm.trans (hb2.2 h));have hsome:=hline.trans (MY hnb);have hc1:c≠1:=fun h=>hnb (.inl h);have hrk:rd.rob=[]↔K=0:=M4 fun h=>hnb (.inr (.inl h));have hkl:¬ K<ZQ rd:=fun h=>hnb (.inr (.inr h));obtain⟨hk3,hl0,hl2,hl4,hbq,hll2⟩:=zpH hr hc1;have hpts:=zpB (G:=G) hbq (by omega)
       have hpl:=hpl0;have hpne:p≠[]:=fun e=>by rw [e] at hpl;simp at hpl;omega
       rw [<-hp] at hpts
       have hla:=zsh (p:=p) (c:=c) hk3 hkl (fun h=>hcons (hrk.2 h));have hal:=zsj rd K c p;have har:=zvy (c:=c) hpne hrk;have hfa:=And.intro (And.intro hsome hla) (And.intro hal har);refine zB<|zr ?_;(iterate 2 refine zz ?_);refine zf Qa ?_;refine zz ?_;apply zx;(iterate 2 refine zz ?_);apply zx;refine zz ?_;refine zf hpts ?_;refine zz ?_;apply zx;refine zz ?_;apply zM;refine zN<|zr ?_;(iterate 2 refine zz ?_);apply zM;refine xK ?_ ?_<;>intro h64
       .have k64:=MU.1 h64;subst k64;have e0:robS (Yk rd 0 p c).rob=zR 6 zL p:=YJ hpne;apply zJ;(iterate 2 refine zz ?_);refine zw ?_;apply zM;exact⟨qo,qq,hfa,⟨hqo,hqq⟩,MN (by rw [e0] <;> rfl)⟩
       .have k64:=MT.1 h64;apply zr;(iterate 2 refine zz ?_);apply zM;refine xK ?_ ?_<;>intro h68
        .have k68:=MU.1 h68;subst k68;have e1:(Yk rd 1 p c).obs.length=rd.obs.length+1:=by show (rd.obs++[p]).length=_;simp
         have e2:(Yk rd 1 p c).obs.flatMap Zm=rd.obs.flatMap Zm++Zm p:=by show (rd.obs++[p]).flatMap Zm=_;simp
         apply zJ;(iterate 3 refine zz ?_);refine zo (zy rfl rfl (by decide) rfl (by simp) rfl rfl) ?_;refine ae.append 1 rfl rfl rfl rfl rfl rfl rfl rfl hqo (by rw [oJ]) (fun z hz=>by rw [AS.1 hz];rfl) (by unfold yE;simp;omega) (by unfold yE;simp;omega) fun q74 hq74=>zz ?_;refine zw ?_;apply zM
         exact⟨q74,qq,hfa,⟨by rw [e1];exact hq74,hqq⟩,MN (by rw [e1,e2] <;> rfl)⟩
        .have k68:=MT.1 h68;apply zr;(iterate 2 refine zz ?_);apply zM;refine xK ?_ ?_<;>intro h76
         .have k76:=MU.1 h76;subst k76;have hp2:p.length=2:=by have:=hl4 rfl;omega
          obtain⟨pa,pb,hpab⟩:∃ a b,p=[a,b]:=by
           match p,hp2 with
           | [a,b],_=>exact⟨a,b,rfl⟩
          have e1:(Yk rd 2 p c).que.length=rd.que.length+1:=by show (rd.que++[_]).length=_;simp
          have e2:(Yk rd 2 p c).que.flatMap ZP=rd.que.flatMap ZP++ZP (pa,pb):=by rw [hpab];show (rd.que++[(pa,pb)]).flatMap ZP=_;simp
          refine vA 13 [10,12] _ (by kernel_rfl) (.cons _ (.cons_cons _ (.cons _ (.cons_cons _ .slnil))))<|ab.one (zS rfl rfl rfl) rfl rfl rfl (by kernel_rfl)<|ab.one (zQ 2 rfl rfl rfl rfl) rfl rfl rfl (by kernel_rfl)<|ab.one (zC rfl rfl) rfl rfl rfl (by kernel_rfl)<|ab.one (zh rfl rfl rfl (by omega) (y:=pa) ((by rw [hpab];rfl))) rfl rfl rfl (by kernel_rfl)<|ab.one ((AX (zl (zL pa))<|zG rfl rfl rfl rfl)) rfl rfl rfl (by kernel_rfl)<|ab.one (zC rfl rfl) rfl rfl rfl (by kernel_rfl)<|ab.one (zh rfl rfl rfl (by omega) (y:=pb) ((by rw [hpab];rfl))) rfl rfl rfl (by kernel_rfl)<|ab.one ((AX (zl (zL pb))<|zG rfl rfl rfl rfl)) rfl rfl rfl (by kernel_rfl)<|ab.one ((AX (zl (ZP (pa,pb)))<|yQ rfl rfl (by kernel_rfl))) rfl rfl rfl (by kernel_rfl)<|ab.one (zy rfl rfl (by decide) rfl (by simp) (by kernel_rfl) (by kernel_rfl)) rfl rfl rfl (by kernel_rfl) ?_
          refine ab.nil ⟨_,rfl,?_⟩;refine ar.append 0 rfl rfl rfl rfl rfl rfl rfl hqq (by rw [oI]) (fun z hz=>by rw [AS.1 hz];rfl) (by unfold yE;simp;omega) (by unfold yE;simp;omega) fun q88 hq88=>⟨(.cons _ (.cons_cons _ (.cons _ (.cons_cons _ .slnil)))),?_⟩
          refine ab.one (zS rfl rfl rfl) rfl rfl rfl (by kernel_rfl) ?_;refine ab.nil ⟨_,rfl,?_⟩;refine .loc1n 2 (xf rfl rfl rfl rfl (by first | decide | (simp;done) | (simp;omega))) rfl rfl rfl ?_;rintro s1 H1 ⟨rfl,rfl⟩;refine⟨(.cons _ (.cons_cons _ (.cons _ (.cons_cons _ .slnil)))),?_⟩;refine ab.nil<|zM ?_;exact⟨qo,q88,hfa,⟨hqo,by rw [e1];exact hq88⟩,MN (by rw [e1,e2] <;> rfl)⟩
         .have k76:=MT.1 h76;omega
    .rintro S1 ⟨qo2,qq2,⟨⟨hsome,hla⟩,hal,har⟩,hq2,hS1⟩;refine xq hS1<|zJ<|zz ?_;refine za ((g+1:Nat):Int) ?_;refine zz ?_;apply zM;exact⟨g+1,(Yk rd K p c),qo2,qq2,⟨⟨by omega,hgs.trans hsome⟩,hq2,⟨by omega,by omega⟩,⟨fun h=>M1 h har,fun h=>by omega⟩,fun h=>M1 h har⟩,by omega,an (aa rfl (xm rfl (by rw [hla]) (xm rfl (by rw [zsi]) zk))) rfl⟩
   .have k30:=MP h30;obtain rfl:g=ls.length:=by omega
    rw [B3] at hgo
    rw [hgo] at hp1
    have hp1:yS t=if rd.code≠0 then (([],[],[]),rd.code) else ((rd.rob,rd.obs,rd.que),0):=hp1;refine zK<|zi ?_;refine zH (vB [robS rd.rob] [eqS (rowV qq rd.que.length)] [_] [] [_] hqo (l:=rd.obs) (f:=Zm) rfl rfl (fun _ _=>rfl) (by unfold yE;omega))<|zH (vB [robS rd.rob,zR 1 Zm rd.obs] [] [] [] [_] hqq (l:=rd.que) (f:=ZP) rfl rfl (fun _ _=>rfl) (by unfold yE;omega))<|zr ?_;(iterate 2 refine zz ?_);apply zM;refine xK ?_ ?_<;>intro h91
    .have k91:=MV.1 h91;apply zr;refine zo ((AX (zl (qsC ([],[],[])))<|(yQ rfl rfl (by kernel_rfl)).sub Wi)) ?_;refine zz ?_;refine zw ?_;refine zz ?_;apply zM;refine zj ?_;exact⟨_,[],.many (.cons (.agg 1 inferInstance rfl rfl rfl rfl) (.cons (.tmp rfl) (.nil))),BZ _,by rw [hp1,MX k91];rfl,rfl⟩
    .have k91:=bne_eq_false_iff_eq.1 h91;refine zB<|zr ?_;refine zo ((AX (zl (qsC (rd.rob,rd.obs,rd.que)))<|(AX (zl [robS rd.rob,zR 1 Zm rd.obs,zR 12 ZP rd.que])<|zE 0 rfl rfl rfl (by kernel_rfl) rfl).sub zlr)) ?_;refine zw ?_;refine zz ?_;apply zM;refine zj ?_
     exact⟨_,[],.many (.cons (.agg 1 inferInstance rfl rfl rfl rfl) (.cons (.tmp rfl) (.nil))),BZ _,by rw [hp1,MY (by rw [k91];decide)];rfl,rfl⟩
end Go.Proofs
namespace Num
open Go Go.Proofs
variable {l:List V2} {s:Sc} {r:List RP} {g:Nat} {n:Int}
def m4:ZW l=true↔3<=l.length/\∀ i j,i<j->j<l.length->zcS l (i,j)=true:=by
 unfold ZW;rw [AD,decide_eq_true_eq,B9];refine and_congr_right fun _=>⟨fun h i j h1 h2=>h (i,j) (li.2 ⟨h1,h2⟩),fun h x hx=>?_⟩;obtain⟨i,j⟩:=x;exact h i j (li.1 hx).1 (li.1 hx).2
def zpI {l:List Int} (h:l[g]? =some n) (hp:n=1) (a:∀ x∈l.take g,x=1):∀ x∈l.take (g+1),x=1:=nP h hp a
def zsk (h:(ue l)[g]? =some n) (a:n≠1):Ut l=false:=by
 unfold Ut;have:((ue l).all fun n=>decide (n=1))=false:=by
  cases q:(ue l).all fun n=>decide (n=1) with
  | false=>rfl
  | true=>exact M1 (MO (B9.1 q n (AE h))) a
 grind
theorem zvz (h:∀ x∈ue l,x=1):Ut l=ZW l:=by
 unfold Ut;grind
def zpJ (b:3<=l.length) (a:g<l.length):(ue l)[g]? =some (vK (cr (vc l (g+l.length-1)) (vc l g) (vc l (g+1))) 0):=by
 unfold ue;rw [MY C,Ba,Cx a];rfl
def oF (a:3<=l.length):(ue l).length=l.length:=by unfold ue;grind
def i6 (h:s.1.length<3\/6<s.1.length\/4<s.2.1.length\/8<s.2.2.length\/6<tris s):Yx s=false:=by
 cases q:Yx s with
 | false=>rfl
 | true=>obtain⟨a,b,c,d,e,f⟩:=zpF q;omega
def zvA (a:r∈s.2.1) (h:cu r.length 6=false):Yx s=false:=by
 unfold Yx;grind
def zvB (g:3<=s.1.length) (c2:s.1.length<=6) (f:s.2.1.length<=4) (d:s.2.2.length<=8) (c:tris s<=6) (a:∀ r∈s.2.1,cu r.length 6=true):Yx s=true:=by
 unfold Yx;have e:(s.2.1.any fun r=> !cu r.length 6)=false:=by
  cases q:s.2.1.any fun r=> !cu r.length 6 with
  | false=>rfl
  | true=>grind
 rw [e,MR f,MR d,MR c];unfold cu;grind
def zpK (a:Yx s=true) (h1:Ut (s.1.map pv)=false):Xg s=5:=by
 unfold Xg;rw [MY (by show ¬Yx s=false;grind),MX (show clB s 1=false from h1)]
def zsl (c:Yx s=true) (h1:Ut (s.1.map pv)=true) (a:r∈s.2.1) (b:ZW (r.map pv)=false):Xg s=6:=by
 unfold Xg;rw [MY (by show ¬Yx s=false;grind),MY (by show ¬Ut (s.1.map pv)=false;grind),MX];show (!(s.2.1.any fun r=> !ZW (r.map pv)))=false;grind
def zpL (c:Yx s=true) (h1:Ut (s.1.map pv)=true) (b:∀ r∈s.2.1,ZW (r.map pv)=true):Xg s=0:=by
 unfold Xg;rw [MY (by show ¬Yx s=false;grind),MY (by show ¬Ut (s.1.map pv)=false;grind),MY];show ¬(!(s.2.1.any fun r=> !ZW (r.map pv)))=false;grind
end Num
namespace Go.Proofs
open Go Go.Sv Num Tryz
variable {G:Imm}
variable {xs:List RawP} {k i:Nat} {s:Sc}
def zbM {x y:Int}:(x==y)=decide (x=y):=by rfl
structure Rw (xs:List RawP):Prop where
 one:∀ p∈xs,zaf p/\Ua p<=80
 two:∀ i j,i<j->j<xs.length->Ua (ra xs i)+Ua (ra xs j)<=80
def zsm (hx:∀ p∈xs,zaf p/\Ua p<=40):Rw xs:=⟨fun p hp=>⟨(hx p hp).1,by grind⟩,fun i j d c=>by
 grind⟩
def Rw.ne (h:Rw xs) {j:Nat} (hi:i<xs.length) (b:j<xs.length) (a:i≠j):Ua (ra xs i)+Ua (ra xs j)<=80:=by
 rcases Nat.lt_or_gt_of_ne a with g | g
 .exact h.two i j g b
 .have:=h.two j i g hi;omega
def zvC (hi:i<xs.length) (a:k<xs.length):zcS (xR xs) (i,k)=(!decide (pv (ra xs i)=pv (ra xs k))&&decide (kin (pv (ra xs i)) (pv (rb xs i)) (pv (ra xs k)) (pv (rb xs k))=KI xs.length i k)):=zij hi a
def zdm (b:2<=xs.length) (hi:i<xs.length) (hx:xs.length<=1000000):G0 G 136 [zR 6 pc xs,ML i] (yR [zl (pc (ra xs i)),zl (pc (rb xs i)),zp true]):=by
 have a:(i+1)%xs.length<xs.length:=Be _ C;refine Fq func136 ?_;refine Fm fun e=>?_;refine yT fun d=>?_;refine zg ?_;refine zi<|zr ?_;(iterate 2 refine zz ?_);refine zo ((zZ Z Z Z Z).sub (yz (MS C))) ?_;(iterate 2 refine zz ?_);refine zo ((zZ Z Z Z Z).sub (yz (MS C))) ?_;(iterate 5 refine zz ?_);refine Fi ((zZ Z Z Z Z).sub (yz (MS C))) ?_;refine Fu ?_;refine xv 14 [12,13] _ V (.cons _ (.cons _ .slnil)) ?_;(iterate 2 refine FB ?_);refine FC (zh Z Z Z C (y:=ra xs i) (vx hi)) ?_;refine FD (yK (z:=((i+1:Nat):Int)) Z Z Z (MW some C) (wrap_i64 C C)) ?_;refine FD ((wt Z Z Z C C).sub (zI (n:=(((i+1)%xs.length:Nat):Int)) B)) ?_;refine FD (zh Z Z Z C (y:=rb xs i) (vx a)) ?_;refine .loc1n 1 (xf Z Z Z Z Gg) Z Z Z ?_;rintro s1 H1 ⟨rfl,rfl⟩;refine⟨(.cons _ (.cons _ .slnil)),?_⟩;refine FB ?_;refine .loc1n 0 (xf Z Z Z Z Gg) Z Z Z ?_;rintro s1 H1 ⟨rfl,rfl⟩;refine⟨(.cons _ (.cons _ .slnil)),?_⟩;exact ab.nil<|Lk
def ziF (a:Rw xs) (z:3<=xs.length) (t:i<k) (g:k<xs.length) (hx:xs.length<=1000000):G0 G 90 [zR 6 pc xs,ML i,ML k] (zp (decide (kin (pv (ra xs i)) (pv (rb xs i)) (pv (ra xs k)) (pv (rb xs k))=KI xs.length i k))):=by
 have hi:i<xs.length:=C;have l:(i+1)%xs.length<xs.length:=Be _ C;have b:(k+1)%xs.length<xs.length:=Be _ C;have u:(i+1)%xs.length=i+1:=CZ C;have e2:(k+1)%xs.length=if k+1=xs.length then 0 else k+1:=by split;(rename_i h;rw [h,Nat.mod_self]);exact CZ C
 have s:i≠(i+1)%xs.length:=C;have r:k≠(k+1)%xs.length:=by rw [e2];split <;> omega
 have q:(i+1)%xs.length≠(k+1)%xs.length:=by rw [u,e2];split <;> omega
 have AB:Ua (ra xs i)+Ua (rb xs i)<=80:=a.ne hi l s;have CD:Ua (ra xs k)+Ua (rb xs k)<=80:=a.ne g b r;have AC:=a.ne hi g C;have BD:Ua (rb xs i)+Ua (rb xs k)<=80:=a.ne l b q;have p:Ps (ra xs i) (Ua (ra xs i)+2):=ii (a.one _ (xZ hi)).1;have o:Ps (rb xs i) (Ua (rb xs i)+2):=ii (a.one _ (xZ l)).1;have n:Ps (ra xs k) (Ua (ra xs k)+2):=ii (a.one _ (xZ g)).1;have m:Ps (rb xs k) (Ua (rb xs k)+2):=ii (a.one _ (xZ b)).1;have hsk:=zvb (pv (ra xs i)) (pv (rb xs i)) (pv (ra xs k)) (pv (rb xs k));refine Fq func90 ?_;refine Fk (zdm C hi hx) ?_;refine Fm fun D=>?_;refine yT fun A=>?_;refine zw ?_;refine ae.ghost _ Z (ZK 1 7 Z Z)<|zw ?_;refine ae.ghost _ Z (ZK 0 8 Z Z)<|zg ?_;refine Fk (zdm C g hx) ?_;refine Fm fun y=>?_;refine yT fun x=>?_;refine zw ?_;refine ae.ghost _ Z (ZK 1 10 Z Z)<|zw ?_;refine ae.ghost _ Z (ZK 0 11 Z Z)<|zg ?_;refine Fk (zk6 (w:=82) p o n m ⟨C,C,C,C⟩ C C C C) ?_;refine Fm fun v=>?_;refine za ((i+1:Nat):Int) ?_;refine FI ?_ ?_<;>intro _ f
 .refine zg ?_;refine xt Z Z<|zr ?_;(iterate 2 refine zz ?_);refine Fi ((zZ Z Z Z Z).sub (yz (c:=decide (kin (pv (ra xs i)) (pv (rb xs i)) (pv (ra xs k)) (pv (rb xs k))=1)) (by grind))) ?_
  exact zj (zu (e:=by rw [zid (.inl C)]))
 .iterate 2 refine zz ?_
  refine FE ?_ ?_<;>intro _ d
  .refine Do (xs.length-1) ?_;refine zd ?_ ?_<;>intro _ j
   .apply zr;(iterate 2 refine zz ?_);refine Fi ((zZ Z Z Z Z).sub (yz (c:=decide (kin (pv (ra xs i)) (pv (rb xs i)) (pv (ra xs k)) (pv (rb xs k))=1)) (by grind))) ?_;exact zj (zu (e:=by rw [zid (.inr ⟨C,C⟩)]))
   .exact HZ
  .exact yM Z Z<|HZ
def KW (m:Rw xs) (hx:xs.length<=1000000):G0 G 56 [zR 6 pc xs] (zp (ZW (xR xs))):=by
 have A:(xR xs).length=xs.length:=BR _;refine Fq func56 ?_;refine Fo ?_ ?_<;>intro _ v
 .refine zj ?_;exact⟨_,[],.one (.tmp Z),BZ _,by cases q:ZW (xR xs) with
   | false=>rfl
   | true=>have:=(m4.1 q).1;omega,Z⟩
 .refine Qj [0] (fun (k:Nat) z=>(3,ML k)::z) (fun k=>[]) (fun k=>k<=xs.length/\∀ a b,a<b->b<k->zcS (xR xs) (a,b)=true) (fun k=>xs.length-k) 0 ⟨BL _,fun a b _ h=>by omega⟩ ?_;rintro k ⟨w,j⟩;refine Fh ?_;refine Fo ?_ ?_<;>intro _ s
  .have n:k<xs.length:=C;refine Qj [3,0] (fun (i:Nat) z=>(4,ML i)::z) (fun i=>[]) (fun i=>i<=k/\∀ a,a<i->zcS (xR xs) (a,k)=true) (fun i=>k-i) 0 ⟨BL _,fun a h=>by omega⟩ ?_;rintro i ⟨x,g⟩;refine Fh ?_;refine Fo ?_ ?_<;>intro _ r
   .have o:i<k:=C;have hi:i<xs.length:=C;have l:=zvC hi n;have u:Ps (ra xs k) (Ua (ra xs k)+2):=ii (m.one _ (xZ n)).1;have t:Ps (ra xs i) (Ua (ra xs i)+2):=ii (m.one _ (xZ hi)).1;have F:Ua (ra xs k)<=80:=(m.one _ (xZ n)).2;have E:Ua (ra xs i)<=80:=(m.one _ (xZ hi)).2;have p:zcS (xR xs) (i,k)=false->ZW (xR xs)=false:=fun e=>by
     cases q:ZW (xR xs) with
     | false=>rfl
     | true=>rw [(m4.1 q).2 i k o C] at e;cases e
    refine Fw 16 ?_;refine Fi (zh Z Z Z C (y:=ra xs k) (vx n)) ?_;refine zo (zh Z Z Z C (y:=ra xs i) (vx hi)) ?_;refine zz ?_;refine FG ((zb Z Z (zw4 u t C)).sub (yz (c:=decide (pv (ra xs i)=pv (ra xs k))) (decide_eq_decide.2 M3))) ?_ ?_<;>intro d
    .refine Ft ?_;exact zj (zu (e:=by grind))
    .refine Fk (ziF m C o n hx) ?_;refine Fp ?_ ?_<;>intro f
     .exact zj (zu (e:=by grind))
     .refine Do (i+1) ?_;exact⟨i+1,⟨C,fun a H=>by
       grind⟩,C,MM⟩
   .refine Do (k+1) ?_;exact⟨k+1,⟨C,fun a b h1 D=>by
     grind⟩,C,MM⟩
  .exact zj (zu (e:=by rw [m4.2 ⟨C,fun a b h1 D=>j a b h1 C⟩]))
def ziG (r:Rw xs) (hx:xs.length<=1000000):G0 G 88 [zR 6 pc xs] (zR 1 KG (ue (xR xs))):=by
 have a:(xR xs).length=xs.length:=BR _;refine Fq func88 ?_;refine zd ?_ ?_<;>intro _ x
 .refine zr<|Fi ((yt Z Z).sub (show ∀I v,(G8).den I v->(zR 1 KG (ue (xR xs))).den I v from fun I v h=>by have e:(ue (xR xs))=[]:=MX C;rw [e];cases h;exact UI)) ?_
  exact Hj
 .refine Fh ?_;refine zH (yI 3 1)<|Xt [0] (fun (g:Nat) (q:G3) z=>(4,ML g)::(3,eqS (rowV q g))::z) (fun g q=>[rowE q 3 1 g (((ue (xR xs)).take g).flatMap KG)]) (fun g q=>g<=xs.length/\zX q g) (fun g _=>xs.length-g) 0 none ⟨BL _,Z⟩ ?_;rintro g q ⟨A,hq⟩;refine Fh ?_;refine FP ?_ ?_<;>intro _ k
  .have d:g<xs.length:=C;have j:(g+xs.length-1)%xs.length<xs.length:=Be _ C;have m2:(g+1)%xs.length<xs.length:=Be _ C;have c:=zpJ (l:=xR xs) (g:=g) C C;rw [a] at c
   rw [<-zmE (xR xs) (g+xs.length-1),a,JP j,JP d,KM d] at c
   obtain⟨n,w⟩:∃ n,n=vK (cr (pv (ra xs ((g+xs.length-1)%xs.length))) (pv (ra xs g)) (pv (rb xs g))) 0:=⟨_,Z⟩;rw [<-w] at c
   have p:(ue (xR xs)).take (g+1)=(ue (xR xs)).take g++[n]:=by rw [Cz,c];rfl
   have m:((ue (xR xs)).take g).length=g:=by rw [BG,oF C,a];omega
   have u:zaf (ra xs ((g+xs.length-1)%xs.length))/\Ua (ra xs ((g+xs.length-1)%xs.length))<=80:=r.one _ (xZ j);have t:zaf (ra xs g)/\Ua (ra xs g)<=80:=r.one _ (xZ d);have s:zaf (rb xs g)/\Ua (rb xs g)<=80:=r.one _ (xZ m2);refine vA 27 [26] _ V (.cons _ .slnil)<|FB ?_;refine FC (yK (z:=((g+xs.length:Nat):Int)) Z Z Z (MW some C) (wrap_i64 C C)) ?_;refine FC (yK (z:=((g+xs.length-1:Nat):Int)) Z Z Z (MW some C) (wrap_i64 C C)) ?_;refine FC ((wt Z Z Z C C).sub (zI (n:=(((g+xs.length-1)%xs.length:Nat):Int)) (by rw [Dc]))) ?_;refine FC (zh Z Z Z C (y:=ra xs ((g+xs.length-1)%xs.length)) (vx j)) ?_;refine FC (zh Z Z Z C (y:=ra xs g) (vx d)) ?_;refine FC (yK (z:=((g+1:Nat):Int)) Z Z Z (MW some C) (wrap_i64 C C)) ?_;refine FC ((wt Z Z Z C C).sub (zI (n:=(((g+1)%xs.length:Nat):Int)) (by rw [Dc]))) ?_;refine FC (zh Z Z Z C (y:=rb xs g) (vx m2)) ?_;refine ab.one (zb Z Z (show zm _ _ _ _ (MK n) from by rw [w];exact zk0 u.1 t.1 s.1 (by omega))) Z Z Z V<|FB ?_
   refine FH 0 Z Z Z Z hq (by rw [og,m];simp) fun i b=>⟨(.cons _ .slnil),?_⟩
   refine ab.nil<|zg ?_;refine Do (g+1) ?_;exact⟨g+1,i,⟨C,b⟩,C,MN (by rw [p,CB];rfl)⟩
  .obtain rfl:g=xs.length:=C;have o:(ue (xR xs)).take xs.length=(ue (xR xs)):=BC (by rw [oF C,a];omega);rw [o];refine zK<|Fs (yF 0 3 Z Z hq (by rw [oF C,a]) Z GX GK) ?_
   exact Hj
theorem zgw (f:Rw xs) (hx:xs.length<=1000000):G0 G 55 [zR 6 pc xs] (zp (Ut (xR xs))):=by
 refine Fq func55 ?_;refine Fk (ziG f hx) ?_;refine uM 3 Z fun lt=>?_;unfold yE at lt;refine xi (fun g=>⟨_,[(4,ML g),(3,zR 1 KG (ue (xR xs))),(0,zR 6 pc xs)],[],[],(0,false)⟩) (fun g=>g<=(ue (xR xs)).length/\∀ x∈(ue (xR xs)).take g,x=1) (fun g=>(ue (xR xs)).length-g) 0 ⟨BL _,fun x hx=>by simp at hx⟩ (aA (aa Z (aa Z (aa Z trivial)))) ?_
 rintro g ⟨i,a⟩;refine Fh ?_;refine Fo ?_ ?_<;>intro _ c
 .obtain⟨n,h⟩:=FU (ue (xR xs)) g;refine Fh ?_;refine Fo ?_ ?_<;>intro _ b
  .exact zj (zu (e:=by rw [zsk h b]))
  .refine Do (g+1) ?_;exact⟨g+1,⟨by omega,zpI h b a⟩,by omega,MM⟩
 .have d:=zvz (l:=xR xs) (by grind);refine Fk (KW f hx) ?_;exact zj (zu (e:=by rw [d]))
def zdn (h:eV s k):G0 G 22 [zl (dO s)] (MK (tris s:Nat)):=by
 have f:=h.ol;refine Fq func22 ?_;refine Qj [1] (fun (g:Nat) z=>(4,ML g)::(3,MK (trisN s g:Nat))::z) (fun g=>[]) (fun g=>g<=s.2.1.length/\trisN s g<=1000000*g) (fun g=>s.2.1.length-g) 0 ⟨BL _,Af _⟩ ?_;rintro g ⟨i,hgt⟩;refine Fh ?_;refine Fo ?_ ?_<;>intro _ b
 .obtain⟨r,a⟩:=FU s.2.1 g;have d:=h.orl _ (AE a);have c:=zdi a;refine Fh ?_;refine zo (yK (z:=(r.length:Int)-2) Z Z Z (MW some (by omega)) (wrap_i64 (by omega) (by omega))) ?_;refine Fi ((Yb Z Z Z).sub (zI (n:=((r.length-2:Nat):Int)) (by omega))) ?_;refine Do (trisN s (g+1)) ?_;refine Do (g+1) ?_;exact⟨g+1,⟨by omega,by omega⟩,by omega,MM⟩
 .exact zj (zu (e:=by rw [<-ze8,(C:s.2.1.length=g)]))
def zgx (h:eV s k):G0 G 54 [zl (dO s)] (zp (Yx s)):=by
 have E:=h.ol;have A:=h.rl;have D:=h.ql;refine zs func54 ?_;refine zg ?_;refine zi<|yL (K:=fun S1=>∃ c:Bool,(c=true->Yx s=false)/\(c=false->3<=s.1.length/\s.1.length<=6/\s.2.1.length<=4/\s.2.2.length<=8/\tris s<=6)/\aC S1 ⟨54,[(30,zp c),(1,yo (dO s))],[],[],(0,false)⟩) ?_ ?_
 .apply zJ;(iterate 3 refine zz ?_);refine FI ?_ ?_<;>intro _ q
  .refine zg ?_;exact⟨true,(fun _=>i6 (.inl C)),GO,MM⟩
  .iterate 5 refine zz ?_
   refine FJ ?_ ?_<;>intro f
   .have p:=MO f;refine zg ?_;exact⟨true,(fun _=>i6 (.inr (.inl C))),GO,MM⟩
   .have p:=MP f
    iterate 5 refine zz ?_
    refine FJ ?_ ?_<;>intro b
    .have j:=MO b;refine zg ?_;exact⟨true,(fun _=>i6 (.inr (.inr (.inl C)))),GO,MM⟩
    .have j:=MP b
     iterate 5 refine zz ?_
     refine FF ?_ ?_<;>intro a
     .have i:=MO a;exact⟨true,(fun _=>i6 (.inr (.inr (.inr (.inl C))))),GO,MM⟩
     .have i:=MP a;refine Fk (zdn h) ?_;exact⟨_,(fun h=>i6 (.inr (.inr (.inr (.inr (by grind)))))),(fun h=>by grind),aA (aa Z (aa Z (trivial)))⟩
 .rintro S1 ⟨c,w,v,l⟩;refine xq l<|Fp ?_ ?_<;>intro n
  .exact zj (zu (e:=by rw [w n]))
  .obtain⟨L,c2,I,H,F⟩:=v n;refine xi (fun g=>⟨_,[(3,ML g),(1,yo (dO s))],[],[],(0,false)⟩) (fun g=>g<=s.2.1.length/\∀ r∈s.2.1.take g,cu r.length 6=true) (fun g=>s.2.1.length-g) 0 ⟨BL _,fun x hx=>by simp at hx⟩ (aA (aa Z (aa Z trivial))) ?_;rintro g ⟨M,d⟩;refine Fh ?_;refine FQ ?_ ?_<;>intro _ u
   .obtain⟨r,t⟩:=FU s.2.1 g;have z:=h.orl _ (AE t);refine zB<|zi<|zN<|yL (K:=fun S1=>aC S1 ⟨54,[(53,zp (!cu r.length 6)),(3,ML g),(1,yo (dO s))],[],[],(0,false)⟩) ?_ ?_
    .refine zg ?_;refine zo (zh Z Z Z (by omega) t) ?_;(iterate 2 refine zz ?_);refine FE ?_ ?_<;>intro _ o
     .exact (by rw [show cu r.length 6=false by unfold cu;grind];exact MM)
     .exact (by rw [show (!cu r.length 6)=decide ((6:Int)<(r.length:Nat)) by unfold cu;grind];exact MM)
    .intro S1 l;refine xq l<|Fp ?_ ?_<;>intro m
     .exact zj (zu (e:=by rw [zvA (AE t) (by grind)]))
     .refine Do (g+1) ?_;exact⟨g+1,⟨by omega,nP t (by grind) d⟩,by omega,MM⟩
   .exact zj (zu (e:=by rw [zvB L c2 I H F (by grind)]))
def zlz (h:eV s k) (h1:Rw s.1) (o:∀ r∈s.2.1,Rw r):G0 G 32 [zl (dO s)] (MK (Xg s)):=by
 have n:=h.ol;refine Fq func32 ?_;refine Fk (zgx h) ?_;refine Fp ?_ ?_<;>intro l
 .have g0:Yx s=false:=by simpa using l
  exact zj (zu (e:=by rw [zpG g0]))
 .have g0:Yx s=true:=by simpa using l
  refine Fk (zgw h1 h.rl) ?_;refine Fp ?_ ?_<;>intro d
  .have i:Ut (xR s.1)=false:=by simpa using d
   exact zj (zu (e:=by rw [zpK g0 i]))
  .have i:Ut (xR s.1)=true:=by simpa using d
   refine xi (fun g=>⟨_,[(3,ML g),(1,yo (dO s))],[],[],(0,false)⟩) (fun g=>g<=s.2.1.length/\∀ r∈s.2.1.take g,ZW (xR r)=true) (fun g=>s.2.1.length-g) 0 ⟨BL _,fun x hx=>by simp at hx⟩ (aA (aa Z (aa Z trivial))) ?_;rintro g ⟨q,a⟩;refine Fh ?_;refine Fo ?_ ?_<;>intro _ j
   .obtain⟨r,m⟩:=FU s.2.1 g;have b:=AE m;have f:=h.orl _ b;refine Fh ?_;refine Fk (KW (o r b) f) ?_;refine Fp ?_ ?_<;>intro c
    .have p:ZW (xR r)=false:=by simpa using c
     exact zj (zu (e:=by rw [zsl g0 i b p]))
    .refine Do (g+1) ?_;exact⟨g+1,⟨by omega,nP m (by grind) a⟩,by omega,MM⟩
   .exact zj (zu (e:=by rw [zpL g0 i (by grind)]))
def zdo {t:G6} (ht:t.length<=2000) (a:(yS t).2=0->eV (Uf (yS t).1) k/\Rw (Uf (yS t).1).1/\∀ r∈(Uf (yS t).1).2.1,Rw r):G0 G 10 [strS t] (yR [zl (qsC (textF t).1),MK (textF t).2]):=by
 have hp:=zei (G:=G) ht;obtain⟨⟨q,c⟩,hq⟩:∃ x,x=yS t:=⟨_,Z⟩;have d:textF t=if c=0 then (if Xh q=0 then (q,0) else (([],[],[]),Xh q)) else (([],[],[]),c):=by unfold textF;rw [<-hq]
 rw [<-hq] at hp a
 rw [d];simp only at hp a ⊢
 refine Fq func10 ?_;refine Fm fun b2=>?_;refine Fk hp ?_;refine yT fun i=>?_;refine zg ?_;refine yL (K:=fun S1=>∃ e:Int,e=(if c=0 then Xh q else c)/\aC S1 ⟨20,[(5,MK e),(4,G9 i),(2,G9 b2)],[⟨some i,33,qsC q,0⟩,⟨some b2,33,[G8,G8,G8],0⟩],[],(0,false)⟩) ?_ ?_
 .refine zg ?_;refine Fo ?_ ?_<;>intro _ k12
  .refine Fi ((zb Z Z ((zlz (a k12).1 (a k12).2.1 (a k12).2.2).args (args':=[zl (qsC q)]) ⟨jS,trivial⟩)).sub (zI (by rw [ziD,ki]))) ?_;exact J2
  .exact J3
 .rintro S1 ⟨e,he,g⟩;refine xq g<|Fh ?_;refine FQ ?_ ?_<;>intro _ k16
  .exact HF
  .have b:c=0:=M4 fun h=>by omega
   have f:Xh q=0:=by rw [MX b] at he;exact he.symm.trans k16
   exact zj (zu (e:=by rw [MX b,MX f];rfl))
end Go.Proofs
namespace Num
open Go Go.Lib Go.Proofs
variable {xs:List (G6×G2)} {w:G6} {q:Rat} {ws:G1} {rd:Rd}
def KX (x:G6×G2):G6:=join (ziz x.1 x.2) [32]
def Qb (w:G6):Prop:=w≠[]/\∀ c∈w,c≠32/\c≠10
def mE (n:Nat):∀ c∈decDigits n,c≠32/\c≠10:=fun c h=>⟨kv (QC n) Z c h,kv (QC n) Z c h⟩
def zvD (n:Nat):decDigits n≠[]:=fun h=>by
 have h1:=decDigits_length n;have a:=nDigits_pos n;grind
def zvE (z:Int):Qb (UM z):=by
 unfold UM;split
 .refine⟨B,fun c h=>?_⟩;rcases DZ.1 h with rfl | h
  .decide
  .exact mE _ c h
 .exact⟨zvD _,mE _⟩
def kc (q:Rat):Qb (uE q):=by
 obtain⟨h1,a⟩:=zvE q.num;unfold uE;refine⟨fun h=>h1 (List.append_eq_nil_iff.1 h).1,fun c h=>?_⟩;rcases Bu.1 h with h | h
 .grind
 .split at h
  .cases h
  .rcases DZ.1 h with rfl | h
   .decide
   .exact mE _ c h
def kh (a:Qb w) (l:G2):∀ x∈ziz w l,Qb x:=fun x hx=>by
 rcases DZ.1 hx with rfl | hx
 .exact a
 .obtain⟨p,_,hp⟩:=DP.1 hx;rcases DZ.1 hp with rfl | hp
  .exact kc _
  .rw [AS.1 hp];exact kc _
def zsn (h:∀ x∈ws,Qb x):WG ws=true:=B9.2 fun x hx=>by
 cases x with
 | nil=>exact M1 Z (h [] hx).1
 | cons _ _=>rfl
def ziH (a:Qb w) (l:G2):wA 32 (KX (w,l))=ziz w l:=KD (by simp [ziz]) fun x hx c b=>((kh a l x hx).2 c b).1
theorem nO {c d:UInt8}:∀ {ws:G1},c∈join ws [d]->c=d\/∃ x∈ws,c∈x
  | [],h=>by simp [join] at h
  | [w],h=>.inr ⟨w,B,by simpa [join] using h⟩
  | w::y::v,h=>by
    have e:join (w::y::v) [d]=(w++[d])++join (y::v) [d]:=by unfold join;rw [Dx]
    rw [e] at h
    rcases Bu.1 h with h | h
    . grind
    . rcases nO h with h | ⟨x,hx,h⟩
      . grind
      grind
def zna (a:Qb w) (l:G2):KX (w,l)≠[]/\∀ c∈KX (w,l),c≠10:=by
 refine⟨fun h=>?_,fun c hc=>?_⟩
 .have:=ziH a l;rw [h] at this;exact (kh a l [] (by rw [<-this];simp [wA])).1 Z
 .rcases nO hc with rfl | ⟨x,hx,h⟩
  .decide
  .exact ((kh a l x hx).2 c h).2
def ziI (a:ws≠[]) (hf:WG ws=true) (b:∀ w∈ws,∀x∈w,x≠10):wr (nl ws)=true/\wA 10 (trimSuffix (nl ws) [10])=ws:=by
 have c:=KD a b;obtain⟨l1,l2⟩:=zpl (join ws [10]);exact⟨by rw [m8 a,l1,c,hf],by rw [m8 a,l2,c]⟩
def zvF (a:Qb w) (l:G2):uO rd (KX (w,l))=Yi rd w (l.flatMap ptT):=by
 unfold uO;rw [ziH a l,zsn (kh a l),MX Z];rfl
def zw9 (q:Rat):kD q=nD q:=by
 unfold kD nD;split
 .rename_i h;have h1:=nDigits_pos q.num.natAbs;have a:nDigits 1=1:=nDigits_small J;grind
 .rfl
def Qc (h:nD q<=60):xx (uE q)=(q,((nD q:Nat):Int),0):=by
 unfold nD at h
 rw [ze2 C C,zw9]
abbrev fF (l:List (Rat×Rat)):Prop:=∀ p∈l,nD p.1<=60/\nD p.2<=60
def nN:∀ {l:G2},fF l->vJ (l.flatMap ptT)=l
 | [],_=>rfl
 | (a,b)::l,h=>by
  have h1:=h (a,b) B;show ((xx (uE a)).1,(xx (uE b)).1)::vJ (l.flatMap ptT)=_;rw [Qc h1.1,Qc h1.2,nN fun p hp=>h p (by grind)]
def zso (l:G2):(l.flatMap ptT).length=2*l.length:=by
 have:=jR [] l;unfold ziz at this;grind
def zvG {l:G2} (h:fF l):(l.flatMap ptT).all QM=true:=B9.2 fun x hx=>by
 obtain⟨p,hp,hx⟩:=DP.1 hx;have h1:=h p hp;refine zw7 ?_;rcases DZ.1 hx with rfl | hx
 .rw [Qc h1.1];simp
 .rw [AS.1 hx,Qc h1.2];simp
def ziJ (p:Rat×Rat) (l:G2):dgF 0 (p::l)=max (max (nD p.1) (nD p.2)) (dgF 0 l):=by
 have:dgF 0 (p::l)=dgF (max (max 0 (nD p.1)) (nD p.2)) l:=rfl;rw [this,zm7];omega
def ZY (c:Prop) [Decidable c]:Int:=if c then 3 else 0
def QO (c:Prop) [Decidable c]:ZY c=0\/ZY c=3:=by unfold ZY;omega
def kY {c d:Prop} [Decidable c] [Decidable d] (h:c↔d):ZY c=ZY d:=by
 grind
def YK (c:Prop) [Decidable c]:ZY c=3↔c:=by
 unfold ZY;simp
def zsp {k:Int} (h:nD q<=60) (a:k=0\/k=3):Uu k (uE q)=ZY (k=3\/6<nD q):=by
 unfold Uu ZY;rw [Qc h,MY (J:¬(0:Int)=30)];simp only;rcases a with rfl | rfl
 .by_cases b:6<nD q
  .rw [MX (C:(6:Int)<(nD q:Int)),MX (.inr b)];rfl
  omega
 .rw [MX (show (3:Int)=3\/6<nD q from .inl Z)];split <;> rfl
def znb:∀ {l:G2} {k:Int},fF l->(k=0\/k=3)->Uv k (l.flatMap ptT)=ZY (k=3\/6<dgF 0 l)
 | [],k,_,hk=>by
  show k=_;unfold ZY;rcases hk with rfl | rfl
  . rfl
  rfl
 | (a,b)::l,k,h,hk=>by
  have h1:=h (a,b) B;show Uv (Uu (Uu k (uE a)) (uE b)) (l.flatMap ptT)=_;rw [zsp h1.1 hk,zsp h1.2 (QO _),znb (fun p hp=>h p (by grind)) (QO _),ziJ];refine kY ?_;rw [YK,YK];omega
def m3 {w:List UInt8} {l:List (Rat×Rat)} (hl:l≠[]) (h:fF l) (hk:rd.code=0\/rd.code=3):Yi rd w (l.flatMap ptT)=Jd {rd with code:=ZY (rd.code=3\/6<dgF 0 l)} w l:=by
 unfold Yi;have ho:okP (l.flatMap ptT)=true:=by
  unfold okP;rw [nN h,zso,MR (by omega),MR (by have:=List.length_pos_iff.2 hl;omega)];rfl
 rw [zvG h,ho,MX (show (true&&true)=true from rfl),nN h,znb h hk]
def Jq (o:Option Rd) (x:G6×G2):Option Rd:=o.bind fun rd=>Yi rd x.1 (x.2.flatMap ptT)
def zsq (a:∀ x∈xs,Qb x.1) (o:Option Rd):(xs.map KX).foldl hY o=xs.foldl Jq o:=by
 induction xs generalizing o with
 | nil=>rfl
 | cons x xs ih=>
  rw [Ar,Au,Au,ih fun y hy=>a y (by grind)];congr 1;cases o with
  | none=>rfl
  | some rd=>exact zvF (a x B) x.2
def lD (o:Option Rd):(G2×List (G2)×List ((Rat×Rat)×(Rat×Rat)))×Int:=match o with | none=>(([],[],[]),1) | some rd=>if rd.code≠0 then (([],[],[]),rd.code) else ((rd.rob,rd.obs,rd.que),0)
def zsr (b:xs≠[]) (a:∀ x∈xs,Qb x.1):yS (nl (xs.map KX))=lD (xs.foldl Jq (some rd0)):=by
 obtain⟨h1,e⟩:=ziI (ws:=xs.map KX) (by simp_all) (B9.2 fun y hy=>by
  obtain⟨x,hx,rfl⟩:=Bc.1 hy;have:=(zna (a x hx) x.2).1;grind) (fun y hy c d=>by
  obtain⟨x,hx,rfl⟩:=Bc.1 hy
  exact (zna (a x hx) x.2).2 c d)
 unfold yS;rw [MX h1,e];unfold goF;rw [zsq a];rfl
def ziK:∀ {obs:List (List (Rat×Rat))} {rd:Rd},rd.rob≠[]->rd.que=[]->(rd.code=0\/rd.code=3)->(∀l∈obs,l≠[]/\fF l)->(obs.map fun l=>(ZX,l)).foldl Jq (some rd)=some ⟨rd.rob,rd.obs++obs,[],ZY (rd.code=3\/6<dgF 0 obs.flatten)⟩
 | [],⟨r,o,q,c⟩,_,hq,hk,_=>by
  simp only at hq hk
  subst hq;rcases hk with rfl | rfl <;> simp [dgF,ZY]
 | l::obs,⟨r,o,q,c⟩,hr,hq,hk,h=>by
  simp only at hq hk hr
  subst hq;have hl:=h l (by simp);rw [List.map_cons,List.foldl_cons];have e:Jq (some ⟨r,o,[],c⟩) (ZX,l)=some ⟨r,o++[l],[],ZY (c=3\/6<dgF 0 l)⟩:=by
   show Yi _ ZX (l.flatMap ptT)=_;rw [m3 hl.1 hl.2 hk];unfold Jd;rw [MY (by decide),MX rfl,MY (by grind)]
  rw [e,ziK hr rfl (QO _) (fun y hy=>h y (by simp [hy])),List.flatten_cons,k3];simp only [List.append_assoc,List.singleton_append];rw [kY (show (ZY (c=3\/6<dgF 0 l)=3\/6<dgF 0 obs.flatten)↔(c=3\/6<max (dgF 0 l) (dgF 0 obs.flatten)) by rw [YK];omega)]
def ziL:∀ {que:List ((Rat×Rat)×(Rat×Rat))} {rd:Rd},rd.rob≠[]->(rd.code=0\/rd.code=3)->(∀q∈que,fF [q.1,q.2])->(que.map fun q=>(Yh,[q.1,q.2])).foldl Jq (some rd)=some ⟨rd.rob,rd.obs,rd.que++que,ZY (rd.code=3\/6<dgF 0 (que.flatMap fun q=>[q.1,q.2]))⟩
 | [],⟨r,o,q,c⟩,_,hk,_=>by
  simp only at hk
  rcases hk with rfl | rfl <;> simp [dgF,ZY]
 | q::que,⟨r,o,qs,c⟩,hr,hk,h=>by
  simp only at hk hr
  have hl:=h q (by simp);rw [List.map_cons,List.foldl_cons];have e:Jq (some ⟨r,o,qs,c⟩) (Yh,[q.1,q.2])=some ⟨r,o,qs++[q],ZY (c=3\/6<dgF 0 [q.1,q.2])⟩:=by
   show Yi _ Yh ([q.1,q.2].flatMap ptT)=_;rw [m3 (by simp) hl hk];unfold Jd;rw [MY (by decide),MY (by decide),MX rfl];simp only;rw [MY hr]
  rw [e,ziL hr (QO _) (fun y hy=>h y (by simp [hy])),List.flatMap_cons,k3];simp only [List.append_assoc,List.singleton_append];rw [kY (show (ZY (c=3\/6<dgF 0 [q.1,q.2])=3\/6<dgF 0 (que.flatMap fun q=>[q.1,q.2]))↔(c=3\/6<max (dgF 0 [q.1,q.2]) (dgF 0 (que.flatMap fun q=>[q.1,q.2]))) by rw [YK];omega)]
end Num
namespace Go.Proofs
open Go Go.Sv Num
variable {G:Imm}
end Go.Proofs
