/- A scene's text, read again. -/
import Derived.Test.YtceodgbmninaoaaGreatDoorSgj
import Derived.Test.YtceodgbmninaoaaGreatDoorSsd
import Derived.Test.YtceodgbmninaoaaGreatDoorSv1
import Derived.Sort.AssemblyPlain
import Derived.Test.YtceodgbmninaoaaGreatDoorScd
set_option linter.all false
namespace Num
open Go Go.Lib Go.Proofs
variable {w:G6} {l:G2} {k:Int} {rd a:Rd}
def qL (q:QS):List (G6×G2):=(Xf,q.1)::(q.2.1.map (fun l=>(ZX,l))++q.2.2.map fun x=>(Yh,[x.1,x.2]))
def prT (q:QS):G6:=nl ((qL q).map KX)
def zyo:Qb Xf:=⟨J,J⟩
def zyp:Qb ZX:=⟨J,J⟩
def zyq:Qb Yh:=⟨J,J⟩
def zAF (q:QS):∀ x∈qL q,Qb x.1:=fun x hx=>by
 rcases DZ.1 hx with rfl | hx
 .exact zyo
 .rcases Bu.1 hx with hx | hx
  .obtain⟨l,_,rfl⟩:=Bc.1 hx;exact zyp
  .obtain⟨l,_,rfl⟩:=Bc.1 hx;exact zyq
def zyr {α:Type} (f:α->G6) (l:List α):nl (l.map f)=l.flatMap fun x=>f x++[10]:=by unfold nl;rw [Eb]
def zys (s:Sc):jo s=prT (nrm s):=by
 have e:qL (nrm s)=(scL s).map fun x=>(x.1,pvs x.2):=by
  unfold qL nrm scL;rw [Ar,Cp,As,As,As,As];rfl
 unfold prT;rw [e,As,zyr];rfl
def znc {m:G2} (h:fF (l++m)):fF l/\fF m:=⟨fun p hp=>h p (by grind),fun p hp=>h p (by grind)⟩
def zlC {q:QS} (b:q.1≠[]) (f:∀ l∈q.2.1,l≠[]) (c:fF (vC q)):yS (prT q)=if 6<dgF 0 (vC q) then (([],[],[]),3) else (q,0):=by
 obtain⟨r,obs,a⟩:=q;simp only at b f
 obtain⟨h1,j⟩:=znc c;obtain⟨i,g⟩:=znc j;unfold prT;rw [zsr (by simp [qL]) (zAF _)];unfold qL;rw [Au,Dt];have e:Jq (some rd0) (Xf,r)=some ⟨r,[],[],ZY ((0:Int)=3\/6<dgF 0 r)⟩:=by
  show Yi rd0 Xf (r.flatMap ptT)=_;rw [m3 b h1 (.inl Z)];unfold Jd;rw [MX Z];exact (MX Z).trans Z
 show lD ((a.map fun q=>(Yh,[q.1,q.2])).foldl Jq ((obs.map fun l=>(ZX,l)).foldl Jq (Jq (some rd0) (Xf,r))))=_;rw [e,ziK b Z (QO _) (fun l d=>⟨f l d,fun p hp=>i p (EH.2 ⟨l,d,hp⟩)⟩),ziL (rd:=⟨r,[]++obs,[],ZY (ZY ((0:Int)=3\/6<dgF 0 r)=3\/6<dgF 0 obs.flatten)⟩) b (QO _) (fun x hx p hp=>g p (DP.2 ⟨x,hx,hp⟩))];rw [kY (show (ZY (ZY ((0:Int)=3\/6<dgF 0 r)=3\/6<dgF 0 obs.flatten)=3\/6<dgF 0 (a.flatMap fun q=>[q.1,q.2]))↔6<dgF 0 (vC (r,obs,a)) by
  rw [YK,YK];unfold vC;rw [k3,k3];grind)]
 unfold lD ZY;grind
def lV {n:Nat}:n<dgF 0 l↔∃ p∈l,n<nD p.1\/n<nD p.2:=by
 induction l with
 | nil=>simp [dgF]
 | cons p l ih=>
  rw [ziJ];grind
def ZR (rd:Rd):G2:=vC (rd.rob,rd.obs,rd.que)
structure fh (rd:Rd):Prop where
 code:rd.code=0\/rd.code=2\/rd.code=3
 obs:∀ l∈rd.obs,l≠[]
 dig:rd.code=0->∀ p∈ZR rd,nD p.1<=6/\nD p.2<=6
def zst (h:Uu k w=0):k=0/\(xx w).2.2≠30/\(xx w).2.1<=6:=by
 unfold Uu JT at h
 omega
def zsu (h:k=0\/k=2\/k=3):Uu k w=0\/Uu k w=2\/Uu k w=3:=by
 unfold Uu JT;omega
def ziM:∀ {ws:G1} {k:Int},Uv k ws=0->k=0/\∀ w∈ws,(xx w).2.2≠30/\(xx w).2.1<=6
 | [],k,h=>⟨h,fun _ h=>by cases h⟩
 | w::ws,k,h=>by
  obtain⟨h1,c⟩:=ziM (k:=Uu k w) h;obtain⟨b,a⟩:=zst h1;grind
def ziN:∀ {ws:G1} {k:Int},(k=0\/k=2\/k=3)->Uv k ws=0\/Uv k ws=2\/Uv k ws=3
 | [],_,h=>h
 | _::ws,_,h=>ziN (ws:=ws) (zsu h)
def ze9 (c:QM w=true) (h:(xx w).2.2≠30/\(xx w).2.1<=6):nD (xx w).1<=6:=by
 have d:=MV.1 c;have e:(xx w).2.2=0:=by have:=om w;omega
 obtain⟨a,k2,b⟩:∃ a k2,xx w=(a,k2,0):=⟨_,_,Prod.ext Z (Prod.ext Z e)⟩;obtain⟨_,h1,_⟩:=zmX b;rw [b] at h ⊢
 rw [zw9] at h1
 grind
def zfa:∀ {ws:G1},ws.all QM=true->(∀w∈ws,(xx w).2.2≠30/\(xx w).2.1<=6)->∀ p∈vJ ws,nD p.1<=6/\nD p.2<=6
 | [],_,_,p,hp=>by cases hp
 | [_],_,_,p,hp=>by cases hp
 | x::y::r,hg,h,p,hp=>by
  simp only [Du,AD] at hg
  rcases DZ.1 (show p∈((xx x).1,(xx y).1)::vJ r from hp) with rfl | hp
  . exact⟨ze9 hg.1 (h x B),ze9 hg.2.1 (h y B)⟩
  . exact zfa hg.2.2 (fun w a=>h w (by simp [a])) p hp
def zpM (h:Jd rd w l=some a) (d:l≠[]):a.rob≠[]/\a.code=rd.code/\(∀x∈a.obs,x∈rd.obs\/x=l)/\(∀p∈ZR a,p∈ZR rd\/p∈l)/\(ZR a).length<=(ZR rd).length+l.length/\a.obs.length+a.que.length<=rd.obs.length+rd.que.length+1:=by
 unfold Jd at h
 split at h
 .split at h
  .rename_i b;cases h
   refine⟨d,Z,fun x hx=>.inl hx,fun p hp=>?_,?_,Ea _⟩
   .unfold ZR vC at hp ⊢
    grind
   .unfold ZR vC;grind
  grind
 .split at h
  .split at h
   .cases h
   .rename_i c;cases h
    refine⟨fun e=>c (.inl e),Z,fun x hx=>?_,fun p hp=>?_,?_,?_⟩
    .grind
    .unfold ZR vC at hp ⊢
     grind
    .unfold ZR vC;grind
    grind
  .split at h
   .split at h
    .split at h
     .cases h
     .rename_i b;cases h
      refine⟨b,Z,fun x hx=>.inl hx,fun p hp=>?_,?_,?_⟩
      .unfold ZR vC at hp ⊢
       grind
      .unfold ZR vC;grind
      grind
    grind
   grind
theorem zpN {s:G6} (hi:fh rd) (h:uO rd s=some a):fh a/\a.rob≠[]/\(ZR a).length<=(ZR rd).length+s.length/\a.obs.length+a.que.length<=rd.obs.length+rd.que.length+1:=by
  unfold uO at h
  split at h
  . have b:=XG 32 s
    cases hs:wA 32 s with
    | nil=>grind
    | cons w r=>
      rw [hs] at h b
      simp only at h
      unfold Yi at h
      split at h
      . rename_i d
        rw [AD] at d
        have c:vJ r≠[]:=by intro e;have:=d.2;unfold okP at this;rw [e] at this;simp at this
        obtain⟨o,f,n,m,l,k⟩:=zpM h c;have j:=lc r;rw [Ap] at b
        refine⟨⟨by rw [f];exact ziN hi.code,fun x hx=>?_,fun h0 p hp=>?_⟩,o,?_,k⟩
        . rcases n x hx with h | rfl
          . exact hi.obs x h
          omega
        . rw [f] at h0
          obtain⟨i,g⟩:=ziM h0;rcases m p hp with h | h
          . exact hi.dig i p h
          . exact zfa d.1 g p h
        . have:(ZR a).length<=(ZR rd).length+(vJ r).length:=l
          omega
      grind
  grind
def zsv:∀ {ls:G1} {rd a:Rd},fh rd->ls.foldl hY (some rd)=some a->fh a/\(ls≠[]\/rd.rob≠[]->a.rob≠[])/\(ZR a).length+a.obs.length+a.que.length<=(ZR rd).length+rd.obs.length+rd.que.length+(nl ls).length
 | [],rd,a,hi,h=>by
  grind
 | s::ls,rd,a,hi,h=>by
  rw [Au] at h
  cases h1:uO rd s with
  | none=>
   rw [show hY (some rd) s=none from h1,ze5] at h;cases h
  | some rd1=>
   rw [show hY (some rd) s=some rd1 from h1] at h
   obtain⟨f,d,j,i⟩:=zpN hi h1;obtain⟨c,b,g⟩:=zsv f h;refine⟨c,fun _=>b (.inr d),?_⟩;have e:(nl (s::ls)).length=s.length+1+(nl ls).length:=by unfold nl;rw [BM];simp;omega
   omega
def zAG:fh rd0:=⟨.inl Z,fun l a=>(by cases a),fun _ p hp=>(by simp [ZR,vC,rd0] at hp)⟩
theorem WH (t:G6):((yS t).2=0->(yS t).1.1≠[]/\(∀l∈(yS t).1.2.1,l≠[])/\(∀p∈vC (yS t).1,nD p.1<=6/\nD p.2<=6)/\(vC (yS t).1).length+(yS t).1.2.1.length+(yS t).1.2.2.length<=t.length+1/\wr t=true)/\((yS t).2≠0->(yS t).1=([],[],[])/\1<=(yS t).2/\(yS t).2<=3):=by
  unfold yS
  by_cases a:wr t=true
  . rw [MX a]
    have b:wA 10 (trimSuffix t [10])≠[]:=Yf _ _;have hsz:(nl (wA 10 (trimSuffix t [10]))).length<=t.length+1:=by
      have h1:=m8 b;have g:=zrl 10 (trimSuffix t [10]);rw [g] at h1
      have j:=ig t 10;rw [h1,Aw,DX];omega
    cases hg:goF (wA 10 (trimSuffix t [10])) with
    | none=>simp
    | some rd=>
      obtain⟨d,f,i⟩:=zsv zAG hg;simp only
      by_cases c:rd.code=0
      . rw [MY (fun h=>h c)]
        refine⟨fun _=>⟨f (.inl b),d.obs,d.dig c,?_,a⟩,fun h=>M1 Z h⟩;have e:(ZR rd0).length+rd0.obs.length+rd0.que.length=0:=rfl;have e2:(vC (rd.rob,rd.obs,rd.que)).length=(ZR rd).length:=rfl;grind
      . rw [MX c]
        refine⟨fun h=>M1 h c,fun _=>⟨Z,?_⟩⟩;have:=d.code;omega
  grind
end Num
namespace Go.Proofs
open Go Go.Sv Num
variable {G:Imm}
theorem fH {q:Rat} (h:nD q<=6):Bq q 1:=by
 unfold nD at h
 have h1:=Lib.lt_pow_nDigits q.num.natAbs;have c:=Lib.lt_pow_nDigits q.den;have b:10^Lib.nDigits q.num.natAbs<=10^6:=Cm J C;have a:10^Lib.nDigits q.den<=10^6:=Cm J C;exact⟨Ah h1 (Ag b J),Ah c (Ag a J)⟩
def oE {t:G6} (ht:t.length<=2000) (b:(yS t).2=0):ScOk (Uf (yS t).1) 1 5000/\yS (jo (Uf (yS t).1))=((yS t).1,0):=by
 obtain⟨d,c,a,e,_⟩:=(WH t).1 b;refine⟨zr6 J (fun p hp=>⟨fH (a p hp).1,fH (a p hp).2⟩) C C,?_⟩;rw [zys,ki,zlC d c (fun p hp=>⟨by grind,by grind⟩),MY];intro h;obtain⟨p,hp,h⟩:=lV.1 h;grind
end Go.Proofs
namespace Num
open Go Go.Lib Go.Proofs
end Num
namespace Go.Proofs
open Go Go.Sv Num
variable {G:Imm}
theorem zdr {n k:Nat} (h:n<4294967296^k) (a:0<k):IsQ false (dig n) [1] ((n:Int):Rat) k:=
 ⟨xe _,uT J ug,by rw [xu];exact Rat.mkRat_one _,zT h,a,a⟩
end Go.Proofs
namespace Num
open Go Go.Proofs
def Wj {α:Type} (l:List α) (at0:Int) (back:Bool):List α:=
 let K:=((at0.tmod (l.length:Nat)+(l.length:Nat))%(l.length:Nat)).toNat
 if back then (l.drop K++l.take K).reverse else l.drop K++l.take K
end Num
namespace Go.Proofs
open Go Go.Sv Num
variable {G:Imm}
end Go.Proofs
namespace Num
open Go Go.Proofs
variable {α:Type}
def zpO {β:Type} (f:α->β) (l:List α) (b:Int) (a:Bool):(Wj l b a).map f=Wj (l.map f) b a:=by
 unfold Wj;rw [BR];cases a <;> simp [List.map_drop,List.map_take]
def Yl (l:List α) (b:Int) (a:Bool):(Wj l b a).length=l.length:=by
 unfold Wj;grind
def zfb {l:List α} {b:Int} {a:Bool} {x:α} (h:x∈Wj l b a):x∈l:=by
 unfold Wj at h
 grind
def zfc (b:Int) (a:Bool):Wj ([]:List α) b a=[]:=by unfold Wj;simp
end Num
namespace Go.Proofs
open Go Go.Sv Num
variable {G:Imm}
theorem iZ {u v:V2} {k j:Nat} (h:Bp u k) (h':Bp v j):Bp (add2 u v) (k+j+1):=by
 have:=h.x;have:=h.y;have:=h'.x;have:=h'.y;exact⟨(bq_add:Bq (u.1+v.1) _),(bq_add:Bq (u.2+v.2) _)⟩
end Go.Proofs
namespace Num
open Go Go.Proofs
def eF {α:Type}:List α->List α
 | []=>[]
 | x::r=>x::r.reverse
def KY {α:Type} (l:List α):(eF l).length=l.length:=by cases l <;> simp [eF]
def zsw {α β:Type} (f:α->β) (l:List α):(eF l).map f=eF (l.map f):=by cases l <;> simp [eF]
def ziO {α:Type} {l:List α} {x:α}:x∈eF l↔x∈l:=by cases l <;> simp [eF]
variable {α:Type} {n:Nat}
def rgI (n:Nat) (a s:Int) (i:Nat):Nat:=((a+i*s)%(n:Nat)).toNat
def zyt (h:0<n) (a s:Int) (i:Nat):rgI n a s i<n:=by
 unfold rgI;have b:=Int.emod_lt_of_pos (a+i*s) (C:(0:Int)<n);omega
def KZ {α:Type} [Inhabited α] (xs:List α) (a s:Int):List α:=(List.range xs.length).map fun i=>xs.getD (rgI xs.length a s i) default
def YL [Inhabited α] (xs:List α) (a s:Int):(KZ xs a s).length=xs.length:=by simp [KZ]
def zpQ {z:Int} (h:0<n):(if z.tmod n<0 then z.tmod n+n else z.tmod n)=z%n:=by
 have e:=Int.tmod_eq_emod (a:=z) (b:=(n:Int));have h1:=Int.emod_nonneg z (C:(n:Int)≠0);have c:=Int.emod_lt_of_pos z (C:(0:Int)<n);grind
def zlD [Inhabited α] (xs:List α):KZ xs 0 (-1)=eF xs:=by
 cases xs with
 | nil=>rfl
 | cons x r=>
  refine Dj (by rw [YL,KY]) fun i h1 a=>?_
  rw [YL] at h1
  simp only [KZ,List.getElem_map,List.getElem_range,eF];cases i with
  | zero=>rfl
  | succ i=>
   rw [Ap] at h1
   have e:rgI (x::r).length 0 (-1) (i+1)=r.length-1-i+1:=by
    unfold rgI;rw [Ap,(C:(0:Int)+((i+1:Nat):Int)* -1=((r.length-1-i+1:Nat):Int)+((r.length+1:Nat):Int)*(-1)),Int.add_mul_emod_self_left,Int.emod_eq_of_lt (by omega) (by omega),BQ]
   grind
def ziP [Inhabited α] {xs:List α} (k:Int):KZ xs (k.tmod xs.length) 1=Wj xs k false:=by
 rcases Bm xs.length with h | h
 .rw [Aa h,zfc];rfl
 obtain⟨K,d,e,_,_⟩:=l6 (z:=k) h;unfold Wj;simp only [Bool.false_eq_true,if_false];rw [e,BQ];have b:(xs.drop K++xs.take K).length=xs.length:=by rw [Aw,Cc,BG];omega
 refine Dj (by rw [YL,b]) fun i h1 f=>?_
 rw [YL] at h1
 simp only [KZ,List.getElem_map,List.getElem_range];have e2:rgI xs.length (k.tmod xs.length) 1 i=(K+i)%xs.length:=by
  unfold rgI;have c:(k.tmod xs.length+(i:Int)*1)%xs.length=(((K+i:Nat):Int))%xs.length:=by
   have:(k.tmod xs.length+xs.length)%(xs.length:Int)=K:=e;rw [Int.mul_one,(C:(k.tmod xs.length+(i:Int))=(k.tmod xs.length+xs.length)+i+xs.length*(-1)),Int.add_mul_emod_self_left,<-Int.emod_add_emod,this];rfl
  rw [c,<-Dc,BQ]
 rw [e2,Ay];by_cases a:K+i<xs.length
 .rw [CZ a,List.getElem_append_left (by grind),List.getElem_drop,AL a];rfl
 .rw [Nat.mod_eq_sub_mod (by omega),CZ (by omega),List.getElem_append_right (by grind),List.getElem_take,AL (by omega)];grind
end Num
namespace Go.Proofs
open Go Go.Sv Num Tryz
variable {G:Imm}
variable {xs:List RawP} {a:List SV} {s k:Int} {f:FuncId} {i:Nat}
def ptX (xs:List RawP):List (List SV):=xs.map fun x=>[zl (pc x)]
def zvH {x:RawP} (h:xs[i]? =some x):(ptX xs)[i]? =some [zl (pc x)]:=by unfold ptX;grind
def zvI (h:(ptX xs)[i]? =some a):∃ x,xs[i]? =some x/\a=[zl (pc x)]:=by
 unfold ptX at h;grind
def zne (xs:List RawP):(ptX xs).length=xs.length:=BR _
def zyu (h:a∈ptX xs):a.length=1:=by
 obtain⟨x,_,rfl⟩:=Bc.1 h;rfl
def zpR {a:Int} {g:Nat} (h:g<xs.length):(KZ xs a s)[g]? =some (xs.getD (rgI xs.length a s g) default):=by unfold KZ;simp [h]
def za9 {a:Int} (t: -(xs.length:Int)<a\/a=0) (q:a<xs.length\/a=0) (m:s=1\/s= -1):xc prog G 453 [yo [zR 6 pc xs],yo [MK a],yo [MK s]] (ptX (KZ xs a s)):=by
 refine xM func453 Z Z Z Z fun l E hy=>Fh ?_;refine uM 7 Z fun k=>?_;unfold yE at k;refine xi (fun g=>⟨_,[(9,ML g),(8,MK xs.length),(7,zR 6 pc xs),(0,yieldS l),(1,yo [zR 6 pc xs]),(2,yo [MK a]),(3,yo [MK s])],[],[],(g,false)⟩) (fun g=>g<=xs.length) (fun g=>xs.length-g) 0 (BL _) MM ?_;intro g r;refine Fh ?_;refine Fo ?_ ?_<;>intro _ f
 .have i:g<xs.length:=by omega
  have b:0<xs.length:=by omega
  have p:(g:Int)*s<=g/\ -(g:Int)<=(g:Int)*s:=by rcases m with rfl | rfl <;> omega
  have h:=zyt b a s g;have e:=zpQ (z:=a+g*s) b;have o:(a+g*s)%(xs.length:Int)=(rgI xs.length a s g:Nat):=by unfold rgI;rw [DV (Int.emod_nonneg _ (by omega))]
  have n:=l6 (z:=a+g*s) b;refine Fi (yK (z:=(g:Int)*s) Z Z Z (MW some (by omega)) (wrap_i64 (by omega) (by omega))) ?_;refine Fi (yK (z:=a+(g:Int)*s) Z Z Z (MW some (by omega)) (wrap_i64 (by omega) (by omega))) ?_;refine zo ((zmL Z Z Z C)) ?_;refine zg ?_;refine yL (K:=fun S1=>aC S1 (⟨34,[(6,MK (rgI xs.length a s g:Nat)),(9,ML g),(8,MK xs.length),(7,zR 6 pc xs),(0,yieldS l),(1,yo [zR 6 pc xs]),(2,yo [MK a]),(3,yo [MK s])],[],[],(g,false)⟩)) ?_ ?_
  .refine zg ?_;refine Fo ?_ ?_<;>intro _ c
   .rw [MX c] at e
    refine Fi (yK (z:=(a+(g:Int)*s).tmod xs.length+xs.length) Z Z Z (MW some (by omega)) (wrap_i64 (by omega) (by omega))) ?_;exact aA (xm Z (MW (ze .i64) C) zk)
   .rw [MY c] at e
    exact aA (xm Z (MW (ze .i64) C) zk)
  .intro S1 j;refine xq j<|zg ?_;refine Fi (zh Z Z Z (by omega) (y:=xs.getD (rgI xs.length a s g) default) (vx h)) ?_;refine ae.yield Z hy Z Z Z (zvH (zpR i)) (yU _) Z Z Z fun y=>zg ?_;refine Fp ?_ ?_<;>intro d
   .exact zj ⟨.inl Z,.inr d⟩
   .refine Do (g+1) ?_;exact⟨g+1,(by omega:g+1<=xs.length),by omega,Z,zk,wq _,Z,by grind⟩
 .exact⟨.inr Z,.inl (by rw [zne,YL,(C:g=xs.length)])⟩
def zdt {a:Int}:G0 G 372 [zR 6 pc xs,MK a,MK s] (wD 453 [yo [zR 6 pc xs],yo [MK a],yo [MK s]]):=by
 refine Fq func372 ?_;exact Hj
def zvJ {caps:List SV} (e:xc prog G f caps (ptX xs)) (j:xs.length<=2000000000):G0 G 377 [G8,wD f caps] (zR 6 pc xs):=by
 refine zs func377 ?_;refine zr<|ae.box Z Z Z Z Z Z fun b2=>zg ?_;refine zi<|Fs (yI 48 6) ?_;refine uN Z Z e (fun g h=>zyu h) J Z
  (fun k h i=>i=(0,false)/\k<=xs.length/\∃ q,zX q k/\h=[rowE q 48 6 k ((xs.take k).flatMap pc),⟨some b2,29,[eqS (rowV q k)],0⟩])
  (fun _ _ _=>False) ⟨Z,BL _,none,Z,Z⟩ ?_ ?_ ?_
 .rintro l o g h i d ⟨rfl,n,q,hq,rfl⟩;obtain⟨x,hx,rfl⟩:=zvI d;have m:=yJ hx;have c:=yp hx;refine zJ<|Fm fun p=>?_;refine⟨Z,?_⟩;refine Fh ?_;refine FL 1 Z Z Z Z hq (by rw [zrH,BG];omega) fun b a=>?_;refine zw ?_;refine ae.ghost _ Z (zF (B5 _ _))<|zM ?_
  refine⟨Z,C,b,a,?_⟩;rw [c,CB];rfl
 .rintro h i D ⟨rfl,_,q,hq,rfl⟩;rw [zne] at hq ⊢
  rw [B3];refine Fs (uF [] [] [] hq (f:=pc) Z Z GX GK) ?_;exact Hj
 simp
def lT {caps:List SV} (b:xc prog G f caps (ptX xs)) (a:xs.length<=2000000000):G0 G 283 [wD f caps] (zR 6 pc xs):=by
 refine Fq func283 ?_;refine Fk (zvJ b a) ?_;exact Hj
def zpS (a:xs.length<=2000000000):G0 G 276 [zR 6 pc xs] (zR 6 pc (eF xs)):=by
 refine Fq func276 ?_;refine Fk zdt ?_;refine Fk (lT (za9 (.inr Z) (.inr Z) (.inr Z)) (by rw [YL];exact a)) ?_;exact zj (zu (e:=by rw [zlD]))
def ziQ (b:xs.length<=2000000000):G0 G 277 [MK k,zR 6 pc xs] (zR 6 pc (Wj xs k false)):=by
 refine Fq func277 ?_;refine FQ ?_ ?_<;>intro _ f
 .obtain rfl:xs=[]:=Aa C;refine zr<|Fi ((yt Z Z).sub (show ∀I v,(G8).den I v->(zR 6 pc (Wj ([]:List RawP) k false)).den I v from fun I v h=>by rw [zfc,show v= .slice none 0 0 from h];exact UI)) ?_
  exact Hj
 .have a:0<xs.length:=C;obtain⟨_,_,_,d,c⟩:=l6 (z:=k) a;refine Fi ((zmL Z Z Z C)) ?_;refine Fk zdt ?_;refine Fl Z Z (lT (za9 (.inl d) (.inl c) (.inl Z)) (by rw [YL];exact b)) ?_;exact zj (zu (e:=by rw [ziP]))
end Go.Proofs
namespace Go.Sv
open Go Go.RowKit
def vr {α:Type} (f:α->List SV) (d:Array α):List SV:=d.toList.flatMap f
section
variable {α:Type} {f:α->List SV} {st:Nat}
def yG (hf:∀ x,(f x).length=st):∀ l:List α,(l.flatMap f).length=l.length*st
 | []=>by simp
 | x::l=>by rw [BM,Aw,yG hf l,hf,Ap,Bj];omega
def QQ (hf:∀ x,(f x).length=st):∀ {l:List α} {i:Nat} {x:α},l[i]? =some x->((l.flatMap f).drop (i*st)).take st=f x
 | [],i,x,h=>by grind
 | y::l,0,x,h=>by
  grind
 | y::l,i+1,x,h=>by
  rw [Bh] at h
  have e:(f y++l.flatMap f).drop ((i+1)*st)=(l.flatMap f).drop (i*st):=by
   rw [List.drop_append,AN (by grind),BJ,hf,Bj,Ds]
  rw [BM,e];exact QQ hf h
def XI (a:List SV):∀ (ds b:List SV) (k:Nat),xB (a++b) (a.length+k) ds=a++xB b k ds
 | [],b,k=>rfl
 | x::ds,b,k=>by
  show xB ((a++b).set (a.length+k) x) (a.length+k+1) ds=a++xB (b.set k x) (k+1) ds;rw [List.set_append_right _ _ C,C1,An];exact XI a ds _ _
def WI:∀ (c ds b:List SV),c.length=ds.length->xB (c++b) 0 ds=ds++b
 | [],[],b,_=>rfl
 | y::c,x::ds,b,h=>by
  show xB ((y::(c++b)).set 0 x) (0+1) ds=x::(ds++b);have e:=XI [x] ds (c++b) 0;rw [WI c ds b GP] at e;exact e
def Xi (hf:∀ x,(f x).length=st) (y:α):∀ {l:List α} {i:Nat},i<l.length->xB (l.flatMap f) (i*st) (f y)=(l.set i y).flatMap f
 | [],i,h=>by grind
 | x::l,0,h=>by
  rw [Ca,BM,List.set_cons_zero,BM];exact WI _ _ _ (by grind)
 | x::l,i+1,h=>by
  rw [BM,List.set_cons_succ,BM,<-Xi hf y (GP:i<l.length),<-XI,hf,Bj,Ao]
def qa (hf:∀ x,(f x).length=st) (d:Array α):(vr f d).length=d.size*st:=by unfold vr;rw [yG hf,BH]
def zvK (hf:∀ x,(f x).length=st) {d:Array α} {i:Nat} (hi:i<d.size) (y:α):xB (vr f d) (i*st) (f y)=vr f (d.setIfInBounds i y):=by
 unfold vr;rw [Xi hf y (by omega),BE]
def zyv [Inhabited α] (hf:∀ x,(f x).length=st) {d:Array α} {i:Nat} (hi:i<d.size):((vr f d).drop (i*st)).take st=f d[i]! :=
 QQ hf (by grind)
variable {P:Program} {G:Imm} {H:HL} {o:Oper} {g:Ha}
variable {x c:Operand} {t:TypeId} {b i e k:Nat}
def yA [Inhabited α] (j:Nat) (hf:∀ x,(f x).length=st) {d:Array α} (hi:i<d.size) [az P t st] (a:o.op= .load t x) (hx:yW g x=some (eqS (.pointer (some ⟨b,i*st,none⟩)))) (c:H[j]? =some ⟨some b,e,vr f d,k⟩):OpOK P G H o g (zl (f d[i]!)):=
 zE j a hx c (zyv hf hi) (hf _)
def zY (i:Nat) {e:TypeId} {s:Nat} [am P t e s] {len cap:Nat} {z:Int} (a:o.op= .indexAddr t x c) (hx:yW g x=some (eqS (.slice (some ⟨b,0,none⟩) len cap))) (hi:yW g c=some (MK z)) (d:z=(i:Nat)) (h1:i<len):OpOK P G H o g (eqS (.pointer (some ⟨b,i*s,none⟩))):=
 uA a hx hi C C (by grind)
def xk (hf:∀ x,(f x).length=st) {d:Array α} (hi:i<d.size) (v:α) [ai P t st] {y:Operand} (a:o.op= .store t x y) (hx:yW g x=some (eqS (.pointer (some ⟨b,i*st,none⟩)))) (hy:yW g y=some (zl (f v))):
 OpL P G o g [⟨some b,e,vr f d,k⟩] (fun s H'=>s=eqS undef/\H'=[⟨some b,e,vr f (d.setIfInBounds i v),k⟩]):=by
 have h:=xf (P:=P) (G:=G) (e:=e) (k:=k) (cs:=vr f d) a hx hy (hf v) (by
  rw [hf,qa hf];have:=BK st (show i+1<=d.size from hi)
  grind)
 rw [zvK hf hi] at h
 exact h
variable {E:aD} {r:Option Nat} {gd:G4} {p:Bool} {ops:List Oper} {K:St->Prop}
def eg (j:Nat) (hf:∀ x,(f x).length=st) {d:Array α} {i:Nat} (hi:i<d.size) (v:α) {n:Nat} {h:HL} {dd:G7} {a:Nat×Bool} {t:TypeId} [ai P t st] {x y:Operand} {b e k:Nat} (hp:p=false) (c:o.op= .store t x y) (hx:yW g x=some (eqS (.pointer (some ⟨b,i*st,none⟩)))) (hy:yW g y=some (zl (f v)))
 (q:h[j]? =some ⟨some b,e,vr f d,k⟩) (m:o.dst=none) (u:zO gd g o true) (l:ae P G E r gd p ops ⟨n,g,wE h j [⟨some b,e,vr f (d.setIfInBounds i v),k⟩],dd,a⟩ K):ae P G E r gd p (o::ops) ⟨n,g,h,dd,a⟩ K:=
 .loc (S:=⟨n,g,h,dd,a⟩) hp (Zo q) (xk hf hi v c hx hy) u (by simp [aL,m]) fun s H' ⟨_,e2⟩=>by
  subst e2;rw [m];rw [ul q] at l;exact l
end
end Go.Sv
namespace Num
open Go Go.Proofs
end Num
namespace Go.Proofs
open Go Go.Sv Num
variable {G:Imm}
end Go.Proofs
namespace Num
open Go Go.Proofs
end Num
namespace Go.Proofs
open Go Go.Sv Num
variable {G:Imm}
end Go.Proofs
namespace Num
open Go Go.Proofs
end Num
namespace Go.Proofs
open Go Go.Sv Num
variable {G:Imm}
end Go.Proofs
namespace Num
open Go Go.Proofs
end Num
namespace Go.Proofs
open Go Go.Sv Num
variable {G:Imm}
end Go.Proofs
namespace Go.Sv
open Go Go.RowKit
section
variable {P:Program} {G:Imm} {E:aD} {r:Option Nat} {Q:Hb} {S:St}
def TR (P:Program) (G:Imm) (E:aD) (r:Option Nat) (c:Code) (Q:Hb):Nat->St->Prop
 | 0,_=>False
 | n+1,S=>T P G E r c S (ZG (TR P G E r c Q n) Q)
theorem zsz {c:Code} (m:Nat) (h:TR P G E r c Q m S):T P G E r (.loop c) S Q:=by
  intro n I F a W l
  let at_ (k:Nat) (b:Act) (W':World):Prop:=∃ S' I' F',TR P G E r c Q k S'/\Sat G E r S' I' F' b W'/\Fram (own S F) I W (own S' F') I' W'
  refine wpIn_loop (fun b W'=>∃ k,at_ k b W') (fun b W'=>least fun k=>at_ k b W') ?_ ?_
  . exact⟨m,S,I,F,h,l,Fram.refl _ _ _⟩
  . intro b W' hI
    obtain⟨⟨S',I',F',hp,g,hf⟩,_⟩:=VF hI;obtain⟨k,o⟩:∃ k,k=least fun k=>at_ k b W':=⟨_,Z⟩;rw [<-o] at hp
    cases k with
    | zero=>exact hp.elim
    | succ k=>
      refine wpIn_mono (hp n I' F' b W' g) fun e f W'' hq=>?_;obtain⟨S'',I'',F'',h1,j,i⟩:=hq;cases e with
      | normal=>
        have d:at_ k f W'':=⟨S'',I'',F'',j,h1,hf.trans i⟩;exact⟨⟨_,d⟩,by have:=(VF (p:=fun k=>at_ k f W'') ⟨_,d⟩).2 _ d;omega⟩
      | _=>exact⟨S'',I'',F'',h1,j,hf.trans i⟩
def zvL {b:Bool} {x y:Code} (ht:b=true->T P G E r x S Q) (hf:b=false->T P G E r y S Q):T P G E r (.cond (.const (.bool b)) x y) S Q:=fun n I F a W c=>
 wpIn_cond_split (t:=b) Z (fun h=>ht h n I F a W c) (fun h=>hf h n I F a W c)
def znf {c:Code} (h:T P G E r c S (ZG (fun _=>False) Q)):T P G E r (.loop c) S Q:=zsz 1 h
end
end Go.Sv
namespace Go.Proofs
open Go Go.Sv Num
variable {G:Imm}
end Go.Proofs
namespace Num
open Go Go.Proofs
variable {α:Type} {lt:α->α->Bool} {d:Array α} {p:α->Prop} {k1 k2:α->Rat} {i:Nat}
def kLt {α:Type} (k1 k2:α->Rat) (x y:α):Prop:=k1 x<k1 y\/(k1 x=k1 y/\k2 x<k2 y)
def zng (h:∀ x y,lt x y=true↔kLt k1 k2 x y):Sort.SWO lt where
 irrefl:=fun x=>by
  cases e:lt x x with
  | false=>rfl
  | true=>have:=(h x x).1 e;unfold kLt at this;grind
 trans:=fun x y z a b=>by
  have a:=(h x y).1 a;have b:=(h y z).1 b;refine (h x z).2 ?_;unfold kLt at *;grind
 ntrans:=fun x y z a b=>by
  cases e:lt x z with
  | false=>rfl
  | true=>
   have d:¬ kLt k1 k2 x y:=fun q=>by grind
   have c:¬ kLt k1 k2 y z:=fun q=>by grind
   unfold kLt at *;grind
def zsA (h:∀ x y,lt x y=true↔kLt k1 k2 x y) (hi:∀ x y,k1 x=k1 y->k2 x=k2 y->x=y):∀ x y,lt x y=false->lt y x=false->x=y:=fun x y a b=>by
 have d:¬ kLt k1 k2 x y:=fun q=>by grind
 have c:¬ kLt k1 k2 y x:=fun q=>by grind
 unfold kLt at *;grind
def sortL {α:Type} (lt:α->α->Bool) (l:List α):List α:=l.mergeSort fun x y=> !lt y x
def sortL_perm (lt:α->α->Bool) (l:List α):(sortL lt l).Perm l:=List.mergeSort_perm ..
def sortL_len (lt:α->α->Bool) (l:List α):(sortL lt l).length=l.length:=(sortL_perm lt l).length_eq
def zsB [Inhabited α] (c:Sort.SWO lt) (b:∀ x y,lt x y=false->lt y x=false->x=y) {d':Array α} (hp:Sort.PermIn 0 d.size d d') (a:Sort.SortedIn lt 0 d.size d'):d'.toList=sortL lt d.toList:=
 Sort.sorted_unique_holds c b d d' hp a
def Zk [Inhabited α] {j:Nat} (h:∀ x∈d.toList,p x) (hi:i<d.size) (a:j<d.size):∀ x∈(Sort.swp d i j).toList,p x:=fun x hx=>by
 unfold Sort.swp at hx
 grind
def xI [Inhabited α] (h:∀ x∈d.toList,p x) (hi:i<d.size):p d[i]! :=by
 grind
open Go.Sort
section
variable {α:Type} [Inhabited α] (lt:α->α->Bool)
def zsC {a j:Nat} {d:Array α} (c:a<j) (b:lt d[j]! d[j-1]! =true):insInner lt a j d=insInner lt a (j-1) (swp d j (j-1)):=by
 obtain⟨k,rfl⟩:∃ k,j=k+1:=⟨j-1,C⟩;rw [insInner];grind
def zdu {a j:Nat} {d:Array α} (h:j<=a\/lt d[j]! d[j-1]! =false):insInner lt a j d=d:=by
 cases j with
 | zero=>rfl
 | succ k=>
  rw [insInner];grind
def zfd {a b i:Nat} {d:Array α} (h:i<b):insOuter lt a b i d=insOuter lt a b (i+1) (insInner lt a i d):=by rw [insOuter,MX h]
def ziR {a b i:Nat} {d:Array α} (h:¬ i<b):insOuter lt a b i d=d:=by rw [insOuter,MY h]
end
end Num
namespace Go.Proofs
open Go Go.Sv Num
variable {G:Imm}
abbrev Vc (l:Rat×Rat):List SV:=zP l.1++zP l.2
def JU (P:Program) (G:Imm) {α:Type} (f:α->List SV) (p:α->Prop) (lt:α->α->Bool) (fl:FuncId) (caps:List SV):Prop:=
 ∀x y,p x->p y->∃ z:Int,zm P G fl ([zl (f x),zl (f y)]++caps) (ze .i64 z)/\decide (z<0)=lt x y
end Go.Proofs
namespace Go.Sv
open Go Go.RowKit
section
variable {P:Program} {G:Imm} {E:aD} {r:Option Nat} {gd:G4} {p:Bool} {o:Oper} {ops:List Oper} {K:St->Prop} {H:HL} {g:Ha}
variable {x d:Operand} {b e st t n len cap off m s:Nat} {low:Option Operand} {cs:List SV} {zs:List Value} {c:Nat×Bool} {k:IntKind} {dd:G7}
theorem mD (a i:Nat) {t e:TypeId} [am P t e s] {z:Int} (c:o.op= .indexAddr t x d) (hx:yW g x=some (eqS (.slice (some ⟨b,a*s,none⟩) len cap))) (hi:yW g d=some (MK z)) (f:z=(i:Nat)) (h1:i<len):OpOK P G H o g (eqS (.pointer (some ⟨b,(a+i)*s,none⟩))):=
 uA c hx hi C C (by grind)
def QR {b:Option Addr} [am P t e st] (a:o.op= .call {callee:=.builtin .len,args:= #[x],argTypes:= #[t]}) (hx:yW g x=some (eqS (.slice b n cap))):OpOK P G H o g (MK n):=Qs a hx
def zdv [am P t e st] {d lo:Nat} {y:Operand} (c:o.op= .slice t x low none none) (hx:yW g x=some (eqS (rowV (some (b,d)) n))) (hq:zX (some (b,d)) n)
 (a:low=some y) (hy:yW g y=some (ze k lo)) (h1:lo<n):OpOK P G H o g (eqS (.slice (some ⟨b,lo*st,none⟩) (n-lo) (d-lo))):=
 ik c hx (.inr ⟨_,_,a,hy⟩) (.inl ⟨Z,Z,Z⟩) (.inl ⟨Z,Z⟩) C hq.1 (Af _) (by rw [MY (by have:=hq.1;omega)];simp [Addr.add_lit])
def Wk [am P t e st] {high:Option Operand} {d hi:Nat} {z:Operand} (c:o.op= .slice t x none high none) (hx:yW g x=some (eqS (rowV (some (b,d)) n))) (hq:zX (some (b,d)) n)
 (a:high=some z) (f:yW g z=some (ze k hi)) (i:0<n) (h:hi<=n):OpOK P G H o g (eqS (rowV (some (b,d)) hi)):=
 ik c hx (.inl ⟨Z,Z⟩) (.inr ⟨_,_,a,f⟩) (.inl ⟨Z,Z⟩) (BL _) (Ag h hq.1) (Af _) (by simp [Addr.add_lit])
def zvM {f:Nat} [am P t e st] [r:av P e zs f] {y v k:Nat} (hop:o.op= .call {callee:=.builtin .clear,args:= #[x],argTypes:= #[t]}) (hx:yW g x=some (eqS (.slice (some ⟨b,off,none⟩) len y)))
 (N:0<len) (E:off+len*st<=cs.length):
 OpL P G o g [⟨some b,v,cs,k⟩] (fun s H'=>s=eqS (.tuple #[])/\H'=[⟨some b,v,xB cs off ((yD zs (len*st)).map eqS),k⟩]):=by
 obtain⟨i,hi,q⟩:=am.i (P:=P) (t:=t);obtain⟨L,z,h,p,n,l,_⟩:=r.i;rw [hi] at h;cases h
 have hlen:(yD zs (len*st)).length=len*st:=um _ _;refine lQ GW (by grind) fun I W a c D K H F M=>?_
 have A:a.eval x=_:=D.get Gl hx;have d:∀ u∈yD zs (len*st),u.oneCell'=true:=ib (im r.one) _ (.inr r.pos);have j:Builtin.zeroCells z.cells len=(yD zs (len*st)).toArray:=by apply AW;rw [n,Jl,<-l,q]
 have w:=run_storeCells_at P b off v (yD zs (len*st)) 0 c W K GJ d;rw [At,<-uS c off _ GJ] at w
 refine⟨_,.tuple #[],_,XV _,d,Z,.inl Z,?_⟩;simp only [execOp,hop,resolve,Sem.run_bind,Sem.run_pure,Result.andThen_ok,invoke,builtin];rw [show Array.map a.eval #[x]= #[.slice (some ⟨b,off,none⟩) len y] by simp [A]];obtain⟨m,rfl⟩:∃ m,len=m+1:=⟨len-1,C⟩;simp [Builtin.clear_,run_underlying (am.u),zeroValue,typeInfo,hi,p,j,w]
def ae.clear (j:Nat) {h:HL} {a:Nat} [am P t e st] [av P e zs a] {w k:Nat} (hp:p=false) (d:o.op= .call {callee:=.builtin .clear,args:= #[x],argTypes:= #[t]})
 (hx:yW g x=some (eqS (.slice (some ⟨b,off,none⟩) len w))) (v:0<len) (q:off+len*st<=cs.length) (l:h[j]? =some ⟨some b,m,cs,k⟩) (i:o.dst=none) (u:zO gd g o true)
 (f:ae P G E r gd p ops ⟨n,g,wE h j [⟨some b,m,xB cs off ((yD zs (len*st)).map eqS),k⟩],dd,c⟩ K):ae P G E r gd p (o::ops) ⟨n,g,h,dd,c⟩ K:=
 .loc (S:=⟨n,g,h,dd,c⟩) hp (Zo l) (zvM d hx v q) u (by simp [aL,i]) fun s H' ⟨_,e2⟩=>by
  subst e2;rw [i];rw [ul l] at f;exact f
def QT (pre post:HL) {d:G7} {i:Nat×Bool} {cc m':Nat} {cs':List SV} (q:cs.length=m*st) (a:cs'=cs.take (m'*st)) (p:m'<=m) (hq:zX (some (b,cc)) m):aF G E r ⟨n,g,pre++rowE (some (b,cc)) e st m cs::post,d,i⟩ ⟨n,g,pre++rowE (some (b,cc)) e st m' cs'::post,d,i⟩:=
 .reH (fun I W h=>h.ent Z fun h=>by
  obtain⟨h1,c,u,t,o,l⟩:=h.some Z;simp only [rowE] at t o l
  have f:m'*st<=m*st:=BK _ p;have k:m*st<=cc*st:=BK _ hq.1;have j:cs'.length=m'*st:=by rw [a,BG];omega
  have ht:c.toList.take cs'.length=(c.toList.take cs.length).take (m'*st):=by rw [j,BF,q,AU f]
  exact .of_some Z ⟨h1,c,u,by simp only [rowE];omega,by simp only [rowE];rw [ht];exact fun x hx=>o x (BT hx),by simp only [rowE];rw [ht,a];exact l.take _⟩) fun b s=>by simpa [bs,rowE] using s
end
end Go.Sv
namespace Num
open Go Go.Proofs
variable {α:Type} {d E:Array α} {i k:Nat} {l:List α} {x:α}
def dd {α:Type} [DecidableEq α] (l:List α):List α:=l.foldl (fun o x=>if o.getLast? =some x then o else o++[x]) []
def nm [DecidableEq α] (l:List α) (x:α):dd (l++[x])=if (dd l).getLast? =some x then dd l else dd l++[x]:=by unfold dd;simp
def kX [DecidableEq α]:∀ (l:List α),(dd l).getLast? =l.getLast? :=fun l=>by
 rcases List.eq_nil_or_concat l with rfl | ⟨m,x,rfl⟩
 .rfl
 .rw [List.concat_eq_append,nm];grind
def ZE [DecidableEq α] (l:List α):(dd l).length<=l.length:=by
 have:∀ (l o:List α),(l.foldl (fun o x=>if o.getLast? =some x then o else o++[x]) o).length<=o.length+l.length:=by
  intro l
  induction l with
  | nil=>simp
  | cons x l ih=>
   grind
 simpa [dd] using this l []
def znh [DecidableEq α] {y:α} (hy:l[k]? =some y) (h:l[k+1]? =some x):dd (l.take (k+2))=if y=x then dd (l.take (k+1)) else dd (l.take (k+1))++[x]:=by
 rw [Cz,h,(FV:(some x).toList=[x]),nm,kX,Cz,hy];simp
def Ug [DecidableEq α] (h:x∈dd l):x∈l:=by
 have:∀ (l o:List α),x∈l.foldl (fun o x=>if o.getLast? =some x then o else o++[x]) o->x∈o\/x∈l:=by
  intro l
  induction l with
  | nil=>simp
  | cons y l ih=>
   grind
 exact (this l [] h).resolve_left B
def qd [Inhabited α] (h:i<d.size):d.toList[i]? =some d[i]! :=by
 grind
def zvN {p:α->Prop} (h:∀ x∈d.toList,p x) (hx:p x):∀ y∈(d.setIfInBounds i x).toList,p y:=fun y hy=>by
 grind
def zlF [Inhabited α] {j:Nat} (h:i<d.size):(d.setIfInBounds i x)[j]! =if i=j then x else d[j]! :=by
 grind
structure gP {α:Type} [DecidableEq α] [Inhabited α] (d E:Array α) (i k:Nat):Prop where
 sz:E.size=d.size
 kk:k=(dd (d.toList.take i)).length
 lt:k<i
 pre:E.toList.take k=dd (d.toList.take i)
 post:∀ j,i-1<=j->j<d.size->E[j]! =d[j]!
def nk [DecidableEq α] [Inhabited α] (a:0<i) (hi:i<d.size):dd (d.toList.take (i+1))=if d[i-1]! =d[i]! then dd (d.toList.take i) else dd (d.toList.take i)++[d[i]!]:=by
 have h:=znh (qd (d:=d) (i:=i-1) (by omega)) (x:=d[i]!) (by grind);grind
def gP.skip [DecidableEq α] [Inhabited α] (h:gP d E i k) (hi:i<d.size) (a:E[i]! =E[i-1]!):gP d E (i+1) k:=by
 have f:=h.lt;have e:dd (d.toList.take (i+1))=dd (d.toList.take i):=by
  rw [nk C hi,MX];rw [<-h.post (i-1) C C,<-h.post i C hi];exact a.symm
 exact⟨h.sz,e▸h.kk,C,e▸h.pre,fun j c b=>h.post j C b⟩
def gP.put [DecidableEq α] [Inhabited α] (h:gP d E i k) (hi:i<d.size) (b:E[i]! ≠E[i-1]!):gP d (E.setIfInBounds k E[i]!) (i+1) (k+1):=by
 have g:=h.lt;have a:=h.sz;have e:dd (d.toList.take (i+1))=dd (d.toList.take i)++[E[i]!]:=by
  rw [nk C hi,MY]
  .rw [h.post i C hi]
  .rw [<-h.post (i-1) C C,<-h.post i C hi];grind
 refine⟨by grind,by rw [e,Aw,<-h.kk];rfl,C,?_,fun j f c=>?_⟩
 .rw [BE,e,<-h.pre,Cz,List.take_set_of_le (Af k)];grind
 .rw [zlF C,MY C];exact h.post j C c
def zsD [DecidableEq α] (h:l.length<2):dd l=l:=by
 match l,h with
 | [],_=>rfl
 | [x],_=>rfl
end Num
namespace Go.Proofs
open Go Go.Sv Num
variable {G:Imm}
def Qd:∀ (zs cs:List SV) (off:Nat),(xB cs off zs).take off=cs.take off
 | [],_,_=>rfl
 | z::zs,cs,off=>by
  show (xB (cs.set off z) (off+1) zs).take off=_;have h:=MW (List.take off) (Qd zs (cs.set off z) (off+1));rw [BF,BF,AU C] at h
  rw [h,List.take_set_of_le (Af off)]
def oD {α:Type} {f:α->List SV} {st:Nat} (hf:∀ x,(f x).length=st):∀ (l:List α) (k:Nat),(l.flatMap f).take (k*st)=(l.take k).flatMap f
 | [],k=>by simp
 | x::l,0=>by simp
 | x::l,k+1=>by
  rw [BM,B8,BM,Bj,Ao,<-hf x,List.take_length_add_append,hf x,oD hf l k]
def gA (P:Program) (G:Imm) {α:Type} [DecidableEq α] (f:α->List SV) (p:α->Prop) (fl:FuncId) (caps:List SV):Prop:=
 ∀x y,p x->p y->zm P G fl ([zl (f x),zl (f y)]++caps) (zp (decide (x=y)))
abbrev cq (b:V2×V2):List SV:=zL b.1++zL b.2
end Go.Proofs
namespace Go.Sv
open Go Go.RowKit
section
variable {P:Program} {G:Imm} {E:aD} {r:Option Nat} {Q:Hb}
end
end Go.Sv
namespace Go.Proofs
open Go Go.Sv Num Tryz
variable {G:Imm}
variable {k:Nat} {p q:Rat}
def zsF [ao G] (a:200*k+20000<=cap):JU prog G zP (fun q=>Bq q k) (fun p q=>decide (p<q)) 195 []:=fun x y hx hy=>
 ⟨vK x y,xo (hx:=isQ_can) (hy:=isQ_can) C,by rw [decide_eq_decide];exact vG⟩
def zAH [ao G] (hp:Bq p k) (hq:Bq q k) (a:200*k+20000<=cap):G0 G 197 [zl (zP p),zl (zP q)] (zp (decide (p=q))):=by
 refine Fq func197 ?_;exact K7
def zxa [ao G] (hp:Bq p k) (hq:Bq q k) (a:200*k+20000<=cap):G0 G 200 [zl (zP p),zl (zP q)] (zp (decide (p=q))):=by
 refine Fq func200 ?_;exact K7
def zCA [ao G] (a:200*k+20000<=cap):gA prog G zP (fun q=>Bq q k) 197 []:=fun _ _ hx hy=>zAH hx hy a
def zCB [ao G] (a:200*k+20000<=cap):gA prog G zP (fun q=>Bq q k) 200 []:=fun _ _ hx hy=>zxa hx hy a
variable {k:Nat} {a b:Rat×Rat}
def zni {q:G3} {n:Nat} (h:zX q n) (a:0<n):∃ b c,q=some (b,c):=by
 cases q with
 | none=>exact M1 h (by unfold zX;omega)
 | some q=>grind
def lC (a b:Rat×Rat):Bool:=decide (a.1+a.2<b.1+b.2\/(a.1+a.2=b.1+b.2/\a.1<b.1))
def jr (a b:Rat×Rat):Int:=if vK (a.1+a.2) (b.1+b.2)≠0 then vK (a.1+a.2) (b.1+b.2) else vK a.1 b.1
def zvO:decide (jr a b<0)=lC a b:=by
 unfold lC jr;rw [decide_eq_decide];split
 .rename_i h;rw [vG];exact⟨.inl,fun h1=>h1.elim id fun h2=>M1 (uw.2 h2.1) h⟩
 .rename_i h;have c:=uw.1 (Decidable.not_not.1 h);rw [vG];grind
abbrev Bl (k:Nat) (l:Rat×Rat):Prop:=Bq l.1 k/\Bq l.2 k
abbrev fv (l:List (Rat×Rat)):List SV:=[zR 6 Vc l]
def zxb [ao G] {q:Rat} (hq:Bq q k) (a:2*k+11000<=cap):G0 G 303 [zl (zP q)] (zl (Vc (q,q))):=by
 refine zs func303 ?_;refine zr<|ae.box Z Z Z Z Z Z fun b=>Fm fun b2=>?_;refine Fl Z Z (wT C) ?_;exact Hj
def zCC [ao G] (g:Bl k a) (f:Bl k b) (m:1000*k+21000<=cap):G0 G 305 [zl (Vc a),zl (Vc b)] (MK (jr a b)):=by
 have d:=g.1;have l:=g.2;have j:=f.1;have i:=f.2;have n:=d.pos;refine Fq func305 ?_;refine Fw 14 ?_;refine Fl Z Z (vM C) ?_;refine Fl Z Z (vM C) ?_;refine Fl Z Z (xo C) ?_;refine Fo ?_ ?_<;>intro _ c
 .exact zj (zu (e:=MW (ze .i64) (by unfold jr;omega)))
 .refine Fl Z Z (xo C) ?_;exact zj (zu (e:=MW (ze .i64) (by unfold jr;omega)))
def zAJ [ao G] (f:Bl k a) (d:Bl k b) (m:1000*k+21000<=cap):G0 G 307 [zl (Vc a),zl (Vc b)] (zp (decide (a=b))):=by
 have l:=f.1;have j:=f.2;have i:=d.1;have g:=d.2;refine zs func307 ?_;refine zg ?_;refine FG (zb Z Z (zcO C)) ?_ ?_<;>intro c
 .refine Fl Z Z (zcO C) ?_;exact zj (zu (e:=MW zp (by grind)))
 .exact zj (zu (e:=MW zp (MS fun h=>MP c (by rw [h])).symm))
def zyx [ao G] (a:1000*k+21000<=cap):JU prog G Vc (Bl k) lC 305 []:=fun _ _ hx hy=>⟨_,zCC hx hy a,zvO⟩
def zCD [ao G] (a:1000*k+21000<=cap):gA prog G Vc (Bl k) 307 []:=fun _ _ hx hy=>zAJ hx hy a
abbrev qR (l:List Rat):List SV:=[zR 3 zP l]
def d4:Array Rat:= #[-1,1,-1,1]
abbrev Ce:=Int×Int×Int×V2
end Go.Proofs
namespace Go.Sv
open Go Go.RowKit
section
variable {P:Program} {G:Imm} {E:aD} {r:Option Nat} {gd:G4} {o:Oper} {ops:List Oper} {K:St->Prop} {g:Ha} {i0:Nat×Bool} {Q:SV->Nat×Bool->Prop}
variable {xs:Array Operand} {u:Array TypeId} {args caps:List SV} {f:FuncId} {x:Operand}
structure eB (P:Program) (G:Imm) (E:aD) (f:FuncId) (args:List SV) (i0:Nat×Bool) (Q:SV->Nat×Bool->Prop):Prop where
 enters:∀ args' w,(callFunc f args').run P w= .ok (.enter f args') w
 main:∀ (I:Imm) (F:Nat->Prop) (W:World) (vs:List Value),E.ok i0 I F W->YZ F I W->Holds G I W->dens I args vs ->
  Calls P f vs.toArray W fun e W'=>∃ v I' F' s i',e= .returned v/\Q s i'/\s.den I' v/\E.ok i' I' F' W'/\YZ F' I' W'/\Holds G I' W'/\Fram F I W F' I' W'
def zsG {fn:Func} {c:Code} (hf:P.funcs[f]? =some fn) (j:(fn.name == "runtime.NumGoroutine")=false) (a:fn.body=some c) (o:Nat.ble args.length fn.ntmps=true)
 (p:T P G E none c {n:=fn.ntmps,g:=params 0 args,h:=[],d:=[],i:=i0} (fun e S=>(e= .ret\/e= .normal)/\∃ s,ep P S.g S.h fn.results.toList s/\Q s S.i)):eB P G E f args i0 Q:=by
 refine⟨fun args w=>?_,fun I F W vs he hF hm hd=>?_⟩
 .have h1:fn.name ≠ "runtime.NumGoroutine" :=by simpa using j
  simp [callFunc,hf,h1,a]
 .have h:=ox (Q:=fun s _ i=>Q s i) hf a o
   (VE p fun e S ⟨h1,s,l,k⟩=>⟨h1,s,[],l,BZ _,k⟩) hm ⟨by simp [bs],B⟩ hd he (fun b a=>⟨(hF b a).1,(hF b a).2,by simp [bs]⟩)
  refine h.mono ?_;rintro e W' ⟨v,I',F',s,H',i',h1,l,k,t,_,r,m,q⟩;exact⟨v,I',F',s,i',h1,l,k,r,fun b a=>⟨(m b a).1,(m b a).2.1⟩,t,q.weaken Ge fun b a=>.inl (.inr a)⟩
def kW (hop:o.op= .call {callee:=.value x,args:=xs,argTypes:=u}) (hf:yW g x=some (wD f caps)) (A:uk g xs.toList=some args) (q:eB P G E f (args++caps) i0 Q):ev P G E o g i0 Q:=by
 intro n r I F W a p Qx y t K H k;obtain⟨L,w,j⟩:=t.get Gl hf;obtain⟨vs,b,z⟩:=io (W:=W) hop w A q.enters t;refine xg GW b ⟨fun h=>by simp [Fr,Fence.wide] at h,ut r ((q.main I F W _ K H y (z.append j)).mono ?_)⟩;rintro e W' ⟨v,I',F',s,i',rfl,D,c,m,l,d,i⟩;exact k v I' F' W' s i' D i d m l c
def eP {n b:Nat} {h:HL} {d:G7} {c:Array Operand} {e:Array TypeId} {p:Bool} (hp:p=false) (a:o.op= .call {callee:=.value x,args:=c,argTypes:=e}) (hf:yW g x=some (wD f caps)) (m:uk g c.toList=some args)
 (i:eB P G E f (args++caps) i0 Q) (k:zO gd g o true) (ht:o.dst=some b) (l:Nat.blt b n=true) (j:∀ s i',Q s i'->ae P G E r gd p ops ⟨n,(b,s)::g,h,d,i'⟩ K):ae P G E r gd p (o::ops) ⟨n,g,h,d,i0⟩ K:=
 .envX hp (kW a hf m i) k ht l j
end
end Go.Sv
namespace Go.Proofs
open Go Go.Sv Num
variable {G:Imm}
abbrev Jp:=Int×Int
def ax (k r:Nat):Nat:=if k=0 then (if r=0 then 0 else 3) else (if r=0 then 3 else 4)
open Tryz
variable {a b:Int} {k n:Jp}
abbrev Uh (j:Jp):List SV:=[ze .i64 j.1,ze .i64 j.2]
def fi (a b:Jp):Bool:=decide (a.1<b.1\/(a.1=b.1/\a.2<b.2))
def pg (a b:Jp):Int:=if vK a.1 b.1≠0 then vK a.1 b.1 else vK a.2 b.2
def ziT:vK a b<0↔a<b:=by unfold vK;omega
def zfe:vK a b=0↔a=b:=by unfold vK;omega
def zvP {a b:Jp}:decide (pg a b<0)=fi a b:=by
 unfold fi pg;rw [decide_eq_decide];split
 .rename_i h;rw [ziT];have:=mt zfe.2 h;omega
 .rename_i h;have c:=zfe.1 (Decidable.not_not.1 h);rw [ziT];omega
def zAK:G0 G 214 [MK a] (zp false):=by
 refine zs func214 ?_;refine zr<|zz ?_;apply zx;(iterate 2 refine zz ?_);refine Fi ((zZ Z Z Z Z).sub (yz (c:=false) B)) ?_;exact Hj
def zAL:G0 G 129 [MK a,MK b] (MK (vK a b)):=by
 refine Fq func129 ?_;refine Fk zAK ?_;refine Fk zAK ?_;refine Fu ?_;refine Fu ?_;refine Fo ?_ ?_<;>intro _ c
 .exact zj (zu (e:=MW (ze .i64) (by unfold vK;omega)))
 .refine Fo ?_ ?_<;>intro _ d
  .exact zj (zu (e:=MW (ze .i64) (by unfold vK;omega)))
  .exact zj (zu (e:=MW (ze .i64) (by unfold vK;omega)))
def orI {x y:Int}:G0 G 128 [zR 1 id [[MK x],[MK y]]] (MK (if x≠0 then x else y)):=by
 refine zs func128 ?_;refine zg ?_;refine zi<|zr<|zz ?_;refine Fi ((wI Z Z).sub (zI (n:=((2:Nat):Int)) Z)) ?_;refine xi (fun g=>⟨_,[(8,ML g),(7,ML (2)),(6,zR 1 id [[MK x],[MK y]]),(3,MK 0)],[],[],(0,false)⟩) (fun g=>g<=2/\(0<g->x=0)/\(1<g->y=0)) (fun g=>2-g) 0 ⟨BL _,by omega,by omega⟩ MM ?_
 rintro g ⟨m,c,f⟩;refine Fh ?_;refine Fo ?_ ?_<;>intro _ j
 .obtain⟨v,i⟩:∃ v,[x,y][g]? =some v:=⟨_,AL (C:g<2)⟩;have k:([[MK x],[MK y]]:List (List SV))[g]? =some [MK v]:=by
   rcases (C:g=0\/g=1) with rfl | rfl <;> (grind)
  have a:(g=0/\v=x)\/(g=1/\v=y):=by
   rcases (C:g=0\/g=1) with rfl | rfl <;> (grind)
  refine Fh ?_;refine Fo ?_ ?_<;>intro _ b
  .exact zj (zu (e:=MW (ze .i64) (by omega)))
  .refine Do (g+1) ?_;exact⟨g+1,⟨by omega,fun h=>by omega,fun h=>by omega⟩,by omega,MM⟩
 .exact zj (zu (e:=MW (ze .i64) (by omega)))
def zCF {a b:Jp}:G0 G 127 [zl (Uh a),zl (Uh b)] (MK (pg a b)):=by
 refine Fq func127 ?_;refine Fw 13 ?_;refine Fk zAL ?_;refine Fk zAL ?_;refine Fk orI ?_;exact Hj
def zyy:JU prog G Uh (fun _=>True) fi 127 []:=fun _ _ _ _=>⟨_,zCF,zvP⟩
theorem zsI {α:Type} [Inhabited α] {lt:α->α->Bool} {d:Array α} {a b s n:Nat} (e:a<n) (c:b<n):(Sort.order2 lt d a b s).1<n/\(Sort.order2 lt d a b s).2.1<n/\(Sort.order2 lt d a b s).2.2<=s+1:=by
 unfold Sort.order2;grind
def hI (s:Nat):Int:=if s=0 then 1 else if s=12 then 2 else 0
end Go.Proofs
namespace Num
open Go Go.Sort
section
variable {α:Type} [Inhabited α] {p:α->Bool} {d:Array α} {i j:Nat}
def up_go (h:i<=j) (hp:p d[i]! =true):scanUp p d j i=scanUp p d j (i+1):=by rw [scanUp,MX (by grind)]
def up_stop (h:¬ i<=j\/p d[i]! =false):scanUp p d j i=i:=by
 rw [scanUp,MY];exact Lf
def down_go (a:0<j) (h:i<=j) (hp:p d[j]! =true):scanDown p d i j=scanDown p d i (j-1):=by
 obtain⟨k,rfl⟩:∃ k,j=k+1:=⟨j-1,C⟩;rw [scanDown,MX (by grind)];rfl
def down_stop (h:¬ i<=j\/p d[j]! =false):scanDown p d i j=j:=by
 cases j with
 | zero=>rfl
 | succ k=>
  rw [scanDown,MY];exact Lf
def loop_stop {lt:α->α->Bool} {a c b:Nat} (h1:scanUp (fun x=>lt x d[a]!) d j i=c) (e:scanDown (fun x=> !lt x d[a]!) d c j=b) (h:b<c):partLoop lt a i j d=(b,d):=by
 rw [partLoop];grind
def loop_go {lt:α->α->Bool} {a c b:Nat} (h1:scanUp (fun x=>lt x d[a]!) d j i=c) (e:scanDown (fun x=> !lt x d[a]!) d c j=b) (h:c<=b) (hi:i<=c) (f:b<=j) (g:0<b):partLoop lt a i j d=partLoop lt a (c+1) (b-1) (swp d c b):=by
 rw [partLoop];grind
end
end Num
namespace Go.Proofs
open Go Go.Sv Num
variable {G:Imm}
open Tryz
structure By (B:Prop):Prop where
 o:B
structure SoOk (P:Program) (G:Imm) {α:Type} [Inhabited α] (f:α->List SV) (p:α->Prop) (lt:α->α->Bool) (fl:FuncId) (caps:List SV) (d:Array α) (n:Nat):Prop where
 size:d.size=n
 n:n<=200000000
 all:∀ x∈d.toList,p x
 less:JU P G f p lt fl caps
section
variable (P:Program) (G:Imm) {α:Type} [Inhabited α] (f0:α->List SV) (T0:TypeId) (s0:Nat)
structure ey (fid:FuncId):Prop where
 o:let f:=f0;let T:=T0;let st:=s0;∀{d:Array α} {bb cc n:Nat} {fl:FuncId} {caps:List SV} {lt:α->α->Bool} {p:α->Prop} (_:SoOk P G f p lt fl caps d n) {a b:Nat} (_:a<=b) (_:b<=n),CallSpec P G fid [eqS (rowV (some (bb,cc)) n),ze .i64 (a:Nat),ze .i64 (b:Nat),wD fl caps] [rowE (some (bb,cc)) T st n (vr f d)] (fun v H'=>v=yR []/\H'=[rowE (some (bb,cc)) T st n (vr f (Sort.insertionSort lt d a b))])
end
variable {G:Imm}
def jK {S A0:Prop} (t:A0) (w:By A0->S:=by
 intro G;refine⟨?_⟩;intro f T st d bb cc n fl caps lt p q a b F L;obtain⟨y,I,hp,r⟩:=q;refine wR G.o Z Z Z<|zg ?_;refine Do (a+1) ?_;refine Xt [0,1,2,3] (fun (i:Nat) (D:Array _) z=>(8,ML i)::z) (fun i D=>[rowE (some (bb,cc)) T st n (vr f D)]) (fun i D=>D.size=n/\a<i/\i<=n+1/\(∀x∈D.toList,p x)/\Sort.insOuter lt a b i D=Sort.insertionSort lt d a b) (fun i _=>b-i) (a+1) d ⟨y,C,C,hp,Z⟩ ?_;rintro i D ⟨H,A,hin,s,hDo⟩;refine Fh ?_;refine Fo ?_ ?_<;>intro _ l
 .refine Xt [8,0,1,2,3] (fun (j:Nat) (E:Array _) z=>(9,ML j)::z) (fun j E=>[rowE (some (bb,cc)) T st n (vr f E)]) (fun j E=>E.size=n/\j<n/\(∀x∈E.toList,p x)/\Sort.insInner lt a j E=Sort.insInner lt a i D) (fun j _=>j) i D ⟨H,C,s,Z⟩ ?_;rintro j E ⟨hE,K,hEp,c⟩;refine zi<|zU 17 V ?_;(iterate 2 refine zz ?_);refine FE ?_ ?_<;>intro _ g
  .obtain⟨z,m,h⟩:=r _ _ (xI hEp (i:=j) C) (xI hEp (i:=j-1) C);refine Fi ((zY j Z Z Z Z C)) ?_;refine Fi ((yA 0 (f:=f) GY (d:=E) (i:=j) C Z Z Z)) ?_;refine Do (j-1) ?_;refine Fi ((zY (j-1) Z Z Z Z C)) ?_;refine Fi ((yA 0 (f:=f) GY (d:=E) (i:=j-1) C Z Z Z)) ?_;refine Fi ((yY Z Z Z m)) ?_;refine Fo ?_ ?_<;>intro e k
   .have v:lt E[j]! E[j-1]! =true:=h▸e;have u:(E.setIfInBounds j E[j-1]!).size=n:=by rw [Eh];exact hE
    refine vA 18 [15,17] _ V (.cons _ .slnil)<|FB ?_;refine FD (yK (z:=((j-1:Nat):Int)) Z Z Z (MW some C) (wrap_i64 C C)) ?_;refine FC (yK (z:=((j-1:Nat):Int)) Z Z Z (MW some C) (wrap_i64 C C)) ?_;refine FC ((zY (j-1) Z Z Z Z C)) ?_;refine FC ((yA 0 (f:=f) GY (d:=E) (i:=j-1) C Z Z Z)) ?_;refine FC ((zY j Z Z Z Z C)) ?_;refine FC ((yA 0 (f:=f) GY (d:=E) (i:=j) C Z Z Z)) ?_;refine FC ((zY j Z Z Z Z C)) ?_;refine .loc1n 0 (xk (f:=f) GY (d:=E) (i:=j) C E[j-1]! Z Z Z) Z Z Z ?_;rintro s1 H1 ⟨rfl,rfl⟩;refine⟨(.cons _ .slnil),?_⟩;refine FC ((zY (j-1) Z Z Z Z C)) ?_;refine .loc1n 0 (xk (f:=f) GY (d:=E.setIfInBounds j E[j-1]!) (i:=j-1) C E[j]! Z Z Z) Z Z Z ?_;rintro s2 H2 ⟨rfl,rfl⟩;refine⟨(.cons _ .slnil),?_⟩;refine ab.nil<|zg ?_;refine Do (j-1) ?_;exact⟨j-1,Sort.swp E j (j-1),⟨by rw [Sort.swp_size];exact hE,C,Zk hEp C C,by rw [<-zsC lt C v];exact c⟩,C,MM⟩
   .have hst:Sort.insInner lt a i D=E:=c.symm.trans (zdu lt (.inr (h▸e)));exact Ia
  .have hst:Sort.insInner lt a i D=E:=c.symm.trans (zdu lt (.inl C));refine Fu ?_;exact Ia
 .have hst:Sort.insertionSort lt d a b=D:=hDo.symm.trans (ziR lt C)
  exact⟨_,[_],.none,Dd _,Z,by rw [hst]⟩):S:=w ⟨t⟩
def zCG:ey prog G (zP) 46 3 389:=jK func389
def zCH:ey prog G (zL) 48 6 457:=jK func457
def zCI:ey prog G (Vc) 282 6 470:=jK func470
def zCJ:ey prog G (Uh) 200 2 316:=jK func316
end Go.Proofs
