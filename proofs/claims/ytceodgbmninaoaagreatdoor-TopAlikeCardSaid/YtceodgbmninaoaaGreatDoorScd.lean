/- scene: a scene as a text. -/
import Derived.Test.YtceodgbmninaoaaGreatDoorSsd
import Derived.Test.YtceodgbmninaoaaGreatDoorSzn
import Derived.MapKept
import Derived.Carry
import Derived.Test.YtceodgbmninaoaaGreatDoorSgf
set_option linter.all false
namespace Num
open Go Go.Lib
def ptT (p:Rat×Rat):G1:=[uE p.1,uE p.2]
def ziz (w:G6) (l:G2):G1:=w::l.flatMap ptT
def lnT (w:G6) (l:G2):G6:=join (ziz w l) [32]++[10]
def jR (w:G6) (l:G2):(ziz w l).length=2*l.length+1:=by
 unfold ziz;rw [Ap]
 induction l with
 | nil=>rfl
 | cons p l ih=>rw [BM,Aw,Ap];simp only [ptT,Ap,Ax] at ih ⊢;omega
def tr {w:G6} {l:G2} (d:w.length<=8) (hp:∀ p∈l,(uE p.1).length<=50000/\(uE p.2).length<=50000):(lnT w l).length<=9+l.length*100002:=by
 have c:=tB (ws:=ziz w l) (by simp [ziz]);have b:(nl (ziz w l)).length=w.length+1+(nl (l.flatMap ptT)).length:=by unfold ziz nl;rw [BM];simp;omega
 have e:(nl (l.flatMap ptT)).length<=l.length*100002:=by
  clear c b
  induction l with
  | nil=>simp [nl]
  | cons p l ih=>
   have h1:=hp p B;have a:=ih fun q hq=>hp q (by simp [hq])
   unfold nl at a ⊢
   rw [BM,CB,Aw];simp only [ptT,BM,Ef,Aw,Ap,Ax] at a ⊢
   omega
 unfold lnT;rw [Aw,DX];omega
end Num
namespace Go.Proofs
open Go Go.Sv Num
variable {G:Imm}
variable {x:G6×List RP} {k n:Nat} {s:Sc}
def lnX (x:G6×List RP):G6:=lnT x.1 (pvs x.2)
def jo (s:Sc):G6:=(scL s).flatMap lnX
def sd (h:x∈scL s):x.1.length<=8:=by
 unfold scL at h
 rcases DZ.1 h with rfl | h
 .show Xf.length<=8;decide
 .rcases Bu.1 h with h | h
  .obtain⟨l,_,rfl⟩:=Bc.1 h;show ZX.length<=8;decide
  .obtain⟨l,_,rfl⟩:=Bc.1 h;show Yh.length<=8;decide
def ScOk.txt (h:ScOk s k n) (b:k<=1000) (hx:x∈scL s):∀ p∈pvs x.2,(uE p.1).length<=50000/\(uE p.2).length<=50000:=fun p hp=>by
 obtain⟨r,c,rfl⟩:=Bc.1 hp;have a:=h.pt x hx r c;exact⟨w5 (xH a.1 h.pos).bq b,w5 (xH a.2 h.pos).bq b⟩
def ScOk.text (h:ScOk s k n) (b:k<=1000) (j:Nat):(((scL s).take j).flatMap lnX).length<=(scL s).length*9+(zdb s).length*100002:=by
 refine Ag (aS lnX (scL s) j) ?_;unfold zdb;have:∀ L:List (G6×List RP),(∀x∈L,x∈scL s)->(L.flatMap lnX).length<=L.length*9+(L.flatMap (·.2)).length*100002:=fun L=>by
  induction L with
  | nil=>intro _;simp
  | cons x L ih=>
   intro a;have h1:=ih fun y hy=>a y (by simp [hy])
   have c:=tr (sd (a x B)) (h.txt b (a x B));rw [show (pvs x.2).length=x.2.length by simp [pvs]] at c
   rw [BM,BM,Aw,Aw,Ap];unfold lnX at h1 ⊢
   omega
 exact this _ fun _ h=>h
def tD {w:G6} {l:List RP} {g:Nat} {p:RP} (h:l[g]? =some p):ziz w (pvs (l.take (g+1)))=ziz w (pvs (l.take g))++[uE (pv p).1,uE (pv p).2]:=by
 unfold ziz pvs;rw [tM pv h,CB];rfl
end Go.Proofs
namespace Go.Sv
open Go Go.RowKit Go.MapKept
section
variable {P:Program} {G:Imm} {E:aD} {r:Option Nat}
def zlj {id:Nat} {l:List Oper} {y:Code} {S:St} {Q:Hb} (h:aQ P G r (xX l) l aX S fun S' E'=>T P G E' r y S' Q):T P G aX r (.seq (.region id l.toArray false) y) S Q:=
 zm6 h fun _ _ h=>VE h fun _ S2 hq=>⟨S2.i,hq⟩
def fm (b:Nat) (es:Array MapEntry) (c:Nat):aD where
 ok:=fun _ _ F W=>(∀k,F k↔k=b)/\W.heap[b]? =some (.map es c)
 stab:=fun _ _ F _ _ _ h _ _ _ _ _ hw _=>⟨h.1,by grind⟩
variable {o:Oper} {n:Nat} {g:Ha} {h:HL} {d:G7} {i:Nat×Bool}
variable {p:Array MapEntry} {x y:Operand} {t c b M et:Nat} {v:Value} {w:G6}
def zlk (hop:o.op= .makeMap t none) (ht:o.dst=some c) (e:Nat.blt c n=true):gw P G aX r o ⟨n,g,h,d,i⟩ (fun S' E'=>∃ b,S'=⟨n,(c,eqS (.map (some b)))::g,h,d,i⟩/\E'=fm b #[] 0):=
 zyE (vf:=fun b=>.map (some b)) (Ef:=fun b=>fm b #[] 0) (obj:=.map #[] 0) GW ht e (fun I a W _=>by simp [execOp,hop,run_makeMap]) fun I F W b h1 _ h3=>⟨h1,h3⟩
def zpn {z:Operand} (hop:o.op= .insert t x y z) (O:P.underlying t=some (.map M et)) (l:P.underlying M=some .string) (hx:yW g x=some (eqS (.map (some b)))) (hy:yW g y=some (strS w)) (N:yW g z=some (eqS v)) (hf:Instr.findNow .string (.string ⟨w.toArray⟩) p.toList 0=some none) (ht:o.dst=none):
 gw P G (fm b p c) r o ⟨n,g,h,d,i⟩ (fun S' E'=>S'=⟨n,g,h,d,i⟩/\E'=fm b (p.push {key:=.string ⟨w.toArray⟩,val:=v,born:=c}) (c+1)):=by
 intro n1 I F a W q Q j k;obtain⟨L,K⟩:=j.e;have D:=vT j o;have h1:a.eval x= .map (some b):=D.get GB hx;have S:a.eval y= .string ⟨w.toArray⟩:=D.get GB hy;have R:a.eval z=v:=D.get GB N;have H:IsKey .string (.string ⟨w.toArray⟩):=trivial;have s:(execOp a.eval o).run P W= .ok .skip {W with heap:=W.heap.setIfInBounds b (.map (p.push {key:=.string ⟨w.toArray⟩,val:=v,born:=c}) (c+1))}:=by
  simp [execOp,hop,Instr.mapUpdate,h1,S,R,run_underlying O,MapKept.run_getObj_map K,MapKept.run_checkKey l H,MapKept.run_findKey l hf,MapKept.run_setObj_map _ K,Result.andThen]
 obtain⟨X,U⟩:=MapKept.heap_set (o':=.map (p.push {key:=.string ⟨w.toArray⟩,val:=v,born:=c}) (c+1)) K;have u:=j.f b ((L b).2 Z);obtain⟨E,A⟩:=uz (W':={W with heap:=W.heap.setIfInBounds b (.map (p.push {key:=.string ⟨w.toArray⟩,val:=v,born:=c}) (c+1))}) j.m u.2.1 Z Z Z B U;obtain⟨s1,Y⟩:=j.move (E':=fm b (p.push {key:=.string ⟨w.toArray⟩,val:=v,born:=c}) (c+1)) (i':=i) (h':=h) A (fun k e=>.inr ((L k).2 e)) E (j.h.keep A fun k l e=>u.2.2.1 (e▸l)) ⟨L,X⟩ (fun _=>.inl) fun k l=>⟨.inl l,by grind,(j.f k l).2.1,(j.f k l).2.2.1⟩
 refine xg GW s ?_;show q (a.put o.dst undef) _;rw [ht];exact k _ _ I F a _ s1 ⟨Z,Z⟩ Y
def iI (z:Value):Option (Nat×Value)->Value
 | some p=>p.2
 | none=>z
def zpo {E N q:Nat} {A:Array MapEntry} {z:Value} {f:Option (Nat×Value)} (hop:o.op= .lookup t x y false) (H:P.underlying t=some (.map E N)) (m:P.underlying E=some .string) (hx:yW g x=some (eqS (.map (some b)))) (hy:yW g y=some (strS w)) (O:∀ W,(zeroValue N).run P W= .ok z W)
 (hf:Instr.findNow .string (.string ⟨w.toArray⟩) A.toList 0=some f) (R:v=iI z f) (ht:o.dst=some q) (S:Nat.blt q n=true):
 gw P G (fm b A c) r o ⟨n,g,h,d,i⟩ (fun S' E'=>S'=⟨n,(q,eqS v)::g,h,d,i⟩/\E'=aX):=by
 intro X I F a W D Q u k;obtain⟨Y,L⟩:=u.e;have K:=vT u o;have h1:a.eval x= .map (some b):=K.get GB hx;have M:a.eval y= .string ⟨w.toArray⟩:=K.get GB hy;have l:IsKey .string (.string ⟨w.toArray⟩):=trivial;have j:(execOp a.eval o).run P W= .ok (.value v) W:=by
  subst R;cases f with
  | none=>simp [iI,execOp,hop,Instr.lookup,h1,M,run_underlying H,MapKept.run_getObj_map L,MapKept.run_checkKey m l,MapKept.run_findKey m hf,O,Result.andThen]
  | some p=>simp [iI,execOp,hop,Instr.lookup,h1,M,run_underlying H,MapKept.run_getObj_map L,MapKept.run_checkKey m l,MapKept.run_findKey m hf,Result.andThen]
 obtain⟨s1,U⟩:=u.shut i;refine xg GW j ?_;have:=k _ _ I _ _ _ (s1.put (d:=some q) (s:=eqS v) Z fun t e=>by simp_all) ⟨Z,Z⟩ U;rw [<-ht] at this;exact this
end
section
variable {P:Program} {G:Imm} {E:aD} {r:Option Nat} {gd:G4} {p:Bool} {o:Oper} {ops:List Oper} {K:St->Prop} {H:HL} {g:Ha}
variable {α:Type} {x:Operand} {ps d:Array TypeId} {v:Value} {f:α->List SV} {t n:TypeId} {e st u m:Nat} {b:Bool} {l:List α} {W:World} {k:FuncId}
def nR {f:FuncId} (hop:o.op= .makeFunc (.func f) #[x] #[]) (hx:yW g x=some (eqS v)):OpOK P G H o g (eqS (.func (.func f) #[v] #[])):=
 yy GW fun I W a _ _ b=>by
  have h1:a.eval x=v:=b.get GB hx;exact⟨_,by simp [execOp,hop,Instr.makeFunc,h1],Z⟩
def kj {a b:Value} {c:Bool} (h:∀ k,(Op.equalIn (k+1) t a b).run P W= .ok c W):(Op.equal t a b).run P W= .ok c W:=by
 obtain⟨k,d⟩:∃ k,Op.maxDepth=k+1:=⟨_,Z⟩;unfold Op.equal;grind
def oH {u:TypeId} {f:Fn} {c e:Array Value} (ht:P.underlying t=some (.func ps d b)) (hop:o.op= .binOp .neq t x (.const .nilFunc) u) (hx:yW g x=some (eqS (.func f c e))):OpOK P G H o g (zp true):=
 yy GW fun I W a _ _ h=>by
  have h1:a.eval x= .func f c e:=h.get GB hx;have m:(Op.equal t (.func f c e) .nilFunc).run P W= .ok false W:=kj fun k=>by
   rw [Op.equalIn];simp only [Sem.run_bind,run_underlying ht,Result.andThen_ok];rfl
  refine⟨.bool true,?_,Z⟩;have l:(binOp .neq t (.func f c e) .nilFunc).run P W= .ok (.bool true) W:=by
   show ((Op.equal t (.func f c e) .nilFunc) >>= fun q=>pure (.bool (!q)):Sem Value).run P W=_;simp only [Sem.run_bind,m,Result.andThen_ok,Sem.run_pure];rfl
  have j:a.eval (.const .nilFunc)= .nilFunc:=rfl;simp only [execOp,hop,h1,j,Sem.run_bind,Sem.run_pure];have i:(eqGuard .neq t x (.const .nilFunc) (.func f c e) .nilFunc).run P W= .ok () W:=rfl;simp_all
def zll {u:TypeId} {c:Array TypeId} (ht:P.underlying t=some (.func ps c b)) (hop:o.op= .binOp .neq t x (.const .nilFunc) u) (hx:yW g x=some (eqS .nilFunc)):OpOK P G H o g (zp false):=
 yy GW fun I W a _ _ d=>by
  have h1:a.eval x= .nilFunc:=d.get GB hx;have i:(Op.equal t .nilFunc .nilFunc).run P W= .ok true W:=kj fun k=>by
   rw [Op.equalIn];simp only [Sem.run_bind,run_underlying ht,Result.andThen_ok];rfl
  refine⟨.bool false,?_,Z⟩;have h:(binOp .neq t .nilFunc .nilFunc).run P W= .ok (.bool false) W:=by
   show ((Op.equal t .nilFunc .nilFunc) >>= fun q=>pure (.bool (!q)):Sem Value).run P W=_;simp only [Sem.run_bind,i,Result.andThen_ok,Sem.run_pure];rfl
  have f:a.eval (.const .nilFunc)= .nilFunc:=rfl;simp only [execOp,hop,h1,f,Sem.run_bind,Sem.run_pure];have e:(eqGuard .neq t x (.const .nilFunc) .nilFunc .nilFunc).run P W= .ok () W:=rfl;simp_all
def KU {op:BinOp} {u:TypeId} {w:Value} {s:SV} {c:Bool} (hop:o.op= .binOp op t x (.const w) u) (hx:yW g x=some s) (e:∀ I v,s.den I v->∀ W,(Op.equal t v w).run P W= .ok c W/\(∀y,(eqGuard op t x y v w).run P W= .ok () W) /\
 binOp op t v w=(Op.equal t v w >>= fun q=>pure (.bool (q==b)))):OpOK P G H o g (zp (c==b)):=
 yy GW fun I W a _ _ f=>by
  have d:=f.get GB hx;obtain⟨k,h,j⟩:=e I _ d W;refine⟨.bool (c==b),?_,Z⟩;have i:a.eval (.const w)=w:=rfl;simp only [execOp,hop,i,Sem.run_bind,Sem.run_pure,h,j,k,Result.andThen_ok]
def ze3 {t:Nat} [am P t e st] {I:Imm} (d:l≠[]) (c:(zR st f l).den I v):∃ a k cap,v= .slice (some a) k cap/\(Op.equal t v (.slice none 0 0)).run P W= .ok false W:=by
 obtain⟨a,cap,rfl,_,_,h⟩:=c;obtain⟨b,o,rfl,_⟩:=h.resolve_left d;exact⟨_,_,_,Z,kj fun k=>by rw [Op.equalIn];simp only [Sem.run_bind,run_underlying (am.u),Result.andThen_ok];rfl⟩
def zpp {t:Nat} [am P t e st] (d:o.op= .binOp .neq t x (.const (.slice none 0 0)) u) (hx:yW g x=some (zR st f l)) (j:l≠[]):OpOK P G H o g (zp true):=
 KU (c:=false) (b:=false) d hx fun I v i W=>by
  obtain⟨a,k,cap,rfl,h⟩:=ze3 (P:=P) (t:=t) (W:=W) j i;exact⟨h,fun _=>rfl,by show (do pure (.bool (!(<-Op.equal t (.slice (some a) k cap) (.slice none 0 0)))):Sem Value)=_;simp⟩
def QL {t:Nat} [am P t e st] (d:o.op= .binOp .eql t x (.const (.slice none 0 0)) u) (hx:yW g x=some (zR st f l)) (j:l≠[]):OpOK P G H o g (zp false):=
 KU (c:=false) (b:=true) d hx fun I v i W=>by
  obtain⟨a,k,cap,rfl,h⟩:=ze3 (P:=P) (t:=t) (W:=W) j i;exact⟨h,fun _=>rfl,by show (do pure (.bool (<-Op.equal t (.slice (some a) k cap) (.slice none 0 0))):Sem Value)=_;simp⟩
def zdd {t:Nat} [am P t e st]:(Op.equal t (.slice none 0 0) (.slice none 0 0)).run P W= .ok true W:=
 kj fun k=>by rw [Op.equalIn];simp only [Sem.run_bind,run_underlying (am.u),Result.andThen_ok];rfl
def zlm {t:Nat} [am P t e st] (a:o.op= .binOp .neq t x (.const (.slice none 0 0)) u) (hx:yW g x=some (G8)):OpOK P G H o g (zp false):=
 KU (c:=true) (b:=false) a hx fun I v d W=>by
  obtain rfl:=d;exact⟨zdd (e:=e) (st:=st),fun _=>rfl,by show (do pure (.bool (!(<-Op.equal t (.slice none 0 0) (.slice none 0 0)))):Sem Value)=_;simp⟩
def zde {t:Nat} [am P t e st] (a:o.op= .binOp .eql t x (.const (.slice none 0 0)) u) (hx:yW g x=some (G8)):OpOK P G H o g (zp true):=
 KU (c:=true) (b:=true) a hx fun I v d W=>by
  obtain rfl:=d;exact⟨zdd (e:=e) (st:=st),fun _=>rfl,by show (do pure (.bool (<-Op.equal t (.slice none 0 0) (.slice none 0 0))):Sem Value)=_;simp⟩
def m7 {xs:Array Operand} {e:Array TypeId} {f:FuncId} {b:Value} {args:List SV} {Hp:HL} {Q:SV->HL->Prop} (hop:o.op= .call {callee:=.value x,args:=xs,argTypes:=e})
 (hf:yW g x=some (eqS (.func (.func f) #[b] #[]))) (h:uk g xs.toList=some args) (c:CallSpec P G f (eqS b::args) Hp Q):OpL P G o g Hp Q:=iY hop c fun I a W _ d=>by
 obtain⟨vs,h1,i⟩:=io (W:=W) hop (show a.eval x= .func (.func f) #[b] #[] from d.get Gl hf) h c.enters d;exact⟨_,h1,by simpa using yB Z i⟩
end
section
variable {P:Program} {G:Imm} {E:aD} {r:Option Nat} {gd:G4} {o:Oper} {ops:List Oper} {K:St->aD->Prop}
variable {e:Array MapEntry} {i:Nat×Bool} {Q:SV->HL->Prop} {h:HL} {x y:Operand} {args:List SV} {f:FuncId} {n t c b q j:Nat} {v:Value} {g:Ha} {d:G7} {w:G6}
def aQ.map (a:o.op= .makeMap t none) (f:zO gd g o true) (ht:o.dst=some c) (j:Nat.blt c n=true) (e:∀ b,aQ P G r gd ops (fm b #[] 0) ⟨n,(c,eqS (.map (some b)))::g,h,d,i⟩ K):aQ P G r gd (o::ops) aX ⟨n,g,h,d,i⟩ K:=
 .sw _ (zlk a ht j) f fun S' E' ⟨b,k,e2⟩=>by grind
def cG {f:Nat} {z:Operand} (a:o.op= .insert t x y z) (k:P.underlying t=some (.map f q)) (m:P.underlying f=some .string) (hx:yW g x=some (eqS (.map (some b)))) (hy:yW g y=some (strS w)) (j:yW g z=some (eqS v)) (hf:Instr.findNow .string (.string ⟨w.toArray⟩) e.toList 0=some none) (ht:o.dst=none) (p:zO gd g o true)
 (l:aQ P G r gd ops (fm b (e.push {key:=.string ⟨w.toArray⟩,val:=v,born:=c}) (c+1)) ⟨n,g,h,d,i⟩ K):aQ P G r gd (o::ops) (fm b e c) ⟨n,g,h,d,i⟩ K:=
 .sw _ (zpn a k m hx hy j hf ht) p fun S' E' ⟨s,e2⟩=>by grind
def aQ.look {k f:Nat} {l:Array MapEntry} {z:Value} {a:Option (Nat×Value)} (e:o.op= .lookup t x y false) (q:P.underlying t=some (.map j k)) (u:P.underlying j=some .string) (hx:yW g x=some (eqS (.map (some b)))) (hy:yW g y=some (strS w)) (m:∀ W,(zeroValue k).run P W= .ok z W)
 (hf:Instr.findNow .string (.string ⟨w.toArray⟩) l.toList 0=some a) (p:v=iI z a) (ht:o.dst=some f) (D:Nat.blt f n=true) (A:zO gd g o true)
 (s:ae P G aX r gd false ops ⟨n,(f,eqS v)::g,h,d,i⟩ fun S'=>K S' aX):aQ P G r gd (o::ops) (fm b l c) ⟨n,g,h,d,i⟩ K:=
 .sw _ (zpo e q u hx hy m hf p ht D) A fun S' E' ⟨E,e2⟩=>by subst E;subst e2;exact .run s
def CallSpec.frame (pre suf:HL) {Hp:HL} (h:CallSpec P G f args Hp Q):CallSpec P G f args (pre++Hp++suf) (fun s H'=>∃ H1,Q s H1/\H'=pre++H1++suf):=
 ⟨h.enters,fun I W vs d c g=>(h.main I W vs d (c.less ((B6 pre Hp).trans (B7 _ suf))) g).mono fun e W' ⟨v,I',s,H1,he,hQ,hv,hm',hh',hf⟩=>⟨v,I',s,_,he,⟨H1,hQ,Z⟩,hv,hm',c.frame hh' hf,hf.weaken F9 fun b a=>by
  simp only [we,Bu] at a ⊢
  grind⟩⟩
def CallSpec.weak {H:HL} {Q2:SV->HL->Prop} (h:CallSpec P G f args H Q) (hq:∀ s H1,Q s H1->∃ s2 H2,(∀I v,s.den I v->s2.den I v)/\H2.Sublist H1/\Q2 s2 H2):CallSpec P G f args H Q2:=
 ⟨h.enters,fun I W vs d g i=>(h.main I W vs d g i).mono fun e W' ⟨v,I',s,H1,he,hQ,hv,hm',hh',hf⟩=>by
  obtain⟨s2,H2,j,c,a⟩:=hq s H1 hQ
  exact⟨v,I',s2,H2,he,a,j _ _ hv,hm',hh'.less c,hf.weaken (fun _ h=>h) fun b hb=>.inl ((VM c).subset hb)⟩⟩
end
end Go.Sv
namespace Num
def JT (k c:Int):Int:=if k=0\/c<k then c else k
end Num
namespace Go.Proofs
open Go Go.Sv Num Tryz
variable {G:Imm}
variable {l a:List QP} {b:Nat} {s1 s3 s2:SV} {d:G3}
def zdf {s0:SV} {k c:Int}:CallSpec prog G 261 [G9 b,MK c] [⟨some b,172,[s0,s1,s2,MK k],0⟩] (fun v H'=>v=yR []/\H'=[⟨some b,172,[s0,s1,s2,MK (JT k c)],0⟩]):=by
 refine zs func261 ?_;apply zr;(iterate 4 refine zz ?_);refine FE ?_ ?_<;>intro _ a
 .refine Ft ?_;exact⟨_,[_],.none,Dd _,Z,by rw [show JT k c=c from MX (.inl a)];rfl⟩
 .refine Fo ?_ ?_<;>intro _ d
  .exact⟨_,[_],.none,Dd _,Z,by rw [show JT k c=c from MX (.inr d)];rfl⟩
  .exact⟨_,[_],.none,Dd _,Z,by rw [show JT k c=k from MY (fun h=>h.elim a d)]⟩
def zpq:CallSpec prog G 168 [G9 b,zR 6 zL l] [⟨some b,172,[G8,s1,s2,s3],0⟩] (fun v H'=>v=zp true/\H'=[⟨some b,172,[zR 6 zL l,s1,s2,s3],0⟩]):=by
 refine Fq func168 ?_;refine Fi (zlm Z Z) ?_;refine Fu ?_;exact Hm
def zln (c:a≠[]):CallSpec prog G 168 [G9 b,zR 6 zL l] [⟨some b,172,[zR 6 zL a,s1,s2,s3],0⟩] (fun v H'=>v=zp false/\H'=[⟨some b,172,[zR 6 zL a,s1,s2,s3],0⟩]):=by
 refine Fq func168 ?_;refine Fi (zpp Z Z c) ?_;refine Ft ?_;exact Hm
def zrX:CallSpec prog G 169 [G9 b,zR 6 zL l] [⟨some b,172,[G8,s1,s2,s3],0⟩] (fun v H'=>v=zp false/\H'=[⟨some b,172,[G8,s1,s2,s3],0⟩]):=by
 refine Fq func169 ?_;refine Fi (zde Z Z) ?_;refine Ft ?_;exact Hm
def zrY {n:Nat} (f:a≠[]) (e:zX d n) (g:n≠0):CallSpec prog G 169 [G9 b,zR 6 zL l] [⟨some b,172,[zR 6 zL a,s1,eqS (rowV d n),s3],0⟩] (fun v H'=>v=zp false/\H'=[⟨some b,172,[zR 6 zL a,s1,eqS (rowV d n),s3],0⟩]):=by
 refine Fq func169 ?_;refine Fi (QL Z Z f) ?_;refine zo (xd Z Z e) ?_;refine Fi ((zZ Z Z Z Z).sub (yz (MR C))) ?_;refine Ft ?_;exact Hm
def zvp {obs:List (List QP)} {f e:G3} (i:a≠[]) (hq:zX f obs.length) (h:zX e 0) (j:obs.length<=2000000000):CallSpec prog G 169 [G9 b,zR 6 zL l] [⟨some b,172,[zR 6 zL a,eqS (rowV f obs.length),eqS (rowV e 0),s3],0⟩,rowE f 29 1 obs.length (obs.flatMap Zm)] (fun v H'=>∃ qo',zX qo' (obs++[l]).length/\v=zp true/\H'=[⟨some b,172,[zR 6 zL a,eqS (rowV qo' (obs++[l]).length),eqS (rowV e 0),s3],0⟩,rowE qo' 29 1 (obs++[l]).length ((obs++[l]).flatMap Zm)]):=by
 refine Fq func169 ?_;refine Fi (QL Z Z i) ?_;refine zo (xd Z Z h) ?_;refine Fi ((zZ Z Z Z Z).sub (yz (MS C))) ?_;refine Fu ?_;refine Fx 1 Z Z Z Z hq (by rw [oJ]) fun g d=>?_;refine zj ?_
 exact⟨_,[_,_],.one (.tmp Z),Dd _,g,by grind,Z,by rw [Aw,CB];rfl⟩
def zpr:CallSpec prog G 170 [G9 b,zR 6 zL l] [⟨some b,172,[G8,s1,s2,s3],0⟩] (fun v H'=>v=zp false/\H'=[⟨some b,172,[G8,s1,s2,s3],0⟩]):=by
 refine Fq func170 ?_;refine Fi (zde Z Z) ?_;refine Ft ?_;exact Hm
def zps (d:a≠[]) (e:l.length≠2):CallSpec prog G 170 [G9 b,zR 6 zL l] [⟨some b,172,[zR 6 zL a,s1,s2,s3],0⟩] (fun v H'=>v=zp false/\H'=[⟨some b,172,[zR 6 zL a,s1,s2,s3],0⟩]):=by
 refine Fq func170 ?_;refine zo (QL Z Z d) ?_;(iterate 3 refine zz ?_);refine Fi ((zZ Z Z Z Z).sub (yz (MV.2 C))) ?_;refine Ft ?_;exact Hm
def zrZ {X:HE} {d:List QP} {f e:QP} {a:List (QP×QP)} {h:G3} (k:d≠[]) (hq:zX h a.length) (l:a.length<=2000000000):CallSpec prog G 170 [G9 b,zR 6 zL [f,e]] [⟨some b,172,[zR 6 zL d,s1,eqS (rowV h a.length),s3],0⟩,X,rowE h 50 12 a.length (a.flatMap ZP)] (fun v H'=>∃ qq',zX qq' (a++[(f,e)]).length/\v=zp true/\H'=[⟨some b,172,[zR 6 zL d,s1,eqS (rowV qq' (a++[(f,e)]).length),s3],0⟩,X,rowE qq' 50 12 (a++[(f,e)]).length ((a++[(f,e)]).flatMap ZP)]):=by
 refine zs func170 ?_;refine Fh ?_;refine zo (QL Z Z k) ?_;(iterate 3 refine zz ?_);refine Fi ((zZ Z Z Z Z).sub (yz (c:=false) B)) ?_;refine Fu ?_;refine xv 19 [14,18] _ V (.cons _ (.cons_cons _ (.cons _ .slnil)))<|FD (zC Z Z) ?_;refine FC (zh Z Z Z C (y:=f) Z) ?_;refine ab.one (zh Z Z Z C Z) Z Z Z V<|ab.one ((AX (zl (zL e))<|zG Z Z Z Z)) Z Z Z V<|ab.one (yQ Z Z Z) Z Z Z V<|ab.one (zy Z Z J Z B Z Z) Z Z Z V<|FB ?_;refine ar.append 2 Z Z Z Z Z Z Z hq (by rw [oI]) (fun z j=>by rw [AS.1 j];rfl) GF GF fun i g=>⟨(.cons _ (.cons_cons _ (.cons _ .slnil))),?_⟩
 refine FC (yN Z Z) ?_;refine .loc1n 0 (xf Z Z Z Z Gg) Z Z Z ?_;rintro s1 H1 ⟨rfl,rfl⟩;refine⟨(.cons _ (.cons_cons _ (.cons _ .slnil))),?_⟩;refine ab.nil<|zg ?_;exact zj ⟨_,[_,_,_],.one (.tmp Z),Dd _,i,by grind,Z,by rw [Aw,CB];rfl⟩
end Go.Proofs
namespace Num
open Go Go.Lib
variable {α:Type} {g:Nat} {w:G6} {ws:G1} {l:List α}
def Uu (k:Int) (w:G6):Int:=if (xx w).2.2=30 then JT k 2 else if 6<(xx w).2.1 then JT k 3 else k
def Uv (k:Int) (ws:G1):Int:=ws.foldl Uu k
def QM (w:G6):Bool:=(xx w).2.2 != 60
def vJ:G1->G2
 | a::b::r=>((xx a).1,(xx b).1)::vJ r
 | _=>[]
def zm3:∀ (l:G1) (a:G6),l.length%2=0->vJ (l++[a])=vJ l
 | [],_,_=>rfl
 | [_],_,h=>by grind
 | x::y::r,a,h=>by
  show ((xx x).1,(xx y).1)::vJ (r++[a])=((xx x).1,(xx y).1)::vJ r;rw [zm3 r a (by grind)]
def m6:∀ (l:G1) (a b:G6),l.length%2=0->vJ (l++[a,b])=vJ l++[((xx a).1,(xx b).1)]
 | [],_,_,_=>rfl
 | [_],_,_,h=>by grind
 | x::y::r,a,b,h=>by
  show ((xx x).1,(xx y).1)::vJ (r++[a,b])=((xx x).1,(xx y).1)::(vJ r++_);rw [m6 r a b (by grind)]
def lc:∀ l:G1,(vJ l).length*2<=l.length
 | []=>Af _
 | [_]=>by simp [vJ]
 | x::y::r=>by
  have:=lc r;show (_::vJ r).length*2<=(x::y::r).length;grind
def yp {x:α} (h:l[g]? =some x):l.take (g+1)=l.take g++[x]:=by rw [Cz,h];rfl
def oG (h:g<=l.length) (a:g%2=0):(l.take g).length%2=0:=by grind
def zm4 (h:ws[g]? =some w) (a:g%2=0):vJ (ws.take (g+1))=vJ (ws.take g):=by
 rw [yp h,zm3 _ _ (oG (by grind) a)]
def zr0 {a:G6} (b:ws[g-1]? =some a) (h:ws[g]? =some w) (c:g%2=1):vJ (ws.take (g+1))=vJ (ws.take g)++[((xx a).1,(xx w).1)]:=by
 obtain⟨j,rfl⟩:∃ j,g=j+1:=⟨g-1,C⟩;rw [Ds] at b
 rw [zm4 b C,yp h,yp b,Bw];exact m6 _ _ _ (oG (by grind) C)
def zvq {k:Int} (h:ws[g]? =some w):Uv k (ws.take (g+1))=Uu (Uv k (ws.take g)) w:=by
 unfold Uv;rw [yp h,Dt];rfl
def zvr (h:ws[g]? =some w):(ws.take (g+1)).all QM=((ws.take g).all QM&&QM w):=by
 rw [yp h,Dl];simp
def zw7 (h:(xx w).2.2≠60):QM w=true:=MV.2 h
def zvs (a:w∈ws) (h:(xx w).2.2=60):ws.all QM=false:=by
 rw [List.all_eq_false];exact⟨w,a,by unfold QM;grind⟩
end Num
namespace Go.Proofs
open Go Go.Sv Num
variable {G:Imm}
def zr1:∀ (l:G1),∀p∈vJ l,Bq p.1 7/\Bq p.2 7
 | [],p,h=>by cases h
 | [_],p,h=>by cases h
 | x::y::r,p,h=>by
  rcases DZ.1 (show p∈((xx x).1,(xx y).1)::vJ r from h) with rfl | h
  . exact⟨m9 x,m9 y⟩
  . exact zr1 r p h
def mo {p:Rat×Rat} {k:Nat} (h:Bq p.1 k/\Bq p.2 k):wL k (KT p):=
 ⟨⟨xe _,xe _,zT h.1.num,zT h.1.den⟩,xe _,xe _,zT h.2.num,zT h.2.den⟩
def k5 (p:Rat×Rat):pv (KT p)=p:=by
 show (qv (eR p.1),qv (eR p.2))=p;rw [zm1,zm1]
def m5 (l:G2):(l.map KT).map pv=l:=by
 rw [As];exact (Bk fun p _=>k5 p).trans (Dm _)
def zgo [ao G] [aK G] {ws:G1} {b:Nat} {k0:Int} {s0 s1 s2:SV} (M:∀ w∈ws,w.length<=1000000000) (X:ws.length<=2000000000):CallSpec Tryz.prog G 171 [G9 b,zR 1 tC ws] [⟨some b,172,[s0,s1,s2,MK k0],0⟩] (fun v H'=>(ws.all QM=true/\v=yR [zR 6 zL (vJ ws),zp (decide (ws.length%2=0)&&decide ((0:Int)<((vJ ws).length:Nat)))]/\H'=[⟨some b,172,[s0,s1,s2,MK (Uv k0 ws)],0⟩])\/(ws.all QM=false/\∃ k,v=yR [G8,zp false]/\H'=[⟨some b,172,[s0,s1,s2,MK k],0⟩])):=by
 refine Fq Tryz.func171 ?_;refine yT fun D=>?_;refine zM<|zi<|Fs (yI 48 6) ?_;refine uf (fun (g:Nat) (q:G3) (k:Int) (c:SV×SV×SV×SV×SV×SV)=>⟨_,[(14,ML g),(13,MK ws.length),(12,zR 1 tC ws),(6,G9 D),(4,eqS (rowV q (vJ (ws.take g)).length)),(1,zR 1 tC ws),(0,G9 b)],[rowE q 48 6 (vJ (ws.take g)).length ((vJ (ws.take g)).flatMap zL),⟨some D,48,[c.1,c.2.1,c.2.2.1,c.2.2.2.1,c.2.2.2.2.1,c.2.2.2.2.2],0⟩,⟨some b,172,[s0,s1,s2,MK k],0⟩],[],(0,false)⟩) (fun g q k c=>g<=ws.length/\zX q (vJ (ws.take g)).length/\(ws.take g).all QM=true/\k=Uv k0 (ws.take g)/\(g%2=1->∃ a,ws[g-1]? =some a/\c.1=zp (decide ((xx a).1.num<0))/\c.2.1=zD (dig (xx a).1.num.natAbs)/\c.2.2.1=zD (dig (xx a).1.den))) (fun g _ _ _=>ws.length-g) 0 none k0 (eqS (.bool false),G8,G8,eqS (.bool false),G8,G8) ⟨BL _,Z,Z,Z,fun h=>by omega⟩ MM ?_
 rintro g q k ⟨c1,c2,c3,U,S,R⟩ ⟨Y,hq,m,A,o⟩;simp only at o
 have z:=lc (ws.take g);rw [BG,AU Y] at z
 refine Fh ?_;refine FP ?_ ?_<;>intro _ L
 .obtain⟨w,u⟩:=FU ws g;have x:=AE u;have Q:=om w;have t:=zvq (k:=k0) u;have j:=zvr u;rw [<-A] at t
  rw [m] at j
  refine Fh ?_;refine Fk (ziw (M w x)) ?_;refine yT fun W=>?_;refine zg ?_;refine yL (K:=fun S1=>(xx w).2.2≠60/\aC S1 ⟨61,[(7,ML g),(9,G9 W),(14,ML g),(13,MK ws.length),(12,zR 1 tC ws),(6,G9 D),(4,eqS (rowV q (vJ (ws.take g)).length)),(1,zR 1 tC ws),(0,G9 b)],[⟨some W,46,zP (xx w).1,0⟩,rowE q 48 6 (vJ (ws.take g)).length ((vJ (ws.take g)).flatMap zL),⟨some D,48,[c1,c2,c3,U,S,R],0⟩,⟨some b,172,[s0,s1,s2,MK (Uu k w)],0⟩],[],(0,false)⟩) ?_ ?_
  .refine zg ?_;refine Fo ?_ ?_<;>intro _ i
   .refine ah [_,_,_] [_] [] Z Z Z Z zdf Z Z Z ?_;rintro s3 H3 ⟨rfl,rfl⟩;exact zM ⟨C,MN (by rw [show Uu k w=JT k 2 from MX i];rfl)⟩
   .refine Fo ?_ ?_<;>intro _ H
    .exact zj ⟨_,[_],.many (.cons (.tmp Z) (.cons (.tmp Z) .nil)),(.cons _ (.cons _ (.cons _ (Dd _)))),.inr ⟨zvs x C,_,Z,Z⟩⟩
    .refine Fo ?_ ?_<;>intro _ s
     .refine ah [_,_,_] [_] [] Z Z Z Z zdf Z Z Z ?_;rintro s3 H3 ⟨rfl,rfl⟩;exact zM ⟨C,MN (by rw [show Uu k w=JT k 3 from (MY i).trans (MX s)];rfl)⟩
     .exact⟨C,MN (by rw [show Uu k w=k from (MY i).trans (MY s)];rfl)⟩
  .rintro S1 ⟨O,P⟩;refine xq P ?_;rw [zw7 O] at j
   refine Fh ?_;refine Fi (wt Z Z Z C C) ?_;refine FQ ?_ ?_<;>intro _ F
   .have n:g%2=0:=C;have d:=zm4 u n;refine zg ?_;refine zK<|Fv ?_;refine Do (g+1) ?_;exact⟨g+1,q,Uu k w,(zp (decide ((xx w).1.num<0)),zD (dig (xx w).1.num.natAbs),zD (dig (xx w).1.den),U,S,R),⟨C,by grind,j,t.symm,fun _=>⟨w,by assumption,Z,Z,Z⟩⟩,C,an (aa Z (aa Z (aa Z (aa Z (xm Z (by rw [d]) zk))))) (by rw [d];rfl)⟩
   .have n:g%2=1:=C;obtain⟨a,ha,rfl,rfl,rfl⟩:=o n;have d:=zr0 ha u n;refine Fh ?_;refine FL 1 Z Z Z Z hq (by rw [uI]) fun E y=>?_;refine zz ?_;refine zM<|Fv ?_;refine Do (g+1) ?_
    exact⟨g+1,E,Uu k w,(zp (decide ((xx a).1.num<0)),zD (dig (xx a).1.num.natAbs),zD (dig (xx a).1.den),zp (decide ((xx w).1.num<0)),zD (dig (xx w).1.num.natAbs),zD (dig (xx w).1.den)),⟨C,by grind,j,t.symm,fun h=>by omega⟩,C,an (aa Z (aa Z (aa Z (aa Z (xm Z (by grind) zk))))) (by rw [d,Aw,CB];rfl)⟩
 .obtain rfl:g=ws.length:=C;rw [B3] at hq m A z ⊢
  have N:=zr1 ws;refine zK<|Fs (yF 0 4 Z Z hq Z Z GX GK) ?_;refine Fi ((zb Z Z ((JM (k:=7) J (fun p hp=>by obtain⟨r,hr,rfl⟩:=Bc.1 hp;exact mo (N r hr)) J Gj).args (args':=[zR 6 zL (vJ ws)]) ⟨fun I v h=>ld KT GY h,trivial⟩)).sub (show ∀I v,(zR 6 zL (((vJ ws).map KT).map pv)).den I v->(zR 6 zL (vJ ws)).den I v from fun I v h=>by rw [m5] at h;exact h)) ?_;refine zo (wt Z Z Z C C) ?_
  refine FG ((zZ Z Z Z Z).sub (yz (c:=decide (ws.length%2=0)) (by grind))) ?_ ?_<;>intro e
  .exact zj ⟨_,[_],.many (.cons (.tmp Z) (.cons (.tmp Z) .nil)),(.cons _ (Dd _)),.inl ⟨m,by grind,by rw [A]⟩⟩
  .exact zj ⟨_,[_],.many (.cons (.tmp Z) (.cons (.tmp Z) .nil)),(.cons _ (Dd _)),.inl ⟨m,by grind,by rw [A]⟩⟩
end Go.Proofs
namespace Num
open Go Go.Lib
structure Rd where
 rob:G2
 obs:List (G2)
 que:List ((Rat×Rat)×(Rat×Rat))
 code:Int
def Jd (rd:Rd) (w:G6) (l:G2):Option Rd:=
 if w=Xf then (if rd.rob=[] then some {rd with rob:=l} else none)
 else if w=ZX then (if rd.rob=[]\/rd.que≠[] then none else some {rd with obs:=rd.obs++[l]})
 else if w=Yh then (match l with | [a,b]=>if rd.rob=[] then none else some {rd with que:=rd.que++[(a,b)]} | _=>none)
 else none
def okP (r:G1):Bool:=decide (r.length%2=0)&&decide ((0:Int)<((vJ r).length:Nat))
def Yi (rd:Rd) (w:G6) (r:G1):Option Rd:=if r.all QM&&okP r then Jd {rd with code:=Uv rd.code r} w (vJ r) else none
def uO (rd:Rd) (s:G6):Option Rd:=if WG (wA 32 s) then (match wA 32 s with | w::r=>Yi rd w r | []=>none) else none
end Num
namespace Go.Proofs
open Go Go.Sv Num Tryz
variable {G:Imm}
variable {l:List QP} {b u:Nat} {rd:Rd} {e i:G3} {o:Oper} {x:Operand} {w:G6} {g:Ha} {k:Int} {H:HL}
def robS (l:List QP):SV:=match l with | []=>G8 | _=>zR 6 zL l
def YJ (h:l≠[]):robS l=zR 6 zL l:=by cases l with | nil=>grind | cons _ _=>rfl
abbrev lA (b:Nat) (s0:SV) (obs:List (List QP)) (que:List (QP×QP)) (k:Int) (qo qq:Option (Nat×Nat)):HL:=
 [⟨some b,172,[s0,eqS (rowV qo obs.length),eqS (rowV qq que.length),ze .i64 k],0⟩,rowE qo 29 1 obs.length (obs.flatMap Zm),rowE qq 50 12 que.length (que.flatMap ZP)]
abbrev RH (b:Nat) (rd:Rd) (qo qq:Option (Nat×Nat)):HL:=lA b (robS rd.rob) rd.obs rd.que rd.code qo qq
def RHo (b:Nat) (o:Option Rd) (qo qq:G3):HL:=match o with | some rd=>RH b rd qo qq | none=>[]
def rOk (o:Option Rd) (qo qq:G3):Prop:=match o with | some rd=>zX qo rd.obs.length/\zX qq rd.que.length | none=>True
abbrev QD (b:Nat) (o:Option Rd) (v:SV) (H':HL):Prop:=∃ qo qq,rOk o qo qq/\v=zp o.isSome/\H'=RHo b o qo qq
abbrev gj (b:Nat):Value:=.pointer (some ⟨b,0,none⟩)
def zlp {f:G3} (g:l≠[]) (h1:zX f rd.obs.length) (i:zX e rd.que.length):CallSpec prog G 168 [eqS (gj b),zR 6 zL l] (RH b rd f e) (QD b (Jd rd Xf l)):=by
 obtain⟨a,obs,d,k⟩:=rd;by_cases c:a=[]
 .subst c;refine (CallSpec.frame [] [_,_] zpq).mono ?_;rintro s H' ⟨H1,⟨rfl,rfl⟩,rfl⟩;exact⟨f,e,⟨h1,i⟩,Z,by show _=lA b (robS l) _ _ _ _ _;rw [YJ g];rfl⟩
 .unfold RH;simp only [YJ c];refine (CallSpec.frame [] [_,_] (zln c)).weak ?_;rintro s H' ⟨H1,⟨rfl,rfl⟩,rfl⟩;refine⟨_,[],fun _ _ h=>h,BZ _,none,none,?_⟩;rw [show Jd ⟨a,obs,d,k⟩ Xf l=none by simp [Jd,c]];exact⟨trivial,Z,Z⟩
def zpt {j:G3} (h1:zX j rd.obs.length) (i:zX e rd.que.length) (n:rd.obs.length<=2000000000):CallSpec prog G 169 [eqS (gj b),zR 6 zL l] (RH b rd j e) (QD b (Jd rd ZX l)):=by
 obtain⟨a,obs,c,k⟩:=rd;by_cases d:a=[]
 .subst d;refine (CallSpec.frame [] [_,_] zrX).weak ?_;rintro s H' ⟨H1,⟨rfl,rfl⟩,rfl⟩;refine⟨_,[],fun _ _ h=>h,BZ _,none,none,?_⟩;rw [show Jd ⟨[],obs,c,k⟩ ZX l=none by rfl];exact⟨trivial,Z,Z⟩
 .unfold RH;simp only [YJ d];by_cases hq:c=[]
  .subst hq;refine (CallSpec.frame [] [_] (zvp d h1 i n)).mono ?_;rintro s H' ⟨H1,⟨f,g,rfl,rfl⟩,rfl⟩;rw [show Jd ⟨a,obs,[],k⟩ ZX l=some ⟨a,obs++[l],[],k⟩ by simp [Jd,d]];exact⟨f,e,⟨g,i⟩,Z,by show _=lA b (robS a) _ _ _ _ _;rw [YJ d];rfl⟩
  .refine (CallSpec.frame [] [_,_] (zrY d i (by grind) (l:=l))).weak ?_;rintro s H' ⟨H1,⟨rfl,rfl⟩,rfl⟩;refine⟨_,[],fun _ _ h=>h,BZ _,none,none,?_⟩;rw [show Jd ⟨a,obs,c,k⟩ ZX l=none by simp [Jd,hq]];exact⟨trivial,Z,Z⟩
def zm5 {a:List QP} {obs:List (List QP)} {b:List (QP×QP)} (h:l.length≠2):Jd ⟨a,obs,b,k⟩ Yh l=none:=by
 unfold Jd;grind
theorem zlq {m:G3} (h1:zX i rd.obs.length) (o:zX m rd.que.length) (n:rd.que.length<=2000000000):CallSpec prog G 170 [eqS (gj b),zR 6 zL l] (RH b rd i m) (QD b (Jd rd Yh l)):=by
  obtain⟨a,obs,d,k⟩:=rd;have c:∀ (s:SV) (H1:HL),s=zp false->Jd ⟨a,obs,d,k⟩ Yh l=none->∃ s2 H2,(∀I v,s.den I v->s2.den I v)/\H2.Sublist H1/\QD b (Jd ⟨a,obs,d,k⟩ Yh l) s2 H2:=fun s H1 hs hd=>
    ⟨s,[],fun _ _ h=>h,BZ _,none,none,by rw [hd];exact⟨trivial,hs,Z⟩⟩
  by_cases e:a=[]
  . subst e
    refine (CallSpec.frame [] [_,_] zpr).weak ?_;rintro s H' ⟨H1,⟨rfl,rfl⟩,rfl⟩;refine c _ _ Z ?_
    by_cases f:l.length=2
    . match l,f with
      | [_,_],_=>rfl
    . exact zm5 f
  . unfold RH
    simp only [YJ e]
    by_cases f:l.length=2
    . match l,f with
      | [p1,p2],_=>
        refine (CallSpec.frame [] [] (zrZ e o n)).mono ?_;rintro s H' ⟨H1,⟨g,j,rfl,rfl⟩,rfl⟩
        rw [show Jd ⟨a,obs,d,k⟩ Yh [p1,p2]=some ⟨a,obs,d++[(p1,p2)],k⟩ by
          unfold Jd;grind]
        exact⟨i,g,⟨h1,j⟩,Z,by show _=lA b (robS a) _ _ _ _ _;rw [YJ e];rfl⟩
    . refine (CallSpec.frame [] [_,_] (zps e f)).weak ?_
      rintro s H' ⟨H1,⟨rfl,rfl⟩,rfl⟩;exact c _ _ Z (zm5 f)
def iw (w:G6):Bool:=decide (w=Xf)||(decide (w=ZX)||decide (w=Yh))
abbrev fB (b f:Nat):Value:=.func (.func f) #[gj b] #[]
def iB (b:Nat) (w:G6):Value:=if w=Xf then fB b 168 else if w=ZX then fB b 169 else if w=Yh then fB b 170 else .nilFunc
def QN (l m:G6):((⟨l.toArray⟩:ByteArray)==⟨m.toArray⟩)=decide (l=m):=by
 show (l.toArray==m.toArray)=decide (l=m);grind
def zAA (w:G6) (c b a:Value):Instr.findNow .string (.string ⟨w.toArray⟩) [{key:=.string ⟨Xf.toArray⟩,val:=c,born:=0},{key:=.string ⟨ZX.toArray⟩,val:=b,born:=1},{key:=.string ⟨Yh.toArray⟩,val:=a,born:=2}] 0=some (if w=Xf then some (0,c) else if w=ZX then some (1,b) else if w=Yh then some (2,a) else none):=by
 simp only [Instr.findNow,Instr.sameNow,QN];grind
def zvt (W:World):(zeroValue 249).run prog W= .ok .nilFunc W:=by
 simp
def zye (a:o.op= .binOp .neq 249 x (.const .nilFunc) u) (hx:yW g x=some (eqS (iB b w))):OpOK prog G H o g (zp (iw w)):=by
 unfold iB at hx
 unfold iw;by_cases h1:w=Xf
 .rw [MX h1] at hx;rw [MR h1];exact oH Tryz.underlying249 a hx
 .rw [MY h1] at hx
  by_cases c:w=ZX
  .rw [MX c] at hx;rw [MS h1,MR c];exact oH Tryz.underlying249 a hx
  .rw [MY c] at hx
   by_cases d:w=Yh
   .rw [MX d] at hx;rw [MS h1,MS c,MR d];exact oH Tryz.underlying249 a hx
   .rw [MY d] at hx;rw [MS h1,MS c,MS d];exact zll Tryz.underlying249 a hx
def zyf {y:Operand} {j:Array TypeId} {h:G3} (d:iw w=true) (a:o.op= .call {callee:=.value x,args:= #[y],argTypes:=j}) (hx:yW g x=some (eqS (iB b w))) (hy:uk g [y]=some [zR 6 zL l]) (k:l≠[])
 (h1:zX i rd.obs.length) (e:zX h rd.que.length) (n:rd.obs.length<=2000000000) (m:rd.que.length<=2000000000):OpL prog G o g (RH b rd i h) (QD b (Jd rd w l)):=by
 unfold iB at hx
 by_cases c:w=Xf
 .rw [MX c] at hx;subst c;exact m7 a hx hy (zlp k h1 e)
 .rw [MY c] at hx
  by_cases e2:w=ZX
  .rw [MX e2] at hx;subst e2;exact m7 a hx hy (zpt h1 e n)
  .rw [MY e2] at hx
   by_cases f:w=Yh
   .rw [MX f] at hx;subst f;exact m7 a hx hy (zlq h1 e m)
   .unfold iw at d;grind
def zAB (b:Nat) (w:G6):iB b w=iI .nilFunc (if w=Xf then some ((0:Nat),fB b 168) else if w=ZX then some (1,fB b 169) else if w=Yh then some (2,fB b 170) else none):=by
 unfold iB;by_cases c:w=Xf
 .rw [MX c,MX c];rfl
 .rw [MY c,MY c];by_cases e2:w=ZX
  .rw [MX e2,MX e2];rfl
  .rw [MY e2,MY e2];by_cases a:w=Yh
   .rw [MX a,MX a];rfl
   .rw [MY a,MY a];rfl
def fY {P:Program} {E:aD} {c:Option Nat} {gd:G4} {p:Bool} {a:List Oper} {K:St->Prop} (pre Hp suf:HL) {h:HL} {d:G7} {i:Nat×Bool} {Q:SV->HL->Prop} (hp:p=false) (k:h=pre++Hp++suf) (f:OpL P G o g Hp Q) (j:zO gd g o true) (ht:o.dst=some b) (hd:Nat.blt b u=true)
 (e:∀ s H',Q s H'->ae P G E c gd p a ⟨u,(b,s)::g,pre++H'++suf,d,i⟩ K):ae P G E c gd p (o::a) ⟨u,g,h,d,i⟩ K:=by
 refine ae.loc hp k f j Gt fun s H' hq=>?_;rw [ht];exact e s H' hq
def zr2 (h:iw w=false):Jd rd w l=none:=by
 unfold iw at h
 simp only [Bool.or_eq_false_iff,decide_eq_false_iff_not] at h
 unfold Jd;grind
def zeh [ao G] [aK G] {ws:G1} {k0:Int} {s0 s1 s2:SV} (c:∀ w∈ws,w.length<=1000000000) (d:ws.length<=2000000000):CallSpec prog G 171 [eqS (gj b),zR 1 tC ws] [⟨some b,172,[s0,s1,s2,MK k0],0⟩] (fun v H'=>∃ k,(ws.all QM=true->k=Uv k0 ws)/\v=yR [zR 6 zL (if ws.all QM=true then vJ ws else []),zp (ws.all QM&&okP ws)]/\H'=[⟨some b,172,[s0,s1,s2,MK k],0⟩]):=by
 refine (zgo c d).weak ?_;rintro s H1 (⟨a,rfl,rfl⟩ | ⟨a,k,rfl,rfl⟩)
 .exact⟨_,_,fun _ _ h=>h,Dd _,_,fun _=>rfl,by rw [a,MX Z];rfl,Z⟩
 .refine⟨yR [zR 6 zL (if ws.all QM=true then vJ ws else []),zp (ws.all QM&&okP ws)],_,?_,Dd _,k,fun h=>M1 (a.symm.trans h) J,Z,Z⟩;rw [a,MY J];rintro I v ⟨xs,g,i⟩;refine⟨xs,g,?_⟩;obtain⟨x,l,rfl,hx,f⟩:=xW i;obtain⟨y,j,rfl,hy,e⟩:=xW f;exact yB (show (zR 6 zL []).den I x by rw [show x= .slice none 0 0 from hx];exact⟨none,0,Z,Af _,BL _,.inl Z⟩) (yB hy e)
def zdg [ao G] [aK G] {s:G6} {u q:G3} (K:s.length<=1000000000) (h1:zX u rd.obs.length) (O:zX q rd.que.length) (N:rd.obs.length<=2000000000) (M:rd.que.length<=2000000000):CallSpec prog G 110 [eqS (gj b),strS s] (RH b rd u q) (QD b (uO rd s)):=by
 obtain⟨w,r,l⟩:∃ w r,wA 32 s=w::r:=by cases h:wA 32 s with | nil=>exact M1 h (Yf 32 s) | cons w r=>simp
 have i:=zlc (G:=G) K;have f:∀ x∈wA 32 s,x.length<=1000000000:=fun x hx=>Ag (KS hx) K;have n:=XG 32 s;rw [l] at i f n
 rw [Ap] at n
 have D:∀ x∈r,x.length<=1000000000:=fun x hx=>f x (by grind)
 have H:uO rd s=if WG (w::r) then Yi rd w r else none:=by unfold uO;rw [l]
 obtain⟨F,E⟩:∃ F,F=WG (w::r):=⟨_,Z⟩;rw [<-E] at i H
 rw [H]
 clear H
 refine Fq func110 ?_;refine Fk i ?_;refine FP ?_ ?_<;>intro _ g
 .obtain rfl:F=false:=by grind
  have hNo:(if false=true then Yi rd w r else none)=none:=rfl;exact Ic
 .obtain rfl:F=true:=by grind
  have c:(if true=true then Yi rd w r else none)=Yi rd w r:=rfl;refine zB<|zlj<|aQ.map Z Z Z Z fun P=>aQ.one (zC Z Z) Z Z Z<|aQ.one (nR Z Z) Z Z Z<|cG (w:=Xf) Z Tryz.underlying250 Tryz.underlying9 Z Z Z Gk Z Z<|aQ.one (zC Z Z) Z Z Z<|aQ.one (nR Z Z) Z Z Z<|cG (w:=ZX) Z Tryz.underlying250 Tryz.underlying9 Z Z Z Gk Z Z<|aQ.one (zC Z Z) Z Z Z<|aQ.one (nR Z Z) Z Z Z<|cG (w:=Yh) Z Tryz.underlying250 Tryz.underlying9 Z Z Z Gk Z Z ?_;(iterate 2 refine aQ.one (zC Z Z) Z Z Z ?_);refine aQ.one (zh Z Z Z C Z) Z Z Z<|aQ.one (xP Z Z) Z Z Z<|aQ.look Z Tryz.underlying250 Tryz.underlying9 Z Z zvt (zAA w _ _ _) (zAB b w) Z Z Z<|zg ?_;refine Fi ((xU (m:=0) Z Z (.inr ⟨_,_,Z,Z⟩) (.inl ⟨Z,Z,Z⟩) (.inl Z) B (Af _)).sub (show ∀I v,(zR 1 tC (((w::r).take (w::r).length).drop 1)).den I v->(zR 1 tC r).den I v from fun I v h=>by rw [B3] at h;exact h)) ?_;refine ah [] [_] [_,_] Z Z Z Z (zeh D C) Z Z Z ?_
  rintro s1 H1 ⟨k,L,rfl,rfl⟩;(iterate 5 refine zz ?_);apply zx;refine FJ ?_ ?_<;>intro a
  .have j:=(AD _ _).mp a;rw [MX j.1];obtain rfl:=L j.1;have A:vJ r≠[]:=by intro e;have:=j.2;unfold okP at this;rw [e] at this;simp at this
   have o:Yi rd w r=Jd ⟨rd.rob,rd.obs,rd.que,Uv rd.code r⟩ w (vJ r):=MX a;refine zg ?_;refine zo (zye Z Z) ?_;refine FF ?_ ?_<;>intro d
   .refine fY [] (RH b ⟨rd.rob,rd.obs,rd.que,Uv rd.code r⟩ u q) [] Z Z (zyf d Z Z Z A h1 O N M) (gB Z Z Z Z) Z Z ?_;rintro s2 H2 ⟨t,p,z,rfl,rfl⟩;refine zg ?_;exact zj ⟨_,_,.one (.tmp Z),Dd _,t,p,by grind⟩
   .have hNo:=c.trans (o.trans (zr2 d));exact Ic
  .have hNo:=c.trans (MY (by rw [a];decide));refine zg ?_;exact Ic
end Go.Proofs
namespace Num
open Go Go.Lib
variable {w:G6} {rd a:Rd} {g:Nat} {ls:G1}
def rd0:Rd:=⟨[],[],[],0⟩
def hY (o:Option Rd) (s:G6):Option Rd:=o.bind fun rd=>uO rd s
def goF (ls:G1):Option Rd:=ls.foldl hY (some rd0)
def yS (t:G6):(G2×List (G2)×List ((Rat×Rat)×(Rat×Rat)))×Int:=
 if wr t then (match goF (wA 10 (trimSuffix t [10])) with | none=>(([],[],[]),1) | some rd=>if rd.code≠0 then (([],[],[]),rd.code) else ((rd.rob,rd.obs,rd.que),0)) else (([],[],[]),1)
def ze5 (ls:G1):ls.foldl hY none=none:=by
 induction ls with
 | nil=>rfl
 | cons s r ih=>exact ih
def zgp (a:ls[g]? =some w) (h:goF (ls.take g)=some rd):goF (ls.take (g+1))=uO rd w:=by
 unfold goF at h ⊢
 rw [yp a,Dt,h];rfl
def zgq (h:goF (ls.take g)=none):goF ls=none:=by
 unfold goF at h ⊢
 rw [<-BB g ls,Dt,h];exact ze5 _
def zr3 {l:G2} (h:Jd rd w l=some a):a.obs.length<=rd.obs.length+1/\a.que.length<=rd.que.length+1:=by
 unfold Jd at h
 grind
def zdh {s:G6} (h:uO rd s=some a):a.obs.length<=rd.obs.length+1/\a.que.length<=rd.que.length+1:=by
 unfold uO at h
 split at h
 .split at h
  .unfold Yi at h
   split at h
   .have b:=zr3 h;exact b
   grind
  grind
 grind
end Num
namespace Go.Proofs
open Go Go.Sv Num
variable {G:Imm}
def zyg {l:List QP} (I:Imm) (v:Value) (h:(robS l).den I v):(zR 6 zL l).den I v:=by
 cases l with
 | nil=>rw [show v= .slice none 0 0 from h];exact⟨none,0,Z,Af _,BL _,.inl Z⟩
 | cons _ _=>exact h
def Wi (I:Imm) (v:Value) (h:(zl [G8,G8,G8]).den I v):(zl (qsC ([],[],[]))).den I v:=by
 obtain⟨xs,c,d,h1⟩:=h;obtain⟨x,y,z,rfl,hx,hy,b⟩:=VV d;have a:∀ {α:Type} {st:Nat} {f:α->List SV} {v:Value},v= .slice none 0 0->(zR st f []).den I v:=fun e=>by rw [e];exact⟨none,0,Z,Af _,BL _,.inl Z⟩
 exact⟨_,c,yB (a hx) (yB (a hy) (yB (a b) aq)),h1⟩
def zlr {r:List QP} {o:List (List QP)} {q:List (QP×QP)} (I:Imm) (v:Value) (h:(zl [robS r,zR 1 Zm o,zR 12 ZP q]).den I v):(zl (qsC (r,o,q))).den I v:=by
 obtain⟨xs,b,c,h1⟩:=h;obtain⟨x,y,z,rfl,hx,hy,a⟩:=VV c;exact⟨_,b,yB (zyg I x hx) (yB hy (yB a aq)),h1⟩
def zgr [ao G] [aK G] {t:G6} (ht:t.length<=1000000000):G0 G 74 [strS t] (yR [zl (qsC (yS t).1),MK (yS t).2]):=by
 have hls:=zld (G:=G) ht;obtain⟨L,hL⟩:∃ L,L=if wr t=true then wA 10 (Lib.trimSuffix t [10]) else []:=⟨_,rfl⟩;obtain⟨E,hE⟩:∃ E:Int,E=if t=[]\/wr t=true then 0 else 110:=⟨_,rfl⟩;rw [<-hL,<-hE] at hls
 have hLl:L.length<=1000000001:=by rw [hL];split;exact Ag (XG _ _) (by have:=ig t 10;omega);exact BL _
 have hLw:∀ x∈L,x.length<=1000000000:=by rw [hL];split;exact fun x hx=>Ag (KS hx) (by have:=ig t 10;omega);exact fun x hx=>by cases hx
 have hL0:wr t=false->L=[]:=fun h=>by grind
 have hL1:wr t=true->0<L.length:=fun h=>by rw [hL,MX h];exact Er.2 (Yf _ _)
 have hE1:wr t=true->E=0:=fun h=>by grind
 have hP0:wr t=false->yS t=(([],[],[]),1):=fun h=>by unfold yS;grind
 have hP1:wr t=true->yS t=(match goF L with | none=>(([],[],[]),1) | some rd=>if rd.code≠0 then (([],[],[]),rd.code) else ((rd.rob,rd.obs,rd.que),0)):=fun h=>by unfold yS;grind
 refine zs Tryz.func74 ?_;refine zr<|yT fun b2=>?_;refine zg ?_;refine wO<|zr<|zz ?_;refine zf hls ?_;(iterate 5 refine zz ?_);refine zx<|zz ?_;refine ae.box Z Z Z Z Z Z fun b6=>zz ?_;refine zx<|zz ?_;refine ae.oneB (zZ Z Z Z Z) Z Z Z (fun h3x1=>?_) (fun h3x1=>?_)
 .have k3x1:=MU.1 h3x1;(iterate 4 refine zz ?_);refine zo ((xl rfl rfl rfl).sub (yz (c:=wr t) (by grind))) ?_;refine zg ?_;refine zi<|wN<|zi<|zH (yI 50 12)<|zH (yI 29 1)<|zH (vO (De (l₁:=[_,_])))<|zg ?_;refine uf (fun (g:Nat) (rd:Rd) (qo qq:G3)=>⟨_,[(26,ML g),(25,MK L.length),(24,zR 1 tC L),(7,zp (wr t)),(6,eqS (gj b6)),(2,G9 b2)],RH b6 rd qo qq++[⟨some b2,33,[G8,G8,G8],0⟩],[],(0,false)⟩) (fun g rd qo qq=>g<=L.length/\goF (L.take g)=some rd/\zX qo rd.obs.length/\zX qq rd.que.length/\rd.obs.length<=g/\rd.que.length<=g) (fun g _ _ _=>L.length-g) 0 rd0 none none ⟨BL _,Z,Z,Z,BL _,BL _⟩ MM ?_
  rintro g rd qo qq ⟨hg,hgo,hq1,hq2,ho1,ho2⟩;refine Fh ?_;refine xK ?_ ?_<;>intro h27
  .have k27:=MO h27;obtain⟨w,hw⟩:=FU L g;have hok:wr t=true:=by cases hc:wr t with | true=>rfl | false=>grind
   have hwl:=hLw w (AE hw);have hgs:=zgp hw hgo;refine zB<|zi<|zg ?_;refine zo (zh rfl rfl rfl (by omega) hw) ?_;(iterate 2 refine zz ?_);refine zx<|Fi ((zC rfl rfl).sub (yz (c:=true) hok)) ?_;refine ah [] (RH b6 rd qo qq) [_] Z Z Z Z (zdg hwl hq1 hq2 C C) (gB Z Z Z Z) Z Z ?_
   rintro s1 H1 ⟨qo2,qq2,hr2,rfl,rfl⟩;refine zg ?_;refine xK ?_ ?_<;>intro h37
   .have hnone:uO rd w=none:=by cases hc:uO rd w with | none=>rfl | some _=>grind
    rw [hnone];have hP:yS t=(([],[],[]),1):=by rw [hP1 hok,zgq (hgs.trans hnone)]
    refine zK<|zi<|zN<|zr<|Fi ((zC rfl rfl).sub (yz (c:=false) rfl)) ?_;refine xt Z Z<|zr<|Fi ((yQ rfl rfl rfl).sub Wi) ?_;exact zj ⟨_,[],.many (.cons (.agg 0 inferInstance Z Z Z Z) (.cons (.tmp Z) .nil)),BZ _,by rw [hP];rfl,Z⟩
   .obtain⟨rd2,hrd⟩:∃ rd2,uO rd w=some rd2:=by cases hc:uO rd w with | none=>grind | some x=>simp
    have hln:=zdh hrd;rw [hrd] at hr2 ⊢
    refine zB<|zJ<|Do (g+1) ?_;exact⟨g+1,rd2,qo2,qq2,⟨by omega,hgs.trans hrd,hr2.1,hr2.2,by omega,by omega⟩,by omega,an (aa Z (aa Z (aa Z (xm Z (by rw [hok];rfl) zk)))) Z⟩
  .have k27:=MP h27;obtain rfl:g=L.length:=by omega
   rw [B3] at hgo
   refine zK<|zi<|zg ?_;refine xK ?_ ?_<;>intro h39
   .have hbad:wr t=false:=by simpa using h39
    have hP:=hP0 hbad;refine zr<|Fi ((yQ rfl rfl rfl).sub Wi) ?_;exact zj ⟨_,[],.many (.cons (.agg 3 inferInstance Z Z Z Z) (.cons (.tmp Z) .nil)),BZ _,by rw [hP];rfl,Z⟩
   .have hok:wr t=true:=by simpa using h39
    have hP2:=hP1 hok;rw [hgo] at hP2
    refine zr<|zg ?_;refine xK ?_ ?_<;>intro h43
    .have k43:=MV.1 h43;have hP:=hP2.trans (MX k43);refine xv 6 [5] _ V (.cons_cons _ (.cons_cons _ (.cons_cons _ (.cons _ .slnil))))<|ab.one ((yQ Z Z Z).sub Wi) Z Z Z V<|FB ?_;refine .loc1n 3 (xf rfl rfl rfl rfl (by simp)) rfl rfl rfl ?_
     rintro s1 H1 ⟨rfl,rfl⟩;refine⟨(.cons_cons _ (.cons_cons _ (.cons_cons _ (.cons _ .slnil)))),?_⟩;refine ab.nil<|zz ?_;exact zM<|zj ⟨_,[],.many (.cons (.agg 3 inferInstance Z Z Z Z) (.cons (.tmp Z) .nil)),BZ _,by rw [hP];rfl,Z⟩
    .have k43:=bne_eq_false_iff_eq.1 h43;have hP:=hP2.trans (MY (fun h=>h k43));refine zB<|zH (vO (De).symm)<|zH (vB [_] [_,_] [] [_] [_] hq1 rfl rfl (fun _ _=>rfl) (by unfold yE;omega))<|zH (vB [_,_] [_] [] [] [_] hq2 rfl rfl (fun _ _=>rfl) (by unfold yE;omega))<|zr ?_;(iterate 3 refine zz ?_);refine Fi ((AX (zl [robS rd.rob,zR 1 Zm rd.obs,zR 12 ZP rd.que])<|zE 0 rfl rfl rfl rfl rfl).sub zlr) ?_;refine zj ?_
     exact⟨_,[],.many (.cons (.agg 1 inferInstance Z Z Z Z) (.cons (.tmp Z) .nil)),BZ _,by rw [hP];rfl,Z⟩
 .have k3x1:=MT.1 h3x1;refine zz ?_;(iterate 3 refine zq ?_);refine zo ((xl rfl rfl rfl).sub (yz (c:=wr t) (by grind))) ?_;refine zg ?_;refine zi<|wN<|zi<|zH (yI 50 12)<|zH (yI 29 1)<|zH (vO (De (l₁:=[_,_])))<|Fh ?_;refine uf (fun (g:Nat) (rd:Rd) (qo qq:G3)=>⟨_,[(26,ML g),(25,MK L.length),(24,zR 1 tC L),(7,zp (wr t)),(6,eqS (gj b6)),(2,G9 b2)],RH b6 rd qo qq++[⟨some b2,33,[G8,G8,G8],0⟩],[],(0,false)⟩) (fun g rd qo qq=>g<=L.length/\goF (L.take g)=some rd/\zX qo rd.obs.length/\zX qq rd.que.length/\rd.obs.length<=g/\rd.que.length<=g) (fun g _ _ _=>L.length-g) 0 rd0 none none ⟨BL _,Z,Z,Z,BL _,BL _⟩ MM ?_
  rintro g rd qo qq ⟨hg,hgo,hq1,hq2,ho1,ho2⟩;refine Fh ?_;refine xK ?_ ?_<;>intro h27
  .have k27:=MO h27;grind
  .have k27:=MP h27;obtain rfl:g=L.length:=by omega
   rw [B3] at hgo
   refine zK<|zi<|zg ?_;refine xK ?_ ?_<;>intro h39
   .have hbad:wr t=false:=by simpa using h39
    have hP:=hP0 hbad;refine zr<|Fi ((yQ rfl rfl rfl).sub Wi) ?_;exact zj ⟨_,[],.many (.cons (.agg 3 inferInstance Z Z Z Z) (.cons (.tmp Z) .nil)),BZ _,by rw [hP];rfl,Z⟩
   .have hok:wr t=true:=by simpa using h39
    grind
def zvu (l:List RP):Prop:=20<l.length\/∃ p∈l,6<lm p
def zAC (q:RP×RP):Prop:=6<lm q.1\/6<lm q.2
def zyh (s:Sc):Prop:=zvu s.1\/20<s.2.1.length\/(∃l∈s.2.1,zvu l)\/20<s.2.2.length\/∃ q∈s.2.2,zAC q
def Ue (l:List QP):List RP:=l.map KT
def jE (q:QP×QP):RP×RP:=(KT q.1,KT q.2)
def Uf (s:QS):Sc:=(Ue s.1,s.2.1.map Ue,s.2.2.map jE)
def ze6 {α:Type} {f:α->α} (h:∀ x,f x=x) (l:List α):l.map f=l:=(Bk fun x _=>h x).trans (Dm _)
def ki (s:QS):nrm (Uf s)=s:=by
 refine Prod.ext (m5 _) (Prod.ext ?_ ?_)
 .show (s.2.1.map Ue).map pvs=s.2.1;rw [As];exact ze6 (fun l=>m5 l) _
 .show (s.2.2.map jE).map pv2=s.2.2;rw [As];exact ze6 (fun q=>by show (pv (KT q.1),pv (KT q.2))=q;rw [k5,k5]) _
def jS {s:QS} (I:Imm) (v:Value) (h:(zl (qsC s)).den I v):(zl (dO (Uf s))).den I v:=by
 obtain⟨xs,c,d,h1⟩:=h;obtain⟨x,y,z,rfl,hx,hy,b⟩:=VV d;refine⟨_,c,yB (ld KT GY hx) (yB (zmY Ue (fun l _ i r a=>?_) hy) (yB (ld jE GY b) aq)),h1⟩;cases i with
 | zero=>cases a;exact⟨_,Z,fun v h=>ld KT GY h⟩
 | succ i=>cases a
def vC (s:QS):List QP:=s.1++(s.2.1.flatten++s.2.2.flatMap fun q=>[q.1,q.2])
def ziA (s:Sc):zdb s=s.1++(s.2.1.flatten++s.2.2.flatMap fun q=>[q.1,q.2]):=by
 unfold zdb scL;rw [BM,CB,Eb,Eb];simp
def zr5 (l:List (List QP)):(l.map Ue).flatten=Ue l.flatten:=by
 induction l with
 | nil=>rfl
 | cons x l ih=>rw [Ar,Bg,ih,Bg];unfold Ue;rw [Cp]
def zpv (l:List (QP×QP)):((l.map jE).flatMap fun q=>[q.1,q.2])=Ue (l.flatMap fun q=>[q.1,q.2]):=by
 induction l with
 | nil=>rfl
 | cons x l ih=>rw [Ar,BM,ih,BM];rfl
def ze7 (s:QS):zdb (Uf s)=Ue (vC s):=by
 rw [ziA];unfold Uf vC;rw [zr5,zpv];unfold Ue;simp
def zr6 {s:QS} {k n:Nat} (c:0<k) (hp:∀ p∈vC s,Bq p.1 k/\Bq p.2 k) (d:(vC s).length<=n) (b:s.2.1.length+s.2.2.length+1<=n):ScOk (Uf s) k n:=by
 refine⟨c,fun x hx p a=>?_,by rw [ze7];unfold Ue;rwa [BR],by rw [hM];unfold Uf;grind⟩;have:p∈zdb (Uf s):=DP.2 ⟨x,hx,a⟩;rw [ze7] at this;obtain⟨q,hq,rfl⟩:=Bc.1 this;exact mo (hp q hq)
instance dqs:DecidableEq (G2×List (G2)×List ((Rat×Rat)×(Rat×Rat))):=instDecidableEqProd
end Go.Proofs
namespace Go.Sv
open Go Go.RowKit
def zpw {P:Program} {G:Imm} {H:HL} {o:Oper} {g:Ha} {t n e i:Nat} {x b:Operand} {k:IntKind} {cs:List SV} {s:SV} [v:ak P e] [E:ai P e 1] (u:P.underlying t=some (.array n e)) (hop:o.op= .index t x b) (hx:yW g x=some (zl cs)) (hi:yW g b=some (ze k i)) (h1:i<n) (z:cs[i]? =some s):OpOK P G H o g s:=
 yy GW fun I W a _ _ q=>by
  obtain⟨xs,r,f,_⟩:=q.get GB hx;have l:a.eval b= .int k i:=q.get GB hi;obtain⟨d,p,F⟩:=ak.h (P:=P) (t:=e);have D:(isAgg e).run P W= .ok false W:=by
   unfold isAgg;simp only [Sem.run_bind,run_underlying p,Result.andThen_ok];cases d <;> simp_all
  obtain⟨j,w,m⟩:=ai.i (P:=P) (t:=e);have A:(sizeOf e).run P W= .ok 1 W:=by simp [sizeOf,typeInfo,w,m]
  obtain⟨y,hy,c⟩:=f.get z;refine⟨y,?_,c⟩;have hin:0<=(i:Int)/\(i:Int)<n:=C;have:(Instr.index t (.agg xs.toArray) (.int k i)).run P W= .ok y W:=by
   simp [Instr.index,run_underlying u,asIntOf,hin,A,part,D,h1,hy]
  simp [execOp,hop,r,l,this]
end Go.Sv
namespace Num
open Go Go.Proofs
variable {s:Sc} {g:Nat}
def trisN (s:Sc) (g:Nat):Nat:=((s.2.1.take g).map fun r=>r.length-2).sum
def zdi {r:List RP} (h:s.2.1[g]? =some r):trisN s (g+1)=trisN s g+(r.length-2):=by
 unfold trisN;rw [Cz,h];simp
def tris (s:Sc):Nat:=(s.2.1.map fun r=>r.length-2).sum
def ze8 (s:Sc):trisN s s.2.1.length=tris s:=by unfold trisN tris;rw [B3]
def cu (n:Nat) (most:Int):Bool:=decide (3<=n)&&decide ((n:Int)<=most)
def Yx (s:Sc):Bool:=cu s.1.length 6&&decide (s.2.1.length<=4)&& !(s.2.1.any fun r=> !cu r.length 6)&&decide (tris s<=6)&&decide (s.2.2.length<=8)
def clB (s:Sc) (g:Nat):Bool:=if g=0 then Yx s else if g=1 then Ut (s.1.map pv) else !(s.2.1.any fun r=> !ZW (r.map pv))
def Xg (s:Sc):Int:=if clB s 0=false then 4 else if clB s 1=false then 5 else if clB s 2=false then 6 else 0
def zr7 (b:g<3) (a:∀ j,j<g->clB s j=true) (h:clB s g=false):Xg s=4+(g:Int):=by
 have:g=0\/g=1\/g=2:=C;unfold Xg;grind
def zpx (a:∀ j,j<3->clB s j=true):Xg s=0:=by
 unfold Xg;grind
end Num
namespace Go.Proofs
open Go Go.Sv Num Tryz
variable {G:Imm}
variable {k:Nat} {a:List (List RP)} {l:List RP} {s:Sc}
structure eV (s:Sc) (k:Nat):Prop where
 pos:0<k
 rob:∀ p∈s.1,wL k p
 obs:∀ r∈s.2.1,∀p∈r,wL k p
 rl:s.1.length<=1000000
 ol:s.2.1.length<=1000000
 orl:∀ r∈s.2.1,r.length<=1000000
 ql:s.2.2.length<=1000000
def zpy (h:eV s k):G0 G 265 [zl (dO s)] (MK (tris s:Nat)):=by
 have f:=h.ol;refine Fq func265 ?_;refine xi (fun g=>⟨_,[(8,ML g),(7,MK s.2.1.length),(6,zR 1 jF s.2.1),(2,MK (trisN s g:Nat))],[],[],(0,false)⟩) (fun g=>g<=s.2.1.length/\trisN s g<=1000000*g) (fun g=>s.2.1.length-g) 0 ⟨BL _,Af _⟩ MM ?_;rintro g ⟨i,hgt⟩;refine Fh ?_;refine Fo ?_ ?_<;>intro _ b
 .obtain⟨r,a⟩:=FU s.2.1 g;have d:=h.orl _ (AE a);have c:=zdi a;refine Fh ?_;refine zo (yK (z:=(r.length:Int)-2) Z Z Z (MW some (by omega)) (wrap_i64 (by omega) (by omega))) ?_;refine Fi ((Yb Z Z Z).sub (zI (n:=((r.length-2:Nat):Int)) (by omega))) ?_;refine Do (trisN s (g+1)) ?_;refine Do (g+1) ?_;exact⟨g+1,⟨by omega,by omega⟩,by omega,MM⟩
 .exact zj (zu (e:=by rw [<-ze8,(C:s.2.1.length=g)]))
def KV {m:Int}:G0 G 262 [zR 6 pc l,MK m] (zp (cu l.length m)):=by
 refine zs func262 ?_;refine zr<|zz ?_;apply zx;(iterate 2 refine zz ?_);refine FG ((zZ Z Z Z Z).sub (yz (c:=decide (3<=l.length)) (decide_eq_decide.2 C))) ?_ ?_<;>intro a
 .have b:=MO a;exact zj (zu (e:=by unfold cu;grind))
 .exact zj (zu (e:=by unfold cu;grind))
def zgt:G0 G 263 [zR 6 pc l,yo [eqS (.func (.func 262) #[] #[])]] (zp (!cu l.length 6)):=by
 refine zs func263 ?_;refine zr<|zz ?_;refine zx<|Fi ((AX (wD 262 [])<|(xP Z Z).sub Zs)) ?_;refine Fi ((yY Z Z Z KV)) ?_;exact Hj
def zls [ao G] (c:0<k) (b:∀ p∈l,wL k p) (a:100000*k+100000<=cap):G0 G 267 [zR 6 pc l] (zp (!ZW (l.map pv))):=by
 refine Fq func267 ?_;refine Fk (za3 c b a) ?_;exact Hj
def zyi (b:a.length<=2000000000):G0 G 264 [zR 1 jF a,wD 263 [yo [eqS (.func (.func 262) #[] #[])]]] (zp (a.any fun r=> !cu r.length 6)):=
 zeU (p:=fun r=> !cu r.length 6) b fun _ _=>zgt
def zyj [ao G] (e:a.length<=2000000000) (d:0<k) (c:∀ r∈a,∀p∈r,wL k p) (b:100000*k+100000<=cap):G0 G 264 [zR 1 jF a,eqS (.func (.func 267) #[] #[])] (zp (a.any fun r=> !ZW (r.map pv))):=
 (zeU (caps:=[]) (p:=fun r=> !ZW (r.map pv)) e fun r hr=>zls d (c r hr) b).args ⟨fun _ _ h=>h,Zs,trivial⟩
def ziC (h:eV s k):G0 G 172 [zl (dO s)] (zp (Yx s)):=by
 have l:=h.ol;have j:=h.ql;refine Fq func172 ?_;refine yT fun m=>?_;refine zw ?_;refine ae.ghost _ Z (ZK 0 3 Z Z)<|zx ?_;(iterate 2 refine zz ?_);refine zx<|Fi ((AX (wD 262 [])<|(xP Z Z).sub Zs)) ?_;refine zo ((yY Z Z Z KV)) ?_;refine FJ ?_ ?_<;>intro d
 .refine zz ?_;(iterate 2 refine zz ?_);refine zo ((zZ Z Z Z Z).sub (yz (c:=decide (s.2.1.length<=4)) (decide_eq_decide.2 C))) ?_;refine FF ?_ ?_<;>intro a
  .have i:=MO a;refine zo (zb Z Z (zyi C)) ?_;refine zz ?_;refine FF ?_ ?_<;>intro f
   .refine zf (zpy h) ?_;refine zo ((zZ Z Z Z Z).sub (yz (c:=decide (tris s<=6)) (decide_eq_decide.2 C))) ?_;refine FJ ?_ ?_<;>intro b
    .have g:=MO b;(iterate 4 refine zz ?_);refine Fi ((zZ Z Z Z Z).sub (yz (c:=decide (s.2.2.length<=8)) (decide_eq_decide.2 C))) ?_;exact zj (zu (e:=by unfold Yx;grind))
    .refine zg ?_;exact zj (zu (e:=by unfold Yx;grind))
   .exact zj (zu (e:=by unfold Yx;grind))
  .exact zj (zu (e:=by unfold Yx;grind))
 .refine zg ?_;exact zj (zu (e:=by unfold Yx;grind))
def zlt [ao G] (h:eV s k) (a:100000*k+100000<=cap):G0 G 173 [zl (dO s)] (zp (clB s 1)):=by
 have b:=h.rl;refine Fq func173 ?_;refine Fk (zil h.pos h.rob a (by unfold jP;omega)) ?_;exact Hj
def zpz [ao G] (h:eV s k) (a:100000*k+100000<=cap):G0 G 174 [zl (dO s)] (zp (clB s 2)):=by
 have b:=h.ol;refine Fq func174 ?_;refine Fk (zyj C h.pos h.obs a) ?_;exact Hj
def zgu:G0 G 111 [] (zl [eqS (.func (.func 172) #[] #[]),eqS (.func (.func 173) #[] #[]),eqS (.func (.func 174) #[] #[])]):=by
 refine Fq func111 ?_;refine Fm fun b0=>?_;exact Hj
def pk (g:Nat):FuncId:=if g=0 then 172 else if g=1 then 173 else 174
def zvw [ao G] (h:eV s k) (a:100000*k+100000<=cap) {g:Nat} (b:g<3):G0 G (pk g) [zl (dO s)] (zp (clB s g)):=by
 have:g=0\/g=1\/g=2:=C;rcases this with rfl | rfl | rfl
 .exact ziC h
 .exact zlt h a
 .exact zpz h a
def zyk {g:Nat} (a:g<3):∃ s,[eqS (.func (.func 172) #[] #[]),eqS (.func (.func 173) #[] #[]),eqS (.func (.func 174) #[] #[])][g]? =some s/\∀ I v,s.den I v->(wD (pk g) []).den I v:=by
 have:g=0\/g=1\/g=2:=C;rcases this with rfl | rfl | rfl
 .exact⟨_,Z,Zs⟩
 .exact⟨_,Z,Zs⟩
 .exact⟨_,Z,Zs⟩
def zpA [ao G] (h:eV s k) (o:100000*k+100000<=cap):G0 G 75 [zl (dO s)] (MK (Xg s)):=by
 refine zs func75 ?_;refine zg ?_;refine wO<|zi<|wN<|yL (K:=fun S1=>aC S1 ⟨18,[(2,MK (Xg s))],[],[],(0,false)⟩) ?_ ?_
 .refine zr<|Fk zgu ?_;refine Qj [5,2,1] (fun (g:Nat) z=>(6,ML g)::z) (fun g=>[]) (fun g=>g<=3/\∀ j,j<g->clB s j=true) (fun g=>3-g) 0 ⟨BL _,fun j b=>by omega⟩ ?_
  rintro g ⟨r,b⟩;refine Fh ?_;refine Fo ?_ ?_<;>intro _ m
  .obtain⟨sv,c,d⟩:=zyk (C:g<3);refine Fi ((AX (wD (pk g) [])<|(zpw (n:=3) (e:=116) V Z Z Z (by omega) c).sub d)) ?_;refine Fi ((yY Z Z Z (zvw h o (C:g<3)))) ?_;refine Fp ?_ ?_<;>intro a
   .have i:clB s g=false:=by simpa using a
    refine Fi (yK (z:=4+(g:Int)) Z Z Z (MW some (by omega)) (wrap_i64 (by omega) (by omega))) ?_;exact (by rw [zr7 C b i];exact MM)
   .have f:clB s g=true:=by simpa using a
    refine Do (g+1) ?_;exact⟨g+1,⟨by omega,fun j q=>by
     grind⟩,by omega,MM⟩
  .exact (by rw [zpx (fun j p=>b j C)];exact MM)
 .intro S1 l;exact xq l<|Lk
abbrev iJ (p:RP):Prop:=(wZ p.1.2.1/\wZ p.1.2.2)/\wZ p.2.2.1/\wZ p.2.2.2
structure jy (s:Sc):Prop where
 rob:∀ p∈s.1,iJ p
 obs:∀ l∈s.2.1,∀p∈l,iJ p
 que:∀ q∈s.2.2,iJ q.1/\iJ q.2
theorem k4 {p:RP} (h:iJ p) (a:¬ 6<lm p):wL 6 p:=by
 grind
theorem zyl (l:List (List RP)) (h:∀ x∈l,x.length<=20):l.flatten.length<=20*l.length:=by
 induction l with
 | nil=>simp
 | cons x l ih=>
  grind
def zvx (l:List (RP×RP)):(l.flatMap fun q=>[q.1,q.2]).length=2*l.length:=by
 induction l with
 | nil=>rfl
 | cons x l ih=>grind
theorem gr_ok {s:Sc} (b:jy s) (h:¬ zyh s):ScOk s 6 500:=by
 have h1:¬ zvu s.1:=fun e=>h (.inl e);have j:¬ 20<s.2.1.length:=fun e=>h (.inr (.inl e));have f:∀ l∈s.2.1,¬zvu l:=fun l b e=>h (.inr (.inr (.inl ⟨l,b,e⟩)));have i:¬ 20<s.2.2.length:=fun e=>h (.inr (.inr (.inr (.inl e))));have d:∀ q∈s.2.2,¬zAC q:=fun q hq e=>h (.inr (.inr (.inr (.inr ⟨q,hq,e⟩))));have len:(zdb s).length<=500:=by
  rw [ziA,Aw,Aw,zvx];have:=zyl s.2.1 fun x hx=>Nat.le_of_not_lt fun e=>f x hx (.inl e);have g:¬ 20<s.1.length:=fun e=>h1 (.inl e);omega
 refine⟨J,fun x hx p hp=>?_,len,by rw [hM];omega⟩;rcases DZ.1 hx with rfl | hx
 .exact k4 (b.rob p hp) fun e=>h1 (.inr ⟨p,hp,e⟩)
 .rcases Bu.1 hx with hx | hx
  .obtain⟨l,c,rfl⟩:=Bc.1 hx;exact k4 (b.obs l c p hp) fun e=>f l c (.inr ⟨p,hp,e⟩)
  .obtain⟨q,a,rfl⟩:=Bc.1 hx;rcases DZ.1 hp with rfl | hp
   .exact k4 (b.que q a).1 fun e=>d q a (.inl e)
   .rw [AS.1 hp];exact k4 (b.que q a).2 fun e=>d q a (.inr e)
def dgF (n:Nat) (l:List QP):Nat:=l.foldl (fun (n:Nat) (p:Rat×Rat)=>max (max n (nD p.1)) (nD p.2)) n
def zm7 (n:Nat) (l:List QP):dgF n l=max n (dgF 0 l):=by
 unfold dgF
 induction l generalizing n with
 | nil=>simp
 | cons p l ih=>grind
def k3 (l m:List QP):dgF 0 (l++m)=max (dgF 0 l) (dgF 0 m):=by
 rw [show dgF 0 (l++m)=dgF (dgF 0 l) m from Dt,zm7]
end Go.Proofs
