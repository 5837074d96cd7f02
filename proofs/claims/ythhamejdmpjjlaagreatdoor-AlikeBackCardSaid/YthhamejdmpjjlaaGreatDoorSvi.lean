/- make and append on slices of one's own; calls by contract; an owned block given up; a function's contract from its body. -/
import Derived.Test.YthhamejdmpjjlaaGreatDoorSve
namespace Go.Sv
open Go Go.RowKit
def rowV:Option (Nat×Nat)→Nat→Value
 | none,_=>.slice none 0 0
 | some (b,cap),n=>.slice (some ⟨b,0,none⟩) n cap
def rowE (q:Option (Nat×Nat)) (e st n:Nat) (cs:List SV):HE:=match q with
 | none=>⟨none,e,cs,0⟩
 | some (b,cap)=>⟨some b,e,cs,cap*st-n*st⟩
def yu (q:Option (Nat×Nat)) (n:Nat):Prop:=match q with
 | none=>n=0
 | some (_,cap)=>n≤cap∧cap≤maxLen
instance {q:Option (Nat×Nat)} {n:Nat}:One (eqS (rowV q n)):=⟨Zg (by cases q <;> rfl)⟩
section
variable {P:Program} {G:Imm} {E:Env} {r:Option Nat} {S:St} {gd:Nat→Option Nat} {p:Bool} {o:Oper} {ops:List Oper} {K:St→Prop}
theorem xK {H:HL} {g:List (Nat×SV)} {t e st:Nat} [IsSl P t e st] {x:Operand} {q:Option (Nat×Nat)} {n:Nat} (hop:o.op= .call {callee:=.builtin .len,args:= #[x],argTypes:= #[t]}) (hx:xd g x=some (eqS (rowV q n))) (hq:yu q n):OpOK P G H o g (intS .i64 n):=by
 cases q with
 | none=>have hq:n=0:=hq;subst hq;exact WL hop hx
 | some q=>exact WL hop hx
theorem allOne_nil:xF []:=fun _ h=>by cases h
theorem Vs {q:Option (Nat×Nat)} {e st n:Nat} {cs:List SV} {I:Imm} {W:World} (hq:yu q n) (hl:cs.length=n*st) (h:HoldsH [rowE q e st n cs] I W):
    ∃xs,W.ownsRow 0 e st (rowV q n) n xs∧dens I cs xs∧xF xs:=by
  cases q with
  | none=>
    have hq:n=0:=hq
    subst hq
    have h1:cs=[]:=(h.mem (rowE none e st 0 cs) (by simp)).none rfl
    subst h1
    exact⟨[],⟨by simp,.inl ⟨rfl,rfl⟩⟩,dens_nil,allOne_nil⟩
  | some q=>
    obtain⟨b,cap⟩:=q
    obtain⟨hq1,hq2⟩:=hq
    obtain⟨_,c,hc,hsz,h1,hd⟩:=(h.mem (rowE (some (b,cap)) e st n cs) (by simp)).some rfl
    simp only [rowE] at hc hsz h1 hd
    have hle:n*st≤cap*st:=Nat.mul_le_mul_right _ hq1
    refine⟨_,⟨?_,.inr ⟨b,cap,c,rfl,Nat.zero_le _,hc,hq1,hq2,by omega,by rw [hl]⟩⟩,hd,h1⟩
    rw [hd.1,hl]
theorem Vt {e st n:Nat} {v:Value} {xs:List Value} {cs:List SV} {I:Imm} {W:World} (h:W.ownsRow 0 e st v n xs) (hd:dens I cs xs) (h1:xF xs) (hI:∀ b,v.ownBlock=some b→I b=none):
  ∃q,yu q n∧v=rowV q n∧HoldsH [rowE q e st n cs] I W∧q.map (·.1)=v.ownBlock:=by
 rcases h.2 with ⟨rfl,rfl⟩ | ⟨g,cap,cur,rfl,_,hg,hn,hc,hs,ht⟩
 ·have hx:xs=[]:=List.eq_nil_of_length_eq_zero (by simpa using h.1)
  subst hx
  have:cs=[]:=List.eq_nil_of_length_eq_zero (by simpa using hd.1.symm)
  subst this
  refine⟨none,rfl,rfl,⟨by simp [bs,rowE],fun p hp=>?_⟩,rfl⟩
  simp at hp;subst hp;exact .of_none rfl rfl
 ·have hl:cs.length=n*st:=by rw [←hd.1,h.1]
  refine⟨some (g,cap),⟨hn,hc⟩,rfl,⟨by simp [bs,rowE],fun p hp=>?_⟩,rfl⟩
  simp at hp;subst hp
  have hle:n*st≤cap*st:=Nat.mul_le_mul_right _ hn
  refine .of_some rfl ⟨hI g rfl,cur,hg,?_,?_,?_⟩
  ·simp only [rowE];omega
  ·simp only [rowE];rw [hl,ht];exact h1
  ·simp only [rowE];rw [hl,ht];exact hd
class IsElem (P:Program) (e:TypeId) (zs:outParam (List Value)) (bytes:outParam Nat):Prop where
 i:∃ i z,P.info? e=some i∧i.zero=some z∧z.cells=zs.toArray∧i.size=zs.length∧i.bytes=bytes
 one:JS zs=true
 pos:zs≠[]
theorem QO {t e st bytes:Nat} {zs:List Value} [IsSl P t e st] [he:IsElem P e zs bytes] {x y:Operand} {q:Option (Nat×Nat)} {n:Nat} {cs:List SV} {α:Type} {f:α→List SV} {l:List α} {g:List (Nat×SV)}
    (hop:o.op= .call {callee:=.builtin .append,args:= #[x,y],argTypes:= #[t,t]}) (hx:xd g x=some (eqS (rowV q n))) (hy:xd g y=some (zU st f l)) (hq:yu q n) (hl:cs.length=n*st) (hf:∀ z∈l,(f z).length=st) (hb:(n+l.length)*bytes≤yP) (hm:n+l.length≤yP):
    OpL P G o g [rowE q e st n cs] (fun s H'=>∃ q',yu q' (n+l.length)∧s=eqS (rowV q' (n+l.length))∧H'=[rowE q' e st (n+l.length) (cs++l.flatMap f)]):=by
  intro nn r I W a next Q hm' hh hr kk
  have hvx:a.eval x=rowV q n:=hr.get (by simp [hop,Op.operands,Call.operands]) hx
  obtain⟨ad,cap,hvy,_,_,h3⟩:=hr.get (by simp [hop,Op.operands,Call.operands]) hy
  obtain⟨xs,hown,hd,h1⟩:=Vs hq hl hh
  obtain⟨i,hi,his⟩:=IsSl.i (P:=P) (t:=t) (e:=e) (st:=st)
  obtain⟨i',z,hi',hz1,hz2,hz3,hz4⟩:=he.i
  rw [hi] at hi';cases hi'
  have hu:=IsSl.u (P:=P) (t:=t) (e:=e) (st:=st)
  have hst:0<st:=by rw [←his,hz3];exact List.length_pos_iff.2 he.pos
  have hIb:∀ b,(rowV q n).ownBlock=some b→I b=none:=by
    intro b hb
    cases q with
    | none=>simp [rowV,Value.ownBlock] at hb
    | some q=>simp [rowV,Value.ownBlock] at hb;subst hb;exact (hh.lt (b:=q.1) (by simp [bs,rowE])).2
  -- the source's cells
  have hsrc:∃ news:List Value,news.length=l.length*st∧dens I (l.flatMap f) news∧xF news∧((l=[]∧news=[])∨∃ b p,ad=some ⟨b,p,none⟩∧∀ j u,news[j]? =some u→W.cell? (Addr.add ⟨b,p,none⟩ j)=some u):=by
    rcases h3 with rfl | ⟨b,p,rfl,hc⟩
    · exact⟨[],by simp,dens_nil,allOne_nil,.inl ⟨rfl,rfl⟩⟩
    · have:∀ (m:List α) (k:Nat),(∀z∈m,(f z).length=st)→(∀i x,m[i]? =some x→cellsAt I b (p+(k+i)*st) (f x))→∃ news:List Value,news.length=m.length*st∧dens I (m.flatMap f) news∧xF news∧∀ j u,news[j]? =some u→W.cell? (Addr.add ⟨b,p,none⟩ (k*st+j))=some u:=by
        intro m
        induction m with
        | nil=>intro k _ _;exact⟨[],by simp,dens_nil,allOne_nil,by simp⟩
        | cons y m ih=>
          intro k hfm hk
          obtain⟨news,g1,g2,g3,g4⟩:=ih (k+1) (fun z hz=>hfm z (by simp [hz])) fun i x hx=>by have:=hk (i+1) x (by simpa using hx);rwa [show k+(i+1)=k+1+i from by omega] at this
          obtain⟨c,hcI,hcd⟩:=hk 0 y rfl
          obtain⟨ee,fr,hcw⟩:=hm'.mem b c hcI
          obtain⟨ys,f1,f2,f3,f4⟩:=Xh (c:=c) (off:=p+(k+0)*st) (hfm y (by simp)) hcd
          refine⟨ys++news,?_,?_,?_,?_⟩
          · simp [f1,g1,Nat.succ_mul];omega
          · rw [List.flatMap_cons];exact f3.append g2
          · intro u hu;rcases List.mem_append.1 hu with h | h;exact f4 u h;exact g3 u h
          · intro j u hj
            by_cases hlt:j<st
            · rw [List.getElem?_append_left (by omega)] at hj
              have:=f2 j u hj
              rw [XZ,wm hcw];rw [show p+(k*st+j)=p+(k+0)*st+j from by simp;omega];exact this
            · rw [List.getElem?_append_right (by omega),f1] at hj
              have:=g4 _ u hj
              rw [show k*st+j=(k+1)*st+(j-st) from by rw [Nat.succ_mul];omega];exact this
      obtain⟨news,g1,g2,g3,g4⟩:=this l 0 hf (by simpa using hc)
      exact⟨news,g1,g2,g3,.inr ⟨b,p,rfl,fun j u hj=>by have:=g4 j u hj;simpa using this⟩⟩
  obtain⟨news,n1,n2,n3,n4⟩:=hsrc
  have hmx:n+l.length≤maxLen:=by unfold maxLen;unfold yP at hm;omega
  have hrun:∃ v' W',(Builtin.append_ #[t,t] o.type #[rowV q n,.slice ad l.length cap]).run P W= .ok v' W'∧W'.ownsRow 0 e st v' (n+l.length) (xs++news)∧W.grownBy W' (rowV q n).ownBlock∧(v'.ownBlock=(rowV q n).ownBlock∨v'.ownBlock=some W.heap.size):=by
    rcases n4 with ⟨rfl,rfl⟩ | ⟨b,p,rfl,hc⟩
    · cases ad with
      | none=>
        refine⟨rowV q n,W,?_,by simpa using hown,⟨rfl,rfl,rfl,Nat.le_refl _,fun _ _ _=>rfl⟩,.inl rfl⟩
        cases q with
        | none=>
          have hq:n=0:=hq
          subst hq
          simp [rowV,Builtin.append_,run_underlying hu,sizeOf,typeInfo,hi,Builtin.lenOf,Builtin.firstCells]
        | some q=>
          obtain⟨b,cap'⟩:=q
          have hq1:n≤cap':=hq.1
          simp [rowV,Builtin.append_,run_underlying hu,sizeOf,typeInfo,hi,Builtin.lenOf,Builtin.firstCells,hq1,storeCells]
      | some ad=>
        obtain⟨v',W',e1,e2,e3,_,e4⟩:=run_append_own_at (P:=P) W 0 t o.type e i z st bytes hu hi hz1 his hz4 (by rw [hz2];simp;omega) hst (rowV q n) n xs hown ad 0 cap [] (by simp) (by simp) (by simp) (by simpa using hmx) (by simpa [yP] using hb) (Nat.zero_le _)
        exact⟨v',W',e1,by simpa using e2,e3,e4⟩
    · obtain⟨v',W',e1,e2,e3,_,e4⟩:=run_append_own_at (P:=P) W 0 t o.type e i z st bytes hu hi hz1 his hz4 (by rw [hz2];simp;omega) hst (rowV q n) n xs hown ⟨b,p,none⟩ l.length cap news n1 hc n3 hmx hb (Nat.zero_le _)
      exact⟨v',W',e1,e2,e3,e4⟩
  obtain⟨v',W',e1,e2,e3,e4⟩:=hrun
  have hI':∀ b,v'.ownBlock=some b→I b=none:=by
    intro b hb
    rcases e4 with h | h
    · exact hIb b (by rw [←h];exact hb)
    · rw [h] at hb;cases hb;exact hm'.none_new
  obtain⟨q',hq',rfl,hh',hqb⟩:=Vt e2 (hd.append n2) (by intro x hx;rcases List.mem_append.1 hx with h | h;exact h1 x h;exact n3 x h) hI'
  have hbs:∀ b,b∈bs [rowE q' e st (n+l.length) (cs++l.flatMap f)]↔(rowV q' (n+l.length)).ownBlock=some b:=by
    intro b;cases q' <;> simp [bs,rowE,rowV,Value.ownBlock];exact eq_comm
  have hbs0:∀ b,b∈bs [rowE q e st n cs]↔(rowV q n).ownBlock=some b:=by
    intro b;cases q <;> simp [bs,rowE,rowV,Value.ownBlock];exact eq_comm
  have hm2:Holds G I W':=⟨hm'.glob,fun b c hc=>by
    obtain⟨ee,fr,hw⟩:=hm'.mem b c hc
    exact⟨ee,fr,(e3.block b (yp hw) fun h=>by have:=hIb b h.symm;rw [hc] at this;cases this).trans hw⟩⟩
  have hrun2:(execOp a.eval o).run P W= .ok (.value (rowV q' (n+l.length))) W':=by
    simp only [execOp,hop,resolve,Sem.run_bind,Sem.run_pure,Result.andThen_ok,invoke,builtin]
    have:Array.map a.eval #[x,y]= #[rowV q n,.slice ad l.length cap]:=by simp [hvx,hvy]
    rw [this,e1];rfl
  refine xG (by simp [hop]) hrun2 ?_
  refine kk _ I W' _ _ ⟨q',hq',rfl,rfl⟩ ?_ hm2 hh' rfl
  refine⟨e3.os,e3.tape,e3.output,Imm.le_refl _,e3.size,fun b hb hn=>e3.block b hb fun h=>hn ((hbs0 b).2 h.symm),fun b h h'=>absurd h h',fun b hb=>?_⟩
  have:=(hbs b).1 hb
  rcases e4 with h | h
  · exact .inl ((hbs0 b).2 (by rw [←h];exact this))
  · rw [h] at this;cases this;exact .inr (Nat.le_refl _)
end
end Go.Sv
/- make; calls by contract; an owned block given up for an immutable one; a function's contract out of its body. -/
namespace Go.Sv
open Go Go.RowKit Go.Shelf
section
variable {P:Program} {G:Imm} {E:Env} {r:Option Nat} {S:St} {gd:Nat→Option Nat} {p:Bool} {o:Oper} {ops:List Oper} {K:St→Prop}
/-! make -/
theorem uR (zs:List Value) (n:Nat):(madeCells zs.toArray n).toList=yB zs n:=by
 unfold madeCells yB
 simp only [Array.toList_map,Array.toList_range]
 apply List.map_congr_left
 intro k _
 simp [List.getD_eq_getElem?_getD,getElem!_def]
 cases zs[k%zs.length]? <;> rfl
theorem Ua (zs:List Value) {m n:Nat} (h:m≤n):(yB zs n).take m=yB zs m:=by
 unfold yB
 rw [←List.map_take,List.take_range,Nat.min_eq_left h]
theorem vo (zs:List Value) (n:Nat):(yB zs n).length=n:=by simp [yB]
theorem JT (z:Value) (n:Nat):yB [z] n=List.replicate n z:=by
 unfold yB
 rw [List.eq_replicate_iff]
 refine⟨by simp,fun x hx=>?_⟩
 simp only [List.mem_map] at hx
 obtain⟨i,_,rfl⟩:=hx
 simp [Nat.mod_one]
theorem zeB {t e st bytes:Nat} {zs:List Value} [IsSl P t e st] [he:IsElem P e zs bytes] {x y:Operand} {k k':IntKind} {n c:Nat} {g:List (Nat×SV)}
  (hop:o.op= .makeSlice t x y) (hx:xd g x=some (intS k n)) (hy:xd g y=some (intS k' c)) (hnc:n≤c) (hb:bytes*c≤281474976710656) (hc:c≤yP):
  OpL P G o g [] (fun s H'=>∃ b,yu (some (b,c)) n∧s=eqS (rowV (some (b,c)) n)∧H'=[rowE (some (b,c)) e st n ((yB zs (n*st)).map eqS)]):=by
 intro nn r I W a next Q hm' _ hr kk
 have hvx:a.eval x= .int k n:=hr.get (by simp [hop,Op.operands]) hx
 have hvy:a.eval y= .int k' c:=hr.get (by simp [hop,Op.operands]) hy
 obtain⟨i,hi,his⟩:=IsSl.i (P:=P) (t:=t) (e:=e) (st:=st)
 obtain⟨i',z,hi',hz1,hz2,hz3,hz4⟩:=he.i
 rw [hi] at hi';cases hi'
 have hu:=IsSl.u (P:=P) (t:=t) (e:=e) (st:=st)
 unfold yP at hc
 have h1:=run_make (P:=P) W t e i z hu hi hz1 k k' (n:Int) (c:Int) (by omega) (by omega) (by rw [hz4,←Int.natCast_mul];omega) (by omega)
 simp only [Int.toNat_natCast] at h1
 have hrun:(execOp a.eval o).run P W= .ok (.value (.slice (some ⟨W.heap.size,0,none⟩) n c)) (W.alloc (.cells (madeCells z.cells (c*i.size)) e)):=by
  simp only [execOp,hop,hvx,hvy,Sem.run_bind,h1,Result.andThen_ok,Sem.run_pure]
 obtain⟨hm2,hf⟩:=uW hm' (.cells (madeCells z.cells (c*i.size)) e) (fun b=>b∈bs [])
 have hle:n*st≤c*st:=Nat.mul_le_mul_right _ hnc
 refine xG (by simp [hop]) hrun ?_
 refine kk _ I _ _ _ ⟨W.heap.size,⟨hnc,by unfold maxLen;omega⟩,rfl,rfl⟩ ?_ hm2 ?_ rfl
 ·refine hf.weaken (fun _ h=>h) fun b hb=>.inl (.inr ?_)
  simp [bs,rowE] at hb;exact hb
 ·refine⟨by simp [bs,rowE],fun p hp=>?_⟩
  simp at hp;subst hp
  refine .of_some rfl ⟨hm'.none_new,_,alloc_heap_at _ _,?_,?_,?_⟩
  ·simp only [rowE,size_madeCells,List.length_map,vo];rw [his];omega
  ·simp only [rowE,List.length_map,vo,hz2,uR]
   rw [Ua _ (by rw [his];exact hle)]
   exact zeroRow_one (allOne_of he.one) _ (.inr he.pos)
  ·simp only [rowE,List.length_map,vo,hz2,uR]
   rw [Ua _ (by rw [his];exact hle)]
   exact ZV _
theorem Run.make {n0 d0:Nat} {g:List (Nat×SV)} {h:HL} {d:List Nat} {i:Nat×Bool} {t e st bytes:Nat} {zs:List Value} [IsSl P t e st] [IsElem P e zs bytes] {x y:Operand} {k k':IntKind} {n c:Nat} (hp:p=false) (hop:o.op= .makeSlice t x y) (hx:xd g x=some (intS k n)) (hy:xd g y=some (intS k' c)) (hg:zH gd g o true) (ht:o.dst=some d0) (hd:Nat.blt d0 n0=true)
  (hnc:n≤c) (hb:bytes*c≤281474976710656) (hc:c≤yP)
  (hr:∀ b,yu (some (b,c)) n→Run P G E r gd p ops ⟨n0,(d0,eqS (rowV (some (b,c)) n))::g,rowE (some (b,c)) e st n ((yB zs (n*st)).map eqS)::h,d,i⟩ K):Run P G E r gd p (o::ops) ⟨n0,g,h,d,i⟩ K:=
 .loc0 hp (zeB hop hx hy hnc hb hc) hg ht hd fun s H' ⟨b,e0,e1,e2⟩=>by subst e1;subst e2;exact hr b e0
theorem Run.append (j:Nat) {n0 d0:Nat} {g:List (Nat×SV)} {h:HL} {d:List Nat} {i:Nat×Bool} {t e st bytes:Nat} {zs:List Value} [IsSl P t e st] [IsElem P e zs bytes] {x y:Operand} {q:Option (Nat×Nat)} {n:Nat} {cs:List SV} {α:Type} {f:α→List SV} {l:List α} (hp:p=false)
  (hop:o.op= .call {callee:=.builtin .append,args:= #[x,y],argTypes:= #[t,t]}) (hx:xd g x=some (eqS (rowV q n))) (hy:xd g y=some (zU st f l)) (hH:h[j]? =some (rowE q e st n cs)) (hg:zH gd g o true) (ht:o.dst=some d0) (hd:Nat.blt d0 n0=true)
  (hq:yu q n) (hl:cs.length=n*st) (hf:∀ z∈l,(f z).length=st) (hb:(n+l.length)*bytes≤yP) (hm:n+l.length≤yP)
  (hr:∀ q',yu q' (n+l.length)→Run P G E r gd p ops ⟨n0,(d0,eqS (rowV q' (n+l.length)))::g,wh h j [rowE q' e st (n+l.length) (cs++l.flatMap f)],d,i⟩ K):Run P G E r gd p (o::ops) ⟨n0,g,h,d,i⟩ K:=
 .loc1 j hp hH (QO hop hx hy hq hl hf hb hm) hg ht hd fun s H' ⟨q',e0,e1,e2⟩=>by subst e1;subst e2;exact hr q' e0
theorem yL {n0:Nat} {g:List (Nat×SV)} {h:HL} {d:List Nat} {i:Nat×Bool} (e st:Nat):ZT G E r ⟨n0,g,h,d,i⟩ ⟨n0,g,rowE none e st 0 []::h,d,i⟩:=by
 intro I F a W hs
 exact⟨I,⟨hs.n,hs.g,hs.m,⟨by simpa [bs,rowE] using hs.h.nodup,fun p hp=>by
  rcases List.mem_cons.1 hp with rfl | hp
  ·exact .of_none rfl rfl
  ·exact hs.h.mem p hp⟩,hs.d,hs.dn,hs.dk,hs.e,by simpa [bs,rowE] using hs.f,fun k hk=>by simpa [own,bs,rowE] using hs.l k hk⟩,by
  have:own ⟨n0,g,rowE none e st 0 []::h,d,i⟩ F=own ⟨n0,g,h,d,i⟩ F:=by funext b;simp [own,bs,rowE]
  rw [this];exact Fram.refl _ _ _⟩
/-! calls -/
structure CallSpec (P:Program) (G:Imm) (f:FuncId) (args:List SV) (H:HL) (Q:SV→HL→Prop):Prop where
 enters:∀ args w,(callFunc f args).run P w= .ok (.enter f args) w
 main:∀ I W (vs:List Value),Holds G I W→HoldsH H I W→dens I args vs→Calls P f vs.toArray W fun e W'=>
  ∃v I' s H',e= .returned v∧Q s H'∧s.den I' v∧Holds G I' W'∧HoldsH H' I' W'∧Fram (· ∈bs H) I W (· ∈bs H') I' W'
abbrev zp (P:Program) (G:Imm) (f:FuncId) (args:List SV) (s:SV):Prop:=CallSpec P G f args [] (fun s' H'=>s'=s∧H'=[])
theorem CallSpec.mono {f:FuncId} {args:List SV} {H:HL} {Q Q':SV→HL→Prop} (h:CallSpec P G f args H Q) (hq:∀ s H',Q s H'→Q' s H'):CallSpec P G f args H Q':=
 ⟨h.enters,fun I W vs h1 h2 h3=>(h.main I W vs h1 h2 h3).mono fun _ _ ⟨v,I',s,H',e,hQ,rest⟩=>⟨v,I',s,H',e,hq _ _ hQ,rest⟩⟩
def subL:List SV→List SV→Prop
 | [],[]=>True
 | s::l,t::m=>(∀I v,s.den I v→t.den I v)∧subL l m
 | _,_=>False
theorem xi:∀ l,subL l l
 | []=>trivial
 | _::l=>⟨fun _ _ h=>h,xi l⟩
theorem subL.dens:∀ {l m:List SV} {I:Imm} {vs:List Value},subL l m→dens I l vs→dens I m vs
 | [],[],_,_,_,h=>h
 | _::_,_::_,_,_,hs,h=>by obtain⟨x,r,rfl,h1,h2⟩:=xW h;exact zW (hs.1 _ _ h1) (hs.2.dens h2)
 | [],_::_,_,_,hs,_=>hs.elim
 | _::_,[],_,_,hs,_=>hs.elim
theorem CallSpec.args {f:FuncId} {args args':List SV} {H:HL} {Q:SV→HL→Prop} (h:CallSpec P G f args H Q) (hs:subL args' args):CallSpec P G f args' H Q:=
 ⟨h.enters,fun I W vs h1 h2 h3=>h.main I W vs h1 h2 (hs.dens h3)⟩
theorem ZW {n:Nat} {f:FuncId} {args:Array Value} {w:World} {R:Ending→World→Prop} (r:Option Nat) (h:Calls P f args w R):CallsIn (Fr r) n P f args w R:=(callsIn_wide (n:=n)).2 h
theorem zj8 {x:Operand} {cal:Callee} {xs:Array Operand} {ts:Array TypeId} {f:FuncId} {args:List SV} {Hp:HL} {Q:SV→HL→Prop} {g:List (Nat×SV)} {caps:List SV} (hop:o.op= .call {callee:=cal,args:=xs,argTypes:=ts}) (hcal:cal= .value x)
  (hf:xd g x=some (wp f caps)) (ha:uJ g xs.toList=some args) (hs:CallSpec P G f (args++caps) Hp Q):OpL P G o g Hp Q:=by
 intro n r I W a next Qx hm hh hr k
 subst hcal
 have hv:=hr.get (x:=x) (by simp [hop,Op.operands,Call.operands]) hf
 obtain⟨cv,hv,hcd⟩:=hv
 have hd:dens I args (xs.toList.map a.eval):=uA ha fun y hy s hs=>hr y (by simp [hop,Op.operands,Call.operands];exact .inr (by simpa using hy)) s hs
 have hrun:(execOp a.eval o).run P W= .ok (.enter f (xs.toList.map a.eval++cv).toArray) W:=by
  have e:Array.map a.eval xs++cv.toArray=(xs.toList.map a.eval++cv).toArray:=by apply Array.ext';simp
  simp only [execOp,hop,resolve,hv,Deferred.ofValue,Sem.run_bind,Sem.run_pure,Result.andThen_ok,invoke,Array.empty_append,e,hs.enters]
 refine xG (by simp [hop]) hrun ?_
 refine⟨fun h=>by simp [Fr,Fence.wide] at h,ZW r ((hs.main I W _ hm hh (hd.append hcd)).mono ?_)⟩
 rintro e W' ⟨v,I',s,H',rfl,hQ,hsv,hm',hh',hfr⟩
 exact k v I' W' s H' hQ hfr hm' hh' hsv
theorem Xk {xs:Array Operand} {ts:Array TypeId} {f:FuncId} {args:List SV} {Hp:HL} {Q:SV→HL→Prop} {g:List (Nat×SV)} (hop:o.op= .call {callee:=.value (.func f),args:=xs,argTypes:=ts})
  (ha:uJ g xs.toList=some args) (hs:CallSpec P G f args Hp Q):OpL P G o g Hp Q:=by
 intro n r I W a next Qx hm hh hr k
 have hd:dens I args (xs.toList.map a.eval):=uA ha fun y hy s hs=>hr y (by simp [hop,Op.operands,Call.operands];exact .inr (by simpa using hy)) s hs
 have hrun:(execOp a.eval o).run P W= .ok (.enter f (xs.toList.map a.eval).toArray) W:=by
  have e:Array.map a.eval xs++ #[]=(xs.toList.map a.eval).toArray:=by apply Array.ext';simp
  have hv:a.eval (.func f)= .func (.func f) #[] #[]:=rfl
  simp only [execOp,hop,resolve,hv,Deferred.ofValue,Sem.run_bind,Sem.run_pure,Result.andThen_ok,invoke,Array.empty_append,e,hs.enters]
 refine xG (by simp [hop]) hrun ?_
 refine⟨fun h=>by simp [Fr,Fence.wide] at h,ZW r ((hs.main I W _ hm hh hd).mono ?_)⟩
 rintro e W' ⟨v,I',s,H',rfl,hQ,hsv,hm',hh',hfr⟩
 exact k v I' W' s H' hQ hfr hm' hh' hsv
theorem zbl {H:HL} {g:List (Nat×SV)} {s:SV} (h:OpL P G o g [] (fun s' H'=>s'=s∧H'=[])):OpOK P G H o g s:=by
 intro n r I W a next Q hm hh hr k
 refine h n r I W a next Q hm ⟨by simp [bs],by simp⟩ hr ?_
 rintro v I' W' _ _ ⟨rfl,rfl⟩ hf hm' _ hv
 exact k v I' W' (hf.weaken (fun b hb=>by simp [bs] at hb) fun b hb=>hb.elim) hm' hv
theorem ze {H:HL} {xs:Array Operand} {ts:Array TypeId} {f:FuncId} {args:List SV} {s:SV} {g:List (Nat×SV)} (hop:o.op= .call {callee:=.value (.func f),args:=xs,argTypes:=ts})
 (ha:uJ g xs.toList=some args) (hs:zp P G f args s):OpOK P G H o g s:=zbl (Xk hop ha hs)
theorem yI {H:HL} {x:Operand} {xs:Array Operand} {ts:Array TypeId} {f:FuncId} {args caps:List SV} {s:SV} {g:List (Nat×SV)} (hop:o.op= .call {callee:=.value x,args:=xs,argTypes:=ts})
 (hf:xd g x=some (wp f caps)) (ha:uJ g xs.toList=some args) (hs:zp P G f (args++caps) s):OpOK P G H o g s:=zbl (zj8 hop rfl hf ha hs)
theorem Run.call1 (j:Nat) {n0 d0:Nat} {g:List (Nat×SV)} {h:HL} {d:List Nat} {i:Nat×Bool} {xs:Array Operand} {ts:Array TypeId} {f:FuncId} {args:List SV} {q:HE} {Q:SV→HL→Prop} (hp:p=false) (hop:o.op= .call {callee:=.value (.func f),args:=xs,argTypes:=ts})
  (ha:uJ g xs.toList=some args) (hH:h[j]? =some q) (hs:CallSpec P G f args [q] Q) (hg:zH gd g o true) (ht:o.dst=some d0) (hd:Nat.blt d0 n0=true)
  (hr:∀ s H',Q s H'→Run P G E r gd p ops ⟨n0,(d0,s)::g,wh h j H',d,i⟩ K):Run P G E r gd p (o::ops) ⟨n0,g,h,d,i⟩ K:=
 .loc1 j hp hH (Xk hop ha hs) hg ht hd hr
theorem Run.call0 {n0 d0:Nat} {g:List (Nat×SV)} {h:HL} {d:List Nat} {i:Nat×Bool} {xs:Array Operand} {ts:Array TypeId} {f:FuncId} {args:List SV} {Q:SV→HL→Prop} (hp:p=false) (hop:o.op= .call {callee:=.value (.func f),args:=xs,argTypes:=ts})
  (ha:uJ g xs.toList=some args) (hs:CallSpec P G f args [] Q) (hg:zH gd g o true) (ht:o.dst=some d0) (hd:Nat.blt d0 n0=true)
  (hr:∀ s H',Q s H'→Run P G E r gd p ops ⟨n0,(d0,s)::g,wh.cat H' h,d,i⟩ K):Run P G E r gd p (o::ops) ⟨n0,g,h,d,i⟩ K:=
 .loc0 hp (Xk hop ha hs) hg ht hd hr
/-! giving up an owned block -/
theorem JU {H:HL} {j:Nat} {q:HE} (h:H[j]? =some q):bs H=bs (H.take j)++bs [q]++bs (H.drop (j+1)):=by
 rw [←xN,←xN,←uk h]
theorem ZL {j:Nat} {b e k:Nat} {cs:List SV} {I:Imm} {F:Nat→Prop} {a:Act} {W:World} (hH:S.h[j]? =some ⟨some b,e,cs,k⟩) (hs:Sat G E r S I F a W):
    ∃I',Sat G E r {S with h:=S.h.take j++S.h.drop (j+1)} I' F a W∧Fram (own S F) I W (own {S with h:=S.h.take j++S.h.drop (j+1)} F) I' W∧I.le I'∧cellsAt I' b 0 cs:=by
  obtain⟨hn,c,hc,hsz,h1,hd⟩:=(hs.h.mem _ (List.mem_of_getElem? hH)).some rfl
  simp only at hc hsz h1 hd
  have hle:I.le (I.with b c):=Imm.with_le hn
  have hmem:b∈bs S.h:=JP (List.mem_of_getElem? hH) rfl
  have hf:Fram (· ∈bs S.h) I W (· ∈bs S.h) (I.with b c) W:=⟨rfl,rfl,rfl,hle,Nat.le_refl _,fun _ _ _=>rfl,fun k hk hk'=>by
    unfold Imm.with at hk'
    split at hk'
    · rename_i e';subst e';exact .inl hmem
    · exact absurd hk hk',fun b hb=>.inl hb⟩
  have hm:Holds G (I.with b c) W:=⟨Imm.le_trans hs.m.glob hle,fun k d hk=>by
    unfold Imm.with at hk
    split at hk
    · rename_i e';subst e';cases hk;exact⟨e,_,hc⟩
    · exact hs.m.mem k d hk⟩
  have hsub:∀ q∈S.h.take j++S.h.drop (j+1),q∈S.h:=fun q hq=>by
    rcases List.mem_append.1 hq with h | h
    · exact List.mem_of_mem_take h
    · exact List.mem_of_mem_drop h
  have hnd:=hs.h.nodup
  rw [JU hH] at hnd
  simp only [List.nodup_append,List.mem_append] at hnd
  obtain⟨⟨n1,n2,n3⟩,n4,n5⟩:=hnd
  have hbb:b∈bs [(⟨some b,e,cs,k⟩:HE)]:=by simp [bs]
  have hne:∀ k'∈bs (S.h.take j++S.h.drop (j+1)),k'≠b:=fun k' hk' e'=>by
    subst e'
    rw [xN] at hk'
    rcases List.mem_append.1 hk' with h | h
    · exact n3 _ h _ hbb rfl
    · exact n5 _ (.inr hbb) _ h rfl
  have hh:HoldsH (S.h.take j++S.h.drop (j+1)) (I.with b c) W:=by
    refine⟨?_,fun q hq=>?_⟩
    · rw [xN,List.nodup_append]
      exact⟨n1,n4,fun x hx y hy e'=>n5 x (.inl hx) y hy e'⟩
    · have h2:=hs.h.mem q (hsub q hq)
      cases hb:q.b with
      | none=>exact .of_none hb (h2.none hb)
      | some b'=>
        have h3:=h2.some hb
        refine .of_some hb (h3.keep hle ?_ rfl)
        have:b'≠b:=hne b' (JP hq hb)
        unfold Imm.with;rw [if_neg this];exact h3.1
  obtain⟨s1,s2⟩:=hs.turn (h':=S.h.take j++S.h.drop (j+1)) (fun b hb=>hb) hf (fun b hb=>.inl (by
    rw [JU hH];rw [xN] at hb
    rcases List.mem_append.1 hb with h | h
    · simp [h]
    · simp [h])) hm hh
  refine⟨I.with b c,s1,s2,hle,c,zgv _ _ _,fun i s hi=>?_⟩
  obtain⟨x,hx,hsx⟩:=(hd.mono hle).get hi
  refine⟨x,?_,hsx,h1 x (List.mem_of_getElem? hx)⟩
  rw [List.getElem?_take] at hx
  rw [Nat.zero_add]
  split at hx
  · simpa using hx
  · cases hx
theorem Sat.retype {I:Imm} {F:Nat→Prop} {a:Act} {W:World} (hs:Sat G E r S I F a W) {t:Nat} {s s0:SV} (h0:look t S.g=some s0) (h:∀ v,s0.den I v→s.den I v):Sat G E r {S with g:=(t,s)::S.g} I F a W:=
 ⟨hs.n,fun t' s' hl=>by
  simp only [look] at hl
  split at hl
  ·rename_i e;cases hl;rw [Nat.eq_of_beq_eq_true e];exact h _ (hs.g t s0 h0)
  ·exact hs.g t' s' hl,hs.m,hs.h,hs.d,hs.dn,hs.dk,hs.e,hs.f,hs.l⟩
theorem uY (j t:Nat) {b e k off:Nat} {cs:List SV} (hH:S.h[j]? =some ⟨some b,e,cs,k⟩) (ht:look t S.g=some (eqS (.pointer (some ⟨b,off,none⟩)))):
  ZT G E r S ⟨S.n,(t,zT (cs.drop off))::S.g,wh S.h j [],S.d,S.i⟩:=by
 rw [vn hH,List.append_nil]
 intro I F a W hs
 obtain⟨I',s1,s2,hle,hc⟩:=ZL hH hs
 refine⟨I',s1.retype ht fun v hv=>?_,s2⟩
 obtain⟨c,hc1,hc2⟩:=hc
 exact⟨b,off,hv,c,hc1,fun i s hi=>by rw [List.getElem?_drop] at hi;have:=hc2 _ s hi;simpa using this⟩
theorem yU (j t:Nat) {q:Option (Nat×Nat)} {e st n:Nat} {cs:List SV} {α:Type} {f:α→List SV} {l:List α} (hH:S.h[j]? =some (rowE q e st n cs)) (ht:look t S.g=some (eqS (rowV q n))) (hq:yu q n) (hl:l.length=n) (hcs:cs=l.flatMap f) (hf:∀ x∈l,(f x).length=st) (hb:n≤yP):
    ZT G E r S ⟨S.n,(t,zU st f l)::S.g,wh S.h j [],S.d,S.i⟩:=by
  rw [vn hH,List.append_nil]
  intro I F a W hs
  subst hcs
  cases q with
  | none=>
    have hq:n=0:=hq
    subst hq
    have hl0:l=[]:=List.eq_nil_of_length_eq_zero hl
    subst hl0
    have hbs:bs (S.h.take j++S.h.drop (j+1))=bs S.h:=by rw [JU hH,xN];simp [bs,rowE]
    have hown:own {S with h:=S.h.take j++S.h.drop (j+1)} F=own S F:=by funext b;simp only [own,hbs]
    have s1:Sat G E r {S with h:=S.h.take j++S.h.drop (j+1)} I F a W:=
      {hs with
        h:=⟨by rw [hbs];exact hs.h.nodup,fun p hp=>hs.h.mem p (by rcases List.mem_append.1 hp with h | h;exact List.mem_of_mem_take h;exact List.mem_of_mem_drop h)⟩
        f:=by rw [hbs];exact hs.f
        l:=fun k hk=>by rw [hown];exact hs.l k hk}
    refine⟨I,s1.retype ht fun v hv=>?_,?_⟩
    · exact⟨none,0,hv,Nat.le_refl _,Nat.zero_le _,.inl rfl⟩
    · have:own {S with h:=S.h.take j++S.h.drop (j+1),g:=(t,zU st f [])::S.g} F=own S F:=by funext b;simp only [own,hbs]
      rw [this];exact Fram.refl _ _ _
  | some q=>
    obtain⟨b,cap⟩:=q
    obtain⟨I',s1,s2,hle,hc⟩:=ZL hH hs
    refine⟨I',s1.retype ht fun v hv=>?_,s2⟩
    obtain⟨c,hc1,hc2⟩:=hc
    refine⟨some ⟨b,0,none⟩,cap,by rw [hl];exact hv,by rw [hl];exact hq.1,by rw [hl];exact hb,.inr ⟨b,0,rfl,fun i x hx=>⟨c,hc1,fun k s hk=>?_⟩⟩⟩
    have:(l.flatMap f)[i*st+k]? =some s:=by
      rw [List.flatMap_def]
      exact uB (by intro d hd;obtain⟨y,hy,rfl⟩:=List.mem_map.1 hd;exact hf y hy) (by rw [List.getElem?_map,hx];rfl) hk
    have:=hc2 _ s this
    simpa [Nat.add_assoc] using this
end
end Go.Sv
/- A function's contract out of its body; ranges over functions. -/
namespace Go.Sv
open Go Go.RowKit Go.Shelf
section
variable {P:Program} {G:Imm}
def noEnv:Env:=⟨fun _ _ F _=>∀ b,¬F b,fun _ _ _ _ _ _ h _ _ _ _ _ _ _=>h⟩
inductive Res1 (P:Program) (g:List (Nat×SV)) (h:HL):ResultVar→SV→Prop
 | tmp {t:Nat} {s:SV} (hg:look t g=some s):Res1 P g h (.tmp t) s
 | own (j:Nat) {a t off b e k:Nat} {cs:List SV} {s:SV} (it:IsScalar P t) (ha:look a g=some (eqS (.pointer (some ⟨b,off,none⟩)))) (hH:h[j]? =some ⟨some b,e,cs,k⟩) (hs:cs[off]? =some s):Res1 P g h (.cell a t) s
 | agg (j:Nat) {a t n off b e k:Nat} {cs ds:List SV} (it:IsAgg P t n) (ha:look a g=some (eqS (.pointer (some ⟨b,off,none⟩)))) (hH:h[j]? =some ⟨some b,e,cs,k⟩) (hd:(cs.drop off).take n=ds) (hn:ds.length=n):Res1 P g h (.cell a t) (zl ds)
inductive ResL (P:Program) (g:List (Nat×SV)) (h:HL):List ResultVar→List SV→Prop
 | nil:ResL P g h [] []
 | cons {x:ResultVar} {s:SV} {l:List ResultVar} {cs:List SV} (h1:Res1 P g h x s) (h2:ResL P g h l cs):ResL P g h (x::l) (s::cs)
inductive Res (P:Program) (g:List (Nat×SV)) (h:HL):List ResultVar→SV→Prop
 | one {x:ResultVar} {s:SV} (h1:Res1 P g h x s):Res P g h [x] s
 | none:Res P g h [] (xn [])
 | many {x y:ResultVar} {l:List ResultVar} {cs:List SV} (h1:ResL P g h (x::y::l) cs):Res P g h (x::y::l) (xn cs)
def zj9 (tmps:Array Value):ResultVar→Sem Value
 | .tmp t=>pure (tmps.getD t undef)
 | .cell a t=>do loadVar t (←asAddr (tmps.getD a undef))
section res
variable {g:List (Nat×SV)} {h:HL} {I:Imm} {tmps:Array Value} {W:World}
theorem Res1.run {x:ResultVar} {s:SV} (hr:Res1 P g h x s) (hg:∀ t s,look t g=some s→s.den I (tmps.getD t undef)) (hh:HoldsH h I W):∃ v,(zj9 tmps x).run P W= .ok v W∧s.den I v:=by
  cases hr with
  | tmp h1=>exact⟨_,rfl,hg _ _ h1⟩
  | own j it ha hH hs=>
    have hv:tmps.getD _ undef=_:=hg _ _ ha
    obtain⟨c,hc,hd⟩:=YJ ((hh.mem _ (List.mem_of_getElem? hH)).some rfl)
    obtain⟨y,hy,hys,_⟩:=hd _ _ hs
    refine⟨y,?_,hys⟩
    simp only [zj9,hv,asAddr,Sem.run_bind,Sem.run_pure,Result.andThen_ok]
    exact wP (by rw [wm hc];exact hy)
  | @agg j _ _ n off _ _ _ _ _ it ha hH hd hn=>
    have hv:tmps.getD _ undef=_:=hg _ _ ha
    obtain⟨c,hc,hcs⟩:=YJ ((hh.mem _ (List.mem_of_getElem? hH)).some rfl)
    obtain⟨xs,hx1,hx2,hx3,hx4⟩:=Xh (c:=c) (off:=off) hn (fun i s hi=>by
      rw [←hd,List.getElem?_take] at hi
      split at hi
      · rw [List.getElem?_drop] at hi;exact hcs _ s hi
      · cases hi)
    refine⟨.agg xs.toArray,?_,xs,rfl,hx3,hx4⟩
    simp only [zj9,hv,asAddr,Sem.run_bind,Sem.run_pure,Result.andThen_ok]
    exact Zt hx1 (fun j v hj=>by rw [wm hc];exact hx2 j v hj)
theorem ResL.run (hg:∀ t s,look t g=some s→s.den I (tmps.getD t undef)) (hh:HoldsH h I W) {l:List ResultVar} {cs:List SV} (hr:ResL P g h l cs):∃ vs:List Value,(l.mapM (zj9 tmps)).run P W= .ok vs W∧dens I cs vs:=by
  induction hr with
  | nil=>exact⟨[],by simp,dens_nil⟩
  | cons h1 _ ih=>
    obtain⟨v,hv,hs⟩:=h1.run hg hh
    obtain⟨vs,hvs,hd⟩:=ih
    refine⟨v::vs,?_,zW hs hd⟩
    simp only [List.mapM_cons,Sem.run_bind,Sem.run_pure,Result.andThen_ok,hv,hvs]
theorem zcF {fn:Func} {s:SV} (hg:∀ t s,look t g=some s→s.den I (tmps.getD t undef)) (hh:HoldsH h I W) (hr:Res P g h fn.results.toList s):
    ∃v,(results fn tmps).run P W= .ok v W∧s.den I v:=by
  have e:results fn tmps=(do let vs ←fn.results.mapM (zj9 tmps);pure (if h:vs.size=1 then vs[0] else .tuple vs)):=rfl
  rw [e,Array.mapM_eq_mapM_toList]
  generalize fn.results.toList=l at hr
  cases hr with
  | one h1=>
    obtain⟨v,hv,hs⟩:=h1.run hg hh
    refine⟨v,?_,hs⟩
    simp [hv]
  | none=>exact⟨.tuple #[],by simp,[],rfl,dens_nil⟩
  | many h1=>
    obtain⟨vs,hv,hd⟩:=h1.run hg hh
    have hl:vs.length≠1:=by rw [hd.1];cases h1 with | cons a b=>cases b;simp
    refine⟨.tuple vs.toArray,?_,vs,rfl,hd⟩
    simp only [Sem.run_bind,Sem.run_map,hv,Result.andThen_ok,Sem.run_pure]
    rw [dif_neg (by simpa using hl)]
end res
theorem Xl {H' H:HL} (h:H'.Sublist H):(bs H').Sublist (bs H):=h.filterMap _
theorem HoldsH.less {H' H:HL} (h:H'.Sublist H) {I:Imm} {W:World} (hh:HoldsH H I W):HoldsH H' I W:=⟨hh.nodup.sublist (Xl h),fun p hp=>hh.mem p (h.subset hp)⟩
def fnQ (P:Program) (l:List ResultVar) (Q:SV→HL→Prop):Exit→St→Prop
 | .ret,S=>∃ s H',Res P S.g S.h l s∧H'.Sublist S.h∧Q s H'
 | .normal,S=>∃ s H',Res P S.g S.h l s∧H'.Sublist S.h∧Q s H'
 | _,_=>False
def params:Nat→List SV→List (Nat×SV)
 | _,[]=>[]
 | k,s::l=>(k,s)::params (k+1) l
theorem QQ {I:Imm}:∀ {l:List SV} {vs:List Value} {k t:Nat} {s:SV},dens I l vs→look t (params k l)=some s→k≤t∧∃ x,vs[t-k]? =some x∧s.den I x
  | [],_,_,_,_,_,h=>by simp [params,look] at h
  | a::l,vs,k,t,s,hd,h=>by
    obtain⟨x,r,rfl,hx,hr⟩:=xW hd
    simp only [params,look] at h
    split at h
    · rename_i e;cases h;have:=Nat.eq_of_beq_eq_true e;subst this;exact⟨Nat.le_refl _,x,by simp,hx⟩
    · obtain⟨h1,y,h2,h3⟩:=QQ hr h
      refine⟨by omega,y,?_,h3⟩
      rw [show t-k=t-(k+1)+1 from by omega];simpa using h2
theorem JV {fn:Func} {tmps:Array Value} {R:Ending→World→Prop} {I:Imm} {H:HL}:
    ∀(ds:List Nat) (W:World),ds.Nodup→(∀b∈ds,W.heap[b]? =some (.deferred (some [])))→Holds G I W→HoldsH H I W→(∀W',Holds G I W'→HoldsH H I W'→W'.os=W.os→W'.tape=W.tape→W'.output=W.output→W'.heap.size=W.heap.size→(∀k,k∉ds→W'.heap[k]? =W.heap[k]?)→∃ v,(results fn tmps).run P W'= .ok v W'∧R (.returned v) W') →
    LeavesInM Fence.wide 0 P fn tmps R (ds.map zj0) .returning W
  | [],W,_,_,hm,hh,k=>k W hm hh rfl rfl rfl rfl fun _ _=>rfl
  | b::ds,W,hnd,hdk,hm,hh,k=>by
    have hb:=hdk b (by simp)
    have hnd':=List.nodup_cons.1 hnd
    have other:∀ j,j≠b→(W.putObj b (.deferred none)).heap[j]? =W.heap[j]? :=fun j hj=>World.putObj_heap_other hj
    refine⟨by simp,.inl ⟨b,_,rfl,run_takeDeferred hb,?_⟩⟩
    have hm':Holds G I (W.putObj b (.deferred none)):=⟨hm.glob,fun j c hc=>by
      obtain⟨e,f,he⟩:=hm.mem j c hc
      exact⟨e,f,(other j (fun e'=>by subst e';rw [hb] at he;cases he)).trans he⟩⟩
    have hh':HoldsH H I (W.putObj b (.deferred none)):=⟨hh.nodup,fun p hp=>by
      cases hpb:p.b with
      | none=>exact .of_none hpb ((hh.mem p hp).none hpb)
      | some j=>
        have h1:=(hh.mem p hp).some hpb
        obtain⟨_,c,hc,_⟩:=h1
        exact .of_some hpb (((hh.mem p hp).some hpb).keep (Imm.le_refl _) ((hh.mem p hp).some hpb).1 (other j fun e'=>by subst e';rw [hb] at hc;cases hc))⟩
    refine JV ds _ hnd'.2 (fun j hj=>(other j fun e'=>by subst e';exact hnd'.1 hj).trans (hdk j (by simp [hj]))) hm' hh' fun W' h1 h2 h3 h4 h5 h6 h7=>?_
    exact k W' h1 h2 h3 h4 h5 (by rw [h6];simp) fun j hj=>(h7 j (by simp at hj;exact hj.2)).trans (other j (by simp at hj;exact hj.1))
theorem zbm {E:Env} {i0:Nat×Bool} {f:FuncId} {fn:Func} {c:Code} {args:List SV} {H:HL} {Q:SV→HL→Nat×Bool→Prop} (hf:P.funcs[f]? =some fn) (hb:fn.body=some c) (hn:Nat.ble args.length fn.ntmps=true)
  (hT:T P G E none c {n:=fn.ntmps,g:=params 0 args,h:=H,d:=[],i:=i0} (fun e S=>(e= .ret∨e= .normal)∧∃ s H',Res P S.g S.h fn.results.toList s∧H'.Sublist S.h∧Q s H' S.i))
  {I:Imm} {F:Nat→Prop} {W:World} {vs:List Value} (hm:Holds G I W) (hh:HoldsH H I W) (hd:dens I args vs) (he:E.ok i0 I F W) (hF:∀ b,F b→b<W.heap.size∧I b=none∧b∉bs H):
  Calls P f vs.toArray W fun e W'=>∃ v I' F' s H' i',e= .returned v∧Q s H' i'∧s.den I' v∧Holds G I' W'∧HoldsH H' I' W'∧E.ok i' I' F' W'∧(∀b,F' b→b<W'.heap.size∧I' b=none∧b∉bs H') ∧
   Fram (fun b=>b∈bs H∨F b) I W (fun b=>b∈bs H'∨F' b) I' W':=by
 refine (callsIn_wide (n:=0)).1 (callsIn_of_wp_marks hf hb trivial ?_)
 have hs:Sat G E none {n:=fn.ntmps,g:=params 0 args,h:=H,d:=[],i:=i0} I F {tmps:=vs.toArray++Array.replicate (fn.ntmps-vs.toArray.size) undef,defers:=[]} W:=by
  refine⟨?_,fun t s hl=>?_,hm,hh,rfl,List.nodup_nil,fun b hb=>(by cases hb),he,fun b hb=>⟨(hF b hb).1,(hF b hb).2.1,(hF b hb).2.2,by simp⟩,fun k hk=>(by cases hk)⟩
  ·have:=hd.1;have:=Nat.le_of_ble_eq_true hn;simp;omega
  ·obtain⟨_,x,hx,hsx⟩:=QQ hd hl
   have hlt:=yt hx
   simp only [Nat.sub_zero] at hx hlt
   have:({tmps:=vs.toArray++Array.replicate (fn.ntmps-vs.toArray.size) undef,defers:=[]}:Act).tmps.getD t undef=x:=by
    simp only [Array.getD_eq_getD_getElem?]
    rw [Array.getElem?_append_left (by simpa using hlt)]
    simp [hx]
   rw [this];exact hsx
 have hT':=hT 0 I F _ W hs
 rw [zmB] at hT'
 refine wpIn_mono hT' fun e a' W' hp=>?_
 obtain⟨S',I',F',h1,⟨h20,h2⟩,h3⟩:=hp
 have fin:LeavesInM Fence.wide 0 P fn a'.tmps (fun e W'=>∃ v I' F' s H' i',e=Ending.returned v∧Q s H' i'∧s.den I' v∧Holds G I' W'∧HoldsH H' I' W'∧E.ok i' I' F' W'∧(∀b,F' b→b<W'.heap.size∧I' b=none∧b∉bs H') ∧
   Fram (fun b=>b∈bs H∨F b) I W (fun b=>b∈bs H'∨F' b) I' W') a'.defers .returning W':=by
  obtain⟨s,H2,hres,hsub,hQ⟩:=h2
  rw [h1.d]
  refine JV (G:=G) (I:=I') (H:=S'.h) S'.d W' h1.dn h1.dk h1.m h1.h fun W'' k1 k2 k3 k4 k5 k6 k7=>?_
  obtain⟨v,hv,hsv⟩:=zcF (P:=P) (W:=W'') (fn:=fn) h1.g k2 hres
  have own0:∀ b,own {n:=fn.ntmps,g:=params 0 args,h:=H,d:=[],i:=i0} F b→b∈bs H∨F b:=by
   intro b hb;rcases hb with h | h | h
   ·exact .inl h
   ·cases h
   ·exact .inr h
  refine⟨v,hv,v,I',F',s,H2,S'.i,rfl,hQ,hsv,k1,k2.less hsub,?_,fun b hb=>?_,?_⟩
  ·exact E.stab _ _ _ _ _ _ h1.e (Imm.le_refl _) k3 k4 k5 (by rw [k6];exact Nat.le_refl _) (fun b hb=>k7 b (h1.f b hb).2.2.2) fun b hb=>(h1.f b hb).2.1
  ·obtain⟨f1,f2,f3,_⟩:=h1.f b hb;exact⟨by rw [k6];exact f1,f2,fun h=>f3 ((Xl hsub).subset h)⟩
  refine⟨k3.trans h3.os,k4.trans h3.tape,k5.trans h3.output,h3.imm,by rw [k6];exact h3.size,fun b hb hn=>?_,fun b hb hb'=>(h3.new b hb hb').imp (own0 b) id,fun b hb=>?_⟩
  ·have hbd:b∉S'.d:=fun hbd=>by
    rcases h3.own b (.inr (.inl hbd)) with h | h
    ·exact hn (own0 b h)
    ·omega
   exact (k7 b hbd).trans (h3.old b hb fun h=>hn (own0 b h))
  ·refine (h3.own b ?_).imp (own0 b) id
   rcases hb with hb | hb
   ·exact .inl ((Xl hsub).subset hb)
   ·exact .inr (.inr hb)
 rcases h20 with rfl | rfl
 ·exact fin
 ·exact fin
theorem zmE {f:FuncId} {fn:Func} {c:Code} {args:List SV} {H:HL} {Q:SV→HL→Prop} (hf:P.funcs[f]? =some fn) (hname:(fn.name == "runtime.NumGoroutine")=false) (hb:fn.body=some c) (hn:Nat.ble args.length fn.ntmps=true)
  (hT:T P G noEnv none c {n:=fn.ntmps,g:=params 0 args,h:=H,d:=[],i:=(0,false)} (fnQ P fn.results.toList Q)):CallSpec P G f args H Q:=by
 refine⟨fun args w=>?_,fun I W vs hm hh hd=>?_⟩
 ·have h1:fn.name ≠ "runtime.NumGoroutine" :=by simpa using hname
  simp [callFunc,hf,h1,hb]
 ·have h:=zbm (E:=noEnv) (i0:=(0,false)) (Q:=fun s H' _=>Q s H') hf hb hn (XW hT fun e S hq=>by
   cases e with
   | ret=>exact⟨.inl rfl,hq⟩
   | normal=>exact⟨.inr rfl,hq⟩
   | _=>exact hq.elim) (F:=fun _=>False) hm hh hd (fun b h=>h) (fun b h=>h.elim)
  refine h.mono ?_
  rintro e W' ⟨v,I',F',s,H',i',h1,h2,h3,h4,h5,h6,h7,h8⟩
  exact⟨v,I',s,H',h1,h2,h3,h4,h5,h8.weaken (fun b hb=>hb.elim id fun h=>h.elim) fun b hb=>.inl (.inl hb)⟩
end
end Go.Sv
/- The facts on types, as a program computes them. -/
namespace Go.Sv
open Go
variable {P:Program} {t e st n:Nat}
theorem wD (h1:P.underlying t=some (.slice e)) (h2:(P.info? e).map (·.size)=some st):IsSl P t e st:=
 ⟨h1,by obtain⟨i,hi,hs⟩:=Option.map_eq_some_iff.1 h2;exact⟨i,hi,hs⟩⟩
def zcG (P:Program) (t:TypeId):Bool:=match P.underlying t with
 | some (.struct _) | some (.array _ _) | none=>false
 | _=>true
theorem yv (h:zcG P t=true):IsScalar P t:=by
 unfold zcG at h
 cases hu:P.underlying t with
 | none=>rw [hu] at h;cases h
 | some d=>exact⟨d,hu,by rw [hu] at h;cases d <;> simp_all⟩
def zop (P:Program) (t:TypeId):Option Nat:=match P.underlying t with
 | some (.struct _) | some (.array _ _)=>(P.info? t).map (·.size)
 | _=>none
theorem ww (h:zop P t=some n):IsAgg P t n:=by
  unfold zop at h
  cases hu:P.underlying t with
  | none=>rw [hu] at h;cases h
  | some d=>
    rw [hu] at h
    cases d <;> simp at h
    all_goals exact⟨⟨_,hu,trivial⟩,by obtain⟨i,hi,hs⟩:=h;exact⟨i,hi,hs⟩⟩
def zgx (P:Program) (s k:Nat):Option Nat:=match P.underlying s with
  | some (.struct fs)=>match fs[k]? with
    | some f=>match P.info? f.type with
      | some i=>match Nat.beq i.size 0 with
        | true=>none
        | false=>some f.offset
      | none=>none
    | none=>none
  | _=>none
theorem zV {s k off:Nat} (h:zgx P s k=some off):IsField P s k off:=by
 unfold zgx at h
 split at h
 ·rename_i fs hu
  split at h
  ·rename_i f hf
   split at h
   ·rename_i i hi
    split at h
    ·cases h
    ·rename_i hz;cases h;exact⟨fs,f,i,hu,hf,rfl,hi,fun h0=>by rw [h0] at hz;simp at hz⟩
   ·cases h
  ·cases h
 ·cases h
def zbn (P:Program) (t:TypeId):Option (List Value×Nat):=match P.info? t with
  | some i=>match i.zero with
    | some z=>match Nat.beq i.size z.cells.size with
      | true=>some (z.cells.toList,i.bytes)
      | false=>none
    | none=>none
  | none=>none
theorem QR {zs:List Value} {b:Nat} (h:zbn P t=some (zs,b)):∃ i z,P.info? t=some i∧i.zero=some z∧z.cells=zs.toArray∧i.size=zs.length∧i.bytes=b:=by
 unfold zbn at h
 split at h
 ·rename_i i hi
  split at h
  ·rename_i z hz
   split at h
   ·rename_i hs;cases h;exact⟨i,z,hi,hz,by simp,by rw [Nat.eq_of_beq_eq_true hs];simp,rfl⟩
   ·cases h
  ·cases h
 ·cases h
theorem yD {zs:List Value} {b:Nat} (h:zbn P t=some (zs,b)) (h1:JS zs=true):IsZero P t zs:=by
 obtain⟨i,z,h2,h3,h4,h5,_⟩:=QR h
 exact⟨⟨i,z,h2,h3,h4,h5⟩,allOne_of h1⟩
theorem yr (h:(P.info? t).map (·.size)=some n):HasSize P t n:=⟨by obtain⟨i,hi,hs⟩:=Option.map_eq_some_iff.1 h;exact⟨i,hi,hs⟩⟩
theorem wL {zs:List Value} {b:Nat} (h:zbn P t=some (zs,b)) (h1:JS zs=true) (h2:zs≠[]):IsElem P t zs b:=⟨QR h,h1,h2⟩
end Go.Sv
/- Ranges over functions: the contract of an iterator (IterSpec), the rule by which it is proved (its calls of yield), the rule of the loop. -/
namespace Go.Sv
open Go Go.RowKit
section
variable {P:Program} {G:Imm}
def XS (F:Nat→Prop) (I:Imm) (W:World):Prop:=∀ b,F b→b<W.heap.size∧I b=none
def Zz (P:Program) (G:Imm) (E:Env) (l:Nat) (xs:List (List SV)):Prop:=
  ∀(k:Nat) (ss:List SV),xs[k]? =some ss→∀ (n:Nat) (I:Imm) (F:Nat→Prop) (W:World) (vs:List Value),E.ok (k,false) I F W→XS F I W→Holds G I W→dens I ss vs →
    ∃fn tmps assign body,(Instr.yield l vs.toArray).run P W= .ok (.round l fn tmps assign body) W∧RoundIn Fence.wide n P l fn tmps assign body W fun e W'=>
      ∃b I' F',e= .returned (.bool b)∧E.ok (k+1,!b) I' F' W'∧XS F' I' W'∧Holds G I' W'∧Fram F I W F' I' W'
def yieldS (l:Nat):SV:=eqS (.func (.yield l) #[] #[])
structure IterSpec (P:Program) (G:Imm) (f:FuncId) (caps:List SV) (xs:List (List SV)):Prop where
 enters:∀ args w,(callFunc f args).run P w= .ok (.enter f args) w
 main:∀ (l:Nat) (E:Env) (I:Imm) (F:Nat→Prop) (W:World) (cv:List Value),Zz P G E l xs→E.ok (0,false) I F W→XS F I W→Holds G I W→dens I caps cv →
  Calls P f (Value.func (.yield l) #[] #[]::cv).toArray W fun e W'=>∃ v I' F' i,e= .returned v∧(i=(xs.length,false)∨i.2=true)∧E.ok i I' F' W'∧XS F' I' W'∧Holds G I' W'∧Fram F I W F' I' W'
theorem xH {f:FuncId} {fn:Func} {c:Code} {caps:List SV} {xs:List (List SV)} (hf:P.funcs[f]? =some fn) (hname:(fn.name == "runtime.NumGoroutine")=false) (hb:fn.body=some c) (hn:Nat.ble (caps.length+1) fn.ntmps=true) (hres:fn.results= #[])
  (hT:∀ (l:Nat) (E:Env),Zz P G E l xs→T P G E none c {n:=fn.ntmps,g:=params 0 (yieldS l::caps),h:=[],d:=[],i:=(0,false)} (fun e S=>(e= .ret∨e= .normal)∧(S.i=(xs.length,false)∨S.i.2=true))):IterSpec P G f caps xs:=by
 refine⟨fun args w=>?_,fun l E I F W cv hy he hF hm hd=>?_⟩
 ·have h1:fn.name ≠ "runtime.NumGoroutine" :=by simpa using hname
  simp [callFunc,hf,h1,hb]
 ·have h:=zbm (E:=E) (i0:=(0,false)) (H:=[]) (args:=yieldS l::caps) (vs:=Value.func (.yield l) #[] #[]::cv) (I:=I) (F:=F) (W:=W) (Q:=fun _ _ i=>i=(xs.length,false)∨i.2=true) hf hb (by simpa using hn)
   (XW (hT l E hy) fun e S ⟨h1,h2⟩=>⟨h1,_,[],by rw [hres];exact .none,List.nil_sublist _,h2⟩) hm ⟨by simp [bs],by simp⟩ (zW rfl hd) he (fun b hb=>⟨(hF b hb).1,(hF b hb).2,by simp [bs]⟩)
  refine h.mono ?_
  rintro e W' ⟨v,I',F',s,H',i',h1,h2,_,h4,_,h6,h7,h8⟩
  exact⟨v,I',F',i',h1,h2,h6,fun b hb=>⟨(h7 b hb).1,(h7 b hb).2.1⟩,h4,h8.weaken (fun b hb=>hb.elim (fun h=>by simp [bs] at h) id) fun b hb=>.inl (.inr hb)⟩
variable {E:Env} {r:Option Nat} {gd:Nat→Option Nat} {o:Oper} {ops:List Oper} {K:St→Prop}
theorem zhR {S:St} {l k:Nat} {xs:List (List SV)} {ss args:List SV} {x:Operand} {xa:Array Operand} {ts:Array TypeId} (hy:Zz P G E l xs) (hop:o.op= .call {callee:=.value x,args:=xa,argTypes:=ts}) (hx:xd S.g x=some (yieldS l)) (ha:uJ S.g xa.toList=some args)
  (hi:S.i=(k,false)) (hk:xs[k]? =some ss) (hs:subL args ss) (hd:dstOk o S.n=true):zag P G E r o S (fun S'=>∃ b,S'=({S with i:=(k+1,!b)}).set o.dst (zm b)):=by
 intro n I F a W next Q hsat kk
 have hr:=vz hsat o
 have hv:a.eval x= .func (.yield l) #[] #[]:=hr.get (x:=x) (by simp [hop,Op.operands,Call.operands]) hx
 have hda:dens I args (xa.toList.map a.eval):=uA ha fun y hy' s hs=>hr y (by simp [hop,Op.operands,Call.operands];exact .inr (by simpa using hy')) s hs
 obtain⟨fn,tmps,assign,body,hrun,hround⟩:=hy k ss hk (n-1) I F W _ (by rw [←hi];exact hsat.e) (fun b hb=>⟨(hsat.f b hb).1,(hsat.f b hb).2.1⟩) hsat.m (hs.dens hda)
 have hex:(execOp a.eval o).run P W= .ok (.round l fn tmps assign body) W:=by
  have e:Array.map a.eval xa=(xa.toList.map a.eval).toArray:=by apply Array.ext';simp
  simp only [execOp,hop,resolve,hv,Deferred.ofValue,Sem.run_bind,Sem.run_pure,Result.andThen_ok,invoke,Array.empty_append,e,hrun]
 refine xG (by simp [hop]) hex ?_
 refine⟨fun h=>by simp [Fr,Fence.wide] at h,?_⟩
 have hround':RoundIn (Fr r) (n-1) P l fn tmps assign body W _:=hround
 refine hround'.mono ?_
 rintro e W' ⟨b,I',F',rfl,hE,hF',hm',hf⟩
 have hnd:∀ c,c∈bs S.h→¬ F c:=fun c hc hF=>(hsat.f c hF).2.2.1 hc
 have hmd:∀ c,c∈S.d→¬ F c:=fun c hc hF=>(hsat.f c hF).2.2.2 hc
 have hs':Sat G E r {S with i:=(k+1,!b)} I' F' a W':=by
  refine⟨hsat.n,fun t s hl=>s.mono _ _ _ hf.imm (hsat.g t s hl),hm',hsat.h.keep hf hnd,hsat.d,hsat.dn,fun c hc=>?_,hE,fun c hc=>?_,fun j hj=>?_⟩
  ·have:=hsat.dk c hc;exact (hf.old c (yp this) (hmd c hc)).trans this
  ·refine⟨(hF' c hc).1,(hF' c hc).2,fun h=>?_,fun h=>?_⟩
   ·rcases hf.own c hc with h1 | h1
    ·exact hnd c h h1
    ·have:=(hsat.h.lt h).1;omega
   ·rcases hf.own c hc with h1 | h1
    ·exact hmd c h h1
    ·have:=yp (hsat.dk c h);omega
  ·obtain⟨⟨rec,hrec⟩,ho⟩:=hsat.l j hj
   refine⟨⟨rec,(hf.old j (yp hrec) fun h=>ho (.inr (.inr h))).trans hrec⟩,fun h=>?_⟩
   rcases h with h | h | h
   ·exact ho (.inl h)
   ·exact ho (.inr (.inl h))
   ·rcases hf.own j h with h1 | h1
    ·exact ho (.inr (.inr h1))
    ·have:=yp hrec;omega
 refine kk _ I' F' _ W' (hs'.put (s:=zm b) rfl (vP hd)) ⟨b,rfl⟩ ?_
 rw [Yp]
 refine hf.weaken (fun c hc=>.inr (.inr hc)) fun c hc=>?_
 rcases hc with h | h | h
 ·exact .inr (.inl h)
 ·exact .inr (.inr (.inl h))
 ·exact .inl h
theorem Run.yield {n d0:Nat} {g:List (Nat×SV)} {h:HL} {d:List Nat} {l k:Nat} {xs:List (List SV)} {ss args:List SV} {x:Operand} {xa:Array Operand} {ts:Array TypeId} {p:Bool} (hp:p=false) (hy:Zz P G E l xs) (hop:o.op= .call {callee:=.value x,args:=xa,argTypes:=ts}) (hx:xd g x=some (yieldS l)) (ha:uJ g xa.toList=some args)
  (hk:xs[k]? =some ss) (hs:subL args ss) (hg:zH gd g o true) (ht:o.dst=some d0) (hd:Nat.blt d0 n=true)
  (hr:∀ b,Run P G E r gd p ops ⟨n,(d0,zm b)::g,h,d,(k+1,!b)⟩ K):Run P G E r gd p (o::ops) ⟨n,g,h,d,(k,false)⟩ K:=
 .eff _ hp (zhR (S:=⟨n,g,h,d,(k,false)⟩) hy hop hx ha rfl hk hs (by simp [dstOk,ht];simpa [Nat.blt_eq] using hd)) hg fun S' ⟨b,e⟩=>by subst e;have:=hr b;simpa only [St.set,ht] using this
end
end Go.Sv
namespace Go.Sv
open Go Go.RowKit
section
variable {P:Program} {G:Imm} {E:Env} {r:Option Nat} {gd:Nat→Option Nat} {p:Bool} {o:Oper} {ops:List Oper} {K:St→Prop} {n t:Nat} {g:List (Nat×SV)} {h:HL} {d:List Nat} {i:Nat×Bool} {s:SV}
theorem zo (ho:OpOK P G h o g s) (hr:Run P G E r gd p ops ⟨n,(t,s)::g,h,d,i⟩ K) (hg:zH gd g o true:=by first | exact rfl | exact gB rfl rfl rfl rfl) (ht:o.dst=some t:=by exact rfl) (hd:Nat.blt t n=true:=by exact rfl):Run P G E r gd p (o::ops) ⟨n,g,h,d,i⟩ K:=Run.one ho hg ht hd hr
theorem zz (hr:Run P G E r gd p ops ⟨n,(t,s)::g,h,d,i⟩ K)
 (ho:OpOK P G h o g s:=by
  first
  | exact zG rfl rfl | exact yS rfl rfl | exact wg rfl rfl rfl | exact yN rfl rfl | exact zZ rfl rfl rfl rfl | exact zX rfl rfl rfl | exact xh rfl rfl | exact zN rfl rfl rfl
  | exact yT rfl rfl | exact zj5 rfl rfl | exact yn 0 rfl rfl rfl rfl | exact xo rfl rfl rfl | exact zF rfl rfl rfl rfl | exact yW rfl rfl rfl | exact ZU rfl rfl | exact zC 0 rfl rfl rfl rfl rfl
  | exact uI rfl rfl | exact QM rfl rfl | exact yn 1 rfl rfl rfl rfl | exact zC 1 rfl rfl rfl rfl rfl | exact yn 2 rfl rfl rfl rfl | exact YC rfl rfl rfl | exact UY rfl rfl rfl)
 (hg:zH gd g o true:=by first | exact rfl | exact gB rfl rfl rfl rfl) (ht:o.dst=some t:=by exact rfl) (hd:Nat.blt t n=true:=by exact rfl):Run P G E r gd p (o::ops) ⟨n,g,h,d,i⟩ K:=Run.one ho hg ht hd hr
theorem zA (hr:Run P G E r gd p ops ⟨n,(t,s)::g,h,d,i⟩ K)
 (ho:OpOK P G h o g s:=by first | exact yA rfl rfl rfl rfl (wrap_i64 (by omega) (by omega)) | exact yQ rfl rfl (xf (by omega) (by omega)) | exact yQ rfl rfl (vH (by omega) (by omega)))
 (hg:zH gd g o true:=by first | exact rfl | exact gB rfl rfl rfl rfl) (ht:o.dst=some t:=by exact rfl) (hd:Nat.blt t n=true:=by exact rfl):Run P G E r gd p (o::ops) ⟨n,g,h,d,i⟩ K:=Run.one ho hg ht hd hr
theorem za {k:IntKind} (z:Int) (hr:Run P G E r gd p ops ⟨n,(t,intS k z)::g,h,d,i⟩ K)
 (ho:OpOK P G h o g (intS k z):=by first | exact yA rfl rfl rfl (congrArg some (by omega)) (wrap_i64 (by omega) (by omega)) | exact yA rfl rfl rfl (congrArg some (by omega)) (xf (by omega) (by omega)))
 (hg:zH gd g o true:=by first | exact rfl | exact gB rfl rfl rfl rfl) (ht:o.dst=some t:=by exact rfl) (hd:Nat.blt t n=true:=by exact rfl):Run P G E r gd p (o::ops) ⟨n,g,h,d,i⟩ K:=Run.one ho hg ht hd hr
theorem zq (hr:Run P G E r gd p ops ⟨n,(t,eqS undef)::g,h,d,i⟩ K) (hg:zH gd g o false:=by first | exact gB rfl rfl rfl rfl | exact gU rfl rfl rfl) (ht:o.dst=some t:=by exact rfl) (hd:Nat.blt t n=true:=by exact rfl):Run P G E r gd p (o::ops) ⟨n,g,h,d,i⟩ K:=Run.no hg ht hd hr
theorem zx {id:Nat} {l:List Oper} {S:St} {y:Code} {Q:Exit→St→Prop} (hh:Run P G E r (xA l) false l S (fun S'=>T P G E r y S' Q)):Run P G E r gd p [] S (fun S'=>T P G E r (.seq (.region id l.toArray false) y) S' Q):=.nil (UW hh)
theorem zk {g g':List (Nat×SV)} (h:subG g g':=by repeat (first | exact trivial | refine zb rfl ?_)):subG g g':=h
theorem zJ {S:St} (hh:K S):Run P G E r gd p [] S K:=.nil hh
theorem zr {id:Nat} {l:List Oper} {S:St} {y:Code} {Q:Exit→St→Prop} (hh:Run P G E r (xA l) false l S (fun S'=>T P G E r y S' Q)):T P G E r (.seq (.region id l.toArray false) y) S Q:=UW hh
theorem wE {S:St} {Q:Exit→St→Prop} {c:Operand} {t:Nat} {x y:Code} {b:Bool} (ht:b=true→T P G E r x S Q) (hf:b=false→T P G E r y S Q) (hc:c= .tmp t:=by exact rfl) (hg:look t S.g=some (zm b):=by exact rfl):T P G E r (.cond c x y) S Q:=zbi hc hg ht hf
theorem zs {f:FuncId} {fn:Func} {c:Code} {args:List SV} {H:HL} {Q:SV→HL→Prop} (hf:P.funcs[f]? =some fn) (hT:T P G noEnv none c {n:=fn.ntmps,g:=params 0 args,h:=H,d:=[],i:=(0,false)} (fnQ P fn.results.toList Q)) (hname:(fn.name == "runtime.NumGoroutine")=false:=by exact rfl) (hb:fn.body=some c:=by exact rfl) (hn:Nat.ble args.length fn.ntmps=true:=by exact rfl):CallSpec P G f args H Q:=zmE hf hname hb hn hT
theorem xg {t:TypeId} {d0:Nat} {zs:List Value} [IsZero P t zs] (hr:∀ b,Run P G E r gd p ops ⟨n,(d0,eqS (.pointer (some ⟨b,0,none⟩)))::g,⟨some b,t,zs.map eqS,0⟩::h,d,i⟩ K) (hp:p=false:=by exact rfl) (hop:o.op= .alloc t:=by exact rfl) (hg:zH gd g o true:=by first | exact rfl | exact gB rfl rfl rfl rfl) (ht:o.dst=some d0:=by exact rfl) (hd:Nat.blt d0 n=true:=by exact rfl):Run P G E r gd p (o::ops) ⟨n,g,h,d,i⟩ K:=Run.alloc hp hop hg ht hd hr
theorem zf {xs:Array Operand} {ts:Array TypeId} {f:FuncId} {args:List SV} (hs:zp P G f args s) (hr:Run P G E r gd p ops ⟨n,(t,s)::g,h,d,i⟩ K)
  (hop:o.op= .call {callee:=.value (.func f),args:=xs,argTypes:=ts}:=by exact rfl) (ha:uJ g xs.toList=some args:=by exact rfl) (hg:zH gd g o true:=by first | exact rfl | exact gB rfl rfl rfl rfl) (ht:o.dst=some t:=by exact rfl) (hd:Nat.blt t n=true:=by exact rfl):Run P G E r gd p (o::ops) ⟨n,g,h,d,i⟩ K:=
 Run.one (zbl (Xk hop ha hs)) hg ht hd hr
theorem zw {h':HL} (hr:Run P G E r gd p ops ⟨n,g,h',d,i⟩ K)
 (hst:∀ K',Run P G E r gd p ops ⟨n,g,h',d,i⟩ K'→Run P G E r gd p (o::ops) ⟨n,g,h,d,i⟩ K':=by
  intro _ hk
  first
  | exact Run.store 0 rfl rfl rfl rfl rfl rfl rfl rfl rfl hk | exact Run.store 1 rfl rfl rfl rfl rfl rfl rfl rfl rfl hk | exact Run.store 2 rfl rfl rfl rfl rfl rfl rfl rfl rfl hk | exact Run.store 3 rfl rfl rfl rfl rfl rfl rfl rfl rfl hk | exact Run.store 4 rfl rfl rfl rfl rfl rfl rfl rfl rfl hk):Run P G E r gd p (o::ops) ⟨n,g,h,d,i⟩ K:=hst K hr
end
end Go.Sv
namespace Go.Sv
open Go Go.RowKit
section
variable {P:Program} {G:Imm} {E:Env} {r:Option Nat} {gd:Nat→Option Nat} {p:Bool} {ops:List Oper} {K:St→Prop} {n t ty:Nat} {g:List (Nat×SV)} {h:HL} {d:List Nat} {i:Nat×Bool} {s:SV} {ps:String} {af:Array Edge} {gu:Option (Nat×Bool)} {x y z:Operand}
theorem ya (hr:Run P G E r gd p ops ⟨n,(t,s)::g,h,d,i⟩ K) (ho:OpOK P G h ⟨some t,.move x,ty,ps,af,gu⟩ g s:=by exact zG rfl rfl)
    (hg:zH gd g ⟨some t,.move x,ty,ps,af,gu⟩ true:=by first | exact rfl | exact gB rfl rfl rfl rfl) (hd:Nat.blt t n=true:=by exact rfl):Run P G E r gd p (⟨some t,.move x,ty,ps,af,gu⟩::ops) ⟨n,g,h,d,i⟩ K:=Run.one ho hg rfl hd hr
theorem yb (hr:Run P G E r gd p ops ⟨n,(t,s)::g,h,d,i⟩ K) (ho:OpOK P G h ⟨some t,.assign x,ty,ps,af,gu⟩ g s:=by exact yS rfl rfl)
    (hg:zH gd g ⟨some t,.assign x,ty,ps,af,gu⟩ true:=by first | exact rfl | exact gB rfl rfl rfl rfl) (hd:Nat.blt t n=true:=by exact rfl):Run P G E r gd p (⟨some t,.assign x,ty,ps,af,gu⟩::ops) ⟨n,g,h,d,i⟩ K:=Run.one ho hg rfl hd hr
theorem yc (hr:Run P G E r gd p ops ⟨n,(t,s)::g,h,d,i⟩ K) (ho:OpOK P G h ⟨some t,.pick x y z,ty,ps,af,gu⟩ g s:=by exact wg rfl rfl rfl)
    (hg:zH gd g ⟨some t,.pick x y z,ty,ps,af,gu⟩ true:=by first | exact rfl | exact gB rfl rfl rfl rfl) (hd:Nat.blt t n=true:=by exact rfl):Run P G E r gd p (⟨some t,.pick x y z,ty,ps,af,gu⟩::ops) ⟨n,g,h,d,i⟩ K:=Run.one ho hg rfl hd hr
theorem yd {u:Nat} (hr:Run P G E r gd p ops ⟨n,(t,s)::g,h,d,i⟩ K) (ho:OpOK P G h ⟨some t,.load u x,ty,ps,af,gu⟩ g s:=by first | exact yN rfl rfl | exact zF rfl rfl rfl rfl | exact yn 0 rfl rfl rfl rfl | exact zC 0 rfl rfl rfl rfl rfl | exact yn 1 rfl rfl rfl rfl | exact zC 1 rfl rfl rfl rfl rfl | exact yn 2 rfl rfl rfl rfl | exact zC 2 rfl rfl rfl rfl rfl)
    (hg:zH gd g ⟨some t,.load u x,ty,ps,af,gu⟩ true:=by first | exact rfl | exact gB rfl rfl rfl rfl) (hd:Nat.blt t n=true:=by exact rfl):Run P G E r gd p (⟨some t,.load u x,ty,ps,af,gu⟩::ops) ⟨n,g,h,d,i⟩ K:=Run.one ho hg rfl hd hr
theorem ye {q:BinOp} {u v:Nat} (hr:Run P G E r gd p ops ⟨n,(t,s)::g,h,d,i⟩ K) (ho:OpOK P G h ⟨some t,.binOp q u x y v,ty,ps,af,gu⟩ g s:=by exact zZ rfl rfl rfl rfl)
    (hg:zH gd g ⟨some t,.binOp q u x y v,ty,ps,af,gu⟩ true:=by first | exact rfl | exact gB rfl rfl rfl rfl) (hd:Nat.blt t n=true:=by exact rfl):Run P G E r gd p (⟨some t,.binOp q u x y v,ty,ps,af,gu⟩::ops) ⟨n,g,h,d,i⟩ K:=Run.one ho hg rfl hd hr
theorem yf {u v:Nat} (hr:Run P G E r gd p ops ⟨n,(t,s)::g,h,d,i⟩ K) (ho:OpOK P G h ⟨some t,.fieldAddr u x v,ty,ps,af,gu⟩ g s:=by first | exact zX rfl rfl rfl | exact zN rfl rfl rfl)
    (hg:zH gd g ⟨some t,.fieldAddr u x v,ty,ps,af,gu⟩ true:=by first | exact rfl | exact gB rfl rfl rfl rfl) (hd:Nat.blt t n=true:=by exact rfl):Run P G E r gd p (⟨some t,.fieldAddr u x v,ty,ps,af,gu⟩::ops) ⟨n,g,h,d,i⟩ K:=Run.one ho hg rfl hd hr
theorem yg {u:Nat} (hr:Run P G E r gd p ops ⟨n,(t,s)::g,h,d,i⟩ K) (ho:OpOK P G h ⟨some t,.box u x,ty,ps,af,gu⟩ g s:=by exact zj5 rfl rfl)
    (hg:zH gd g ⟨some t,.box u x,ty,ps,af,gu⟩ true:=by first | exact rfl | exact gB rfl rfl rfl rfl) (hd:Nat.blt t n=true:=by exact rfl):Run P G E r gd p (⟨some t,.box u x,ty,ps,af,gu⟩::ops) ⟨n,g,h,d,i⟩ K:=Run.one ho hg rfl hd hr
theorem yh {u:Nat} (hr:Run P G E r gd p ops ⟨n,(t,s)::g,h,d,i⟩ K) (ho:OpOK P G h ⟨some t,.extract x u,ty,ps,af,gu⟩ g s:=by exact xo rfl rfl rfl)
    (hg:zH gd g ⟨some t,.extract x u,ty,ps,af,gu⟩ true:=by first | exact rfl | exact gB rfl rfl rfl rfl) (hd:Nat.blt t n=true:=by exact rfl):Run P G E r gd p (⟨some t,.extract x u,ty,ps,af,gu⟩::ops) ⟨n,g,h,d,i⟩ K:=Run.one ho hg rfl hd hr
theorem yi {u:Nat} {w:Array (Nat×Operand)} (hr:Run P G E r gd p ops ⟨n,(t,s)::g,h,d,i⟩ K) (ho:OpOK P G h ⟨some t,.build u w,ty,ps,af,gu⟩ g s:=by exact yW rfl rfl rfl)
    (hg:zH gd g ⟨some t,.build u w,ty,ps,af,gu⟩ true:=by first | exact rfl | exact gB rfl rfl rfl rfl) (hd:Nat.blt t n=true:=by exact rfl):Run P G E r gd p (⟨some t,.build u w,ty,ps,af,gu⟩::ops) ⟨n,g,h,d,i⟩ K:=Run.one ho hg rfl hd hr
theorem yj {u:Nat} (hr:Run P G E r gd p ops ⟨n,(t,s)::g,h,d,i⟩ K) (ho:OpOK P G h ⟨some t,.unOp .not u x,ty,ps,af,gu⟩ g s:=by exact ZU rfl rfl)
    (hg:zH gd g ⟨some t,.unOp .not u x,ty,ps,af,gu⟩ true:=by first | exact rfl | exact gB rfl rfl rfl rfl) (hd:Nat.blt t n=true:=by exact rfl):Run P G E r gd p (⟨some t,.unOp .not u x,ty,ps,af,gu⟩::ops) ⟨n,g,h,d,i⟩ K:=Run.one ho hg rfl hd hr
theorem yk (hr:Run P G E r gd p ops ⟨n,(t,s)::g,h,d,i⟩ K) (ho:OpOK P G h ⟨some t,.nilCheck x,ty,ps,af,gu⟩ g s:=by first | exact yT rfl rfl | exact uI rfl rfl)
    (hg:zH gd g ⟨some t,.nilCheck x,ty,ps,af,gu⟩ true:=by first | exact rfl | exact gB rfl rfl rfl rfl) (hd:Nat.blt t n=true:=by exact rfl):Run P G E r gd p (⟨some t,.nilCheck x,ty,ps,af,gu⟩::ops) ⟨n,g,h,d,i⟩ K:=Run.one ho hg rfl hd hr
theorem yl {f:Fn} {a b:Array Operand} (hr:Run P G E r gd p ops ⟨n,(t,s)::g,h,d,i⟩ K) (ho:OpOK P G h ⟨some t,.makeFunc f a b,ty,ps,af,gu⟩ g s:=by exact QM rfl rfl)
    (hg:zH gd g ⟨some t,.makeFunc f a b,ty,ps,af,gu⟩ true:=by first | exact rfl | exact gB rfl rfl rfl rfl) (hd:Nat.blt t n=true:=by exact rfl):Run P G E r gd p (⟨some t,.makeFunc f a b,ty,ps,af,gu⟩::ops) ⟨n,g,h,d,i⟩ K:=Run.one ho hg rfl hd hr
theorem ym {b:Builtin} {a:Array Operand} {u:Array Nat} (hr:Run P G E r gd p ops ⟨n,(t,s)::g,h,d,i⟩ K) (ho:OpOK P G h ⟨some t,.call {callee:=.builtin b,args:=a,argTypes:=u},ty,ps,af,gu⟩ g s:=by first | exact xh rfl rfl | exact YC rfl rfl rfl | exact UY rfl rfl rfl)
    (hg:zH gd g ⟨some t,.call {callee:=.builtin b,args:=a,argTypes:=u},ty,ps,af,gu⟩ true:=by first | exact rfl | exact gB rfl rfl rfl rfl) (hd:Nat.blt t n=true:=by exact rfl):Run P G E r gd p (⟨some t,.call {callee:=.builtin b,args:=a,argTypes:=u},ty,ps,af,gu⟩::ops) ⟨n,g,h,d,i⟩ K:=Run.one ho hg rfl hd hr
theorem yq {op:Op} {w:Nat×Bool} (hr:Run P G E r gd p ops ⟨n,(t,eqS undef)::g,h,d,i⟩ K) (hg:zH gd g ⟨some t,op,ty,ps,af,some w⟩ false:=by first | exact gB rfl rfl rfl rfl | exact gU rfl rfl rfl) (hd:Nat.blt t n=true:=by exact rfl):Run P G E r gd p (⟨some t,op,ty,ps,af,some w⟩::ops) ⟨n,g,h,d,i⟩ K:=Run.no hg rfl hd hr
theorem yw {u:Nat} {h':HL} (hr:Run P G E r gd p ops ⟨n,g,h',d,i⟩ K)
    (hst:∀ K',Run P G E r gd p ops ⟨n,g,h',d,i⟩ K'→Run P G E r gd p (⟨none,.store u x y,ty,ps,af,gu⟩::ops) ⟨n,g,h,d,i⟩ K':=by
      intro _ hk
      first
      | exact Run.store 0 rfl rfl rfl rfl rfl rfl rfl rfl rfl hk | exact Run.store 1 rfl rfl rfl rfl rfl rfl rfl rfl rfl hk | exact Run.store 2 rfl rfl rfl rfl rfl rfl rfl rfl rfl hk | exact Run.store 3 rfl rfl rfl rfl rfl rfl rfl rfl rfl hk | exact Run.store 4 rfl rfl rfl rfl rfl rfl rfl rfl rfl hk):Run P G E r gd p (⟨none,.store u x y,ty,ps,af,gu⟩::ops) ⟨n,g,h,d,i⟩ K:=hst K hr
end
structure Bx (B:Prop):Prop where
  o:B
theorem zg {A B:Prop} (h:B) (w:Bx B→A:=by
  intro h
  repeat (first | refine ya ?_ | refine yb ?_ | refine yc ?_ | refine yd ?_ | refine ye ?_ | refine yf ?_ | refine yg ?_ | refine yh ?_ | refine yi ?_ | refine yj ?_ | refine yk ?_ | refine yl ?_ | refine ym ?_ | refine zx ?_ | refine zJ ?_ | refine zr ?_ | refine yq ?_ | refine yw ?_ | refine zQ ?_ | refine zE ?_ | refine zO ?_)
  exact h.o):A:=w ⟨h⟩
class BP (b:Bool) (p q:outParam Prop):Prop where
  t:b=true→p
  f:b=false→q
instance {p:Prop} [Decidable p]:BP (decide p) p (¬p):=⟨of_decide_eq_true,of_decide_eq_false⟩
instance {α:Type} [DecidableEq α] {x y:α}:BP (x==y) (x=y) (x≠y):=⟨beq_iff_eq.1,beq_eq_false_iff_ne.1⟩
instance {α:Type} [DecidableEq α] {x y:α}:BP (x != y) (x≠y) (x=y):=⟨bne_iff_ne.1,bne_eq_false_iff_eq.1⟩
section
variable {P:Program} {G:Imm} {E:Env} {r:Option Nat} {S:St}
theorem zd {Q:Exit→St→Prop} {c:Operand} {t:Nat} {x y:Code} {b:Bool} {p q:Prop} (ht:b=true→p→T P G E r x S Q) (hf:b=false→q→T P G E r y S Q) (hc:c= .tmp t:=by exact rfl) (hg:look t S.g=some (zm b):=by exact rfl) (hb:BP b p q:=by infer_instance):T P G E r (.cond c x y) S Q:=zbi hc hg (fun h=>ht h (hb.t h)) (fun h=>hf h (hb.f h))
theorem zt {g:List (Nat×SV)} {h:HL} {l:List ResultVar} {s:SV} (hr:Res P g h l s:=by
  first
  | exact .one (.tmp rfl) | exact .none | exact .one (.agg 0 inferInstance rfl rfl rfl rfl) | exact .one (.agg 1 inferInstance rfl rfl rfl rfl) | exact .one (.agg 2 inferInstance rfl rfl rfl rfl) | exact .one (.own 0 inferInstance rfl rfl rfl)
  | (apply Res.many;repeat (first | exact ResL.nil | (apply ResL.cons;first | exact .tmp rfl | exact .agg 0 inferInstance rfl rfl rfl rfl | exact .agg 1 inferInstance rfl rfl rfl rfl | exact .agg 2 inferInstance rfl rfl rfl rfl | exact .own 0 inferInstance rfl rfl rfl | exact .own 1 inferInstance rfl rfl rfl | exact .own 2 inferInstance rfl rfl rfl)))):∃ s' H',Res P g h l s'∧List.Sublist H' h∧(s'=s∧H'=[]):=⟨s,[],hr,List.nil_sublist _,rfl,rfl⟩
theorem zu {g:List (Nat×SV)} {h:HL} {l:List ResultVar} {s0 s:SV} (hr:Res P g h l s0:=by
  first
  | exact .one (.tmp rfl) | exact .none | exact .one (.agg 0 inferInstance rfl rfl rfl rfl) | exact .one (.agg 1 inferInstance rfl rfl rfl rfl) | exact .one (.agg 2 inferInstance rfl rfl rfl rfl) | exact .one (.own 0 inferInstance rfl rfl rfl)
  | (apply Res.many;repeat (first | exact ResL.nil | (apply ResL.cons;first | exact .tmp rfl | exact .agg 0 inferInstance rfl rfl rfl rfl | exact .agg 1 inferInstance rfl rfl rfl rfl | exact .agg 2 inferInstance rfl rfl rfl rfl | exact .own 0 inferInstance rfl rfl rfl | exact .own 1 inferInstance rfl rfl rfl | exact .own 2 inferInstance rfl rfl rfl)))) (e:s0=s):∃ s' H',Res P g h l s'∧List.Sublist H' h∧(s'=s∧H'=[]):=⟨s0,[],hr,List.nil_sublist _,e,rfl⟩
end
end Go.Sv
