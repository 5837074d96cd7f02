/- Short names. -/
import Derived.KernelRfl
import Derived.RowKit
set_option linter.all false
variable {p:Prop}
def C (h:p:=by omega):p:=h
def V (h:p:=by kernel_rfl):p:=h
def J (h:p:=by decide):p:=h
def B (h:p:=by simp):p:=h
theorem Z.{u} {α:Sort u} {a:α}:a=a:=rfl
theorem FU.{u} {α:Type u} (l:List α) (i:Nat) (h:i<l.length:=by omega):∃ x,l[i]? =some x:=⟨_,List.getElem?_eq_getElem h⟩
def FV (h:p:=by rfl):p:=h
def BS:=@Array.empty_append
def AW:=@Array.ext'
def Ak:=@Array.getD_eq_getD_getElem?
def BY:=@Array.getElem?_append_left
def AJ:=@Array.getElem?_eq_getElem
def Dp:=@Array.getElem?_modify
def Al:=@Array.getElem?_setIfInBounds_ne
def Dq:=@Array.getElem?_toList
def BH:=@Array.length_toList
def El:=@Array.size_pop
def Eo:=@Array.size_push
def Dn:=@Array.size_replicate
def Eh:=@Array.size_setIfInBounds
def Bb:=@Array.toList_map
def Ep:=@Array.toList_push
def BE:=@Array.toList_setIfInBounds
def D7:=@Bool.and_eq_false_iff
def AD:=@Bool.and_eq_true
def Dw:=@Bool.eq_false_iff
def DR:=@Bool.eq_iff_iff
def DK:=@Bool.false_and
def Ec:=@Bool.false_ne_true
def AF:=@Bool.false_or
def DS:=@Bool.not_eq_false'
def DA:=@Bool.not_eq_true'
def Av:=@Bool.or_eq_true
def C5:=@Bool.true_and
def DD:=@Int.natAbs_add_le
def DE:=@Int.natAbs_mul
def Dz:=@Int.natAbs_natCast
def DC:=@Int.natAbs_neg
def CO:=@Int.natCast_ediv
def Dc:=@Int.natCast_emod
def BO:=@Int.natCast_mul
def Da:=@Int.natCast_nonneg
def DH:=@Int.sign_eq_one_of_pos
def BQ:=@Int.toNat_natCast
def DV:=@Int.toNat_of_nonneg
def En:=@List.Perm.swap
def DT:=@List.Sublist.cons
def Dd:=@List.Sublist.refl
def Dl:=@List.all_append
def Du:=@List.all_cons
def B9:=@List.all_eq_true
def Ey:=@List.any_eq_false
def EE:=@List.any_eq_true
def Bw:=@List.append_assoc
def BV:=@List.append_nil
def B1:=@List.cons_append
def Ek:=@List.dropLast_concat_getLast
def D8:=@List.dropLast_eq_take
def CV:=@List.drop_drop
def AO:=@List.drop_eq_getElem_cons
def AN:=@List.drop_eq_nil_of_le
def BI:=@List.drop_take
def CI:=@List.drop_zero
def AQ:=@List.eq_nil_iff_forall_not_mem
def Aa:=@List.eq_nil_of_length_eq_zero
def Et:=@List.exists_cons_of_length_pos
def Dj:=@List.ext_getElem
def B4:=@List.filterMap_append
def Aj:=@List.filterMap_cons
def DQ:=@List.filter_append
def CB:=@List.flatMap_append
def BM:=@List.flatMap_cons
def BW:=@List.flatMap_def
def Eb:=@List.flatMap_map
def Ef:=@List.flatMap_nil
def Ee:=@List.flatten_append
def Bg:=@List.flatten_cons
def Dt:=@List.foldl_append
def Au:=@List.foldl_cons
def Ay:=@List.getD_eq_getElem?_getD
def Ad:=@List.getElem?_append_left
def Ae:=@List.getElem?_append_right
def Bh:=@List.getElem?_cons_succ
def AV:=@List.getElem?_drop
def AL:=@List.getElem?_eq_getElem
def Ac:=@List.getElem?_eq_none
def EC:=@List.getElem?_eq_some_iff
def Ba:=@List.getElem?_map
def Dr:=@List.getElem?_of_mem
def Cx:=@List.getElem?_range
def CK:=@List.getElem?_replicate
def AY:=@List.getElem?_set_ne
def Cf:=@List.getElem?_set_self
def AR:=@List.getElem?_take
def Dh:=@List.getElem?_take_of_lt
def AK:=@List.getElem?_toArray
def Bf:=@List.getElem_mem
def EB:=@List.getLast?_eq_none_iff
def Dx:=@List.intercalate_cons_cons
def Aw:=@List.length_append
def Ap:=@List.length_cons
def Cc:=@List.length_drop
def Es:=@List.length_dropLast
def BR:=@List.length_map
def Ax:=@List.length_nil
def Er:=@List.length_pos_iff
def DU:=@List.length_range
def CN:=@List.length_replicate
def Em:=@List.length_reverse
def Cd:=@List.length_set
def DX:=@List.length_singleton
def BG:=@List.length_take
def Ex:=@List.length_zip
def Cp:=@List.map_append
def Bk:=@List.map_congr_left
def Ar:=@List.map_cons
def Dm:=@List.map_id
def As:=@List.map_map
def B2:=@List.map_nil
def CJ:=@List.map_replicate
def Bu:=@List.mem_append
def Ei:=@List.mem_append_left
def Ej:=@List.mem_append_right
def DZ:=@List.mem_cons
def Bi:=@List.mem_cons_of_mem
def Dv:=@List.mem_cons_self
def AG:=@List.mem_filter
def DP:=@List.mem_flatMap
def EH:=@List.mem_flatten
def Bc:=@List.mem_map
def Ev:=@List.mem_of_find?_eq_some
def AE:=@List.mem_of_getElem?
def BU:=@List.mem_of_mem_drop
def BT:=@List.mem_of_mem_take
def AZ:=@List.mem_or_eq_of_mem_set
def AI:=@List.mem_range
def EI:=@List.mem_replicate
def Eg:=@List.mem_reverse
def AS:=@List.mem_singleton
def EA:=@List.mem_singleton_self
def BJ:=@List.nil_append
def BZ:=@List.nil_sublist
def Bt:=@List.nodup_append
def BX:=@List.nodup_nil
def D6:=@List.not_mem_nil
def EG:=@List.pairwise_append
def EF:=@List.pairwise_cons
def DY:=@List.pairwise_singleton
def De:=@List.perm_middle
def Co:=@List.range_succ
def Aq:=@List.range_succ_eq_map
def Cn:=@List.replicate_succ
def AH:=@List.size_toArray
def B7:=@List.sublist_append_left
def B6:=@List.sublist_append_right
def B5:=@List.sublist_cons_self
def CA:=@List.sum_append
def CC:=@List.sum_cons
def CF:=@List.sum_nil
def DW:=@List.takeWhile_cons
def Cz:=@List.take_add_one
def BB:=@List.take_append_drop
def B3:=@List.take_length
def BC:=@List.take_of_length_le
def B8:=@List.take_succ_cons
def BF:=@List.take_take
def Di:=@List.take_zero
def An:=@Nat.add_assoc
def Ao:=@Nat.add_comm
def Ez:=@Nat.add_le_add_left
def Bs:=@Nat.add_mul
def CR:=@Nat.add_mul_div_left
def Ds:=@Nat.add_sub_cancel
def C1:=@Nat.add_sub_cancel_left
def At:=@Nat.add_zero
def Ew:=@Nat.ble_eq_true_of_le
def Bv:=@Nat.blt_eq
def CY:=@Nat.div_add_mod
def CQ:=@Nat.div_div_eq_div_mul
def CT:=@Nat.div_eq_of_lt
def Cu:=@Nat.div_le_self
def Cl:=@Nat.div_lt_iff_lt_mul
def Cg:=@Nat.div_lt_self
def CP:=@Nat.div_one
def Ai:=@Nat.eq_of_beq_eq_true
def Bm:=@Nat.eq_zero_or_pos
def C6:=@Nat.gcd_comm
def Cv:=@Nat.gcd_zero_left
def Df:=@Nat.gcd_zero_right
def Dg:=@Nat.le_add_right
def Bn:=@Nat.le_mul_of_pos_right
def A9:=@Nat.le_of_ble_eq_true
def Af:=@Nat.le_refl
def Ea:=@Nat.le_succ
def D5:=@Nat.le_succ_of_le
def Ag:=@Nat.le_trans
def Cs:=@Nat.lt_of_le_of_lt
def Ah:=@Nat.lt_of_lt_of_le
def Ab:=@Nat.lt_or_ge
def C9:=@Nat.lt_trichotomy
def AU:=@Nat.min_eq_left
def Cy:=@Nat.mod_add_div
def CZ:=@Nat.mod_eq_of_lt
def Be:=@Nat.mod_lt
def C2:=@Nat.mod_mul_right_div_self
def BN:=@Nat.mod_one
def Ci:=@Nat.mul_add
def Cj:=@Nat.mul_assoc
def Ck:=@Nat.mul_comm
def C8:=@Nat.mul_div_cancel_left
def CL:=@Nat.mul_le_mul
def Cq:=@Nat.mul_le_mul_left
def BK:=@Nat.mul_le_mul_right
def DF:=@Nat.mul_lt_mul''
def C3:=@Nat.mul_lt_mul_of_pos_right
def Cb:=@Nat.mul_ne_zero
def Cr:=@Nat.mul_one
def CW:=@Nat.mul_right_comm
def CM:=@Nat.mul_zero
def CH:=@Nat.one_mul
def Cw:=@Nat.or_lt_two_pow
def C7:=@Nat.pos_of_ne_zero
def Ct:=@Nat.pow_add
def Cm:=@Nat.pow_le_pow_right
def CX:=@Nat.pow_mul
def CS:=@Nat.pow_pos
def Ch:=@Nat.pow_succ
def CG:=@Nat.pow_zero
def AP:=@Nat.sub_add_cancel
def Az:=@Nat.sub_self
def D9:=@Nat.succ_le_succ
def Bj:=@Nat.succ_mul
def C4:=@Nat.two_pow_pos
def Br:=@Nat.zero_add
def BL:=@Nat.zero_le
def Ca:=@Nat.zero_mul
def Am:=@Option.bind_some
def AA:=@Option.getD_some
def DB:=@Option.map_eq_some_iff
def AM:=@Option.map_some
def BA:=@Option.some.inj
def Dk:=@Option.some.injEq
def DO:=@Rat.div_mul_cancel
def DL:=@Rat.lt_irrefl
def Dy:=@Rat.mkRat_self
def DI:=@Rat.mkRat_zero
def DJ:=@Rat.mul_def'
def DN:=@Rat.mul_nonneg
def DM:=@Rat.mul_pos
def ED:=@Rat.not_lt
def FW (h:p:=by have:=hx.len;have:=hy.len;have:=hx.lend;have:=hy.lend;have:=hx.pos;have:=hy.pos;simp only [el,qsz,List.length_cons,List.length_nil,List.take,List.map,List.sum_cons,List.sum_nil];omega):p:=h
def F0 (h:p:=by have:=hx.len;have:=hy.len;simp only [eb,List.length_cons,List.length_nil,List.take,List.map,List.sum_cons,List.sum_nil];omega):p:=h
def F2 (h:p:=by intro x hp;rcases List.mem_cons.1 hp with rfl | hp;exact⟨hx.lim,hx.limd⟩;rw [List.mem_singleton.1 hp];exact⟨hy.lim,hy.limd⟩):p:=h
def F3 (h:p:=by show (List.flatMap zL (l.take k)++[pv p].flatMap zL).length=_;rw [<-List.flatMap_append,uI,List.length_append,Nat.zero_add]):p:=h
def F4 (h:p:=by intro p hp;rcases List.mem_cons.1 hp with rfl | hp;exact hx.lim;rw [List.mem_singleton.1 hp];exact hy.lim):p:=h
def F6 (h:p:=by rw [List.length_take,List.length_drop,List.length_singleton];unfold yE;omega):p:=h
def F7 (h:p:=by rw [List.take_of_length_le (by rw [List.length_map];exact Nat.le_refl _)]):p:=h
def F8 (h:p:=by simp [hop,Op.operands,Call.operands];exact .inr (by simpa using hy)):p:=h
def F9 (h:p:=by exact fun b hb=>by simp only [we,List.mem_append];exact .inl (.inr hb)):p:=h
def Gb (h:p:=by rw [Nat.zero_add,List.length_map,hzl];exact Nat.le_refl _):p:=h
def Gc (h:p:=by rw [List.length_take,List.length_take];unfold yE;omega):p:=h
def Gd (h:p:=by rw [Int.toNat_natCast,<-WW hg1,Nat.mod_eq_of_lt hg1]):p:=h
def Ge (h:p:=by exact fun b hb=>hb.elim (fun h=>by simp [bs] at h) id):p:=h
def Gf (h:p:=by simp [aL,ht];simpa [Nat.blt_eq] using hd):p:=h
def Gg (h:p:=by first | decide | (simp;done) | (simp;omega)):p:=h
def Gi (h:p:=by rw [List.take_of_length_le (by omega)]):p:=h
def Gj (h:p:=by rw [List.length_map];unfold cap;omega):p:=h
def Gk (h:p:=by simp [Instr.findNow,Instr.sameNow,QN]):p:=h
def Gl (h:p:=by simp [hop,Op.operands,Call.operands]):p:=h
def Gm (h:p:=by rw [Array.size_setIfInBounds];omega):p:=h
def Gn (h:p:=by unfold World.freeze;split <;> rfl):p:=h
def Gp (h:p:=by rw [hms,List.flatMap_append];rfl):p:=h
def Gs (h:p:=by rw [List.length_reverse];omega):p:=h
def Gt (h:p:=by simp only [aL,ht];exact hd):p:=h
def Gu (h:p:=by exact fun k hk=>by subst hk;simp [bs]):p:=h
def Gv (h:p:=by rw [List.flatMap_append];rfl):p:=h
def Gw (h:p:=by rw [<-hn.val];exact wz hn.lim):p:=h
def Gy (h:p:=by rw [yG (st:=6) (fun _=>rfl)]):p:=h
def Gz (h:p:=by rw [List.length_take];omega):p:=h
def GA (h:p:=by simp [IntKind.bits];omega):p:=h
def GB (h:p:=by simp [hop,Op.operands]):p:=h
def GD (h:p:=by unfold cap;simp;omega):p:=h
def GF (h:p:=by unfold yE;simp;omega):p:=h
def GG (h:p:=by simp [IntKind.bits]):p:=h
def GH (h:p:=by unfold cap;omega):p:=h
def GI (h:p:=by rw [hI.sz];omega):p:=h
def GJ (h:p:=by rw [hlen];omega):p:=h
def GK (h:p:=by unfold yE;omega):p:=h
def GL (h:p:=by intro h;cases h):p:=h
def GM (h:p:=by simpa using hi):p:=h
def GN (h:p:=by simpa using hy):p:=h
def GO (h:p:=by exact fun h=>by cases h):p:=h
def GP (h:p:=by simpa using h):p:=h
def GQ (h:p:=by rw [wP];omega):p:=h
def GR (h:p:=by exact fun e=>by omega):p:=h
def GS (h:p:=by intros;simp):p:=h
def GU (h:p:=by rw [yX,hln]):p:=h
def GV (h:p:=by simp;omega):p:=h
def GW (h:p:=by simp [hop]):p:=h
def GX (h:p:=by exact fun _ _=>rfl):p:=h
def GY (h:p:=by exact fun _=>rfl):p:=h
def GZ (h:p:=by grind):p:=h
abbrev G1:=List (List UInt8)
abbrev G2:=List (Rat×Rat)
abbrev G3:=Option (Nat×Nat)
abbrev G4:=Nat->Option Nat
abbrev G5:=Bool×List Nat×List Nat
abbrev G6:=List UInt8
abbrev G7:=List Nat
def Hd (h:p:=by refine Fi ((xU (lo:=0) (hi:=k) (m:=0) rfl rfl (.inl ⟨rfl,rfl⟩) (.inr ⟨_,_,rfl,rfl⟩) (.inl rfl) (by omega) (by omega)).sub (show ∀I v,(zR 6 zL ((l.take k).drop 0)).den I v->(zR 6 zL (l.take k)).den I v from fun I v h=>by rw [List.drop_zero] at h;exact h)) ?_;refine FL 0 rfl rfl rfl rfl hb35 rfl fun q39 hq39=>?_;refine zg ?_;refine qS [0,1,2,3,5,6,7,4,8,9] 9 [7,8] _ (by kernel_rfl) (by kernel_rfl) (.cons _ .slnil) ?_;refine ab.one (zC rfl rfl) rfl rfl rfl (by kernel_rfl) ?_;refine ab.one ((AX (zl (pc p))<|zG rfl rfl rfl rfl)) rfl rfl rfl (by kernel_rfl) ?_;refine FC (zy rfl rfl (by decide) rfl (by simp) (by kernel_rfl) (by kernel_rfl)) ?_;refine FC (zb rfl rfl (lJ hp (by omega))) ?_;refine FD ((xU (lo:=k) (hi:=l.length) (m:=0) rfl rfl (.inr ⟨_,_,rfl,rfl⟩) (.inl ⟨rfl,rfl,rfl⟩) (.inl rfl) (by omega) (by omega)).sub (show ∀I v,(zR 6 zL ((l.take l.length).drop k)).den I v->(zR 6 zL (l.drop k)).den I v from fun I v h=>by rw [List.take_length] at h;exact h)) ?_;refine FH 0 rfl rfl rfl rfl hq39 (by show (List.flatMap zL (l.take k)).length=_;rw [uI,Nat.zero_add]) fun q44 hq44=>⟨(.cons _ .slnil),?_⟩;refine FB ?_;refine FH 0 rfl rfl rfl rfl hq44 (by show (List.flatMap zL (l.take k)++[pv p].flatMap zL).length=_;rw [<-List.flatMap_append,uI,List.length_append,Nat.zero_add]) fun q48 hq48=>⟨(.cons _ .slnil),?_⟩;refine ab.nil ?_;refine ae.ghost _ rfl (yF 0 48 rfl rfl hq48 (l:=Jc l (pv p)) (f:=zL) (by rw [hmiss,List.length_append,List.length_append,Nat.zero_add]) (by rw [hmiss];simp [List.flatMap_append]) (fun _ _=>rfl) (by rw [List.length_take,List.length_drop,List.length_singleton];unfold yE;omega)) ?_;refine zg ?_;exact zj zt):p:=h
def He (h:p:=by have hx:=yV hm.lim i;obtain⟨hu1,hu2⟩:=l7 hx hsl hc;obtain⟨hu3,hu4⟩:=kJ (x:=limb a i) (by omega) hc;refine Fi (zh rfl rfl rfl (by omega) (y:=limb a i) (xN (by omega))) ?_;refine Fi ((wt rfl rfl rfl (by omega) (by omega)).sub (zI (n:=((k%32:Nat):Int)) (by omega))) ?_;refine zo ((ZC rfl rfl rfl (by omega) (by simp [IntKind.bits];omega)).sub (zI (n:=((2^(k%32):Nat):Int)) (by have:=gZ 1 (k%32);rw [Nat.one_mul] at this;refine (MW _ this).trans ?_;exact vt (by omega) (by omega)))) ?_;refine Fl rfl rfl (zco hx (by omega)) ?_;refine zo ((vg rfl (by simp) rfl rfl).sub (zI (n:=(((limb a i*2^(k%32)+c)%4294967296:Nat):Int)) (by rw [Vl (by omega) (by omega),hu3]))) ?_;refine Fi (xj [(limb a i*2^(k%32)+c)%4294967296] rfl rfl (by decide) rfl (by simp) rfl rfl rfl) ?_;refine FL 0 rfl rfl rfl rfl hq (by rw [yX,hln]) fun q35 hq35=>?_;refine Fi ((zC rfl rfl).sub (zI (n:=(((limb a i*2^(k%32)+c)/4294967296:Nat):Int)) (by rw [hu4]))) ?_;refine zA ?_;refine Fh ?_;refine⟨i+1,q35,(limb a i*2^(k%32)+c)/4294967296,out++[(limb a i*2^(k%32)+c)%4294967296],⟨by omega,hq35,hu2,vV hlo (by omega),by simp [hln];omega,?_⟩,by omega,an (aa rfl (aa rfl (aa rfl (aa rfl (aa rfl (aa rfl trivial)))))) (by rw [List.flatMap_append];rfl)⟩;rw [uD,hln,xO,show k/32+(i+1)=k/32+i+1 by omega,xw];exact mZ (Nat.pow_add _ _ _) hval):p:=h
def Hf (h:p:=by refine Fi (Ww rfl rfl rfl (by omega)) ?_;refine Fi (yO rfl rfl (wrap_i64 (by omega) (by omega))) ?_;refine Do (Lib.bitLen x) ?_;exact zj zt):p:=h
def Hj (h:p:=by exact zj zt):p:=h
def Hm (h:p:=by refine zj ?_;exact⟨_,[_],.one (.tmp rfl),List.Sublist.refl _,rfl,rfl⟩):p:=h
def Hn (h:p:=by exact zj (zu (e:=by first | (rw [hb.2,hb.1,show (hp&&decide (0<0))=false by simp];rfl) | (rw [h7x0,k24];rfl)))):p:=h
def Ho (h:p:=by intro h i D e c hc hInv;exact hInv.elim):p:=h
def Ht (h:p:=by refine Fi ((yt rfl rfl).sub Zz) ?_;exact zj (zu (e:=by rw [hb.1,hb.2]))):p:=h
def HC (h:p:=by exact⟨_,[_],.none,List.Sublist.refl _,rfl,rfl⟩):p:=h
def HF (h:p:=by have hne:¬ (c=0/\Xh q=0):=fun h=>k16 (by rw [he,MX h.1,h.2]);apply zr;refine Fi ((AX (zl (qsC ([],[],[])))<|(yQ rfl rfl (by kernel_rfl)).sub Wi)) ?_;exact zj (zu (e:=by by_cases h0:c=0;rw [MX h0,MY (fun h=>hne ⟨h0,h⟩)];rw [MX h0] at he;rw [he];rfl;rw [MY h0] at he ⊢;rw [he];rfl))):p:=h
def HM (h:p:=by refine zz ?_;refine Fi ((xp rfl rfl rfl).sub (zI (n:=(if q=0 then 30 else 0)) (by by_cases h:q=0;rw [MX h,MX (by rw [h];exact Nat.mul_zero _)];rw [MY h,MY (Nat.mul_ne_zero p.den_nz (fun h0=>h (Rat.num_eq_zero.1 (Int.natAbs_eq_zero.1 h0))))]))) ?_;exact zj (zu (e:=by rw [<-mQ];rfl))):p:=h
def HY (h:p:=by refine zA ?_;refine zg ?_;exact⟨g-1,⟨by omega,fun j h1 h2=>by by_cases h:g<=j;exact hz j h h2;rw [show j=g-1 by omega];omega⟩,by omega,aA (xm rfl (MW (ze .i64) (by omega)) (aa rfl (aa rfl (aa rfl trivial))))⟩):p:=h
def HZ (h:p:=by apply zB;apply zr;(iterate 2 refine zz ?_);refine Fi ((zZ rfl rfl rfl rfl).sub (yz (c:=decide (kin (pv (ra xs i)) (pv (rb xs i)) (pv (ra xs k)) (pv (rb xs k))=0)) (by rw [hsk];exact zbM))) ?_;exact zj (zu (e:=by rw [zeP (by omega)]))):p:=h
def Ia (h:p:=by refine Do (i+1) ?_;exact⟨i+1,E,⟨hE,by omega,by omega,hEp,by rw [<-hst,<-zfd lt (by omega)];exact hDo⟩,by omega,an (aa rfl (aa rfl (aa rfl (aa rfl (aa rfl trivial))))) rfl⟩):p:=h
def Ic (h:p:=by refine zj ?_;exact⟨_,[],.one (.tmp rfl),List.nil_sublist _,none,none,by rw [hNo];exact⟨trivial,rfl,rfl⟩⟩):p:=h
def Ih (h:p:=by rw [ee] at h;exact h.args ⟨fun I v hv=>XE [(b,l,d),(c,m,e)] hv,trivial⟩):p:=h
def Ii (h:p:=by have hx':∀ p,p=x.1\/p=x.2->p∈vC q:=fun p hp=>List.mem_append_right _ (List.mem_append_right _ (List.mem_flatMap.2 ⟨x,hx,by simpa using hp⟩));exact⟨hb _ (hx' _ (.inl rfl)),hb _ (hx' _ (.inr rfl))⟩):p:=h
def Il (h:p:=by refine Fi ((XC (lo:=1) (hi:=l.length) rfl rfl (.inr ⟨_,_,rfl,rfl⟩) (.inl ⟨rfl,rfl⟩) (by omega) (Nat.le_refl _)).sub (WS (m:=tl) (by rw [List.take_length];exact hdrop))) ?_;exact MM):p:=h
def Im (h:p:=by rcases (show g=0\/g=1 by omega) with rfl | rfl <;> rfl):p:=h
def Ip (h:p:=by refine Do (g-1) ?_;exact⟨g-1,⟨by omega,fun i hi=>by by_cases h:g<=i;exact hz i h;rw [show i=g-1 by omega];exact h1⟩,by omega,aA (aa rfl (aa rfl trivial))⟩):p:=h
def Iv (h:p:=by refine Do (g+1) ?_;exact⟨g+1,(by omega:g+1<=xs.length),by omega,MM⟩):p:=h
def Iw (h:p:=by obtain⟨i,_,rfl⟩:=List.mem_map.1 h;rfl):p:=h
def Ix (h:p:=by refine Fi (xj [1] rfl rfl (by decide) rfl (by simp) rfl rfl rfl) ?_;exact zj (zu (e:=by rw [<-hq];show _=zl [zp (decide (n<0)),zD (dig n.natAbs),zD (dig 1)];rw [kG];rfl))):p:=h
def IC (h:p:=by refine zg ?_;refine zj ?_;exact⟨_,[_],.one (.tmp rfl),.refl _,b,c,(by rw [Nat.zero_add] at hq7;exact hq7),by rw [Nat.zero_add],by rw [Nat.zero_add];rfl⟩):p:=h
def II (h:p:=by apply zM;refine zj ?_;exact⟨_,[_],.none,List.Sublist.refl _,rfl,⟨_,(hI.fin _ (hR.1) (hR.2)).1,(hI.fin _ (hR.1) (hR.2)).2,rfl⟩⟩):p:=h
def IU (h:p:=by apply zr;refine Fi ((yt rfl rfl).sub (vz (l:=dig (m-n)) (uv.2 (by omega)))) ?_;exact zj (zu (e:=by rw [MX hlt]))):p:=h
def IX (h:p:=by refine Fv ?_;refine Do (g+1) ?_;exact⟨g+1,(by omega:g+1<=2),by omega,by rw [hst];exact MM⟩):p:=h
def I5 (h:p:=by simp only [List.map_cons,List.map_nil,List.sum_cons,List.sum_nil,ha.val,hb.val,Nat.add_zero] at this;exact this):p:=h
def I7 (h:p:=by refine xq hS1 ?_;refine zg ?_;exact zj (zu (e:=by rw [hw]))):p:=h
def I8 (h:p:=by show (List.map _ (List.zip _ _)).length<=_;rw [List.length_map,List.length_zip];exact Nat.min_le_left _ _):p:=h
def I9 (h:p:=by refine zj ?_;exact⟨_,[_],.one (.tmp rfl),List.Sublist.refl _,by rw [hdl,hll],by rw [hdl,hll];rfl⟩):p:=h
def J2 (h:p:=by exact⟨_,by rw [MX k12],an (aa rfl (aa rfl (aa rfl (trivial)))) rfl⟩):p:=h
def J3 (h:p:=by exact⟨_,by rw [MY k12],an (aa rfl (aa rfl (aa rfl (trivial)))) rfl⟩):p:=h
def K5 (h:p:=by rw [List.getElem?_map,List.getElem?_range h];rfl):p:=h
def K6 (h:p:=by rw [hz' _ (Nat.le_refl _),Nat.mul_zero] at hs;rw [xO,Nat.add_mul,Nat.mul_assoc];omega):p:=h
def K7 (h:p:=by refine Fl rfl rfl (xo (p:=p) (q:=q) (by omega)) ?_;exact zj (zu (e:=by rw [<-Vp]))):p:=h
def K8 (h:p:=by exact M1 (List.eq_nil_of_length_eq_zero (by have:0+l.length=0:=hq7;omega)) hne):p:=h
def K9 (h:p:=by rw [zbd h];exact List.set_eq_of_length_le (by rw [List.length_replicate];exact h)):p:=h
def Le (h:p:=by simpa using this):p:=h
def Lf (h:p:=by rcases h with h | h <;> simp [h]):p:=h
def Li (h:p:=by unfold qj;exact xb (inferInstance:Bq (fc p.1 q.1+fc p.2 q.2) _) (by omega)):p:=h
def Lk (h:p:=by refine zg ?_;exact Hj):p:=h
def Ll (h:p:=by refine Fi ((wH rfl rfl rfl (by omega) (by simp [IntKind.bits])).sub (zI (zuB _))) ?_;refine zA ?_;refine zg ?_;refine Fi (yO rfl rfl (Wq (by omega) (by omega))) ?_;have hb:=vW (x:=x/65536/256) (by omega);have e1:=Lib.bitLen_shift16 x (by omega) (by omega);have e2:=Lib.bitLen_shift8 (x/65536) (by omega) (by omega);exact Hf):p:=h
def Lm (h:p:=by refine Fi ((wH rfl rfl rfl (by omega) (by simp [IntKind.bits])).sub (zI (zuB _))) ?_;refine zA ?_;refine zg ?_;refine Fi (yO rfl rfl (Wq (by omega) (by omega))) ?_;have hb:=vW (x:=x/256) (by omega);have e1:=Lib.bitLen_shift8 x (by omega) (by omega);exact Hf):p:=h
def Lp (h:p:=by refine zz ?_;(iterate 2 refine zz ?_);refine Fi ((zZ rfl rfl rfl rfl).sub (yz (c:=decide (0<Kz tl)) (decide_eq_decide.2 (by have:=yH (n:=Kz tl);omega)))) ?_;exact Hn):p:=h
def Lq (h:p:=by refine Fi (yO rfl rfl (Wq (by omega) (by omega))) ?_;have hb:=vW (x:=x/65536) (by omega);have e1:=Lib.bitLen_shift16 x (by omega) (by omega);exact Hf):p:=h
def Lr (h:p:=by have hb:=Zj (l:=l) (by unfold QX;rw [show decide (l.length<=60)=false from MS (by omega)];simp);apply zr;exact Ht):p:=h
def Ls (h:p:=by refine zg ?_;refine ae.buildRow rfl rfl rfl rfl rfl rfl (by decide) rfl (.inl rfl) rfl rfl fun b35 hb35=>?_;refine zg ?_;exact Hd):p:=h
def Lx (h:p:=by refine Fi (yO rfl rfl (Wq (by omega) (by omega))) ?_;have hb:=vW (x:=x) (by omega);exact Hf):p:=h
def Ly (h:p:=by apply zM;exact Hj):p:=h
def Lz (h:p:=by have hb:=Zj (JR k24);apply zr;refine Fi ((yQ rfl rfl rfl).sub zk7) ?_;exact Hn):p:=h
def LB (h:p:=by refine xt rfl rfl ?_;apply zr;exact Ht):p:=h
def MO:=@of_decide_eq_true
def MP:=@of_decide_eq_false
def MQ:=@decide_eq_true_iff
def MR:=@decide_eq_true
def MS:=@decide_eq_false
def MT:=@beq_eq_false_iff_ne
def MU:=@beq_iff_eq
def MV:=@bne_iff_ne
def MW:=@congrArg
def MX:=@if_pos
def MY:=@if_neg
def MZ:=@dif_pos
def M0:=@dif_neg
def M1:=@absurd
def M3:=@eq_comm
def M4:=@Classical.byContradiction
