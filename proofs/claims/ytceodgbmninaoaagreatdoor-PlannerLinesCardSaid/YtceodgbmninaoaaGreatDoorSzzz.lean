/- Short names. -/
import Derived.KernelRfl
import Derived.RowKit
set_option linter.all false
variable {p:Prop}
theorem C (h:p:=by omega):p:=h
theorem V (h:p:=by kernel_rfl):p:=h
theorem J (h:p:=by decide):p:=h
theorem B (h:p:=by simp):p:=h
theorem Z.{u} {α:Sort u} {a:α}:a=a:=rfl
theorem FV (h:p:=by rfl):p:=h
def BS:=@Array.empty_append
def AW:=@Array.ext'
def Ak:=@Array.getD_eq_getD_getElem?
def BY:=@Array.getElem?_append_left
def AJ:=@Array.getElem?_eq_getElem
def Dp:=@Array.getElem?_modify
def Al:=@Array.getElem?_setIfInBounds_ne
def Dq:=@Array.getElem?_toList
def BH:=@Array.length_toList
def El:=@Array.size_pop
def Eo:=@Array.size_push
def Dn:=@Array.size_replicate
def Eh:=@Array.size_setIfInBounds
def Bb:=@Array.toList_map
def Ep:=@Array.toList_push
def BE:=@Array.toList_setIfInBounds
def D7:=@Bool.and_eq_false_iff
def AD:=@Bool.and_eq_true
def Dw:=@Bool.eq_false_iff
def DR:=@Bool.eq_iff_iff
def DK:=@Bool.false_and
def Ec:=@Bool.false_ne_true
def AF:=@Bool.false_or
def DS:=@Bool.not_eq_false'
def DA:=@Bool.not_eq_true'
def Av:=@Bool.or_eq_true
def C5:=@Bool.true_and
def DD:=@Int.natAbs_add_le
def DE:=@Int.natAbs_mul
def Dz:=@Int.natAbs_natCast
def DC:=@Int.natAbs_neg
def CO:=@Int.natCast_ediv
def Dc:=@Int.natCast_emod
def BO:=@Int.natCast_mul
def Da:=@Int.natCast_nonneg
def DG:=@Int.sign_eq_neg_one_of_neg
def DH:=@Int.sign_eq_one_of_pos
def BQ:=@Int.toNat_natCast
def DV:=@Int.toNat_of_nonneg
def En:=@List.Perm.swap
def DT:=@List.Sublist.cons
def Dd:=@List.Sublist.refl
def Dl:=@List.all_append
def Du:=@List.all_cons
def B9:=@List.all_eq_true
def Ey:=@List.any_eq_false
def EE:=@List.any_eq_true
def Bw:=@List.append_assoc
def BV:=@List.append_nil
def B1:=@List.cons_append
def Ek:=@List.dropLast_concat_getLast
def D8:=@List.dropLast_eq_take
def CV:=@List.drop_drop
def AO:=@List.drop_eq_getElem_cons
def AN:=@List.drop_eq_nil_of_le
def BI:=@List.drop_take
def CI:=@List.drop_zero
def AQ:=@List.eq_nil_iff_forall_not_mem
def Aa:=@List.eq_nil_of_length_eq_zero
def Et:=@List.exists_cons_of_length_pos
def Dj:=@List.ext_getElem
def B4:=@List.filterMap_append
def Aj:=@List.filterMap_cons
def DQ:=@List.filter_append
def CB:=@List.flatMap_append
def BM:=@List.flatMap_cons
def BW:=@List.flatMap_def
def Eb:=@List.flatMap_map
def Ef:=@List.flatMap_nil
def Ee:=@List.flatten_append
def Bg:=@List.flatten_cons
def Dt:=@List.foldl_append
def Au:=@List.foldl_cons
def Ay:=@List.getD_eq_getElem?_getD
def Ad:=@List.getElem?_append_left
def Ae:=@List.getElem?_append_right
def Bh:=@List.getElem?_cons_succ
def AV:=@List.getElem?_drop
def AL:=@List.getElem?_eq_getElem
def Ac:=@List.getElem?_eq_none
def EC:=@List.getElem?_eq_some_iff
def Ba:=@List.getElem?_map
def Dr:=@List.getElem?_of_mem
def Cx:=@List.getElem?_range
def CK:=@List.getElem?_replicate
def AX:=@List.getElem?_set
def AY:=@List.getElem?_set_ne
def Cf:=@List.getElem?_set_self
def AR:=@List.getElem?_take
def Dh:=@List.getElem?_take_of_lt
def AK:=@List.getElem?_toArray
def Bf:=@List.getElem_mem
def EB:=@List.getLast?_eq_none_iff
def Dx:=@List.intercalate_cons_cons
def Aw:=@List.length_append
def Ap:=@List.length_cons
def Cc:=@List.length_drop
def Es:=@List.length_dropLast
def Eu:=@List.length_filter_le
def BR:=@List.length_map
def Ax:=@List.length_nil
def Er:=@List.length_pos_iff
def DU:=@List.length_range
def CN:=@List.length_replicate
def Em:=@List.length_reverse
def Cd:=@List.length_set
def DX:=@List.length_singleton
def BG:=@List.length_take
def Ex:=@List.length_zip
def Cp:=@List.map_append
def Bk:=@List.map_congr_left
def Ar:=@List.map_cons
def Dm:=@List.map_id
def As:=@List.map_map
def B2:=@List.map_nil
def CJ:=@List.map_replicate
def Bu:=@List.mem_append
def Ei:=@List.mem_append_left
def Ej:=@List.mem_append_right
def DZ:=@List.mem_cons
def Bi:=@List.mem_cons_of_mem
def Dv:=@List.mem_cons_self
def AG:=@List.mem_filter
def DP:=@List.mem_flatMap
def EH:=@List.mem_flatten
def Bc:=@List.mem_map
def Ev:=@List.mem_of_find?_eq_some
def AE:=@List.mem_of_getElem?
def BU:=@List.mem_of_mem_drop
def BT:=@List.mem_of_mem_take
def AZ:=@List.mem_or_eq_of_mem_set
def AI:=@List.mem_range
def EI:=@List.mem_replicate
def Eg:=@List.mem_reverse
def AS:=@List.mem_singleton
def EA:=@List.mem_singleton_self
def BJ:=@List.nil_append
def BZ:=@List.nil_sublist
def Bt:=@List.nodup_append
def BX:=@List.nodup_nil
def D6:=@List.not_mem_nil
def EG:=@List.pairwise_append
def EF:=@List.pairwise_cons
def DY:=@List.pairwise_singleton
def De:=@List.perm_middle
def Co:=@List.range_succ
def Aq:=@List.range_succ_eq_map
def Cn:=@List.replicate_succ
def AH:=@List.size_toArray
def B7:=@List.sublist_append_left
def B6:=@List.sublist_append_right
def B5:=@List.sublist_cons_self
def CA:=@List.sum_append
def CC:=@List.sum_cons
def CF:=@List.sum_nil
def DW:=@List.takeWhile_cons
def Cz:=@List.take_add_one
def BB:=@List.take_append_drop
def B3:=@List.take_length
def BC:=@List.take_of_length_le
def B8:=@List.take_succ_cons
def BF:=@List.take_take
def Di:=@List.take_zero
def An:=@Nat.add_assoc
def Ao:=@Nat.add_comm
def Ez:=@Nat.add_le_add_left
def Bs:=@Nat.add_mul
def CR:=@Nat.add_mul_div_left
def Ds:=@Nat.add_sub_cancel
def C1:=@Nat.add_sub_cancel_left
def At:=@Nat.add_zero
def Ew:=@Nat.ble_eq_true_of_le
def Bv:=@Nat.blt_eq
def CY:=@Nat.div_add_mod
def CQ:=@Nat.div_div_eq_div_mul
def CT:=@Nat.div_eq_of_lt
def Cu:=@Nat.div_le_self
def Cl:=@Nat.div_lt_iff_lt_mul
def Cg:=@Nat.div_lt_self
def CP:=@Nat.div_one
def Ai:=@Nat.eq_of_beq_eq_true
def Bm:=@Nat.eq_zero_or_pos
def C6:=@Nat.gcd_comm
def Cv:=@Nat.gcd_zero_left
def Df:=@Nat.gcd_zero_right
def Dg:=@Nat.le_add_right
def Bn:=@Nat.le_mul_of_pos_right
def A9:=@Nat.le_of_ble_eq_true
def Af:=@Nat.le_refl
def Ea:=@Nat.le_succ
def D5:=@Nat.le_succ_of_le
def Ag:=@Nat.le_trans
def Cs:=@Nat.lt_of_le_of_lt
def Ah:=@Nat.lt_of_lt_of_le
def Ab:=@Nat.lt_or_ge
def C9:=@Nat.lt_trichotomy
def AU:=@Nat.min_eq_left
def Cy:=@Nat.mod_add_div
def CZ:=@Nat.mod_eq_of_lt
def Be:=@Nat.mod_lt
def C2:=@Nat.mod_mul_right_div_self
def BN:=@Nat.mod_one
def Ci:=@Nat.mul_add
def Cj:=@Nat.mul_assoc
def Ck:=@Nat.mul_comm
def C8:=@Nat.mul_div_cancel_left
def CL:=@Nat.mul_le_mul
def Cq:=@Nat.mul_le_mul_left
def BK:=@Nat.mul_le_mul_right
def DF:=@Nat.mul_lt_mul''
def C3:=@Nat.mul_lt_mul_of_pos_right
def Cb:=@Nat.mul_ne_zero
def Cr:=@Nat.mul_one
def CW:=@Nat.mul_right_comm
def CM:=@Nat.mul_zero
def CH:=@Nat.one_mul
def Cw:=@Nat.or_lt_two_pow
def C7:=@Nat.pos_of_ne_zero
def Ct:=@Nat.pow_add
def Cm:=@Nat.pow_le_pow_right
def CX:=@Nat.pow_mul
def CS:=@Nat.pow_pos
def Ch:=@Nat.pow_succ
def CG:=@Nat.pow_zero
def AP:=@Nat.sub_add_cancel
def Az:=@Nat.sub_self
def D9:=@Nat.succ_le_succ
def Bj:=@Nat.succ_mul
def C4:=@Nat.two_pow_pos
def Br:=@Nat.zero_add
def BL:=@Nat.zero_le
def Ca:=@Nat.zero_mul
def Am:=@Option.bind_some
def AA:=@Option.getD_some
def DB:=@Option.map_eq_some_iff
def AM:=@Option.map_some
def BA:=@Option.some.inj
def Dk:=@Option.some.injEq
def DO:=@Rat.div_mul_cancel
def DL:=@Rat.lt_irrefl
def Dy:=@Rat.mkRat_self
def DI:=@Rat.mkRat_zero
def DJ:=@Rat.mul_def'
def DN:=@Rat.mul_nonneg
def DM:=@Rat.mul_pos
def ED:=@Rat.not_lt
theorem FU.{u} {α:Type u} (l:List α) (i:Nat) (h:i<l.length:=by omega):∃ x,l[i]? =some x:=⟨_,List.getElem?_eq_getElem h⟩
theorem FW (h:p:=by have:=hx.len;have:=hy.len;have:=hx.lend;have:=hy.lend;have:=hx.pos;have:=hy.pos;simp only [ef,qsz,List.length_cons,List.length_nil,List.take,List.map,List.sum_cons,List.sum_nil];omega):p:=h
theorem FX (h:p:=by rw [h9x2,h9x7,h9x12];exact am (aa rfl (aa rfl (aa rfl (aa rfl (aa rfl (aa rfl (aa rfl trivial))))))) rfl):p:=h
theorem FY (h:p:=by rw [h15x1,h15x7];exact am (aa rfl (aa rfl (aa rfl (aa rfl (aa rfl (aa rfl (aa rfl trivial))))))) rfl):p:=h
theorem FZ (h:p:=by rw [hcs,hrd];exact am (aa rfl (aa rfl (aa rfl (aa rfl (aa rfl (aa rfl trivial)))))) rfl):p:=h
theorem F0 (h:p:=by have:=hx.len;have:=hy.len;simp only [dU,List.length_cons,List.length_nil,List.take,List.map,List.sum_cons,List.sum_nil];omega):p:=h
theorem F2 (h:p:=by intro x hp;rcases List.mem_cons.1 hp with rfl | hp;exact⟨hx.lim,hx.limd⟩;rw [List.mem_singleton.1 hp];exact⟨hy.lim,hy.limd⟩):p:=h
theorem F3 (h:p:=by show (List.flatMap zL (l.take k)++[pv p].flatMap zL).length=_;rw [<-List.flatMap_append,uI,List.length_append,Nat.zero_add]):p:=h
theorem F4 (h:p:=by intro p hp;rcases List.mem_cons.1 hp with rfl | hp;exact hx.lim;rw [List.mem_singleton.1 hp];exact hy.lim):p:=h
theorem F5 (h:p:=by rw [<-show ns.take g=ns by rw [show g=ns.length by omega,List.take_length]];exact hn):p:=h
theorem F6 (h:p:=by rw [List.length_take,List.length_drop,List.length_singleton];unfold yE;omega):p:=h
theorem F7 (h:p:=by rw [List.take_of_length_le (by rw [List.length_map];exact Nat.le_refl _)]):p:=h
theorem F8 (h:p:=by simp [hop,Op.operands,Call.operands];exact .inr (by simpa using hy)):p:=h
theorem F9 (h:p:=by exact fun b hb=>by simp only [we,List.mem_append];exact .inl (.inr hb)):p:=h
theorem Ga (h:p:=by intro d hd;obtain⟨y,hy,rfl⟩:=List.mem_map.1 hd;exact hf y hy):p:=h
theorem Gb (h:p:=by rw [Nat.zero_add,List.length_map,hzl];exact Nat.le_refl _):p:=h
theorem Gc (h:p:=by rw [List.length_take,List.length_take];unfold yE;omega):p:=h
theorem Gd (h:p:=by rw [Int.toNat_natCast,<-WW hg1,Nat.mod_eq_of_lt hg1]):p:=h
theorem Ge (h:p:=by exact fun b hb=>hb.elim (fun h=>by simp [bs] at h) id):p:=h
theorem Gf (h:p:=by simp [aI,ht];simpa [Nat.blt_eq] using hd):p:=h
theorem Gg (h:p:=by first | decide | (simp;done) | (simp;omega)):p:=h
theorem Gh (h:p:=by rw [List.length_map];exact Nat.le_refl _):p:=h
theorem Gi (h:p:=by rw [List.take_of_length_le (by omega)]):p:=h
theorem Gj (h:p:=by rw [List.length_map];unfold cap;omega):p:=h
theorem Gk (h:p:=by simp [Instr.findNow,Instr.sameNow,QN]):p:=h
theorem Gl (h:p:=by simp [hop,Op.operands,Call.operands]):p:=h
theorem Gm (h:p:=by rw [Array.size_setIfInBounds];omega):p:=h
theorem Gn (h:p:=by unfold World.freeze;split <;> rfl):p:=h
theorem Gp (h:p:=by rw [hms,List.flatMap_append];rfl):p:=h
theorem Gq (h:p:=by rw [Array.length_toList];omega):p:=h
theorem Gs (h:p:=by rw [List.length_reverse];omega):p:=h
theorem Gt (h:p:=by simp only [aI,ht];exact hd):p:=h
theorem Gu (h:p:=by exact fun k hk=>by subst hk;simp [bs]):p:=h
theorem Gv (h:p:=by rw [List.flatMap_append];rfl):p:=h
theorem Gw (h:p:=by rw [<-hn.val];exact wz hn.lim):p:=h
theorem Gy (h:p:=by rw [yG (st:=6) (fun _=>rfl)]):p:=h
theorem Gz (h:p:=by rw [List.length_take];omega):p:=h
theorem GA (h:p:=by simp [IntKind.bits];omega):p:=h
theorem GB (h:p:=by simp [hop,Op.operands]):p:=h
theorem GC (h:p:=by exact fun h=>by simp [bs] at h):p:=h
theorem GD (h:p:=by unfold cap;simp;omega):p:=h
theorem GF (h:p:=by unfold yE;simp;omega):p:=h
theorem GG (h:p:=by simp [IntKind.bits]):p:=h
theorem GH (h:p:=by unfold cap;omega):p:=h
theorem GI (h:p:=by rw [hI.sz];omega):p:=h
theorem GJ (h:p:=by rw [hlen];omega):p:=h
theorem GK (h:p:=by unfold yE;omega):p:=h
theorem GL (h:p:=by intro h;cases h):p:=h
theorem GM (h:p:=by simpa using hi):p:=h
theorem GN (h:p:=by simpa using hy):p:=h
theorem GO (h:p:=by exact fun h=>by cases h):p:=h
theorem GP (h:p:=by simpa using h):p:=h
theorem GQ (h:p:=by rw [wP];omega):p:=h
theorem GR (h:p:=by exact fun e=>by omega):p:=h
theorem GS (h:p:=by intros;simp):p:=h
theorem GU (h:p:=by rw [yX,hln]):p:=h
theorem GV (h:p:=by simp;omega):p:=h
theorem GW (h:p:=by simp [hop]):p:=h
theorem GX (h:p:=by exact fun _ _=>rfl):p:=h
theorem GY (h:p:=by exact fun _=>rfl):p:=h
theorem GZ (h:p:=by grind):p:=h
abbrev G1:=List (List UInt8)
abbrev G2:=List (Rat×Rat)
abbrev G3:=Option (Nat×Nat)
abbrev G4:=Nat->Option Nat
abbrev G5:=Bool×List Nat×List Nat
abbrev G6:=List UInt8
abbrev G7:=List Nat
theorem Hd (h:p:=by refine Fi ((xU (lo:=0) (hi:=k) (m:=0) rfl rfl (.inl ⟨rfl,rfl⟩) (.inr ⟨_,_,rfl,rfl⟩) (.inl rfl) (by omega) (by omega)).sub (show ∀I v,(zR 6 zL ((l.take k).drop 0)).den I v->(zR 6 zL (l.take k)).den I v from fun I v h=>by rw [List.drop_zero] at h;exact h)) ?_;refine FL 0 rfl rfl rfl rfl hb35 rfl fun q39 hq39=>?_;refine zg ?_;refine qS [0,1,2,3,5,6,7,4,8,9] 9 [7,8] _ (by kernel_rfl) (by kernel_rfl) (.cons _ .slnil) ?_;refine ab.one (zC rfl rfl) rfl rfl rfl (by kernel_rfl) ?_;refine ab.one ((show OpOK _ _ _ _ _ (zl (pc p)) from zG rfl rfl rfl rfl)) rfl rfl rfl (by kernel_rfl) ?_;refine FC (zy rfl rfl (by decide) rfl (by simp) (by kernel_rfl) (by kernel_rfl)) ?_;refine FC (zb rfl rfl (lu hp (by omega))) ?_;refine FD ((xU (lo:=k) (hi:=l.length) (m:=0) rfl rfl (.inr ⟨_,_,rfl,rfl⟩) (.inl ⟨rfl,rfl,rfl⟩) (.inl rfl) (by omega) (by omega)).sub (show ∀I v,(zR 6 zL ((l.take l.length).drop k)).den I v->(zR 6 zL (l.drop k)).den I v from fun I v h=>by rw [List.take_length] at h;exact h)) ?_;refine FH 0 rfl rfl rfl rfl hq39 (by show (List.flatMap zL (l.take k)).length=_;rw [uI,Nat.zero_add]) fun q44 hq44=>⟨(.cons _ .slnil),?_⟩;refine FB ?_;refine FH 0 rfl rfl rfl rfl hq44 (by show (List.flatMap zL (l.take k)++[pv p].flatMap zL).length=_;rw [<-List.flatMap_append,uI,List.length_append,Nat.zero_add]) fun q48 hq48=>⟨(.cons _ .slnil),?_⟩;refine ab.nil ?_;refine ae.ghost _ rfl (yF 0 48 rfl rfl hq48 (l:=Jc l (pv p)) (f:=zL) (by rw [hmiss,List.length_append,List.length_append,Nat.zero_add]) (by rw [hmiss];simp [List.flatMap_append]) (fun _ _=>rfl) (by rw [List.length_take,List.length_drop,List.length_singleton];unfold yE;omega)) ?_;refine zg ?_;exact zj zt):p:=h
theorem He (h:p:=by have hx:=yV hm.lim i;obtain⟨hu1,hu2⟩:=lO hx hsl hc;obtain⟨hu3,hu4⟩:=kt (x:=limb a i) (by omega) hc;refine Fi (zh rfl rfl rfl (by omega) (y:=limb a i) (xN (by omega))) ?_;refine Fi ((wt rfl rfl rfl (by omega) (by omega)).sub (zI (n:=((k%32:Nat):Int)) (by omega))) ?_;refine zo ((ZC rfl rfl rfl (by omega) (by simp [IntKind.bits];omega)).sub (zI (n:=((2^(k%32):Nat):Int)) (by have:=gZ 1 (k%32);rw [Nat.one_mul] at this;refine (MW _ this).trans ?_;exact vt (by omega) (by omega)))) ?_;refine Fl rfl rfl (zco hx (by omega)) ?_;refine zo ((vg rfl (by simp) rfl rfl).sub (zI (n:=(((limb a i*2^(k%32)+c)%4294967296:Nat):Int)) (by rw [Vl (by omega) (by omega),hu3]))) ?_;refine Fi (xj [(limb a i*2^(k%32)+c)%4294967296] rfl rfl (by decide) rfl (by simp) rfl rfl rfl) ?_;refine FL 0 rfl rfl rfl rfl hq (by rw [yX,hln]) fun q35 hq35=>?_;refine Fi ((zC rfl rfl).sub (zI (n:=(((limb a i*2^(k%32)+c)/4294967296:Nat):Int)) (by rw [hu4]))) ?_;refine zA ?_;refine Fh ?_;refine⟨i+1,q35,(limb a i*2^(k%32)+c)/4294967296,out++[(limb a i*2^(k%32)+c)%4294967296],⟨by omega,hq35,hu2,vV hlo (by omega),by simp [hln];omega,?_⟩,by omega,am (aa rfl (aa rfl (aa rfl (aa rfl (aa rfl (aa rfl trivial)))))) (by rw [List.flatMap_append];rfl)⟩;rw [uD,hln,xO,show k/32+(i+1)=k/32+i+1 by omega,xw];exact mK (Nat.pow_add _ _ _) hval):p:=h
theorem Hf (h:p:=by refine Fi (Ww rfl rfl rfl (by omega)) ?_;refine Fi (yO rfl rfl (wrap_i64 (by omega) (by omega))) ?_;refine Do (Lib.bitLen x) ?_;exact zj zt):p:=h
theorem Hg (h:p:=by apply zJ;refine zz ?_;refine Fi ((zC rfl rfl).sub (zI (n:=((v:Nat):Int)) (by omega))) ?_;refine Fi ((wt rfl rfl rfl (by omega) (by omega)).sub (zI (n:=((k%32:Nat):Int)) (by omega))) ?_;refine zA ?_;refine Fi ((wH rfl rfl rfl (by omega) (by simp [IntKind.bits];omega)).sub (zI (gy v (k%32)))) ?_;refine zo (yO (z:=((limb (dig (m/2^k)) j:Nat):Int)) rfl rfl (wh.trans (by rw [hdg];rfl))) ?_;refine Fi (xj [limb (dig (m/2^k)) j] rfl rfl (by decide) rfl (by simp) rfl rfl rfl) ?_;refine Fx 0 rfl rfl rfl rfl hq (by rw [yX,hln]) fun q45 hq45=>?_;refine Do (k/32+(j+1)) ?_;exact⟨j+1,q45,out++[limb (dig (m/2^k)) j],⟨by omega,hq45,vV hlo (yV (xe _) _),by simp [hln],fun t ht=>nA (f:=limb (dig (m/2^k))) hln hz ht⟩,by omega,am (aa rfl (aa rfl (aa rfl (aa rfl trivial)))) (by rw [List.flatMap_append];rfl)⟩):p:=h
theorem Hh (h:p:=by refine zH (vB [] [] [] [_] [_] hq5 (l:=Kd g.length (xD g fr)) (f:=gO) (Ul _ _) rfl (fun _ _=>rfl) (by unfold yE;omega)) ?_;refine zH (vB [] [] [] [_] [] hq4 (l:=csF g.length (xD g fr)) (f:=zP) (ja _ _) rfl (fun _ _=>rfl) (by unfold yE;omega)) ?_;refine xv 4 [2,3] _ (by kernel_rfl) (.cons_cons _ (.cons_cons _ .slnil)) ?_;refine FB ?_;refine .loc1n 1 (xf rfl rfl rfl rfl (by first | decide | (simp;done) | (simp;omega))) rfl rfl rfl ?_;rintro s1 H1 ⟨rfl,rfl⟩;refine⟨(.cons_cons _ (.cons_cons _ .slnil)),?_⟩;refine FB ?_;refine .loc1n 0 (xf rfl rfl rfl rfl (by first | decide | (simp;done) | (simp;omega))) rfl rfl rfl ?_;rintro s1 H1 ⟨rfl,rfl⟩;refine⟨(.cons_cons _ (.cons_cons _ .slnil)),?_⟩;refine ab.nil ?_;apply zM;exact zj zt):p:=h
theorem Hi (h:p:=by refine Fi ((show OpOK _ _ _ _ _ (zR 6 zL []) from (yt rfl rfl).sub (fun I v hv=>⟨none,0,hv,Nat.le_refl _,Nat.zero_le _,.inl rfl⟩))) ?_;exact zj zt):p:=h
theorem Hj (h:p:=by exact zj zt):p:=h
theorem Hk (h:p:=by have k43:=bne_eq_false_iff_eq.1 h43;have hP:=hP2.trans (MY (fun h=>h k43));apply zB;refine zH (vO (List.perm_middle (l₁:=[_,_]) (a:=_) (l₂:=[_])).symm) ?_;refine zH (vB [_] [_,_] [] [_] [_] hq1 (l:=rd.obs) (f:=Zm) rfl rfl (fun _ _=>rfl) (by unfold yE;omega)) ?_;refine zH (vB [_,_] [_] [] [] [_] hq2 (l:=rd.que) (f:=ZP) rfl rfl (fun _ _=>rfl) (by unfold yE;omega)) ?_;apply zr;(iterate 3 refine zz ?_);refine Fi ((show OpOK _ _ _ _ _ (zl [robS rd.rob,zR 1 Zm rd.obs,zR 12 ZP rd.que]) from zE 0 rfl rfl rfl rfl rfl).sub lZ) ?_;refine zj ?_;exact⟨_,[],.many (.cons (.agg 1 inferInstance rfl rfl rfl rfl) (.cons (.tmp rfl) .nil)),List.nil_sublist _,by rw [hP];rfl,rfl⟩):p:=h
theorem Hl (h:p:=by have k43:=MV.1 h43;have hP:=hP2.trans (MX k43);refine xv 6 [5] _ (by kernel_rfl) (.cons_cons _ (.cons_cons _ (.cons_cons _ (.cons _ .slnil)))) ?_;refine FC ((yQ rfl rfl rfl).sub Wi) ?_;refine .loc1n 3 (xf rfl rfl rfl rfl (by first | decide | (simp;done) | (simp;omega))) rfl rfl rfl ?_;rintro s1 H1 ⟨rfl,rfl⟩;refine⟨(.cons_cons _ (.cons_cons _ (.cons_cons _ (.cons _ .slnil)))),?_⟩;refine ab.nil ?_;refine Fh ?_;refine zj ?_;exact⟨_,[],.many (.cons (.agg 3 inferInstance rfl rfl rfl rfl) (.cons (.tmp rfl) .nil)),List.nil_sublist _,by rw [hP];rfl,rfl⟩):p:=h
theorem Hm (h:p:=by refine zj ?_;exact⟨_,[_],.one (.tmp rfl),List.Sublist.refl _,rfl,rfl⟩):p:=h
theorem Hn (h:p:=by exact zj (zu (e:=by first | (rw [hb.2,hb.1,show (hp&&decide (0<0))=false by simp];rfl) | (rw [h7x0,k24];rfl)))):p:=h
theorem Ho (h:p:=by intro h i D e c hc hInv;exact hInv.elim):p:=h
theorem Hr (h:p:=by (iterate 14 refine zq ?_);refine zz ?_;refine ae.ghost _ rfl (zF (List.sublist_cons_self _ _)) ?_;apply zM;refine Fu ?_;exact⟨n2,by rw [g7,hE,List.length_append,List.length_append,hC,hn2,hn];simp only [List.length_nil];omega,MM⟩):p:=h
theorem Hs (h:p:=by obtain⟨r,hr⟩:∃ r,s.2.1[g]? =some r:=⟨_,List.getElem?_eq_getElem (by omega)⟩;have hrl:=h.orl _ (List.mem_of_getElem? hr);have hsu:=nJ hr;refine zo (yK (z:=(r.length:Int)-2) rfl rfl rfl (MW some (by omega)) (wrap_i64 (by omega) (by omega))) ?_;refine Fi ((Yb rfl rfl rfl).sub (zI (n:=((r.length-2:Nat):Int)) (by omega))) ?_;refine Do (trisN s (g+1)) ?_;refine Do (g+1) ?_;exact⟨g+1,⟨by omega,by omega⟩,by omega,MM⟩):p:=h
theorem Ht (h:p:=by refine Fi ((yt rfl rfl).sub Zz) ?_;exact zj (zu (e:=by rw [hb.1,hb.2]))):p:=h
theorem Hu (h:p:=by simp only [List.length_cons,List.range_succ_eq_map,List.map_cons,List.map_map,wpOpsIn,Nat.add_zero,h0];rw [xS hgd hs hg,MX rfl];refine (ho.eff hd (E:=E) (r:=r)) n I F a W _ Q hs fun S' I' F' a' W' hs' hk' hf=>?_;subst hk';have:=ih (k+1) hl' n Q I' F' a' W' hs' fun S'' I'' F'' a'' W'' h1 h2 h3=>hk S'' I'' F'' a'' W'' h1 h2 (hf.trans h3);rwa [show ((fun x=>k+x)∘Nat.succ)=(fun x=>k+1+x) from by funext x;simp;omega]):p:=h
theorem Hv (h:p:=by rintro e W' ⟨v,I',s,H',rfl,hQ,hsv,hm',hh',hfr⟩;exact k v I' W' s H' hQ hfr hm' hh' hsv):p:=h
theorem Hw (h:p:=by refine zj ?_;exact⟨_,[],.many (.cons (.agg 3 inferInstance rfl rfl rfl rfl) (.cons (.tmp rfl) .nil)),List.nil_sublist _,by rw [hP];rfl,rfl⟩):p:=h
theorem Hx (h:p:=by refine zo ((show OpOK _ _ _ _ _ (zl (zP 0)) from zb rfl rfl (wK (n:=0) (by decide) (by decide)))) ?_;refine Fi ((show OpOK _ _ _ _ _ (zR 1 ZF []) from (yt rfl rfl).sub fY)) ?_;exact zj (zu (e:=by rw [hL];rfl))):p:=h
theorem Hy (h:p:=by refine Fm fun b4=>?_;refine wW 9 (by kernel_rfl) ?_;refine zg ?_;refine Fk (wT hs) ?_;refine Fk (wT hs) ?_;refine FL 1 rfl rfl rfl rfl hq (by rw [uI];simp;omega) fun q20 hq20=>?_;refine zz ?_;apply zM;refine Fv ?_;refine Do (i+1) ?_;exact⟨i+1,q20,⟨by omega,hq20⟩,by omega,am (aa rfl (aa rfl (aa rfl (aa rfl (trivial))))) (by rw [htk,List.flatMap_append];rfl)⟩):p:=h
theorem Hz (h:p:=by exact zj (zu (e:=by first | (rw [JS hf,MX hok,MX (Or.inr hok)]) | (rw [MY (show ¬(s=[]\/wr s=true) by rw [hbad];simp [hs0])])))):p:=h
theorem HA (h:p:=by simp only [execOp,hop,resolve,hv,Deferred.ofValue,Sem.run_bind,Sem.run_pure,Result.andThen_ok,invoke,Array.empty_append,e,hs.enters]):p:=h
theorem HB (h:p:=by rwa [show ((fun x=>k+x)∘Nat.succ)=(fun x=>k+1+x) from by funext x;simp;omega]):p:=h
theorem HC (h:p:=by exact⟨_,[_],.none,List.Sublist.refl _,rfl,rfl⟩):p:=h
theorem HF (h:p:=by have hne:¬ (c=0/\Xh q=0):=fun h=>k16 (by rw [he,MX h.1,h.2]);apply zr;refine Fi ((show OpOK _ _ _ _ _ (zl (qsC ([],[],[]))) from (yQ rfl rfl (by kernel_rfl)).sub Wi)) ?_;exact zj (zu (e:=by by_cases h0:c=0;rw [MX h0,MY (fun h=>hne ⟨h0,h⟩)];rw [MX h0] at he;rw [he];rfl;rw [MY h0] at he ⊢;rw [he];rfl))):p:=h
theorem HG (h:p:=by refine Fv ?_;refine Do (g+1) ?_;exact⟨g+1,⟨by omega,hno1⟩,by omega,by rw [hln];exact MM⟩):p:=h
theorem HH (h:p:=by apply zK;apply zi;apply zN;apply zr;refine Fi ((zC rfl rfl).sub (yz (c:=false) rfl)) ?_;refine xt rfl rfl ?_;apply zr;refine Fi ((yQ rfl rfl rfl).sub Wi) ?_;refine zj ?_;exact⟨_,[],.many (.cons (.agg 0 inferInstance rfl rfl rfl rfl) (.cons (.tmp rfl) .nil)),List.nil_sublist _,by rw [hP];rfl,rfl⟩):p:=h
theorem HI (h:p:=by exact zj (zu (e:=by show zp false=_;rw [hfe];exact (MW zp (Bool.eq_false_iff.2 fun h=>by simp only [Bool.and_eq_true,decide_eq_true_eq] at h;omega)).symm))):p:=h
theorem HJ (h:p:=by refine Fl rfl rfl (wK (n:=0) (by decide) (by decide)) ?_;refine FL 1 rfl rfl rfl rfl hq (by rw [yG (st:=3) (fun _=>rfl),hel]) fun q33 hq33=>?_;refine zg ?_;apply zK;refine Fv ?_;refine Do (g+1) ?_;exact⟨g+1,q33,⟨by omega,hq33⟩,by omega,MN (by rw [hms,hz,List.flatMap_append];rfl)⟩):p:=h
theorem HK (h:p:=by have hln:=zdh hrd;rw [hrd] at hr2 ⊢;refine Fh ?_;refine Do (g+1) ?_;exact⟨g+1,rd2,qo2,qq2,⟨by omega,hgs.trans hrd,hr2.1,hr2.2,by omega,by omega⟩,by omega,am (aa rfl (aa rfl (aa rfl (xm rfl (by rw [hok];rfl) (aa rfl (aa rfl (trivial))))))) rfl⟩):p:=h
theorem HM (h:p:=by refine zz ?_;refine Fi ((xp rfl rfl rfl).sub (zI (n:=(if q=0 then 30 else 0)) (by by_cases h:q=0;rw [MX h,MX (by rw [h];exact Nat.mul_zero _)];rw [MY h,MY (Nat.mul_ne_zero p.den_nz (fun h0=>h (Rat.num_eq_zero.1 (Int.natAbs_eq_zero.1 h0))))]))) ?_;exact zj (zu (e:=by rw [<-mB];rfl))):p:=h
theorem HO (h:p:=by refine Fv ?_;refine Do (g+1) ?_;exact⟨g+1,(by omega:g+1<=l.length),by omega,by rw [hek];exact am (aa rfl (aa rfl (aa rfl (aa rfl (aa rfl (aa rfl (aa rfl (aa rfl (aa rfl trivial))))))))) rfl⟩):p:=h
theorem HQ (h:p:=by rw [List.flatMap_def];exact ZD (by intro d hd;obtain⟨y,hy,rfl⟩:=List.mem_map.1 hd;exact hf y hy) (by rw [List.getElem?_map,hx];rfl) hk):p:=h
theorem HR (h:p:=by obtain⟨i,hi⟩:=List.getElem?_of_mem hp;have h1:=Xe hi;have h2:=UO xs (i+1);unfold cap;omega):p:=h
theorem HT (h:p:=by apply zB;refine Fv ?_;refine Do (n+1) ?_;exact⟨n+1,(by omega:n+1<=(zV m).length),by omega,by rw [gK hc,show ei (Ke m (zV m) n) c n=Ke m (zV m) n from (MY (fun h=>k24 (by omega))).trans (MY (fun h=>k24 (by omega)))];exact MM⟩):p:=h
theorem HV (h:p:=by apply zB;refine Fs (zF (h':=[]) (List.nil_sublist _)) ?_;refine Do (g+1) ?_;exact⟨g+1,(by omega:g+1<=xs.length),by omega,rfl,aa rfl (aa rfl (aa rfl (aa rfl (aa rfl (trivial))))),wq _,rfl,by simp only;rw [h15]⟩):p:=h
theorem HW (h:p:=by apply zr;refine zz ?_;refine zo ((wI rfl rfl).sub (zI (n:=(n:Nat)) (by rw [hn]))) ?_;refine Fi ((zZ rfl rfl rfl rfl).sub (yz (c:=false) (by rw [hk1];rfl))) ?_;refine Fu ?_;refine Do (g+1) ?_;exact⟨g+1,by omega,by omega,MM⟩):p:=h
theorem HX (h:p:=by refine zz ?_;apply zM;refine Fv ?_;refine Do (m+1) ?_;exact⟨m+1,q18,⟨by omega,hq18⟩,by omega,am (aa rfl (aa rfl (aa rfl (aa rfl (aa rfl (trivial)))))) (by rw [hms,List.flatMap_append];rfl)⟩):p:=h
theorem HY (h:p:=by refine zA ?_;refine zg ?_;exact⟨g-1,⟨by omega,fun j h1 h2=>by by_cases h:g<=j;exact hz j h h2;rw [show j=g-1 by omega];omega⟩,by omega,az (xm rfl (MW (ze .i64) (by omega)) (aa rfl (aa rfl (aa rfl trivial))))⟩):p:=h
theorem HZ (h:p:=by apply zB;apply zr;(iterate 2 refine zz ?_);refine Fi ((zZ rfl rfl rfl rfl).sub (yz (c:=decide (kin (pv (ra xs i)) (pv (rb xs i)) (pv (ra xs k)) (pv (rb xs k))=0)) (by rw [hsk];exact zbM))) ?_;exact zj (zu (e:=by rw [zeP (by omega)]))):p:=h
theorem H9 (h:p:=by refine h.mono ?_;rintro e W' ⟨v,I',F',s,H',i',h1,h2,_,h4,_,h6,h7,h8⟩;exact⟨v,I',F',i',h1,h2,h6,fun b hb=>⟨(h7 b hb).1,(h7 b hb).2.1⟩,h4,h8.weaken (fun b hb=>hb.elim (fun h=>by simp [bs] at h) id) fun b hb=>.inl (.inr hb)⟩):p:=h
theorem Ia (h:p:=by refine Do (i+1) ?_;exact⟨i+1,E,⟨hE,by omega,by omega,hEp,by rw [<-hst,<-zfd lt (by omega)];exact hDo⟩,by omega,am (aa rfl (aa rfl (aa rfl (aa rfl (aa rfl trivial))))) rfl⟩):p:=h
theorem Ib (h:p:=by rintro s2 H2 ⟨rfl,rfl⟩;refine⟨(.cons _ .slnil),?_⟩;refine ab.nil ?_;refine zg ?_;refine zj ?_;exact⟨_,[_],.many (.cons (.tmp rfl) (.cons (.tmp rfl) .nil)),List.Sublist.refl _,by rw [hR] <;> rfl,by rw [hR] <;> rfl⟩):p:=h
theorem Ic (h:p:=by refine zj ?_;exact⟨_,[],.one (.tmp rfl),List.nil_sublist _,none,none,by rw [hNo];exact⟨trivial,rfl,rfl⟩⟩):p:=h
theorem Ie (h:p:=by refine zw ?_;refine ae.ghost _ rfl (zF (List.Sublist.cons _ (List.Sublist.cons _ (List.Sublist.refl _)))) ?_;apply zM;exact (by rw [hsu,h8x0,h8x8];exact am (aa rfl (aa rfl trivial)) rfl)):p:=h
theorem Ig (h:p:=by apply zr;refine Fi ((yt rfl rfl).sub (UY (l:=if wr s then wA 10 (Lib.trimSuffix s [10]) else []) (by rw [hbad];rfl))) ?_;exact zj (zu (e:=by rw [MY (show ¬(s=[]\/wr s=true) by rw [hbad];simp [hs0])]))):p:=h
theorem Ih (h:p:=by rw [ee] at h;exact h.args ⟨fun I v hv=>XE [(b,l,d),(c,m,e)] hv,trivial⟩):p:=h
theorem Ii (h:p:=by have hx':∀ p,p=x.1\/p=x.2->p∈vC q:=fun p hp=>List.mem_append_right _ (List.mem_append_right _ (List.mem_flatMap.2 ⟨x,hx,by simpa using hp⟩));exact⟨hb _ (hx' _ (.inl rfl)),hb _ (hx' _ (.inr rfl))⟩):p:=h
theorem Ij (h:p:=by refine Fu ?_;exact⟨j1,by omega,by omega,hJ1.symm.trans (Num.down_stop (.inl (by omega))),MM⟩):p:=h
theorem Ik (h:p:=by refine Fu ?_;exact⟨i1,by omega,by omega,hI1.symm.trans (Num.up_stop (.inl (by omega))),MM⟩):p:=h
theorem Il (h:p:=by refine Fi ((XC (lo:=1) (hi:=l.length) rfl rfl (.inr ⟨_,_,rfl,rfl⟩) (.inl ⟨rfl,rfl⟩) (by omega) (Nat.le_refl _)).sub (WS (m:=tl) (by rw [List.take_length];exact hdrop))) ?_;exact MM):p:=h
theorem Im (h:p:=by rcases (show g=0\/g=1 by omega) with rfl | rfl <;> rfl):p:=h
theorem Io (h:p:=by rw [e] at h;exact h.args ⟨fun I v hv=>XE [(b,l),(c,m)] hv,trivial⟩):p:=h
theorem Ip (h:p:=by refine Do (g-1) ?_;exact⟨g-1,⟨by omega,fun i hi=>by by_cases h:g<=i;exact hz i h;rw [show i=g-1 by omega];exact h1⟩,by omega,az (aa rfl (aa rfl trivial))⟩):p:=h
theorem Iq (h:p:=by simp [IntKind.wrap,IntKind.bits,IntKind.signed];omega):p:=h
theorem Ir (h:p:=by rw [show (4294967296:Nat)=2^32 from rfl,<-Nat.pow_mul];exact Nat.pow_le_pow_right (by decide) hs):p:=h
theorem Is (h:p:=by refine Fl rfl rfl (ZN (n:=0) (q:=0) (by decide) (by decide)) ?_;exact zj (zu (e:=by rw [hn];rfl))):p:=h
theorem It (h:p:=by refine hf2.weaken (fun k hk=>by subst hk;simp [bs]) fun k hk=>.inl ?_;simp [bs] at hk;exact hk):p:=h
theorem Iu (h:p:=by exact⟨i+1,_,⟨by omega,Zy hlo (by omega),by rw [List.length_set];exact hln,g1,g2⟩,by omega,am (aa rfl (aa rfl (aa rfl (aa rfl trivial)))) rfl⟩):p:=h
theorem Iv (h:p:=by refine Do (g+1) ?_;exact⟨g+1,(by omega:g+1<=xs.length),by omega,MM⟩):p:=h
theorem Iw (h:p:=by obtain⟨i,_,rfl⟩:=List.mem_map.1 h;rfl):p:=h
theorem Ix (h:p:=by refine Fi (xj [1] rfl rfl (by decide) rfl (by simp) rfl rfl rfl) ?_;exact zj (zu (e:=by rw [<-hq];show _=zl [zp (decide (n<0)),zD (dig n.natAbs),zD (dig 1)];rw [km];rfl))):p:=h
theorem Iy (h:p:=by apply zr;refine Fi ((yt rfl rfl).sub (UY (l:=if wr s then wA 10 (Lib.trimSuffix s [10]) else []) (by rw [hs0];rfl))) ?_;exact zj (zu (e:=by rw [MX (Or.inl hs0)]))):p:=h
theorem Iz (h:p:=by exact (by rw [h9x2,h9x7,h9x12];exact am (aa rfl (aa rfl (aa rfl (aa rfl (aa rfl (aa rfl (aa rfl trivial))))))) rfl)):p:=h
theorem IA (h:p:=by exact (by rw [h15x1,h15x7];exact am (aa rfl (aa rfl (aa rfl (aa rfl (aa rfl (aa rfl (aa rfl trivial))))))) rfl)):p:=h
theorem IB (h:p:=by apply zB;refine Fv ?_;refine Do (g+1) ?_;exact⟨g+1,(by omega:g+1<=ys.length),by omega,by rw [hG,List.length_append,hce];exact MM⟩):p:=h
theorem IC (h:p:=by refine zg ?_;refine zj ?_;exact⟨_,[_],.one (.tmp rfl),.refl _,b,c,(by rw [Nat.zero_add] at hq7;exact hq7),by rw [Nat.zero_add],by rw [Nat.zero_add];rfl⟩):p:=h
theorem ID (h:p:=by apply zr;refine ae.box rfl rfl rfl rfl rfl rfl fun b1=>?_;refine zg ?_;refine zj ?_;exact⟨_,[_],.one (.tmp rfl),List.Sublist.refl _,b1,rfl,rfl⟩):p:=h
theorem IE (h:p:=by refine Fi ((yt rfl rfl).sub (vz (l:=dig (if n=0 then 0 else m%n)) (by rw [MX hn0];exact aw))) ?_;exact zj (zu (e:=by simp only [MX hn0]))):p:=h
theorem IF (h:p:=by unfold yD;refine List.ext_getElem (by simp) fun i h1 h2=>?_;simp [Nat.mod_one]):p:=h
theorem IG (h:p:=by apply zr;refine Fi ((show OpOK _ _ _ _ _ (zl (qsC ([],[],[]))) from (yQ rfl rfl (by kernel_rfl)).sub Wi)) ?_;exact zj (zu (e:=by rw [hpe];rfl))):p:=h
theorem IH (h:p:=by apply zr;refine Fi ((yt rfl rfl).sub (UY (l:=if WG (wA 32 s) then wA 32 s else []) (by rw [hf];rfl))) ?_;exact zj (zu (e:=by rw [hf];rfl))):p:=h
theorem II (h:p:=by apply zM;refine zj ?_;exact⟨_,[_],.none,List.Sublist.refl _,rfl,⟨_,(hI.fin _ (hR.1) (hR.2)).1,(hI.fin _ (hR.1) (hR.2)).2,rfl⟩⟩):p:=h
theorem IJ (h:p:=by simp only [List.length_cons,List.length_nil];omega):p:=h
theorem IK (h:p:=by exact zj (zu (e:=by rw [bc (l:=ns) (by rw [<-show ns.take g=ns by rw [show g=ns.length by omega,List.take_length]];exact hn)]))):p:=h
theorem IL (h:p:=by exact zj (zu (e:=by rw [show vI n=[zp false,zD (dig n.natAbs)] by show [zp (decide (n<0)),_]=_;rw [MS (by omega)]];rfl))):p:=h
theorem IM (h:p:=by exact ((h0.o (fl:=fl) (caps:=caps)).frame [] [rowE none T st 0 []]).mono fun v H' ⟨H1,⟨e1,e2⟩,e3⟩=>⟨e1,by rw [e3,e2];rfl⟩):p:=h
theorem IP (h:p:=by exact zj (zu (e:=by rw [show vI n=[zp true,zD (dig n.natAbs)] by show [zp (decide (n<0)),_]=_;rw [MR (by omega)]];rfl))):p:=h
theorem IQ (h:p:=by simp only [execOp,hop,resolve,hv,Sem.run_bind,Sem.run_pure,Result.andThen_ok,invoke,e3,e2,callMethod,run_program,hmr,e,hs.enters]):p:=h
theorem IS (h:p:=by refine Fw 7 ?_;refine zj ?_;exact⟨_,[],.one (.agg 2 inferInstance rfl rfl rfl rfl),List.nil_sublist _,by rw [e1];rfl,rfl⟩):p:=h
theorem IT (h:p:=by exact⟨fun e=>M1 e (by decide),fun e=>M1 e (by decide)⟩):p:=h
theorem IU (h:p:=by apply zr;refine Fi ((yt rfl rfl).sub (vz (l:=dig (m-n)) (uv.2 (by omega)))) ?_;exact zj (zu (e:=by rw [MX hlt]))):p:=h
theorem IV (h:p:=by rintro s1 H1 ⟨rfl,rfl⟩;refine zg ?_;refine zj ?_;exact⟨_,[_],.one (.tmp rfl),List.Sublist.refl _,bn,rfl,rfl⟩):p:=h
theorem IW (h:p:=by exact zj (zu (e:=by simp only [MY hn0]))):p:=h
theorem IX (h:p:=by refine Fv ?_;refine Do (g+1) ?_;exact⟨g+1,(by omega:g+1<=2),by omega,by rw [hst];exact MM⟩):p:=h
theorem IY (h:p:=by exact Nat.lt_of_le_of_lt (Nat.mul_le_mul_left _ hsz) (Nat.mul_lt_mul_of_pos_right h.num (Nat.pow_pos (by decide)))):p:=h
theorem IZ (h:p:=by simp only [execOp,hop,resolve,hv,Deferred.ofValue,Sem.run_bind,Sem.run_pure,Result.andThen_ok,invoke,e,hs.enters]):p:=h
theorem I3 (h:p:=by apply List.map_congr_left;intro k _;simp [List.getD_eq_getElem?_getD,getElem!_def];cases zs[k%zs.length]? <;> rfl):p:=h
theorem I4 (h:p:=by rw [un hk,un (by omega)];exact uG fun j hj=>hsv j (by omega)):p:=h
theorem I5 (h:p:=by simp only [List.map_cons,List.map_nil,List.sum_cons,List.sum_nil,ha.val,hb.val,Nat.add_zero] at this;exact this):p:=h
theorem I6 (h:p:=by refine zj ?_;exact⟨_,[],.one (.agg 3 inferInstance rfl rfl rfl rfl),List.nil_sublist _,by rw [e2];rfl,rfl⟩):p:=h
theorem I7 (h:p:=by refine xq hS1 ?_;refine zg ?_;exact zj (zu (e:=by rw [hw]))):p:=h
theorem I8 (h:p:=by show (List.map _ (List.zip _ _)).length<=_;rw [List.length_map,List.length_zip];exact Nat.min_le_left _ _):p:=h
theorem I9 (h:p:=by refine zj ?_;exact⟨_,[_],.one (.tmp rfl),List.Sublist.refl _,by rw [hdl,hll],by rw [hdl,hll];rfl⟩):p:=h
theorem J0 (h:p:=by have:=mz e2 hd;exact Prod.ext (by show p.1=a.1+(b.1-a.1)*s;grind) (by show p.2=a.2+(b.2-a.2)*s;grind)):p:=h
theorem J1 (h:p:=by simp [Utf8.runeError]):p:=h
theorem J2 (h:p:=by exact⟨_,by rw [MX k12],am (aa rfl (aa rfl (aa rfl (trivial)))) rfl⟩):p:=h
theorem J3 (h:p:=by exact⟨_,by rw [MY k12],am (aa rfl (aa rfl (aa rfl (trivial)))) rfl⟩):p:=h
theorem J4 (h:p:=by refine zj ?_;exact⟨_,[_],.one (.tmp rfl),List.Sublist.refl _,by rw [<-hDo],by rw [<-hDo]⟩):p:=h
theorem J5 (h:p:=by unfold isAgg;simp only [Sem.run_bind,run_underlying hd,Result.andThen_ok];cases d <;> simp_all):p:=h
theorem J6 (h:p:=by obtain⟨i,hi⟩:=List.getElem?_of_mem hp;have h1:=Vo hi;have h2:=qZ xs (i+1);unfold cap;omega):p:=h
theorem J7 (h:p:=by have:=hc2 _ s this;simpa [Nat.add_assoc] using this):p:=h
theorem J8 (h:p:=by simp only [ge_iff_le,Bool.and_eq_true,decide_eq_true_eq] at h3;show 128<=_;simp only;omega):p:=h
theorem J9 (h:p:=by rw [uB (o:=o) (by rw [wu (by omega)];exact hk),uJ];congr 1;exact uG fun j hj=>xF (by omega)):p:=h
theorem K0 (h:p:=by exact⟨sv2,fun j hj=>h1 j (hj.elim (fun e=>by omega) fun h=>by have:=hLlt j h;omega),h2⟩):p:=h
theorem K3 (h:p:=by unfold Ld;simp only [Array.getD_eq_getD_getElem?,Array.getElem?_replicate];split <;> simp):p:=h
theorem K4 (h:p:=by refine Do (g+1) ?_;exact⟨g+1,⟨by omega,KN hx h16 hn⟩,by omega,MM⟩):p:=h
theorem K5 (h:p:=by rw [List.getElem?_map,List.getElem?_range h];rfl):p:=h
theorem K6 (h:p:=by rw [hz' _ (Nat.le_refl _),Nat.mul_zero] at hs;rw [xO,Nat.add_mul,Nat.mul_assoc];omega):p:=h
theorem K7 (h:p:=by refine Fl rfl rfl (xo (p:=p) (q:=q) (by omega)) ?_;exact zj (zu (e:=by rw [<-Vp]))):p:=h
theorem K8 (h:p:=by exact M1 (List.eq_nil_of_length_eq_zero (by have:0+l.length=0:=hq7;omega)) hne):p:=h
theorem K9 (h:p:=by rw [zbd h];exact List.set_eq_of_length_le (by rw [List.length_replicate];exact h)):p:=h
theorem Lc (h:p:=by exact .inr ⟨b,o,ha,fun i x hx=>h4 i (f x) (by rw [List.getElem?_map,hx];rfl)⟩):p:=h
theorem Le (h:p:=by simpa using this):p:=h
theorem Lf (h:p:=by rcases h with h | h <;> simp [h]):p:=h
theorem Lg (h:p:=by have e2:=MW (p* ·) e;simp only [Nat.mul_add,<-Nat.mul_assoc] at e2;omega):p:=h
theorem Lh (h:p:=by unfold uh;simp only;rw [Yl];split <;> (try rw [KY]) <;> exact List.length_map _):p:=h
theorem Li (h:p:=by unfold qj;exact xb (inferInstance:Bq (eY p.1 q.1+eY p.2 q.2) _) (by omega)):p:=h
theorem Lj (h:p:=by obtain⟨e',f,hc⟩:=h.mem _ _ hb;exact⟨e',f,(wj _ _ (yv hc)).trans hc⟩):p:=h
theorem Lk (h:p:=by refine zg ?_;exact Hj):p:=h
theorem Ll (h:p:=by refine Fi ((wH rfl rfl rfl (by omega) (by simp [IntKind.bits])).sub (zI (zuB _))) ?_;refine zA ?_;refine zg ?_;refine Fi (yO rfl rfl (Wq (by omega) (by omega))) ?_;have hb:=vW (x:=x/65536/256) (by omega);have e1:=Lib.bitLen_shift16 x (by omega) (by omega);have e2:=Lib.bitLen_shift8 (x/65536) (by omega) (by omega);exact Hf):p:=h
theorem Lm (h:p:=by refine Fi ((wH rfl rfl rfl (by omega) (by simp [IntKind.bits])).sub (zI (zuB _))) ?_;refine zA ?_;refine zg ?_;refine Fi (yO rfl rfl (Wq (by omega) (by omega))) ?_;have hb:=vW (x:=x/256) (by omega);have e1:=Lib.bitLen_shift8 x (by omega) (by omega);exact Hf):p:=h
theorem Ln (h:p:=by refine aB 0 rfl rfl rfl rfl (Wc (by unfold cap;omega)) rfl rfl rfl ?_;rintro s1 H1 ⟨rfl,rfl⟩;apply zM;exact HC):p:=h
theorem Lo (h:p:=by have hbad:wr s=false:=h24;apply zB;apply zr;refine Fi ((yt rfl rfl).sub (UY (l:=if wr s then wA 10 (Lib.trimSuffix s [10]) else []) (by rw [hbad];rfl))) ?_;exact Hz):p:=h
theorem Lp (h:p:=by refine zz ?_;(iterate 2 refine zz ?_);refine Fi ((zZ rfl rfl rfl rfl).sub (yz (c:=decide (0<Kz tl)) (decide_eq_decide.2 (by have:=yH (n:=Kz tl);omega)))) ?_;exact Hn):p:=h
theorem Lq (h:p:=by refine Fi (yO rfl rfl (Wq (by omega) (by omega))) ?_;have hb:=vW (x:=x/65536) (by omega);have e1:=Lib.bitLen_shift16 x (by omega) (by omega);exact Hf):p:=h
theorem Lr (h:p:=by have hb:=Zj (l:=l) (by unfold QX;rw [show decide (l.length<=60)=false from MS (by omega)];simp);apply zr;exact Ht):p:=h
theorem Ls (h:p:=by refine zg ?_;refine ae.buildRow rfl rfl rfl rfl rfl rfl (by decide) rfl (.inl rfl) rfl rfl fun b35 hb35=>?_;refine zg ?_;exact Hd):p:=h
theorem Lt (h:p:=by refine Fi ((zb rfl rfl gx).sub (yz (c:=false) (MS fun h=>by have:=h.2;omega))) ?_;refine Ft ?_;exact Hx):p:=h
theorem Lu (h:p:=by refine aB 0 rfl rfl rfl rfl (YG (by omega)) rfl rfl rfl ?_;rintro s1 H1 ⟨rfl,rfl⟩;apply zM;exact HC):p:=h
theorem Lw (h:p:=by refine Fl rfl rfl (vw (by unfold cap;omega)) ?_;exact Hj):p:=h
theorem Lx (h:p:=by refine Fi (yO rfl rfl (Wq (by omega) (by omega))) ?_;have hb:=vW (x:=x) (by omega);exact Hf):p:=h
theorem Ly (h:p:=by apply zM;exact Hj):p:=h
theorem Lz (h:p:=by have hb:=Zj (JR k24);apply zr;refine Fi ((yQ rfl rfl rfl).sub zk7) ?_;exact Hn):p:=h
theorem LA (h:p:=by have hP:=hP0 hbad;apply zr;refine Fi ((yQ rfl rfl rfl).sub Wi) ?_;exact Hw):p:=h
theorem LB (h:p:=by refine xt rfl rfl ?_;apply zr;exact Ht):p:=h
theorem LC (h:p:=by (iterate 2 refine zo (zb rfl rfl (UT (p:=0) (q:=0) (by decide) (by decide) (by decide) (by decide))) ?_);exact Lk):p:=h
def MO:=@of_decide_eq_true
def MP:=@of_decide_eq_false
def MQ:=@decide_eq_true_iff
def MR:=@decide_eq_true
def MS:=@decide_eq_false
def MT:=@beq_eq_false_iff_ne
def MU:=@beq_iff_eq
def MV:=@bne_iff_ne
def MW:=@congrArg
def MX:=@if_pos
def MY:=@if_neg
def MZ:=@dif_pos
def M0:=@dif_neg
def M1:=@absurd
def M3:=@eq_comm
def M4:=@Classical.byContradiction
