/- Part 1 of the laws' proofs (short forms by wip/shrink2.py). -/
import Derived.Test.YtfmoknlmaldmlaaGreatRows
import Derived.WalkSpells
import Derived.WalkLawsBesides
import Derived.Lib.Hide
import Derived.Laws.AppendOwnNone
import Derived.Laws.CopyOwn
import Derived.RangeFuncRecord
import Derived.Lib.OwnBridge
import Derived.Sort.OwnSortedInts
import Derived.ProofKit
import Derived.Shelf.Small.Strs
import Derived.Shelf.Strings.Shaped
import Derived.Shelf.Sort.Plain
import Derived.Shelf.Slices.Turned
import Derived.Shelf.Slices.Clone
import Derived.Shelf.Slices.Cells
import Derived.Shelf.Slices.In.SortNone
import Derived.Shelf.Slices.Empties
import Derived.Shelf.SlSortCmp.NoneTotal
import Derived.Shelf.Spec.SlicesInsertGrow
set_option linter.defProp false
set_option linter.unnecessarySimpa false
set_option linter.unusedSectionVars false
set_option linter.unusedVariables false
set_option linter.unusedSimpArgs false
namespace Go.Proofs.YtfmoknlmaldmlaaGreat
open Go.RowKit Go.Proofs.Tryz
abbrev A8.{u}:=List.{u}
abbrev AL.{u}:=Option.{u}
abbrev BI:=ByteArray
abbrev Ai:=Value
abbrev BG:=World
abbrev BQ.{u}:=Array.{u}
abbrev Bg:=Operand
abbrev CS:=Program
abbrev Bj:=TypeId
abbrev AQ:=Bool
abbrev AP (n:Nat):Nat×AQ:=(n,true)
section
variable {p:Prop}
def D7 (h:p:=by exact fun h=>AY<|DN):p:=h
def Hl (h:p:=by exact BZ.exit<|AY<|DN):p:=h
def Xp (h:p:=by exact Le AA<|Le AA<|Le AA<|Le AA<|trivial):p:=h
def aAB (h:p:=by exact .nil<|Or.inl ⟨(),(Ci h).symm,(⟨[],[],trivial,AA,AA,AA⟩)⟩):p:=h
def aOQ (h:p:=by exact .aW<|AY<|BZ.ret<|by rw[←Ci h];exact⟨[EL ({ aZ with Content:=j })],[],⟨⟨1,Au (Am ({ aZ with Content:=j })),true,29,AA,AA,AA,CY,ED AA,Zi,AA⟩,trivial⟩,AA,AA,AA⟩):p:=h
def TF (h:p:=by exact BZ.exit<|AY<|Z8):p:=h
def aTt (h:p:=by exact fun h=>BZ.ret<|⟨.inr rfl,(Xe I).slots,(.ready,none),.normal,AA,rfl,(K3 _ ⟨q,u,Ag 16 32 [AP 2,AP 6],h⟩)⟩):p:=h
def aSd (h:p:=by exact BZ.ret<|⟨.inr rfl,(XB rO j).slots,(.ready,none),.normal,AA,rfl,(K3 _ ⟨v7,v8,Ag 21 80 [AP 0,AP 1],h⟩)⟩):p:=h
def aAY (h:p:=by exact .nil<|j _ _ _ (Ag 16 449 [AP 0]) h):p:=h
def ZA (h:p:=by exact AY<|AY<|DN):p:=h
def aHB (h:p:=by exact fun h=>BZ.exit<|K4 _ ⟨Ag 18 2 [],h⟩):p:=h
def Ql (h:p:=by exact Bc h D7 fun h=>AY<|DN):p:=h
end
section
variable {p:Prop}
def AA (h:p:=by kernel_rfl):p:=h
def AB (h:p:=by omega):p:=h
def DN (h:p:=by cases h;exact .ret (FM [])):p:=h
def Bf (h:p:=by decide):p:=h
def BR (h:p:=by simp):p:=h
def EO (h:p:=by cases h;kernel_rfl):p:=h
def Et (h:p:=by simp;omega):p:=h
def Ic (h:p:=by simp only[Om];omega):p:=h
def Gt (h:p:=by simpa using hi):p:=h
def YX (h:p:=by rw[←Ci h];exact⟨[],[AP 0],trivial,by kernel_rfl,by kernel_rfl,by kernel_rfl⟩):p:=h
def Na (h:p:=by cases h;exact .ret (FM [AP 2])):p:=h
def Z8 (h:p:=by cases h;exact .ret (FM [AP 0])):p:=h
def KW (h:p:=by simpa using z):p:=h
def MP (h:p:=by obtain⟨a,_,rfl⟩:=Ea.1 j;rfl):p:=h
def XR (h:p:=by cases h;exact .ret (FM [AP 0,AP 1,AP 2,AP 3])):p:=h
def Rx (h:p:=by cases h;exact .ret (FM [AP 1])):p:=h
def MX (h:p:=by simp[List.getD,hi]):p:=h
def Gz (h:p:=by cases h):p:=h
def IL (h:p:=by simp at h):p:=h
def wS (h:p:=by have :=hb (k+1) y (by simpa using z);simpa[Ru,Ug 1 k]using this):p:=h
def LQ (h:p:=by rw[EP];omega):p:=h
def LC (h:p:=by simpa using h):p:=h
def wU (h:p:=by have :=hl (k+1) (by simpa using hk);simpa[Ru,Ug 1 k]using this):p:=h
def uY (h:p:=by have :=M (k+1) y (by simpa using z);simpa[Ru,Ug 1 k]using this):p:=h
def mO (h:p:=by have :=O (k+1) y (by simpa using z);simpa[Ru,Ug 1 k]using this):p:=h
def OU (h:p:=by intro j;cases j):p:=h
def MS (h:p:=by decide+kernel):p:=h
def Pn (h:p:=by rw[←hm.hlen];simp):p:=h
def OW (h:p:=by simpa using hl):p:=h
def Qe (h:p:=by intro hh;cases hh):p:=h
def aV (h:p:=by cases h;exact .ret (FM [AP 3])):p:=h
def V9 (h:p:=by simp only[Qo];omega):p:=h
def Oh (h:p:=by simpa using q):p:=h
def Xk (h:p:=by first|exact u|kernel_rfl):p:=h
def ZG (h:p:=by obtain⟨a,_,rfl⟩:=Ea.1 hx;rfl):p:=h
def Qw (h:p:=by simpa using j):p:=h
def aM2 (h:p:=by rw[←Ci h];exact⟨[],[AP 0,AP 1,AP 2,AP 3],trivial,by kernel_rfl,by kernel_rfl,by kernel_rfl⟩):p:=h
def kT (h:p:=by simp[Act.eval,Array.replicate]):p:=h
def Qz (h:p:=by rw[tX];omega):p:=h
def bP (h:p:=by simp only[EP,Om];omega):p:=h
def SA (h:p:=by simpa using I):p:=h
def Wq (h:p:=by rw[IV]at h;exact h):p:=h
def Y4 (h:p:=by rw[IV];exact aJV hs):p:=h
def Q9 (h:p:=by simp at hi):p:=h
def QI (h:p:=by rw[agi];rfl):p:=h
def Wx (h:p:=by intro z;cases z):p:=h
def Vd (h:p:=by intro q;cases q):p:=h
def Sz (h:p:=by simpa using e):p:=h
def aCA (h:p:=by have :Aw=9223372036854775808:=rfl;omega):p:=h
def oz (h:p:=by simpa using(hl 0 (by simp)).symm):p:=h
def UE (h:p:=by simpa using L):p:=h
def V7 (h:p:=by simpa using J):p:=h
def aNL (h:p:=by rintro s ⟨hs,h⟩;exact BZ.sub hs<|Ac<|AY<|by cases h;exact .ret (FM [])):p:=h
def Zi (h:p:=by intro u;cases u):p:=h
def WC (h:p:=by simpa using u):p:=h
def aKa (h:p:=by rw[alloc_eq_grow,alloc_eq_grow,grow_grow];rfl):p:=h
def TA (h:p:=by simp[flat]):p:=h
def aKi (h:p:=by by_cases h:(s.size:Int)>32<;>simp[h]<;>omega):p:=h
def aKL (h:p:=by by_cases h:(s.size:Int)<1<;>simp[h]<;>omega):p:=h
def aO7 (h:p:=by simpa using hk):p:=h
def aHO (h:p:=by have :=hinj j j' o o' t u ho' q hd';omega):p:=h
def xM (h:p:=by simp only[aQq];split<;>omega):p:=h
def U1 (h:p:=by simp[hi]):p:=h
def ZR (h:p:=by simp[hm.hlen]):p:=h
def lN (h:p:=by rw[aGE j L];simp):p:=h
def aE9 (h:p:=by simpa using M 0 x (by simp)):p:=h
def iF (h:p:=by rw[j]at h;exact h):p:=h
def dG (h:p:=by simp at J;omega):p:=h
def aFr (h:p:=by simp[Array.getD,hil]at hf ⊢;exact hf):p:=h
def aIU (h:p:=by obtain⟨b,_,rfl⟩:=Ea.1 hy;exact hc b):p:=h
def aFw (h:p:=by obtain⟨a,_,rfl⟩:=Ea.1 hy;exact hc a):p:=h
def vX (h:p:=by unfold maxLen;omega):p:=h
def aBk (h:p:=by simp[binOp,Op.intBits,Ef]):p:=h
def aJe (h:p:=by rw[L rfl b (by rw[q];rfl)];exact u):p:=h
def aKw (h:p:=by cases h;exact .ret (FM [AP 4])):p:=h
def og (h:p:=by simp[underlying,ht]):p:=h
def aSf (h:p:=by rw[Cm]at hi;rw[V5 _ _ _ hi];exact UR q j u (h i hi)):p:=h
def aaL (h:p:=by subst e;have h:=i;exact DK.aW<|by cases h;kernel_rfl):p:=h
def dZ (h:p:=by simpa using q2):p:=h
def yU (h:p:=by simp[Act.eval,Act.put]):p:=h
def xu (h:p:=by rw[IB];omega):p:=h
def kK (h:p:=by rw[Cm];omega):p:=h
def aGj (h:p:=by simpa using O 0 σ.ents (by simp)):p:=h
def jy (h:p:=by simpa using M):p:=h
def aQR (h:p:=by rw[Cm]at hi;rw[V5 _ _ _ hi];exact(h i hi).um π):p:=h
def aS3 (h:p:=by rw[M]at ho';obtain rfl:=Ch ho';exact(O m hm).1):p:=h
def Rep (h:p:=by simp[Op.bytesLess]at h):p:=h
def uI (h:p:=by intro h;cases h):p:=h
def aSm (h:p:=by simpa using(by omega:i<(ops.map a.eval).size)):p:=h
def zL (h:p:=by rw[World.cell?,j];rfl):p:=h
def aAK (h:p:=by constructor<;>omega):p:=h
def aLz (h:p:=by rw[ha];exact EY (LZ _ _) (by rw[IB];omega)):p:=h
def Fin (h:p:=by have :=h.len';omega):p:=h
def qY (h:p:=by simpa using hs):p:=h
def aOy (h:p:=by cases h;exact .ret (FM [(0,false),AP 1])):p:=h
def aQw (h:p:=by have :=Fe.2 hm;rw[h.fresh]at this;cases this):p:=h
def aFU (h:p:=by rw[EP];simp only[Om];omega):p:=h
def aQm (h:p:=by cases h;exact .ret (FM [AP 0,AP 1])):p:=h
def aGv (h:p:=by simp[sizeOf,typeInfo,hi,hs]):p:=h
def gI (h:p:=by rw[hl];rfl):p:=h
def aCL (h:p:=by simp[underlying,hu]):p:=h
def rD (h:p:=by simpa using h2):p:=h
def aFY (h:p:=by first|exact L|kernel_rfl):p:=h
def aTr (h:p:=by simp[Value.cells,List.getD,Array.getD,z]):p:=h
def ZC (h:p:=by simp[hl]):p:=h
def Mid (h:p:=by simp[underlying,q]):p:=h
def nZ (h:p:=by simpa using Y):p:=h
def aHq (h:p:=by rw[hb1];exact(G7.1 M).1):p:=h
def aKE (h:p:=by rw[BK.aav]at J;exact J):p:=h
def yx (h:p:=by simp[List.getD,j]):p:=h
def aCS (h:p:=by rw[Cm];exact hi):p:=h
def yM (h:p:=by simp[List.getD,q]):p:=h
def aRf (h:p:=by unfold QD at j;rw[E9 hl]at j;exact j):p:=h
def aGI (h:p:=by simp[underlying,hE.und]):p:=h
def ZH (h:p:=by cases h'):p:=h
def aB5 (h:p:=by simpa using he):p:=h
def aP5 (h:p:=by simp[stepG,stepG.exec,Frame.atR]):p:=h
def aFk (h:p:=by simp[List.getD,Xu e]):p:=h
def zH (h:p:=by simp[flat]at hi):p:=h
def aJ4 (h:p:=by simp[List.getD,Hw e]):p:=h
def aEu (h:p:=by simpa[DZ]using q.symm):p:=h
def xw (h:p:=by rw[Jr];omega):p:=h
def aaF (h:p:=by rw[q];rfl):p:=h
def aIt (h:p:=by simp[World.setRow]):p:=h
def aFJ (h:p:=by have :=h.len;omega):p:=h
def aJI (h:p:=by rw[ha,Cm,IB];omega):p:=h
def aDr (h:p:=by apply aIA;simp):p:=h
def wZ (h:p:=by rw[e];rfl):p:=h
def aER (h:p:=by simp[go_sem]):p:=h
def aCX (h:p:=by simpa using O):p:=h
def zB (h:p:=by rw[IV];exact h):p:=h
def aG4 (h:p:=by rw[EP];simp;omega):p:=h
def eu (h:p:=by simp[q]):p:=h
def aFe (h:p:=by rw[EP,Om];omega):p:=h
def aGX (h:p:=by rw[←h.len];exact hi):p:=h
def aHm (h:p:=by simp[execOp,j];rfl):p:=h
def aJs (h:p:=by rw[EP]at hi;omega):p:=h
def aH3 (h:p:=by simp[Aw];omega):p:=h
def aJg (h:p:=by simp[List.getD,u]):p:=h
def aJ9 (h:p:=by simpa using this):p:=h
def yh (h:p:=by simp[qR,e]):p:=h
def oD (h:p:=by simp at L):p:=h
def qW (h:p:=by simp at j):p:=h
def vM (h:p:=by simp at z):p:=h
def aJ6 (h:p:=by rw[I]at q;omega):p:=h
def aH5 (h:p:=by intro I;cases I):p:=h
end
abbrev CU:=Value.int .i64
def Ad:=@Option.bind_some
def BH:=@cond_false
def Cm:=@List.length_map
def EP:=@List.length_append
def Ch:=@Option.some.inj
def E9:=@List.getElem?_eq_getElem
def D5:=@Bool.and_eq_true
def Bq:=@cond_true
def ED:=@Nat.le_of_ble_eq_true
def Bo:=@congrArg
def Dw:=@List.all_eq_true
def E5:=@List.getElem_mem
def Om:=@List.length_singleton
def G7:=@List.getElem?_eq_some_iff
def Gy:=@List.eq_nil_of_length_eq_zero
def Ea:=@List.mem_map
def Gn:=@Array.getElem?_eq_some_iff
def Hw:=@List.getElem?_append_left
def Ez:=@List.not_mem_nil
def EZ:=@List.mem_cons
def Fz:=@List.mem_cons_self
def EY:=@Nat.le_trans
def Fj:=@Go.Result.andThen_ok
def Gp:=@List.mem_cons_of_mem
def J9:=@Array.getD_eq_getD_getElem?
def Gf:=@List.getElem_of_mem
def EW:=@Nat.le_refl
def F6:=@Bool.not_true
def Fa:=@List.mem_filter
def Ec:=@Nat.zero_le
def GI:=@List.length_cons
def IB:=@List.length_take
def D8:=@if_pos
def GK:=@decide_eq_false
def Ht:=@decide_eq_true_eq
def Ju:=@List.getElem?_append_right
def Gj:=@List.foldl_cons
def DU:=@if_neg
def Gx:=@List.mem_append
def FW:=@Go.Sem.run_bind
def KI:=@List.pairwise_iff_getElem
def Ih:=@List.mem_singleton
def IX:=@List.append_assoc
def OB:=@Array.getElem?_setIfInBounds_ne
def IU:=@List.any_eq_true
def Gm:=@Bool.true_and
def Gv:=@List.map_cons
def I4:=@decide_eq_true
def Gi:=@Go.Sem.run_pure
def JV:=@of_decide_eq_false
def JI:=@List.getElem?_map
def Js:=@Nat.mul_le_mul_right
def J7:=@List.take_length
def LD:=@List.getElem?_eq_none
def Iq:=@List.nodup_cons
def LZ:=@List.length_filter_le
def NZ:=@List.getElem?_take_of_lt
def JF:=@Option.map_some
def Jr:=@List.nil_append
def Ji:=@List.length_drop
def Jl:=@Go.Proofs.Tryz.underlying3
def Ru:=@Nat.add_assoc
def TQ:=@Array.all_eq_true_iff_forall_mem
def KC:=@Go.RowKit.Below.heap_alloc
def Td:=@List.take_succ_eq_append_getElem
def PN:=@List.drop_eq_getElem_cons
def Qo:=@List.length_nil
def Lc:=@Option.some.injEq
def Ou:=@Array.getElem?_modify
def Ug:=@Nat.add_comm
def PS:=@Go.MapKept.run_getObj_map
def Ko:=@Bool.not_false
def Nj:=@List.flatMap_cons
def Qs:=@List.take_of_length_le
def Ob:=@List.filterMap_cons
def LY:=@List.map_append
def Jj:=@Nat.zero_add
def Nb:=@Option.getD_some
abbrev BA:=IntKind.i64.wrap
def tX (n:Int):BA n=(n+9223372036854775808)%18446744073709551616-9223372036854775808:=Go.IntKind.wrap_i64 n
def Nl:=@List.getElem_map
def Nh:=@Bool.eq_iff_iff
def Px:=@List.getElem?_drop
def QN:=@List.pairwise_cons
def La:=@Bool.or_false
def VA:=@Option.isSome_iff_exists
def PY:=@Go.Proofs.Tryz.underlying38
def QW:=@List.mem_filterMap
def NI:=@Bool.false_or
def X8:=@Classical.byContradiction
def Wy:=@List.mem_of_find?_eq_some
def PW:=@Bool.not_eq_true
def QV:=@of_decide_eq_true
def NV:=@Bool.and_true
def VB:=@Option.map_eq_some_iff
def ZF:=@Array.eq_empty_of_size_eq_zero
def TY:=@Array.length_toList
def Si:=@List.filter_sublist
def YR:=@Array.getElem?_append_left
def Qx:=@Go.Proofs.Tryz.underlying9
def WA:=@decide_eq_false_iff_not
def Xu:=@List.getElem?_set_ne
def TR:=@List.filter_append
def Vq:=@Go.World.putObj_heap_same
def Rs:=@List.drop_length
def SX:=@Bool.not_eq_true'
def XY:=@Go.World.putObj_heap_other
def Vo:=@List.mem_of_getElem?
def V4:=@Nat.eq_zero_or_pos
def UD:=@Bool.false_eq_true
def Uj:=@Option.toList_some
def Ox:=@Bool.or_true
def SV:=@List.foldlM_cons
def Um:=@List.findIdx_cons
def Ud:=@List.filter_congr
def UJ:=@Go.Proofs.Tryz.underlying32
def Y5:=@List.take_append_drop
def Rw:=@Go.Oper.wpIn_mono
def Wi:=@Nat.lt_of_lt_of_le
def Us:=@Nat.le_of_not_lt
def Ur:=@List.mem_flatMap
def OQ:=@beq_iff_eq
def L6:=@if_false
def Uy:=@beq_self_eq_true
def sG:=@List.takeWhile_append_dropWhile
def Z5:=@List.findIdx_lt_length
def W9:=@List.take_add_one
def XG:=@Go.Proofs.Tryz.underlying34
def UW:=@List.append_nil
def eA:=@Array.getElem?_eq_getElem
def V8:=@Nat.not_lt_zero
def ZO:=@List.filterMap_append
def RU:=@Nat.add_zero
def Vk:=@List.ext_getElem
def Vj:=@List.filter_cons
def TS:=@Prod.mk.injEq
def Zl:=@List.pairwise_append
def Pg:=@Go.wpS_region
def ig:=@Option.bind_eq_some_iff
def YZ:=@bne_self_eq_false
def Vr:=@List.find?_cons
def Lp:=@if_true
def Zg:=@beq_eq_false_iff_ne
def nR:=@List.getD_eq_getElem?_getD
def qZ:=@List.nodup_iff_pairwise_ne
def Xl:=@Nat.lt_succ_self
def Wu:=@List.nodup_nil
def Vp:=@Go.heap_alloc_new
def iE:=@Array.toArray_toList
def Un:=@Nat.succ_mul
def UQ:=@Nat.mul_comm
def kQ:=@List.mem_of_mem_take
def eS:=@Go.World.alloc_heap_new
def dL:=@Bool.or_eq_false_iff
def bQ:=@List.foldl_append
def qx:=@List.getElem?_cons_succ
def oJ:=@List.getElem?_cons_zero
def gZ:=@List.length_pos_iff
def jU:=@List.map_congr_left
def dV:=@List.filter_eq_self
def Yl:=@List.cons_append
def Zn:=@Go.Proofs.Tryz.underlying4
def nH:=@Array.getElem?_toList
def bG:=@List.length_set
def Zq:=@Bool.or_eq_true
def bU:=@Go.Oper.upon_enter
def Yx:=@Go.run_equalIn_int
def XZ:=@List.map_take
def aEl:=@Int.tmod_eq_emod_of_nonneg
def jV:=@Go.Value.slice.injEq
def iO:=@List.size_toArray
def dD:=@List.ext_getElem?
def gu:=@Function.comp_def
def lH:=@Nat.lt_trichotomy
def kD:=@List.nodup_append
def fJ:=@Int.toNat_natCast
def oq:=@Nat.div_lt_of_lt_mul
def Pv:=@Go.wpS_seq
def Yn:=@Go.wp_region_list
def jf:=@Go.Proofs.Tryz.underlying5
def xF:=@Bool.eq_false_or_eq_true
def gK:=@Go.IntKind.wrap_u64
def aA:=@List.map_drop
def ZB:=@List.any_cons
def qG:=@List.getElem?_take
def Uw:=@Go.wpIn_mono
def oK:=@Array.ext_getElem?
def lC:=@beq_false_of_ne
def jl:=@Go.IntKind.wrap_u8
def aCf:=@List.filter_eq_nil_iff
def Xx:=@Nat.add_mul
def aA5:=@List.drop_of_length_le
def aDv:=@List.findIdx_le_length
def aDJ:=@List.length_pos_of_mem
def nE:=@Go.Proofs.Tryz.underlying22
def nY:=@List.find?_append
def Yy:=@Nat.le_of_eq
def aFi:=@Array.getElem?_setIfInBounds
def aAG:=@Go.Lib.wpList_append_run
def aGb:=@Array.getElem?_append_right
def YN:=@Nat.mod_lt
def aAP:=@List.mem_of_mem_drop
def aBZ:=@List.mem_append_left
def aH7:=@Array.toList_setIfInBounds
def fQ:=@Go.Oper.semAt_eq
def Zm:=@Nat.mul_one
def aEV:=@List.toList_toArray
def aH2:=@Array.mapM_eq_mapM_toList
def o9:=@Go.Proofs.Tryz.zeroValue3
def nG:=@List.take_left'
def aFv:=@List.getElem_append_left
def gU:=@Go.Addr.add_lit
def aD0:=@List.find?_eq_none
def vV:=@List.mem_range
def vT:=@List.drop_zero
def wC:=@Bool.false_and
def aF5:=@List.getElem?_replicate
def aFb:=@List.pairwise_singleton
def yw:=@Go.World.ownsRow_nil
def aAp:=@Go.Proofs.Tryz.underlying27
def aDU:=@List.getElem_take
def zC:=@List.any_eq_false
def aDj:=@List.pairwise_map
def aNu:=@List.findIdx?_eq_some_iff_getElem
def aMg:=@List.set_eq_take_append_cons_drop
def aJM:=@List.dropWhile_sublist
def aHa:=@ByteArray.size_extract
def uj:=@List.all_cons
def ZP:=@Array.ext
def aHo:=@Nat.eq_of_beq_eq_true
def aHk:=@List.mem_append_right
def aGH:=@Bool.and_eq_false_iff
def Bad:=@Nat.div_add_mod
def uG:=@List.map_map
def aIA:=@Array.ext'
def s0:=@getElem!_pos
def aBi:=@Nat.min_eq_left
def qp:=@Go.Proofs.Tryz.sizeOf3
def aDd:=@Go.Proofs.Tryz.zeroValue5
def xZ:=@Go.Proofs.Tryz.zeroValue9
def aDt:=@Go.Proofs.Tryz.zeroValue4
def aAD:=@List.cons.injEq
def aaB:=@List.Nodup.length_le_of_subset
def pK:=@Nat.lt_or_ge
def aCV:=@List.find?_some
def aHJ:=@List.findIdx_getElem
def aIl:=@Go.callsIn_of_wp_marks
def aKt:=@Go.Lib.strCells_length
def aKY:=@Array.getElem?_push
def aKG:=@List.reverse_append
def aGq:=@Int.toNat_of_nonneg
def aBT:=@Go.run_underlying
def aBR:=@List.take_zero
def oW:=@Go.setRow_heap
def qF:=@Go.Sem.run_map
def qN:=@Go.Proofs.Tryz.isAgg3
def aQq:=@Nat.min_def
def vK:=@Int.le_refl
def aJi:=@Go.run_loadCells_list
def aGs:=@Go.grownCap_le_maxLen
def aHZ:=@Int.natCast_nonneg
def aJh:=@Go.MapKept.heap_alloc
def aIi:=@Nat.eq_or_lt_of_le
def aQi:=@List.dropWhile_cons_of_pos
def aMJ:=@List.dropWhile_cons_of_neg
def Mem:=@Go.callsD_of_wpS
def aQM:=@Int.fdiv_eq_ediv_of_nonneg
def aF9:=@Go.run_storeCells_at
def aLG:=@List.mem_take_iff_getElem
def aNA:=@List.getElem?_zip_eq_some
def aJC:=@Go.wpIn_region_list
def jB:=@or_false
def aGl:=@Go.World.size_alloc
def aBa:=@List.map_set
def lq:=@Go.wpS_cond
def aEw:=@Nat.mod_eq_of_lt
def zi:=@Bool.true_or
def aK6:=@List.getElem_zip
def aH6:=@List.map_reverse
def aC0:=@Nat.one_mul
def aDp:=@Nat.le_succ
def aH9:=@List.take_left
def aIT:=@List.drop_drop
def aH4:=@List.take_take
def aF8:=@Nat.mul_le_mul
section
def addr_add (b o j:Nat):(⟨b,o,none⟩:Addr).add j=⟨b,o+j,none⟩:=by
 unfold Addr.add;split<;>simp_all
section
variable {P:CS} {ops:BQ Oper} {rest:A8 Oper} {o:Oper} {a:Act} {w:BG} {Q:Exit->Act->BG->Prop}
def alX (w:BG) (ty:Bj) (b off:Nat) (cs:BQ Ai) (hA:(isAgg ty).run P w=.ok true w) (z:(sizeOf ty).run P w=.ok cs.size w)
 (I:∀j,j<cs.size->w.cell? ⟨b,off+j,none⟩=some (cs.getD j undef)):(loadVar ty ⟨b,off,none⟩).run P w=.ok (.agg cs) w:=by
 have hl:(loadCells ⟨b,off,none⟩ cs.toList.length).run P w=.ok cs.toList.toArray w:=
  aJi (P:=P) w ⟨b,off,none⟩ cs.toList (fun j v q=>by
   rw[addr_add]
   have u:j<cs.size:=by
    have :=(G7.1 q).1;simpa using this
   rw[I j u];simp only[nH]at q;simp[Array.getD,u]at q ⊢
   exact q)
 simp only[TY,iE]at hl;simp only[loadVar,FW,hA,z,Fj,Lp,hl,Gi]
end
inductive D where
 |lit (v:Value)
 |agg (cs:List D)
 |sl (es:List D)
 |ref (cs:List D) (off:Nat)
 |fn (f:Fn) (first cap:List D)
 |OE (t:TypeId) (x:D)
def D.cells:D->A8 D
 | .agg cs=>cs
 |x=>[x]
def D.leaf:D->AQ
 | .lit v=>v.oneCell'
 | .agg _=>false
 |_=>true
abbrev Dl :D:=.lit undef
abbrev cellAt (w:BG) (b o:Nat):Ai:=(w.cell? ⟨b,o,none⟩).getD undef
inductive Dq (ok:Nat->Prop) (w:World):D->Value->Prop
 |lit (v:Value):Dq ok w (.lit v) v
 |agg (cs:List D) (vs:Array Value) (hl:vs.size=cs.length) (hf:∀i,i<cs.length->(cs.getD i Dl).leaf=true)
  (h:∀i,i<cs.length->Dq ok w (cs.getD i Dl) (vs.getD i undef)):Dq ok w (.agg cs) (.agg vs)
 |sl0 (ad:Option Addr) (cap:Nat):Dq ok w (.sl []) (.slice ad 0 cap)
 |sl (es:List D) (b off cap size:Nat) (hcap:es.length<=cap) (hok:0<es.length->0<size->ok b) (hs:∀i,i<es.length->(es.getD i Dl).cells.length=size)
  (hf:∀i,i<es.length->∀j,j<size->((es.getD i Dl).cells.getD j Dl).leaf=true)
  (hx:∀i,i<es.length->∀j,j<size->(w.cell? ⟨b,off+(i*size+j),none⟩).isSome=true)
  (hc:∀i,i<es.length->∀j,j<size->Dq ok w ((es.getD i Dl).cells.getD j Dl) (cellAt w b (off+(i*size+j)))):
  Dq ok w (.sl es) (.slice (some ⟨b,off,none⟩) es.length cap)
 |ref (cs:List D) (off b o:Nat) (hok:0<cs.length->ok b) (hf:∀i,i<cs.length->(cs.getD i Dl).leaf=true)
  (hx:∀j,j<cs.length->(w.cell? ⟨b,o+j,none⟩).isSome=true)
  (hc:∀j,j<cs.length->Dq ok w (cs.getD j Dl) (cellAt w b (o+j))):Dq ok w (.ref cs off) (.pointer (some ⟨b,o+off,none⟩))
 |fn (f:Fn) (first cap:List D) (vs us:Array Value) (hl:vs.size=first.length) (hm:us.size=cap.length)
  (h:∀i,i<first.length->Dq ok w (first.getD i Dl) (vs.getD i undef)) (h':∀i,i<cap.length->Dq ok w (cap.getD i Dl) (us.getD i undef)):
  Dq ok w (.fn f first cap) (.func f vs us)
 |OE (t:TypeId) (x:D) (v:Value) (h:Dq ok w x v):Dq ok w (.OE t x) (.iface t v)
def Ej (ok:Nat->Prop) (w:BG) (ok':Nat->Prop) (w':BG):Prop:=∀b,ok b->ok' b/\w'.heap[b]? =w.heap[b]?
def Ej.refl (ok:Nat->Prop) (w:BG):Ej ok w ok w:=fun _ h=>⟨h,rfl⟩
def Ej.trans {ok j q:Nat->Prop} {w z I:BG} (h:Ej ok w j z) (k:Ej j z q I):Ej ok w q I:=
 fun b u=>⟨(k b (h b u).1).1,((k b (h b u).1).2).trans (h b u).2⟩
def Ej.cell {ok ok':Nat->Prop} {w w':BG} (h:Ej ok w ok' w') {b o:Nat} (j:ok b):w'.cell? ⟨b,o,none⟩=w.cell? ⟨b,o,none⟩:=
 World.cell?_of_block (w:=w) (a:=⟨b,o,none⟩) (h b j).2
def Dq.mono {ok ok':Nat->Prop} {w w':BG} (I:Ej ok w ok' w') {x:D} {v:Ai} (h:Dq ok w x v):Dq ok' w' x v:=by
 induction h with
 |lit v=>exact .lit v
 |agg cs vs hl J _ z=>exact .agg cs vs hl J z
 |sl0 ad cap=>exact .sl0 ad cap
 |sl es b off cap size L q hs J M _ z=>
  have Y:∀i j,i<es.length->j<size->ok b:=fun i j hi u=>q AB AB;refine .sl es b off cap size L (fun O Z=>(I b (q O Z)).1) hs J (fun i hi j u=>?_) (fun i hi j u=>?_)
  ·rw[I.cell (Y i j hi u)];exact M i hi j u
  unfold cellAt;rw[I.cell (Y i j hi u)];exact z i hi j u
 |ref cs off b o q J M _ z=>
  refine .ref cs off b o (fun O=>(I b (q O)).1) J (fun j u=>?_) (fun j u=>?_)
  ·rw[I.cell (q AB)];exact M j u
  unfold cellAt;rw[I.cell (q AB)];exact z j u
 |fn f first cap vs us hl hm _ _ z U=>exact .fn f first cap vs us hl hm z U
 |OE t x v _ z=>exact .OE t x v z
def Dq.shrink {ok ok':Nat->Prop} {w:BG} (hs:∀b o,ok b->(w.cell? ⟨b,o,none⟩).isSome=true->ok' b) {x:D} {v:Ai} (h:Dq ok w x v):Dq ok' w x v:=by
 induction h with
 |lit v=>exact .lit v
 |agg cs vs hl u _ j=>exact .agg cs vs hl u j
 |sl0 ad cap=>exact .sl0 ad cap
 |sl es b off cap size z q L u I _ j=>exact .sl es b off cap size z (fun J O=>hs b _ (q J O) (I 0 J 0 O)) L u I j
 |ref cs off b o q u I _ j=>exact .ref cs off b o (fun J=>hs b _ (q J) (I 0 J)) u I j
 |fn f first cap vs us hl hm _ _ j M=>exact .fn f first cap vs us hl hm j M
 |OE t x v _ j=>exact .OE t x v j
def Dq.leaf {ok:Nat->Prop} {w:BG} {x:D} {v:Ai} (h:Dq ok w x v) (hl:x.leaf=true):v.oneCell'=true:=by
 cases h<;>first|rfl|exact hl|(simp[D.leaf]at hl)
inductive Aa where
 |d (x:D)
 |ptr (k off:Nat)
 |aS (k:Nat)
 |kX (k i off:Nat)
 |fn (f:Fn) (first cap:List Aa)
 |mp (k:Nat)
 |clip (xs:List D)
 |wo (k:Nat)
 |eH (vs:List Aa)
 |ag (vs:List Aa)
 |junk
def Aa.leaf:Aa->AQ
 | .d x=>x.leaf
 | .eH _| .ag _| .junk=>false
 |_=>true
def Aa.cells:Aa->A8 Aa
 | .d x=>x.cells.map .d
 | .ag xs=>xs
 |x=>[x]
inductive BK where
 |dead
 |box (cs:List Aa)
 |arr (e:TypeId) (size:Nat) (es:List D)
 |map (es:List (Value×D))
 |eU (es:List (Value×D))
 |iter (es:List (Value×D)) (vis:List Nat)
 |loop (tm:Array Value) (slots:List Aa) (rc:Array Tmp×Code×Code) (st:LoopState) (pe:Option Code)
def BK.live:BK->AQ
 | .dead=>false
 |_=>true
structure Bv where
 v:Value
 size:Nat:=0
inductive R (ok:Nat->Prop) (w:World) (H:List Bv):Aa->Value->Prop
 |d (x:D) (v:Value) (h:Dq ok w x v):R ok w H (.d x) v
 |ptr (k off b s:Nat) (h:H[k]? =some ⟨.pointer (some ⟨b,0,none⟩),s⟩):R ok w H (.ptr k off) (.pointer (some ⟨b,off,none⟩))
 |aS (k:Nat) (ad:Option Addr) (n cap s:Nat) (h:H[k]? =some ⟨.slice ad n cap,s⟩):R ok w H (.aS k) (.slice ad n cap)
 |kX (k i off b n cap s:Nat) (h:H[k]? =some ⟨.slice (some ⟨b,0,none⟩) n cap,s⟩):R ok w H (.kX k i off) (.pointer (some ⟨b,i*s+off,none⟩))
 |fn (f:Fn) (first cap:List Aa) (vs us:Array Value) (hl:vs.size=first.length) (hm:us.size=cap.length) (h:∀i,i<first.length->R ok w H (first.getD i .junk) (vs.getD i undef))
  (h':∀i,i<cap.length->R ok w H (cap.getD i .junk) (us.getD i undef)):R ok w H (.fn f first cap) (.func f vs us)
 |mp (k:Nat) (v:Value) (s:Nat) (hl:v.oneCell'=true) (h:H[k]? =some ⟨v,s⟩):R ok w H (.mp k) v
 |clip (xs:List D) (ad:Option Addr) (h:Dq ok w (.sl xs) (.slice ad xs.length xs.length)):R ok w H (.clip xs) (.slice ad xs.length xs.length)
 |wo (k:Nat) (ad:Option Addr) (n cap s:Nat) (h:H[k]? =some ⟨.slice ad n cap,s⟩):R ok w H (.wo k) (.slice ad n n)
 |eH (xs:List Aa) (vs:Array Value) (hl:vs.size=xs.length) (h:∀i,i<xs.length->R ok w H (xs.getD i .junk) (vs.getD i undef)):R ok w H (.eH xs) (.tuple vs)
 |ag (xs:List Aa) (vs:Array Value) (hl:vs.size=xs.length) (hf:∀i,i<xs.length->(xs.getD i .junk).leaf=true) (h:∀i,i<xs.length->R ok w H (xs.getD i .junk) (vs.getD i undef)):R ok w H (.ag xs) (.agg vs)
 |junk (v:Value):R ok w H .junk v
def Names (H H':A8 Bv):Prop:=∀(k:Nat) (v:Bv),H[k]? =some v->H'[k]? =some v
def Names.refl (H:A8 Bv):Names H H:=fun _ _ h=>h
def gX:=@Names.refl
def Names.trans {H H1 H2:A8 Bv} (h:Names H H1) (k:Names H1 H2):Names H H2:=fun i v j=>k i v (h i v j)
def Names.push (H H':A8 Bv):Names H (H++H'):=fun k v h=>by
 rw[Hw (G7.1 h).1];exact h
def I7:=@Names.push
def R.mono {ok ok':Nat->Prop} {w w':BG} {H H':A8 Bv} (z:Ej ok w ok' w') (j:Names H H') {x:Aa} {v:Ai} (h:R ok w H x v):R ok' w' H' x v:=by
 induction h with
 |d x v h=>exact .d x v (h.mono z)
 |ptr k off b s h=>exact .ptr k off b s (j _ _ h)
 |aS k ad n cap s h=>exact .aS k ad n cap s (j _ _ h)
 |kX k i off b n cap s h=>exact .kX k i off b n cap s (j _ _ h)
 |fn f first cap vs us hl hm _ _ q u=>exact .fn f first cap vs us hl hm q u
 |mp k v s hl h=>exact .mp k v s hl (j _ _ h)
 |clip xs ad h=>exact .clip xs ad (h.mono z)
 |wo k ad n cap s h=>exact .wo k ad n cap s (j _ _ h)
 |eH xs vs hl _ q=>exact .eH xs vs hl q
 |ag xs vs hl I _ q=>exact .ag xs vs hl I q
 |junk v=>exact .junk v
def R.shrink {ok ok':Nat->Prop} {w:BG} (hs:∀b o,ok b->(w.cell? ⟨b,o,none⟩).isSome=true->ok' b) {H:A8 Bv} {x:Aa} {v:Ai} (h:R ok w H x v):R ok' w H x v:=by
 induction h with
 |d x v h=>exact .d x v (h.shrink hs)
 |ptr k off b s h=>exact .ptr k off b s h
 |aS k ad n cap s h=>exact .aS k ad n cap s h
 |kX k i off b n cap s h=>exact .kX k i off b n cap s h
 |fn f first cap vs us hl hm _ _ j q=>exact .fn f first cap vs us hl hm j q
 |mp k v s hl h=>exact .mp k v s hl h
 |clip xs ad h=>exact .clip xs ad (h.shrink hs)
 |wo k ad n cap s h=>exact .wo k ad n cap s h
 |eH xs vs hl _ j=>exact .eH xs vs hl j
 |ag xs vs hl u _ j=>exact .ag xs vs hl u j
 |junk v=>exact .junk v
def R.leaf {ok:Nat->Prop} {w:BG} {H:A8 Bv} {x:Aa} {v:Ai} (h:R ok w H x v) (hl:x.leaf=true):v.oneCell'=true:=by
 cases h with
 |d x v h=>exact h.leaf hl
 |eH=>simp[Aa.leaf]at hl
 |ag=>simp[Aa.leaf]at hl
 |junk=>simp[Aa.leaf]at hl
 |mp k v s hl h=>exact hl
 |_=>rfl
def G9 (ok:Nat->Prop) (w:BG) (H:A8 Bv) (xs:A8 Aa) (vs:A8 Ai):Prop:=
 vs.length=xs.length/\∀i,i<xs.length->(xs.getD i .junk).leaf=true/\R ok w H (xs.getD i .junk) (vs.getD i undef)
def G9.mono {ok ok':Nat->Prop} {w w':BG} {H H':A8 Bv} (j:Ej ok w ok' w') (q:Names H H') {xs:A8 Aa} {vs:A8 Ai} (h:G9 ok w H xs vs):G9 ok' w' H' xs vs:=
 ⟨h.1,fun i hi=>⟨(h.2 i hi).1,(h.2 i hi).2.mono j q⟩⟩
def G9.shrink {ok ok':Nat->Prop} {w:BG} (hs:∀b o,ok b->(w.cell? ⟨b,o,none⟩).isSome=true->ok' b) {H:A8 Bv} {xs:A8 Aa} {vs:A8 Ai} (h:G9 ok w H xs vs):G9 ok' w H xs vs:=
 ⟨h.1,fun i hi=>⟨(h.2 i hi).1,(h.2 i hi).2.shrink hs⟩⟩
def flat (es:A8 D):A8 Aa:=es.flatMap fun x=>x.cells.map .d
def lW (w:BG) (e:Bj) (size:Nat) (v:Ai) (n:Nat) (xs:A8 Ai):Prop:=
 xs.length=n*size/\
 ((v=.slice none 0 0/\n=0)\/
  ∃g cap j,v=.slice (some ⟨g,0,none⟩) n cap/\0<=g/\w.heap[g]? =some (.cells j e (0,0))/\n<=cap/\cap<=maxLen/\cap*size<=j.size/\j.toList.take (n*size)=xs)
def lW.of {w:BG} {base:Nat} {e:Bj} {size:Nat} {v:Ai} {n:Nat} {xs:A8 Ai} (h:w.ownsRow base e size v n xs):lW w e size v n xs:=by
 refine⟨h.1,?_⟩;rcases h.2 with j|⟨g,cap,q,j,M,u,z,I,J,L⟩
 ·exact .inl j
 exact .inr ⟨g,cap,q,j,Ec _,u,z,I,Yy J.symm,L⟩
def lW.cells {w:BG} {e:Bj} {size:Nat} {v:Ai} {n:Nat} {xs:A8 Ai} (h:lW w e size v n xs) {g:Nat} (J:v.ownBlock=some g):∀j u,xs[j]? =some u->w.cell? ((⟨g,0,none⟩:Addr).add j)=some u:=by
 intro j u I;rcases h.2 with⟨rfl,_⟩|⟨L,cap,M,rfl,_,O,_,_,_,q⟩
 ·simp[Value.ownBlock]at J
 simp[Value.ownBlock]at J;subst J;have z:(⟨L,0,none⟩:Addr).add j=⟨L,j,none⟩:=by unfold Addr.add;split<;>simp_all
 rw[z,cell_of_row w L j M e (0,0) O];rw[←q,qG]at I;split at I
 ·simpa using I
 cases I
structure Je (ok:Nat->Prop) (w:World) (es:List (Value×D)) (ms:Array MapEntry) (clock:Nat):Prop where
 len:ms.size=es.length
 ent:∀(i:Nat) (e:Value×D) (m:MapEntry),es[i]? =some e->ms[i]? =some m->m.key=e.1/\Dq ok w e.2 m.val/\m.born<clock
 inc:∀(i j:Nat) (m n:MapEntry),i<j->ms[i]? =some m->ms[j]? =some n->m.born<n.born
def SB (ms:BQ MapEntry) (clock:Nat):Prop:=clock=ms.size/\∀(i:Nat) (e:MapEntry),ms[i]? =some e->e.born=i
def FB (ok:Nat->Prop) (w:BG) (H:A8 Bv) (h:Bv):BK->Prop
 | .dead=>True
 | .box cs=>∃b vs T,h.v=.pointer (some ⟨b,0,none⟩)/\w.heap[b]? =some (.cells vs T (0,0))/\G9 ok w H cs vs.toList
 | .arr e size es=>h.size=size/\(∀x∈es,x.cells.length=size)/\∃xs,lW w e size h.v es.length xs/\G9 ok w H (flat es) xs
 | .map es=>∃b ms clock,h.v=.map (some b)/\w.heap[b]? =some (.map ms clock)/\Je ok w es ms clock
 | .eU es=>∃b ms clock,h.v=.map (some b)/\w.heap[b]? =some (.map ms clock)/\Je ok w es ms clock/\SB ms clock
 | .iter es vis=>∃bi q ms clock seen,h.v=.pointer (some ⟨bi,0,none⟩)/\w.heap[bi]? =some (.mapIter (some q) clock seen clock)/\ok q/\w.heap[q]? =some (.map ms clock)/\Je ok w es ms clock/\
  seen.size=vis.length/\∀(j i:Nat),vis[j]? =some i->∃e,ms[i]? =some e/\seen[j]? =some e.born
 | .loop tm slots rc st u=>∃l fn D,h.v=.func (.yield l) #[] #[]/\w.heap[l]? =some (.loop { state:=st,pending:=u,fn,tmps:=tm,params:=rc.1,assign:=rc.2.1,body:=rc.2.2,defers:=D })/\tm.size=slots.length/\∀t,t<slots.length->R ok w H (slots.getD t .junk) (tm.getD t undef)
def DZ :Ai->AL Nat
 | .pointer (some a)=>some a.block
 | .slice (some a) _ _=>some a.block
 | .map (some b)=>some b
 | .func (.yield l) _ _=>some l
 |_=>none
structure rM (w0:World) (X:List Nat) (w:World):Prop where
 os:w.os=w0.os
 tape:w.tape=w0.tape
 output:w.output=w0.output
 size:w0.heap.size<=w.heap.size
 block:∀k,k<w0.heap.size->k∉X->w.heap[k]? =w0.heap[k]?
def rM.refl (w:BG) (X:A8 Nat):rM w X w:=⟨rfl,rfl,rfl,EW _,fun _ _ _=>rfl⟩
def rM.below {w0 w:BG} (h:rM w0 [] w):Below w0.heap.size w0 w:=⟨h.os,h.tape,h.output,h.size,fun k j=>h.block k j BR⟩
structure Ee where
 w0:World
 ok0:Nat->Prop
 X:List Nat
 H0:List Bv
structure DL (C:Ee) (ok:Nat->Prop) (H:List Bv) (es:List BK) (w:World):Prop where
 fr:rM C.w0 C.X w
 yQ:∀b,C.ok0 b->ok b
 yR:∀b,ok b->C.ok0 b\/C.w0.heap.size<=b\/b∈C.X
 kC:∀b,ok b->b<w.heap.size
 names:Names C.H0 H
 hlen:H.length=es.length
 ent:∀(k:Nat) (e:BK) (h:Bv),es[k]? =some e->H[k]? =some h->FB ok w H h e
 blk:∀(k:Nat) (e:BK) (h:Bv) (b:Nat),es[k]? =some e->e.live=true->H[k]? =some h->DZ h.v=some b->¬ok b/\b<w.heap.size/\(C.w0.heap.size<=b\/b∈C.X)
 Gg:∀(k k':Nat) (e e':BK) (h h':Bv) (b:Nat),es[k]? =some e->es[k']? =some e'->e.live=true->e'.live=true->H[k]? =some h->H[k']? =some h'->DZ h.v=some b->DZ h'.v=some b->k=k'
def FB.mono {ok ok':Nat->Prop} {w w':BG} {H H':A8 Bv} {h:Bv} {e:BK} (I:Ej ok w ok' w') (U:Names H H') (L:e.live=true->∀b,DZ h.v=some b->w'.heap[b]? =w.heap[b]?) (M:FB ok w H h e):FB ok' w' H' h e:=by
 cases e with
 |dead=>trivial
 |box cs=>
  obtain⟨b,vs,T,q,u,j⟩:=M;exact⟨b,vs,T,q,aJe,j.mono I U⟩
 |arr e s es=>
  obtain⟨q,u,xs,⟨j,z⟩,J⟩:=M;refine⟨q,u,xs,⟨j,?_⟩,J.mono I U⟩;rcases z with z|⟨g,cap,Y,O,Z,h8,h9⟩
  ·exact .inl z
  exact .inr ⟨g,cap,Y,O,Z,by rw[L rfl g (by rw[O];rfl)];exact h8,h9⟩
 |map es=>
  obtain⟨b,ms,clock,q,u,j⟩:=M;exact⟨b,ms,clock,q,aJe,j.len,fun i e m hi hm=>⟨(j.ent i e m hi hm).1,(j.ent i e m hi hm).2.1.mono I,(j.ent i e m hi hm).2.2⟩,j.inc⟩
 |eU es=>
  obtain⟨b,ms,clock,q,u,j,z⟩:=M;exact⟨b,ms,clock,q,aJe,⟨j.len,fun i e m hi hm=>⟨(j.ent i e m hi hm).1,(j.ent i e m hi hm).2.1.mono I,(j.ent i e m hi hm).2.2⟩,j.inc⟩,z⟩
 |iter es vis=>
  obtain⟨bi,bm,ms,clock,seen,q,u,j,z,J,O,Z⟩:=M;exact⟨bi,bm,ms,clock,seen,q,by rw[L rfl bi aaF];exact u,(I bm j).1,by rw[(I bm j).2];exact z,⟨J.len,fun i e m hi hm=>⟨(J.ent i e m hi hm).1,(J.ent i e m hi hm).2.1.mono I,(J.ent i e m hi hm).2.2⟩,J.inc⟩,O,Z⟩
 |loop tm slots rc st pe=>
  obtain⟨l,fn,D,q,u,j,z⟩:=M;exact⟨l,fn,D,q,by rw[L rfl l aaF];exact u,j,fun t ht=>(z t ht).mono I U⟩
def FB.shrink {ok ok':Nat->Prop} {w:BG} (hs:∀b o,ok b->(w.cell? ⟨b,o,none⟩).isSome=true->ok' b) (L:∀(b:Nat) (ms:BQ MapEntry) (c:Nat),ok b->w.heap[b]? =some (.map ms c)->ok' b) {H:A8 Bv} {h:Bv} {e:BK} (I:FB ok w H h e):FB ok' w H h e:=by
 cases e with
 |dead=>trivial
 |box cs=>
  obtain⟨b,vs,T,q,u,j⟩:=I;exact⟨b,vs,T,q,u,j.shrink hs⟩
 |arr e s es=>
  obtain⟨q,u,xs,j,z⟩:=I;exact⟨q,u,xs,j,z.shrink hs⟩
 |map es=>
  obtain⟨b,ms,clock,q,u,j⟩:=I;exact⟨b,ms,clock,q,u,j.len,fun i e m hi hm=>⟨(j.ent i e m hi hm).1,(j.ent i e m hi hm).2.1.shrink hs,(j.ent i e m hi hm).2.2⟩,j.inc⟩
 |eU es=>
  obtain⟨b,ms,clock,q,u,j,J⟩:=I;exact⟨b,ms,clock,q,u,⟨j.len,fun i e m hi hm=>⟨(j.ent i e m hi hm).1,(j.ent i e m hi hm).2.1.shrink hs,(j.ent i e m hi hm).2.2⟩,j.inc⟩,J⟩
 |iter es vis=>
  obtain⟨bi,M,ms,clock,seen,q,u,j,J,z,O,U⟩:=I;exact⟨bi,M,ms,clock,seen,q,u,L M ms clock j J,J,⟨z.len,fun i e m hi hm=>⟨(z.ent i e m hi hm).1,(z.ent i e m hi hm).2.1.shrink hs,(z.ent i e m hi hm).2.2⟩,z.inc⟩,O,U⟩
 |loop tm slots rc st Z=>
  obtain⟨l,fn,D,q,u,j,J⟩:=I;exact⟨l,fn,D,q,u,j,fun t Y=>(J t Y).shrink hs⟩
def FB.drew {ok:Nat->Prop} {w:BG} {H:A8 Bv} {h:Bv} {e:BK} {n:Nat} (j:FB ok w H h e):FB ok { w with drawn:=n } H h e:=
 FB.mono (w:=w) (ok:=ok) (fun _ q=>⟨q,rfl⟩) (.refl _) (fun _ _ _=>rfl) j
def Bz (P:CS) (o:Oper) (ns:A8 (Bg×Aa)) (es:A8 BK) (x:Aa) (es':A8 BK):Prop:=
 ∀(C:Ee) (ok:Nat->Prop) (H:A8 Bv) (a:Act) (w:BG) (Q:Exit->Act->BG->Prop),
  DL C ok H es w->(∀n∈ns,R ok w H n.2 (a.eval n.1))->
  o.wp P a w (fun a' w'=>∃v ok' H',a'=a.put o.dst v/\Ej ok w ok' w'/\Names H H'/\DL C ok' H' es' w'/\R ok' w' H' x v) Q
def Bz.pure {P:CS} {o:Oper} {ns:A8 (Bg×Aa)} {es:A8 BK} {x:Aa}
 (h:∀(ok:Nat->Prop) (H:A8 Bv) (a:Act) (w:BG),(∀(k:Nat) (e:BK) (h:Bv),es[k]? =some e->H[k]? =some h->FB ok w H h e)->H.length=es.length->(∀n∈ns,R ok w H n.2 (a.eval n.1))->∃v,(execOp a.eval o).run P w=.ok (.value v) w/\R ok w H x v):Bz P o ns es x es:=by
 intro C ok H a w Q hm j;obtain⟨v,q,u⟩:=h ok H a w hm.ent hm.hlen j;unfold Oper.wp;rw[q];exact⟨v,ok,H,rfl,.refl _ _,.refl _,hm,u⟩
structure Ap where
 slots:List Aa
 ents:List BK
 base:Nat:=0
def Ap.get (σ:Ap):Bg->Aa
 | .tmp t=>σ.slots.getD t .junk
 | .const v=>.d (.lit v)
 | .global g=>.d (.lit (.pointer (some ⟨g,0,none⟩)))
 | .func f=>.d (.fn (.func f) [] [])
def Ap.put (σ:Ap) (d:AL Tmp) (x:Aa) (es:A8 BK):Ap:=
 ⟨match d with |some t=>σ.slots.set t x|none=>σ.slots,es,σ.base⟩
def Ap.qU (σ:Ap) (d:AL Tmp) (x:Aa):Ap:=
 ⟨match d with |some t=>σ.slots.set t x|none=>σ.slots,σ.ents,σ.base⟩
def Ap.ai7 (σ:Ap) (d:AL Tmp) (x:Aa):σ.qU d x=σ.put d x σ.ents:=rfl
def Marks (C:Ee) (ok:Nat->Prop) (w:BG) (j:A8 Deferred):Prop:=
 ∃Ds:A8 Nat,j=Ds.map (fun D=>{ target:=.collected D,args:= #[] })/\Ds.Nodup/\∀D∈Ds,ok D/\C.w0.heap.size<=D/\w.heap[D]? =some (.deferred (some []))
def Marks.nil (C:Ee) (ok:Nat->Prop) (w:BG):Marks C ok w []:=⟨[],rfl,Wu,fun _ h=>Gz⟩
def Marks.mono {C:Ee} {ok ok':Nat->Prop} {w w':BG} {u:A8 Deferred} (h:Marks C ok w u) (z:Ej ok w ok' w'):Marks C ok' w' u:=by
 obtain⟨Ds,I,J,j⟩:=h;exact⟨Ds,I,J,fun D q=>⟨(z D (j D q).1).1,(j D q).2.1,((z D (j D q).1).2).trans (j D q).2.2⟩⟩
structure Holds (C:Ee) (ok:Nat->Prop) (H:List Bv) (σ:Ap) (a:Act) (w:World):Prop where
 mem:DL C ok H σ.ents w
 size:a.tmps.size=σ.slots.length
 defers:Marks C ok w a.defers
 base:C.H0.length=σ.base
 slot:∀t,t<σ.slots.length->R ok w H (σ.slots.getD t .junk) (a.tmps.getD t undef)
def uV {l:A8 Aa} {t:Nat} (h:¬t<l.length):l.getD t .junk=.junk:=by
 simp[List.getD,LD (Us h)]
def Holds.get {C:Ee} {ok:Nat->Prop} {H:A8 Bv} {σ:Ap} {a:Act} {w:BG} (h:Holds C ok H σ a w) (x:Bg):R ok w H (σ.get x) (a.eval x):=by
 cases x with
 |tmp t=>
  show R ok w H (σ.slots.getD t .junk) (a.tmps.getD t undef);by_cases j:t<σ.slots.length
  ·exact h.slot t j
  rw[uV j];exact .junk _
 |const v=>exact .d _ _ (.lit v)
 |global g=>exact .d _ _ (.lit _)
 |func f=>exact .d _ _ (.fn (.func f) [] [] #[] #[] rfl rfl (fun i hi=>Q9) (fun i hi=>Q9))
def Holds.put {C:Ee} {ok ok':Nat->Prop} {H H':A8 Bv} {σ:Ap} {a:Act} {w w':BG} (h:Holds C ok H σ a w) (d:AL Tmp) {x:Aa} {v:Ai} {es':A8 BK}
 (q:Ej ok w ok' w') (I:Names H H') (hm:DL C ok' H' es' w') (J:R ok' w' H' x v):Holds C ok' H' (σ.put d x es') (a.put d v) w':=by
 cases d with
 |none=>exact⟨hm,h.size,h.defers.mono q,h.base,fun t j=>(h.slot t j).mono q I⟩
 |some d=>
  refine⟨hm,by simp[Ap.put,Act.put,h.size],h.defers.mono q,h.base,fun t j=>?_⟩;simp only[Ap.put,bG]at j;simp only[Ap.put,Act.put];by_cases e:d=t
  ·subst e;have u:(σ.slots.set d x).getD d .junk=x:=yx
   have z:(a.tmps.setIfInBounds d v).getD d undef=v:=by simp[Array.getD,h.size,j]
   rw[u,z];exact J
  have u:(σ.slots.set d x).getD t .junk=σ.slots.getD t .junk:=aFk
  have z:(a.tmps.setIfInBounds d v).getD t undef=a.tmps.getD t undef:=by simp[J9,OB e]
  rw[u,z];exact(h.slot t j).mono q I
def Aa.um (π:A8 (Nat×AQ)):Aa->Aa
 | .d x=>.d x
 | .ptr k off=>match π.idxOf? (k,true)with |some j=>.ptr j off|none=>.junk
 | .aS k=>match π.idxOf? (k,true)with |some j=>.aS j|none=>.junk
 | .kX k i off=>match π.idxOf? (k,true)with |some j=>.kX j i off|none=>.junk
 | .mp k=>match π.idxOf? (k,true)with |some j=>.mp j|none=>.junk
 | .wo k=>match π.idxOf? (k,true)with |some j=>.wo j|none=>.junk
 | .clip xs=>.clip xs
 |_=>.junk
def Aa.back (π:A8 (Nat×AQ)):Aa->Aa
 | .fn f first cap=>.fn f (first.map (Aa.um π)) (cap.map (Aa.um π))
 | .eH vs=>.eH (vs.map (Aa.um π))
 |x=>x.um π
def BK.back (π:A8 (Nat×AQ)):BK->BK
 | .dead=>.dead
 | .box cs=>.box (cs.map (Aa.um π))
 | .arr e s es=>.arr e s es
 | .map es=>.map es
 | .eU es=>.eU es
 | .iter es vis=>.iter es vis
 | .loop tm slots rc st j=>.loop tm (slots.map (Aa.back π)) rc st j
def pW {π:A8 (Nat×AQ)} {H:A8 Bv} {k j:Nat} {h:Bv} (u:π.idxOf? (k,true)=some j) (z:H[k]? =some h):(π.map fun p=>H.getD p.1 ⟨undef,0⟩)[j]? =some h:=by
 rw[List.idxOf?,aNu]at u;obtain⟨q,I, -⟩:=u;have e:π[j]=(k,true):=SA
 simp[q,e,List.getD,z]
def R.um {ok:Nat->Prop} {w:BG} {H:A8 Bv} (π:A8 (Nat×AQ)) {x:Aa} {v:Ai} (h:R ok w H x v):R ok w (π.map fun p=>H.getD p.1 ⟨undef,0⟩) (x.um π) v:=by
 cases h with
 |d x v h=>exact .d x v h
 |ptr k off b s h=>
  simp only[Aa.um];split<;>rename_i j q
  ·exact .ptr _ off b s (pW q h)
  exact .junk _
 |aS k ad n cap s h=>
  simp only[Aa.um];split<;>rename_i j q
  ·exact .aS _ ad n cap s (pW q h)
  exact .junk _
 |kX k i off b n cap s h=>
  simp only[Aa.um];split<;>rename_i j q
  ·exact .kX _ i off b n cap s (pW q h)
  exact .junk _
 |mp k v s hl h=>
  simp only[Aa.um];split<;>rename_i j q
  ·exact .mp _ v s hl (pW q h)
  exact .junk _
 |clip xs ad h=>exact .clip xs ad h
 |wo k ad n cap s h=>
  simp only[Aa.um];split<;>rename_i j q
  ·exact .wo _ ad n cap s (pW q h)
  exact .junk _
 |fn f first cap vs us hl hm h h'=>exact .junk _
 |eH xs vs hl h=>exact .junk _
 |ag xs vs hl u h=>exact .junk _
 |junk v=>exact .junk _
def V5 (f:Aa->Aa) (l:A8 Aa) (i:Nat) (h:i<l.length):(l.map f).getD i .junk=f (l.getD i .junk):=by
 simp[List.getD,h]
def R.back {ok:Nat->Prop} {w:BG} {H:A8 Bv} (π:A8 (Nat×AQ)) {x:Aa} {v:Ai} (h:R ok w H x v):R ok w (π.map fun p=>H.getD p.1 ⟨undef,0⟩) (x.back π) v:=by
 cases h with
 |fn f first cap vs us hl hm h h'=>
  exact .fn f _ _ vs us ZC (by simp[hm]) (fun i hi=>aQR) (fun i hi=>by rw[Cm]at hi;rw[V5 _ _ _ hi];exact(h' i hi).um π)
 |eH xs vs hl h=>exact .eH _ vs ZC (fun i hi=>aQR)
 |ag xs vs hl j h=>exact .junk _
 |d x v h=>exact(R.d x v h).um π
 |ptr k off b s h=>exact(R.ptr k off b s h).um π
 |aS k ad n cap s h=>exact(R.aS k ad n cap s h).um π
 |kX k i off b n cap s h=>exact(R.kX k i off b n cap s h).um π
 |mp k v s hl h=>exact(R.mp k v s hl h).um π
 |clip xs ad h=>exact(R.clip xs ad h).um π
 |wo k ad n cap s h=>exact(R.wo k ad n cap s h).um π
 |junk v=>exact .junk _
def BK.backOk (π:A8 (Nat×AQ)):BK->AQ
 | .box cs=>cs.all fun x=>(x.um π).leaf
 |_=>true
def UG (base:Nat) (es:A8 BK) (π:A8 (Nat×AQ)):AQ:=
 π.all (fun p=>p.1<es.length)&&decide ((π.filterMap fun p=>if p.2 then some p.1 else none).Nodup)&&((π.take base).map (·.1)==List.range base)&&π.all fun p=>(es.getD p.1 .dead).backOk π
def SH (es:A8 BK) (π:A8 (Nat×AQ)):A8 BK:=π.map fun p=>if p.2 then(es.getD p.1 .dead).back π else .dead
def aPK :∀{π:A8 (Nat×AQ)},(π.filterMap fun p=>if p.2 then some p.1 else none).Nodup->∀(i j k:Nat),π[i]? =some (k,true)->π[j]? =some (k,true)->i=j
 | [],_,i,j,k,h,_=>IL
 |p::π,q,i,j,k,hi,z=>by
  have u:∀(n:Nat),π[n]? =some (k,true)->k∈π.filterMap fun p=>if p.2 then some p.1 else none:=fun n h=>by
   rw[QW];exact⟨_,Vo h,rfl⟩
  have I:(π.filterMap fun p=>if p.2 then some p.1 else none).Nodup:=by
   rw[Ob]at q;split at q
   ·exact q
   exact(Iq.1 q).2
  match i,j with
  |0,0=>rfl
  |0,j+1=>
   simp at hi z;subst hi;simp only[Ob,Lp]at q;exact absurd (u j z) (Iq.1 q).1
  |i+1,0=>
   simp at hi z;subst z;simp only[Ob,Lp]at q;exact absurd (u i hi) (Iq.1 q).1
  |i+1,j+1=>rw[aPK I i j k Gt KW]
def FB.back {ok:Nat->Prop} {w:BG} {H:A8 Bv} {h:Bv} {e:BK} (π:A8 (Nat×AQ)) (M:e.backOk π=true) (j:FB ok w H h e):FB ok w (π.map fun p=>H.getD p.1 ⟨undef,0⟩) h (e.back π):=by
 cases e with
 |dead=>trivial
 |box cs=>
  obtain⟨b,vs,T,q,u,z,I⟩:=j;refine⟨b,vs,T,q,u,KW,fun i hi=>?_⟩;rw[Cm]at hi;rw[V5 _ _ _ hi];refine⟨?_,(I i hi).2.um π⟩;simp only[BK.backOk,Dw]at M;exact M _ MX
 |arr e s es=>
  obtain⟨q,u,xs,z,I,O⟩:=j;refine⟨q,u,xs,z,I,fun i hi=>⟨(O i hi).1,?_⟩⟩;have J:=(O i hi).2;have hm:(flat es).getD i .junk∈flat es:=MX
  unfold flat at hm ⊢;simp only[Ur,Ea]at hm;obtain⟨x,_,y,_,U⟩:=hm;unfold flat at J;rw[←U]at J ⊢;cases J with |d _ _ h=>exact .d _ _ h
 |map es=>exact j
 |eU es=>exact j
 |iter es vis=>exact j
 |loop tm slots rc st Y=>
  obtain⟨l,fn,D,q,u,z,I⟩:=j;refine⟨l,fn,D,q,u,KW,fun t L=>?_⟩;rw[Cm]at L;rw[V5 _ _ _ L];exact(I t L).back π
def aQf {π:A8 (Nat×AQ)} {e:BK}:(e.back π).live=e.live:=by cases e<;>rfl
def DL.norm {C:Ee} {ok:Nat->Prop} {H:A8 Bv} {es:A8 BK} {w:BG} (hm:DL C ok H es w) (π:A8 (Nat×AQ)) (U:UG C.H0.length es π=true):
 DL C ok (π.map fun p=>H.getD p.1 ⟨undef,0⟩) (SH es π) w:=by
 unfold UG at U;simp only[D5,Ht,OQ,Dw]at U;obtain⟨⟨⟨hlt,hnd⟩,hpre⟩,hbk⟩:=U
 have u:∀(j:Nat) (h:Bv),(π.map fun p=>H.getD p.1 ⟨undef,0⟩)[j]? =some h->∃p,π[j]? =some p/\p.1<es.length/\H[p.1]? =some h:=by
  intro j h q;rw[JI]at q;cases hp:π[j]? with
  |none=>rw[hp]at q;simp at q
  |some p=>
   rw[hp]at q;have z:p.1<es.length:=hlt p (Vo hp);refine⟨p,rfl,z,?_⟩;have hkH:p.1<H.length:=by rw[hm.hlen];exact z
   simp[List.getD,hkH]at q ⊢;exact q
 have I:∀(j:Nat) (p:Nat×AQ) (e:BK),(SH es π)[j]? =some e->π[j]? =some p->p.1<es.length->(p.2=false/\e=.dead)\/(p.2=true/\∃M,es[p.1]? =some M/\e=M.back π/\p∈π):=by
  intro j p e q hp z;unfold SH at q;rw[JI,hp]at q;cases Z:p.2 with
  |false=>simp[Z]at q;exact .inl ⟨rfl,q.symm⟩
  |true=>
   simp[Z,List.getD,z]at q;exact .inr ⟨rfl,es[p.1],by simp[z],q.symm,Vo hp⟩
 refine⟨hm.fr,hm.yQ,hm.yR,hm.kC,?_,by simp[SH],?_,?_,?_⟩
 ·intro k v hv;have z:k<C.H0.length:=(G7.1 hv).1;have h1:((π.take C.H0.length).map (·.1))[k]? =some k:=by rw[hpre];simp[z]
  rw[JI,NZ z]at h1;have h2:=hm.names k v hv;cases hp:π[k]? with
  |none=>rw[hp]at h1;simp at h1
  |some p=>
   rw[hp]at h1;have hpk:p.1=k:=by simpa using h1
   rw[JI,hp];simp[List.getD,hpk,h2]
 ·intro j e h q hh;obtain⟨p,hp,z,hH⟩:=u j h hh;rcases I j p e q hp z with⟨_,rfl⟩|⟨_,M,J,rfl,L⟩
  ·trivial
  refine(hm.ent p.1 M h J hH).back π ?_;have :=hbk p L;simpa[List.getD,J]using this
 ·intro j e h b q hl hh Z;obtain⟨p,hp,z,hH⟩:=u j h hh;rcases I j p e q hp z with⟨_,rfl⟩|⟨_,M,J,rfl,L⟩
  ·cases hl
  rw[aQf]at hl;exact hm.blk p.1 M h b J hl hH Z
 intro j j' e e' h h' b q hj' hl Y hh hh' Z hb';obtain⟨p,hp,z,hH⟩:=u j h hh;obtain⟨p',hp',hk',hH'⟩:=u j' h' hh';rcases I j p e q hp z with⟨_,rfl⟩|⟨hpt,M,J,rfl,L⟩
 ·cases hl
 rcases I j' p' e' hj' hp' hk' with⟨_,rfl⟩|⟨O,e0',aAQ,rfl,hmem'⟩
 ·cases Y
 rw[aQf]at hl Y;have hkk:=hm.Gg p.1 p'.1 M e0' h h' b J aAQ hl Y hH hH' Z hb';obtain⟨k,bb⟩:=p;obtain⟨k',bb'⟩:=p';simp only at hkk hpt O;subst hkk;subst hpt;subst O;exact aPK hnd j j' k hp hp'
def Kz (π:A8 (Nat×AQ)):A8 AQ->A8 Aa->A8 Aa
 |_,[]=>[]
 |true::m,x::xs=>x.back π::Kz π m xs
 |false::m,_::xs=>.junk::Kz π m xs
 | [],_::xs=>.junk::Kz π [] xs
def aDK (π:A8 (Nat×AQ)):∀(m:A8 AQ) (l:A8 Aa),(Kz π m l).length=l.length
 |_,[]=>by unfold Kz;rfl
 |true::m,x::xs=>by simp[Kz,aDK π m xs]
 |false::m,x::xs=>by simp[Kz,aDK π m xs]
 | [],x::xs=>by simp[Kz,aDK π [] xs]
def aAH (π:A8 (Nat×AQ)):∀(m:A8 AQ) (l:A8 Aa) (t:Nat),(Kz π m l).getD t .junk=(l.getD t .junk).back π\/(Kz π m l).getD t .junk=.junk
 |_,[],t=>by unfold Kz;right;simp
 |true::m,x::xs,0=>by left;simp[Kz]
 |false::m,x::xs,0=>by right;simp[Kz]
 | [],x::xs,0=>by right;simp[Kz]
 |true::m,x::xs,t+1=>by simpa[Kz]using aAH π m xs t
 |false::m,x::xs,t+1=>by simpa[Kz]using aAH π m xs t
 | [],x::xs,t+1=>by simpa[Kz]using aAH π [] xs t
def aCn (σ S:Ap):Prop:=∃(m:A8 AQ) (π:A8 (Nat×AQ)),UG σ.base σ.ents π=true/\S=⟨Kz π m σ.slots,SH σ.ents π,σ.base⟩
def Holds.aAR {C:Ee} {ok:Nat->Prop} {H:A8 Bv} {σ S:Ap} {a:Act} {w:BG} (h:Holds C ok H σ a w) (hs:aCn σ S):∃H',Holds C ok H' S a w:=by
 obtain⟨m,π,j,rfl⟩:=hs;refine⟨π.map fun p=>H.getD p.1 ⟨undef,0⟩,h.mem.norm π (h.base▸j),by simp[aDK,h.size],h.defers,h.base,fun t q=>?_⟩;rcases aAH π m σ.slots t with e|e
 ·simp only[e];exact(h.get (.tmp t)).back π
 simp only[e];exact .junk _
def Cj (σ S:Ap):Prop:=∀(C:Ee) (ok:Nat->Prop) (H:A8 Bv) (a:Act) (w:BG),Holds C ok H σ a w->∃ok' H',Holds C ok' H' S a w
def aCn.sub {σ S:Ap} (h:aCn σ S):Cj σ S:=fun _ ok _ _ _ j=>let⟨H',h'⟩:=j.aAR h;⟨ok,H',h'⟩
def ap3 {σ S:Ap} (j:Ap) (h:∀C ok H a w,Holds C ok H σ a w->∃ok',Holds C ok' H j a w) (k:Cj j S):Cj σ S:=fun C _ H a w q=>let⟨ok',h'⟩:=h C _ H a w q;k C ok' H a w h'
section
variable {P:CS} {ops:BQ Oper} {Q:Exit->Act->BG->Prop}
def toCome (j:BQ AQ):Nat:=(j.toList.filter (!·)).length
def toCome_set {j:BQ AQ} {i:Nat} (hi:i<j.size) (h:j.getD i true=false):toCome (j.setIfInBounds i true)+1=toCome j:=by
 unfold toCome;have hl:j.toList[i]' Gt=false:=by simpa[Array.getD,hi]using h
 have e:j.toList=j.toList.take i++false::j.toList.drop (i+1):=by
  rw[←hl,List.getElem_cons_drop,Y5]
 have q:(j.setIfInBounds i true).toList=j.toList.take i++true::j.toList.drop (i+1):=by
  rw[aH7,aMg,D8 Gt]
 rw[q]
 conv=>rhs;rw[e]
 simp[TR];omega
def written (ops:BQ Oper):A8 Tmp:=ops.toList.filterMap (·.dst)
def VX (ops:BQ Oper):AQ:=(List.range ops.size).all fun i=>(List.range ops.size).all fun j=>i==j||match(ops[i]?).bind (·.dst),(ops[j]?).bind (·.dst)with
 |some d,some q=>d != q
 |_,_=>true
def Vw (ops:BQ Oper) (n:Nat):AQ:=(written ops).all fun d=>d<n
def aLf (h:VX ops=true):∀(i j:Nat) (o q:Oper) (d:Tmp),ops[i]? =some o->ops[j]? =some q->o.dst=some d->q.dst=some d->i=j:=by
 intro i j o q d u z I J;unfold VX at h;rw[Dw]at h;have hi:i<ops.size:=(Gn.1 u).1;have L:j<ops.size:=(Gn.1 z).1;have :=h i Gt;rw[Dw]at this;have :=this j UE;rw[u,z]at this;simp[I,J]at this;exact this
def aSw {i:Nat} {o:Oper} {d:Tmp} (h:ops[i]? =some o) (hd:o.dst=some d):d∈written ops:=by
 unfold written;rw[QW]
 exact⟨o,by
  have⟨hi,j⟩:=Gn.1 h
  rw[←j];exact Array.getElem_mem_toList hi,hd⟩
def aQh {a:Act} {d:Tmp} {v:Ai} (h:d<a.tmps.size):(a.put (some d) v).tmps.getD d undef=v:=by
 simp[Act.put,Array.getD,h]
def aNH {a:Act} {d t:Tmp} {v:Ai} (h:d≠t):(a.put (some d) v).tmps.getD t undef=a.tmps.getD t undef:=by
 simp[Act.put,J9,OB h]
def size_put {a:Act} {d:AL Tmp} {v:Ai}:(a.put d v).tmps.size=a.tmps.size:=by cases d<;>simp[Act.put]
def aPW {a:Act} {d:AL Tmp} {v:Ai}:(a.put d v).defers=a.defers:=by cases d<;>rfl
end
def WI (ops:BQ Oper) (σ:Ap) (g:AL (Nat×AQ)):Prop:=g=none\/
 ∃j q d b,g=some (j,q)/\(ops[j]?).bind (·.dst)=some d/\σ.slots.getD d .junk=.d (.lit (.bool b))/\b=q
def Xv (ops:BQ Oper) (σ:Ap) (g:AL (Nat×AQ)):Prop:=
 ∃j q d v,g=some (j,q)/\(ops[j]?).bind (·.dst)=some d/\σ.slots.getD d .junk=.d (.lit v)/\(v=.bool (!q)\/v=undef)
def apF {ops:BQ Oper} {σ:Ap} {g:AL (Nat×AQ)} (j:Nat) (q:AQ) (d:Nat) (b:AQ) (u:g=some (j,q)) (hd:(ops[j]?).bind (·.dst)=some d) (hs:σ.slots.getD d .junk=.d (.lit (.bool b))) (z:b= !q):Xv ops σ g:=⟨j,q,d,_,u,hd,hs,.inl (by rw[z])⟩
def aeE {ops:BQ Oper} {σ:Ap} {g:AL (Nat×AQ)} (j:Nat) (q:AQ) (d:Nat) (u:g=some (j,q)) (hd:(ops[j]?).bind (·.dst)=some d) (hs:σ.slots.getD d .junk=.d (.lit undef)):Xv ops σ g:=⟨j,q,d,_,u,hd,hs,.inr rfl⟩
def R.bool {ok:Nat->Prop} {w:BG} {H:A8 Bv} {u v:Ai} (h:R ok w H (.d (.lit u)) v):v=u:=by
 cases h with |d _ _ h=>cases h;rfl
def aoQ {C:Ee} {ok:Nat->Prop} {H:A8 Bv} {σ:Ap} {a:Act} {w:BG} (h:Holds C ok H σ a w) {ops:BQ Oper} {j d:Nat} {v:Ai}
 (z:(ops[j]?).bind (·.dst)=some d) (q:σ.slots.getD d .junk=.d (.lit v)):yielded ops a.tmps j=(match v with | .bool b=>some b|_=>none):=by
 have hd:d<σ.slots.length:=by
  apply X8;intro I;rw[uV I]at q;cases q
 have u:=(q▸h.slot d hd).bool
 have hs:a.tmps[d]? =some v:=by
  have :d<a.tmps.size:=by rw[h.size];exact hd
  simp[Array.getD,this]at u;simp[this,u]
 unfold yielded;rw[z];simp only[Ad,hs];cases v<;>rfl
def aed {C:Ee} {ok:Nat->Prop} {H:A8 Bv} {σ:Ap} {a:Act} {w:BG} (h:Holds C ok H σ a w) {ops:BQ Oper} {j d:Nat} {b:AQ}
 (z:(ops[j]?).bind (·.dst)=some d) (q:σ.slots.getD d .junk=.d (.lit (.bool b))):yielded ops a.tmps j=some b:=by
 have hd:d<σ.slots.length:=by
  apply X8;intro I;rw[uV I]at q;cases q
 have u:=(q▸h.slot d hd).bool
 have hs:a.tmps[d]? =some (.bool b):=by
  have :d<a.tmps.size:=by rw[h.size];exact hd
  simp[Array.getD,this]at u;simp[this,u]
 unfold yielded;rw[z];simp only[Ad,hs]
def PV {C:Ee} {ok:Nat->Prop} {H:A8 Bv} {σ:Ap} {a:Act} {w:BG} (h:Holds C ok H σ a w) {ops:BQ Oper} {o:Oper} (q:WI ops σ o.guard):Region.wanted o (yielded ops a.tmps)=true:=by
 unfold Region.wanted;rcases q with q|⟨j,u,d,b,q,z,I,rfl⟩
 ·rw[q]
 rw[q];show(yielded ops a.tmps j==some b)=true;rw[aed h z I];simp
def aGE {C:Ee} {ok:Nat->Prop} {H:A8 Bv} {σ:Ap} {a:Act} {w:BG} (h:Holds C ok H σ a w) {ops:BQ Oper} {o:Oper} (u:Xv ops σ o.guard):Region.wanted o (yielded ops a.tmps)=false:=by
 unfold Region.wanted;obtain⟨j,q,d,v,u,z,I,J⟩:=u;rw[u];show(yielded ops a.tmps j==some q)=false;rw[aoQ h z I];rcases J with rfl|rfl
 ·simp
 rfl
def needs (σ:Ap):A8 (Bg×Aa)->Prop
 | []=>True
 |n::ns=>σ.get n.1=n.2/\needs σ ns
def Qg {σ:Ap}:∀{ns:A8 (Bg×Aa)},needs σ ns->∀n∈ns,σ.get n.1=n.2
 | [],_,n,h=>IL
 |m::ns,j,n,h=>by
  rcases EZ.1 h with rfl|h
  ·exact j.1
  exact Qg j.2 n h
def tmpsOf (o:Oper):A8 Tmp:=o.op.operands.toList.filterMap fun | .tmp t=>some t|_=>none
def Lm (ns:A8 (Bg×Aa)):A8 Tmp:=ns.filterMap fun n=>match n.1 with | .tmp t=>some t|_=>none
def Ro (P:CS) (ops:BQ Oper) (σ:Ap) (x:Aa) (E:A8 BK) (bar:AQ) (o:Oper):Prop:=
 ((∃ns,Bz P o ns σ.ents x E/\needs σ ns/\(Lm ns).all (tmpsOf o).contains=true/\WI ops σ o.guard)\/(x=.d (.lit undef)/\E=σ.ents/\Xv ops σ o.guard))/\(bar=false->E=σ.ents)
def aLA {P:CS} {ops:BQ Oper} {σ:Ap} {x:Aa} {o:Oper} {ns:A8 (Bg×Aa)} (h:Bz P o ns σ.ents x σ.ents) (j:needs σ ns) (q:WI ops σ o.guard) (u:(Lm ns).all (tmpsOf o).contains=true):Ro P ops σ x σ.ents false o:=
 ⟨.inl ⟨ns,h,j,u,q⟩,fun _=>rfl⟩
def JD (ro:AL Nat):Fence:={ fn:=fun _=>True,depth:=none,alive:=false,round:=ro }
def xq {ro:AL Nat} {n:Nat} {P:CS} {f:FuncId} {args:BQ Ai} {w:BG} {R:Ending->BG->Prop}:CallsIn (JD ro) n P f args w R↔Calls P f args w R:=
 callsIn_wide (n:=n)
def aou {ro:AL Nat} {n:Nat} {P:CS} {j:String} {args:BQ Ai} {w:BG} {R:Ai->BG->Prop} (h:Rows P j args w R):RowsIn (JD ro) n P j args w R:=
 fun c cs _=>let⟨v,w',r,s⟩:=h c cs;⟨v,w',r,(stepsIn_wide (P:=P)).2 s⟩
def Bz.axg {P:CS} {o:Oper} {ns:A8 (Bg×Aa)} {es es':A8 BK} {x:Aa} (h:Bz P o ns es x es') {C:Ee} {ok:Nat->Prop} {H:A8 Bv} {a:Act} {w:BG} (hm:DL C ok H es w) (u:∀n∈ns,R ok w H n.2 (a.eval n.1)):∀c,o.op≠ .defer c:=by
 intro c z;have j:=h C ok H a w (fun _ _ _=>False) hm u;unfold Oper.wp execOp at j;rw[z]at j;simp only[FW]at j;cases q:(resolve a.eval c o.type).run P w with
 |ok d w'=>
  rw[q]at j;simp only[Result.andThen]at j;obtain⟨v,_,_,I,_⟩:=j;have :=Bo (fun a=>a.defers.length) I;cases J:o.dst<;>simp[Act.put,J]at this
 |halt x w'=>
  rw[q]at j;cases x<;>exact j
def Bz.inR {P:CS} {o:Oper} {ns:A8 (Bg×Aa)} {es es':A8 BK} {x:Aa} (h:Bz P o ns es x es') (ro:AL Nat) (C:Ee) (ok:Nat->Prop) (H:A8 Bv) (a:Act) (w:BG) (Q:Exit->Act->BG->Prop)
 (hm:DL C ok H es w) (q:∀n∈ns,R ok w H n.2 (a.eval n.1)):
 o.wpIn (JD ro) 0 P a w (fun a' w'=>∃v ok' H',a'=a.put o.dst v/\Ej ok w ok' w'/\Names H H'/\DL C ok' H' es' w'/\R ok' w' H' x v) Q:=by
 have j:=h C ok H a w Q hm q;refine⟨fun _ _=>trivial,?_⟩;rw[fQ _ _ _ (h.axg hm q)];unfold Oper.wp at j;generalize(execOp a.eval o).run P w=r at j;cases r with
 |ok n w'=>
  cases n<;>first
   |exact j
   |exact j.elim
   |exact⟨fun h=>Gz,xq.2 j⟩
   |exact⟨fun h=>Gz,aou j⟩
 |halt x w'=>cases x<;>exact j
inductive Chain (P:Program) (ops:Array Oper):List Oper->Ap->Ap->Prop
 |nil (σ:Ap):Chain P ops [] σ σ
 |op {o:Oper} {rest:List Oper} {σ σ':Ap} {ns:List (Operand×Aa)} {x:Aa} (d:Option Tmp) (h:Bz P o ns σ.ents x σ.ents) (hn:needs σ ns) (hg:WI ops σ o.guard) (hd:o.dst=d)
  (k:Chain P ops rest (σ.qU d x) σ'):Chain P ops (o::rest) σ σ'
 |oe {o:Oper} {rest:List Oper} {σ σ':Ap} {ns:List (Operand×Aa)} {x:Aa} {es':List BK} (d:Option Tmp) (E:List BK) (h:Bz P o ns σ.ents x es') (he:es'=E) (hn:needs σ ns) (hg:WI ops σ o.guard) (hd:o.dst=d)
  (k:Chain P ops rest (σ.put d x E) σ'):Chain P ops (o::rest) σ σ'
 |skip {o:Oper} {rest:List Oper} {σ σ':Ap} (d:Option Tmp) (hg:Xv ops σ o.guard) (hd:o.dst=d) (k:Chain P ops rest (σ.qU d (.d (.lit undef))) σ'):Chain P ops (o::rest) σ σ'
 |any {o:Oper} {rest:List Oper} {σ σ':Ap} {x:Aa} (d:Option Tmp) (h:Ro P ops σ x σ.ents false o) (hd:o.dst=d) (k:Chain P ops rest (σ.qU d x) σ'):Chain P ops (o::rest) σ σ'
 |adz {o:Oper} {rest:List Oper} {σ σ':Ap} {x:Aa} {E:List BK} {bar:Bool} (d:Option Tmp) (h:Ro P ops σ x E bar o) (hd:o.dst=d) (k:Chain P ops rest (σ.put d x E) σ'):Chain P ops (o::rest) σ σ'
 |conv {rest:List Oper} {σ σ':Ap} (σ2:Ap) (h:∀C ok H a w,Holds C ok H σ a w->∃ok',Holds C ok' H σ2 a w) (k:Chain P ops rest σ2 σ'):Chain P ops rest σ σ'
def Chain.sound {P:CS} {ops:BQ Oper} {l:A8 Oper} {σ σ':Ap} (h:Chain P ops l σ σ') {ro:AL Nat} {C:Ee} {H0:A8 Bv} {Q:Exit->Act->BG->Prop}:
 ∀{ok:Nat->Prop} {H:A8 Bv} {a:Act} {w:BG},Holds C ok H σ a w->Names H0 H->(∀ok' H' a' w',Holds C ok' H' σ' a' w'->Names H0 H'->Q .normal a' w')->wpListIn (JD ro) 0 P ops Q l a w:=by
 induction h with
 |nil σ=>intro ok H a w j O z;exact z ok H a w j O
 | @op o rest σ σ' ns x d U O L hd k M=>
   intro ok H a w j q z;subst hd;unfold wpListIn;rw[D8 (PV j L)];refine Rw ?_ (U.inR ro C ok H a w Q j.mem (fun n I=>Qg O n I▸j.get n.1));rintro a' w' ⟨v,ok',H',rfl,J,u,hm,Y⟩;exact M (j.put o.dst J u hm Y) (q.trans u) z
 | @oe o rest σ σ' ns x es' d E U he O L hd k M=>
   intro ok H a w j q z;subst hd;subst he;unfold wpListIn;rw[D8 (PV j L)];refine Rw ?_ (U.inR ro C ok H a w Q j.mem (fun n I=>Qg O n I▸j.get n.1));rintro a' w' ⟨v,ok',H',rfl,J,u,hm,Y⟩;exact M (j.put o.dst J u hm Y) (q.trans u) z
 | @skip o rest σ σ' d L hd k M=>
   intro ok H a w j q z;subst hd;unfold wpListIn;rw[DU lN];exact⟨fun _ _=>trivial,M (j.put o.dst (.refl _ _) (.refl _) j.mem (.d _ _ (.lit _))) q z⟩
 | @any o rest σ σ' x d hs hd k M=>
   intro ok H a w j q z;subst hd;unfold wpListIn;rcases hs.1 with⟨ns,U,O,_,L⟩|⟨rfl,_,L⟩
   ·rw[D8 (PV j L)];refine Rw ?_ (U.inR ro C ok H a w Q j.mem (fun n I=>Qg O n I▸j.get n.1));rintro a' w' ⟨v,ok',H',rfl,J,u,hm,Y⟩;exact M (j.put o.dst J u hm Y) (q.trans u) z
   rw[DU lN];exact⟨fun _ _=>trivial,M (j.put o.dst (.refl _ _) (.refl _) j.mem (.d _ _ (.lit _))) q z⟩
 | @adz o rest σ σ' x E bar d hs hd k M=>
   intro ok H a w j q z;subst hd;unfold wpListIn;rcases hs.1 with⟨ns,U,O,_,L⟩|⟨rfl,rfl,L⟩
   ·rw[D8 (PV j L)];refine Rw ?_ (U.inR ro C ok H a w Q j.mem (fun n I=>Qg O n I▸j.get n.1));rintro a' w' ⟨v,ok',H',rfl,J,u,hm,Y⟩;exact M (j.put o.dst J u hm Y) (q.trans u) z
   rw[DU lN];exact⟨fun _ _=>trivial,M (j.put o.dst (.refl _ _) (.refl _) j.mem (.d _ _ (.lit _))) q z⟩
 |conv σ2 hc k M=>
  intro ok H a w j q z;obtain⟨ok',Z⟩:=hc C ok H a w j;exact M Z q z
def QF :Code->AQ
 | .seq a b=>QF a&&QF b
 | .cond _ a b=>QF a&&QF b
 | .block _ a=>QF a
 | .loop a=>QF a
 | .scope a=>QF a
 | .rangeFunc .. =>false
 |_=>true
def qI (ro:AL Nat) (c:Code):Prop:=ro=none\/QF c=true
def qI.two {ro:AL Nat} {c x y:Code} (h:qI ro c) (e:QF c=(QF x&&QF y)):qI ro x/\qI ro y:=by
 rcases h with h|h
 ·exact⟨.inl h,.inl h⟩
 rw[e,D5]at h;exact⟨.inr h.1,.inr h.2⟩
def agJ (P:CS) (c:Code) (σ:Ap) (Q:Exit->Ap->Prop):Prop:=
 ∀(ro:AL Nat),qI ro c->∀(C:Ee) (ok:Nat->Prop) (H:A8 Bv) (a:Act) (w:BG),Holds C ok H σ a w->c.wpIn (JD ro) 0 P (fun e a' w'=>∃ok' H' σ',Holds C ok' H' σ' a' w'/\Q e σ') a w
structure BZ (P:Program) (c:Code) (σ:Ap) (Q:Exit->Ap->Prop):Prop where
 run:agJ P c σ Q
section
variable {P:CS} {σ σ':Ap} {Q:Exit->Ap->Prop}
def BZ.mono {c:Code} {Q':Exit->Ap->Prop} (h:BZ P c σ Q) (j:∀e σ,Q e σ->Q' e σ):BZ P c σ Q':=
 ⟨fun ro q C ok H a w u=>Uw (h.run ro q C ok H a w u) fun _ _ _ ⟨ok',H',σ',z,I⟩=>⟨ok',H',σ',z,j _ _ I⟩⟩
def BZ.region {id:Nat} {ops:BQ Oper} (h:Chain P ops ops.toList σ σ') (j:Q .normal σ'):BZ P (.region id ops false) σ Q:=⟨fun ro _ C ok H a w q=>
 aJC (h.sound q (.refl H) fun ok' H' a' w' u _=>⟨ok',H',σ',u,j⟩)⟩
def BZ.skip (h:Q .normal σ):BZ P .skip σ Q:=⟨fun _ _ _ ok H a w j=>wpIn_skip ⟨ok,H,σ,j,h⟩⟩
def FQ:=@BZ.skip
def BZ.label {l:Nat} (h:Q .normal σ):BZ P (.label l) σ Q:=⟨fun _ _ _ ok H a w j=>wpIn_label ⟨ok,H,σ,j,h⟩⟩
def BZ.exit {i:Nat} (h:Q (.exit i) σ):BZ P (.exit i) σ Q:=⟨fun _ _ _ ok H a w j=>wpIn_exit ⟨ok,H,σ,j,h⟩⟩
def DC:=@BZ.exit
def BZ.ret (h:Q .ret σ):BZ P .ret σ Q:=⟨fun _ _ _ ok H a w j=>wpIn_ret ⟨ok,H,σ,j,h⟩⟩
def FC:=@BZ.ret
def Jg (K:Ap->Prop) (Q:Exit->Ap->Prop):Exit->Ap->Prop
 | .normal,σ=>K σ
 |e,σ=>Q e σ
def BZ.seq {x y:Code} (K:Ap->Prop) (z:BZ P x σ (Jg K Q)) (I:∀σ',K σ'->BZ P y σ' Q):BZ P (.seq x y) σ Q:=⟨fun ro j C ok H a w J=>
 wpIn_seq (Uw (z.run ro (j.two rfl).1 C ok H a w J) (by
  rintro e a' w' ⟨ok',H',σ',q,u⟩;cases e with
  |normal=>exact(I σ' u).run ro (j.two rfl).2 C ok' H' a' w' q
  |_=>exact⟨ok',H',σ',q,u⟩))⟩
def BZ.seq1 {x y:Code} (j:Ap) (q:BZ P x σ (Jg (fun σ'=>σ'=j) Q)) (u:BZ P y j Q):BZ P (.seq x y) σ Q:=BZ.seq _ q (fun _ e=>e▸u)
def BZ.cond {c:Bg} {x y:Code} (b:AQ) (u:σ.get c=.d (.lit (.bool b))) (z:b=true->BZ P x σ Q) (I:b=false->BZ P y σ Q):BZ P (.cond c x y) σ Q:=by
 refine⟨fun ro q C ok H a w j=>?_⟩;have e:=(u▸j.get c).bool;exact wpIn_cond_split e (fun h=>(z h).run ro (q.two rfl).1 C ok H a w j) (fun h=>(I h).run ro (q.two rfl).2 C ok H a w j)
def aPy (i:Nat) (Q:Exit->Ap->Prop):Exit->Ap->Prop
 | .exit j,σ=>if j=i then Q .normal σ else Q (.exit j) σ
 |e,σ=>Q e σ
def BZ.block {i:Nat} {c:Code} (h:BZ P c σ (aPy i Q)):BZ P (.block i c) σ Q:=⟨fun ro I C ok H a w J=>
 wpIn_block (Uw (h.run ro I C ok H a w J) (by
  rintro e a' w' ⟨ok',H',σ',u,q⟩;cases e with
  |exit j=>
   show if j=i then _ else _
   simp only[aPy]at q;split<;>rename_i z
   ·rw[D8 z]at q;exact⟨ok',H',σ',u,q⟩
   rw[DU z]at q;exact⟨ok',H',σ',u,q⟩
  |_=>exact⟨ok',H',σ',u,q⟩))⟩
def Ak:=@BZ.block
def ahh {ro:AL Nat} {P:CS} {Q:Exit->Act->BG->Prop} {c:Code} (I:Nat->Act->BG->Prop)
 (round:∀n a w,I n a w->c.wpIn (JD ro) 0 P (Exit.then (fun a' w'=>∃m,m<n/\I m a' w') Q) a w):∀n a w,I n a w->(Code.loop c).wpIn (JD ro) 0 P Q a w:=by
 intro n a w Z b k cs J L M
 have key:∀n a w,I n a w->∃e a' w',Q e a' w'/\ArrivesIn (Machine.fenced P (JD ro)) P (lone (b.atR a (.code c::.inLoop c::k)) cs w) b k cs e a' w':=by
  intro n
  induction n using Nat.strongRecOn with
  |_ n ih=>
   intro a w hI;obtain⟨e,u,z,j,harr⟩:=round n a w hI b (.inLoop c::k) cs J L M;cases e with
   |normal=>
    obtain⟨m,O,U⟩:=j;obtain⟨e₂,a₂,w₂,Y,q⟩:=ih m O u z U;exact⟨e₂,a₂,w₂,Y,.of_steps (StepsIn.trans harr (.one (fenced_calm L M rfl) stepR_inLoop)) q⟩
   |exit id=>exact⟨_,u,z,j,.pass (x:=.inLoop c) rfl (fun _ _=>.inl BR) harr⟩
   |goto l=>exact⟨_,u,z,j,.pass (x:=.inLoop c) rfl (fun _ _=>.inl BR) harr⟩
   |ret=>exact⟨_,u,z,j,.pass (x:=.inLoop c) rfl (fun _ _=>.inl BR) harr⟩
   |panic ch=>exact⟨_,u,z,j,.pass (x:=.inLoop c) rfl (fun _ _=>.inl BR) harr⟩
   |outgrown=>exact⟨_,u,z,j,.pass (x:=.inLoop c) rfl (fun _ _=>.inl BR) harr⟩
 obtain⟨e,a',w',j,harr⟩:=key n a w Z;exact⟨e,a',w',j,.of_steps (.one (fenced_calm L M rfl) stepR_loop) harr⟩
def BZ.loop {c:Code} (I:Nat->Ap->Prop) (n:Nat) (h:I n σ) (round:∀n σ,I n σ->BZ P c σ (Jg (fun σ'=>∃m,m<n/\I m σ') Q)):BZ P (.loop c) σ Q:=by
 refine⟨fun ro J C ok H a w j=>?_⟩;refine ahh (fun n a w=>∃ok H σ,Holds C ok H σ a w/\I n σ) ?_ n a w ⟨ok,H,σ,j,h⟩;rintro n a w ⟨ok,H,σ,j,L⟩;refine Uw ((round n σ L).run ro J C ok H a w j) ?_;rintro e a' w' ⟨ok',H',σ',u,z⟩;cases e with
 |normal=>obtain⟨m,hm,q⟩:=z;exact⟨m,hm,ok',H',σ',u,q⟩
 |_=>exact⟨ok',H',σ',u,z⟩
end
def BZ.sub {P:CS} {σ S:Ap} {Q:Exit->Ap->Prop} {c:Code} (hs:Cj σ S) (h:BZ P c S Q):BZ P c σ Q:=⟨fun ro j C ok H a w q=>by
 obtain⟨ok',H',h'⟩:=hs C ok H a w q
 exact h.run ro j C ok' H' a w h'⟩
def DW:=@BZ.sub
section
variable {P:CS} {ops:BQ Oper} {Q:Exit->Act->BG->Prop}
def aHW {F:Fence} {n:Nat} (I:BQ AQ->Act->BG->Prop) (j:∀l a w,I l a w->l.size=ops.size)
 (z:∀l a w,I l a w->∀i,i∈Region.ready .any ops l->wpOpIn F n P ops Q i (fun a' w'=>I (l.setIfInBounds i true) a' w') a w)
 (u:∀l a w,I l a w->Region.ready .any ops l=[]->Q .normal a w):
 ∀(Aw:Nat) l a w,toCome l<=Aw->I l a w->wpAnyIn F n P .any ops Q Aw l a w:=by
 intro Aw
 induction Aw with
 |zero=>
  intro l a w O L
  have U:Region.ready .any ops l=[]:=by
   unfold Region.ready;rw[aCf];intro i hi;have J:i<l.size:=by rw[j l a w L];simpa using hi
   have Y:l.toList.filter (!·)=[]:=Gy (by unfold toCome at O;omega);rw[aCf]at Y;have :=Y (l[i]) BR;have M:l[i]=true:=aJ9
   simp[Array.getD,J,M]
  exact⟨U,u l a w L U⟩
 |succ Aw Z=>
  intro l a w O L;refine⟨u l a w L,fun i hi=>?_⟩;have q:=hi;unfold Region.ready at q;rw[Fa]at q;have J:i<l.size:=by rw[j l a w L];simpa using q.1
  have hf:l.getD i true=false:=by
   have :=q.2;simp only[D5,SX]at this;exact this.1
  have hs:=toCome_set J hf;exact wpOpIn_mono (fun a' w' h=>Z _ a' w' AB h) (z l a w L i hi)
end
def IZ (o:Oper) (j:Nat):AQ:=o.after.toList.any fun e=>e.on=j&&Region.binds .any e
def Vs (ops:BQ Oper):AQ:=(List.range ops.size).all fun i=>match ops[i]? with
 |some o=>((List.range ops.size).all fun j=>match(ops[j]?).bind (·.dst)with
  |some d=> !(tmpsOf o).contains d||IZ o j||(match ops[j]? with |some q=>IZ q i|none=>false)
  |none=>true)&&(match o.guard with |some (j,_)=>IZ o j|none=>true)
 |none=>true
inductive FH (P:Program) (ops:Array Oper):List Oper->Ap->List Aa->List (List BK)->List Bool->Ap->Prop
 |nil (σ:Ap):FH P ops [] σ [] [] [] σ
 |op {o:Oper} {rest:List Oper} {σ σ':Ap} {ns:List (Operand×Aa)} {x:Aa} {rs:List Aa} {ess:List (List BK)} {bs:List Bool} (d:Option Tmp) (h:Bz P o ns σ.ents x σ.ents) (hn:needs σ ns)
  (hg:WI ops σ o.guard) (hd:o.dst=d) (ht:(Lm ns).all (tmpsOf o).contains=true) (k:FH P ops rest (σ.qU d x) rs ess bs σ'):FH P ops (o::rest) σ (x::rs) (σ.ents::ess) (false::bs) σ'
 |oe {o:Oper} {rest:List Oper} {σ σ':Ap} {ns:List (Operand×Aa)} {x:Aa} {es':List BK} {rs:List Aa} {ess:List (List BK)} {bs:List Bool} (d:Option Tmp) (E:List BK) (h:Bz P o ns σ.ents x es') (he:es'=E) (hn:needs σ ns)
  (hg:WI ops σ o.guard) (hd:o.dst=d) (ht:(Lm ns).all (tmpsOf o).contains=true) (k:FH P ops rest (σ.put d x E) rs ess bs σ'):FH P ops (o::rest) σ (x::rs) (E::ess) (true::bs) σ'
 |any {o:Oper} {rest:List Oper} {σ σ':Ap} {x:Aa} {rs:List Aa} {ess:List (List BK)} {bs:List Bool} (d:Option Tmp) (h:Ro P ops σ x σ.ents false o) (hd:o.dst=d) (k:FH P ops rest (σ.qU d x) rs ess bs σ'):FH P ops (o::rest) σ (x::rs) (σ.ents::ess) (false::bs) σ'
 |adz {o:Oper} {rest:List Oper} {σ σ':Ap} {x:Aa} {E:List BK} {bar:Bool} {rs:List Aa} {ess:List (List BK)} {bs:List Bool} (d:Option Tmp) (h:Ro P ops σ x E bar o) (hd:o.dst=d) (k:FH P ops rest (σ.put d x E) rs ess bs σ'):FH P ops (o::rest) σ (x::rs) (E::ess) (bar::bs) σ'
 |skip {o:Oper} {rest:List Oper} {σ σ':Ap} {rs:List Aa} {ess:List (List BK)} {bs:List Bool} (d:Option Tmp) (hg:Xv ops σ o.guard) (hd:o.dst=d) (k:FH P ops rest (σ.qU d (.d (.lit undef))) rs ess bs σ'):FH P ops (o::rest) σ (.d (.lit undef)::rs) (σ.ents::ess) (false::bs) σ'
section
variable {P:CS} {ops:BQ Oper} {es:A8 BK}
def Fl (ops:BQ Oper) (σ0:Ap) (r:Nat->Aa) (ev:Nat->A8 BK):Nat->Ap
 |0=>σ0
 |i+1=>match ops[i]? with
  |some o=>(Fl ops σ0 r ev i).put o.dst (r i) (ev i)
  |none=>Fl ops σ0 r ev i
def FH.asG (N:Nat) {l:A8 Oper} {σ σ':Ap} {rs:A8 Aa} {ess:A8 (A8 BK)} {bs:A8 AQ} (h:FH P ops l σ rs ess bs σ') (σ0:Ap) (r:Nat->Aa) (ev:Nat->A8 BK) (bar:Nat->AQ):∀i,(∀k:Nat,k<l.length->l[k]? =ops[i+k]?)->i+l.length=N->σ=Fl ops σ0 r ev i->
 (∀(k:Nat) y,rs[k]? =some y->r (i+k)=y)->(∀(k:Nat) y,ess[k]? =some y->ev (i+k)=y)->(∀(k:Nat) y,bs[k]? =some y->bar (i+k)=y)->
 (∀j (o:Oper),i<=j->j<N->ops[j]? =some o->Ro P ops (Fl ops σ0 r ev j) (r j) (ev j) (bar j) o)/\σ'=Fl ops σ0 r ev N:=by
 induction h with
 |nil σ=>
  intro i hl J I M _ _;have :i=N:=V7
  subst this;exact⟨fun j o Z L ho=>AB,I⟩
 | @op o rest σ σ' ns x rs ess bs d ho hn hg hd ht k ih=>
   intro i hl J I M O hb;subst hd;have U:ops[i]? =some o:=oz
   have Y:r i=x:=aE9
   have u:ev i=σ.ents:=aGj
   obtain⟨h1,h2⟩:=ih (i+1) (fun k hk=>wU) dG (by
    rw[Ap.ai7];simp only[Fl,U,Y,u];rw[←I]) (fun k y z=>uY)
    (fun k y z=>mO) (fun k y z=>wS)
   refine⟨fun j o' Z L q=>?_,h2⟩;by_cases e:i=j
   ·subst e;rw[U]at q;obtain rfl:=Ch q;exact⟨.inl ⟨ns,by rw[Y,u,←I];exact ho,I▸hn,ht,I▸hg⟩,fun _=>by rw[u,←I]⟩
   exact h1 j o' AB L q
 | @oe o rest σ σ' ns x es' rs ess bs d E ho hE hn hg hd ht k ih=>
   intro i hl J I M O hb;subst hd;subst hE;have U:ops[i]? =some o:=oz
   have Y:r i=x:=aE9
   have u:ev i=es':=by simpa using O 0 es' BR
   have hbr:bar i=true:=by simpa using hb 0 true BR
   obtain⟨h1,h2⟩:=ih (i+1) (fun k hk=>wU) dG (by
    simp only[Fl,U,Y,u];rw[←I]) (fun k y z=>uY)
    (fun k y z=>mO) (fun k y z=>wS)
   refine⟨fun j o' Z L q=>?_,h2⟩;by_cases e:i=j
   ·subst e;rw[U]at q;obtain rfl:=Ch q;exact⟨.inl ⟨ns,by rw[Y,u,←I];exact ho,I▸hn,ht,I▸hg⟩,fun hf=>by rw[hbr]at hf;cases hf⟩
   exact h1 j o' AB L q
 | @any o rest σ σ' x rs ess bs d hs hd k ih=>
   intro i hl J I M O hb;subst hd;have U:ops[i]? =some o:=oz
   have Y:r i=x:=aE9
   have u:ev i=σ.ents:=aGj
   obtain⟨h1,h2⟩:=ih (i+1) (fun k hk=>wU) dG (by
    rw[Ap.ai7];simp only[Fl,U,Y,u];rw[←I]) (fun k y z=>uY)
    (fun k y z=>mO) (fun k y z=>wS)
   refine⟨fun j o' Z L q=>?_,h2⟩;by_cases e:i=j
   ·subst e;rw[U]at q;obtain rfl:=Ch q;refine⟨?_,fun _=>by rw[u,←I]⟩;rw[Y,u,←I];exact hs.1
   exact h1 j o' AB L q
 | @adz o rest σ σ' x E br rs ess bs d hs hd k ih=>
   intro i hl J I M O hb;subst hd;have U:ops[i]? =some o:=oz
   have Y:r i=x:=aE9
   have u:ev i=E:=by simpa using O 0 E BR
   have hbr:bar i=br:=by simpa using hb 0 br BR
   obtain⟨h1,h2⟩:=ih (i+1) (fun k hk=>wU) dG (by
    simp only[Fl,U,Y,u];rw[←I]) (fun k y z=>uY)
    (fun k y z=>mO) (fun k y z=>wS)
   refine⟨fun j o' Z L q=>?_,h2⟩;by_cases e:i=j
   ·subst e;rw[U]at q;obtain rfl:=Ch q;rw[Y,u,hbr,←I];exact hs
   exact h1 j o' AB L q
 | @skip o rest σ σ' rs ess bs d hg hd k ih=>
   intro i hl J I M O hb;subst hd;have U:ops[i]? =some o:=oz
   have Y:r i=.d (.lit undef):=by simpa using M 0 (.d (.lit undef)) BR
   have u:ev i=σ.ents:=aGj
   obtain⟨h1,h2⟩:=ih (i+1) (fun k hk=>wU) dG (by
    rw[Ap.ai7];simp only[Fl,U,Y,u];rw[←I]) (fun k y z=>uY)
    (fun k y z=>mO) (fun k y z=>wS)
   refine⟨fun j o' Z L q=>?_,h2⟩;by_cases e:i=j
   ·subst e;rw[U]at q;obtain rfl:=Ch q;exact⟨.inr ⟨Y,by rw[u,←I],I▸hg⟩,fun _=>by rw[u,←I]⟩
   exact h1 j o' AB L q
def FH.facts {l:A8 Oper} {σ σ':Ap} {rs:A8 Aa} {ess:A8 (A8 BK)} {bs:A8 AQ} (h:FH P ops l σ rs ess bs σ') (σ0:Ap) (r:Nat->Aa) (ev:Nat->A8 BK) (bar:Nat->AQ):∀i,(∀k:Nat,l[k]? =ops[i+k]?)->i+l.length=ops.size->σ=Fl ops σ0 r ev i->
 (∀(k:Nat) y,rs[k]? =some y->r (i+k)=y)->(∀(k:Nat) y,ess[k]? =some y->ev (i+k)=y)->(∀(k:Nat) y,bs[k]? =some y->bar (i+k)=y)->
 (∀j (o:Oper),i<=j->ops[j]? =some o->Ro P ops (Fl ops σ0 r ev j) (r j) (ev j) (bar j) o)/\σ'=Fl ops σ0 r ev ops.size:=by
 intro i hl q I J L M;obtain⟨O,U⟩:=h.asG ops.size σ0 r ev bar i (fun k _=>hl k) q I J L M;exact⟨fun j o u z=>O j o u (Gn.1 z).1 z,U⟩
def Y9 {σ0:Ap} {r:Nat->Aa} {ev:Nat->A8 BK} {t:Nat}:∀i,(∀j (o:Oper),j<i->ops[j]? =some o->o.dst≠some t)->(Fl ops σ0 r ev i).slots.getD t .junk=σ0.slots.getD t .junk
 |0,_=>rfl
 |i+1,h=>by
  have q:=Y9 (σ0:=σ0) (r:=r) (ev:=ev) i (fun j o J u=>h j o AB u);simp only[Fl];split
  ·rename_i o u;have z:=h i o AB u;cases hd:o.dst with
   |none=>exact q
   |some d=>
    have I:d≠t:=fun e=>z (by rw[hd,e]);show((Fl ops σ0 r ev i).slots.set d (r i)).getD t .junk=_;rw[←q];simp[List.getD,Xu I]
  exact q
def XM {σ0:Ap} {r:Nat->Aa} {ev:Nat->A8 BK}:∀i,(Fl ops σ0 r ev i).slots.length=σ0.slots.length
 |0=>rfl
 |i+1=>by
  simp only[Fl];split
  ·rename_i o j;cases hd:o.dst with
   |none=>exact XM i
   |some d=>show((Fl ops σ0 r ev i).slots.set d (r i)).length=_;rw[bG];exact XM i
  exact XM i
def ni {σ0:Ap} {r:Nat->Aa} {ev:Nat->A8 BK}:∀i,(Fl ops σ0 r ev i).base=σ0.base
 |0=>rfl
 |i+1=>by
  simp only[Fl];split
  ·exact ni i
  exact ni i
def aC {σ0:Ap} {r:Nat->Aa} {ev:Nat->A8 BK} (q:∀(i j:Nat) (o u:Oper) (d:Tmp),ops[i]? =some o->ops[j]? =some u->o.dst=some d->u.dst=some d->i=j) {t j:Nat} {o:Oper} (z:ops[j]? =some o) (hd:o.dst=some t) (O:t<σ0.slots.length):
 ∀i,j<i->(Fl ops σ0 r ev i).slots.getD t .junk=r j
 |0,h=>AB
 |i+1,h=>by
  by_cases e:j=i
  ·subst e;simp only[Fl,z,hd];have hl:t<(Fl ops σ0 r ev j).slots.length:=by rw[XM];exact O
   show((Fl ops σ0 r ev j).slots.set t (r j)).getD t .junk=_;simp[List.getD,hl]
  have I:=aC (r:=r) (ev:=ev) q z hd O i AB;simp only[Fl];split
  ·rename_i u J;cases L:u.dst with
   |none=>exact I
   |some d=>
    have M:d≠t:=fun e'=>e (q j i o u t z J hd (by rw[L,e']));show((Fl ops σ0 r ev i).slots.set d (r i)).getD t .junk=_;rw[←I];simp[List.getD,Xu M]
  exact I
def aSD (h:Vs ops=true):∀(i:Nat) (o:Oper),ops[i]? =some o->(∀(j:Nat) (z:Oper) (d:Tmp),ops[j]? =some z->z.dst=some d->d∈tmpsOf o->IZ o j=true\/IZ z i=true)/\(∀j b,o.guard=some (j,b)->IZ o j=true):=by
 intro i o J;unfold Vs at h;rw[Dw]at h;have hi:i<ops.size:=(Gn.1 J).1;have I:=h i Gt;rw[J]at I;simp only[D5,Dw]at I;refine⟨fun j z d u hd hm=>?_,fun j b L=>?_⟩
 ·have M:j<ops.size:=(Gn.1 u).1;have q:=I.1 j jy;rw[u]at q;simp only[Ad,hd,Zq,SX]at q;rcases q with(q|q)|q
  ·have :(tmpsOf o).contains d=true:=by simpa using hm
   rw[this]at q;cases q
  ·exact .inl q
  exact .inr q
 have q:=I.2;rw[L]at q;exact q
def UK (ops:BQ Oper) (bs:A8 AQ):AQ:=(List.range ops.size).all fun i=> !(bs.getD i false)||
 (((List.range i).all fun j=>(List.range (i+1)).any fun m=>j<m&&(match ops[m]? with |some o=>IZ o j|none=>false))&&
  ((List.range ops.size).all fun k=> !decide (i<k)||(List.range k).any fun m=>i<=m&&(match ops[k]? with |some o=>IZ o m|none=>false)))
def sQ {bs:A8 AQ} (h:UK ops bs=true) {i:Nat} (hi:i<ops.size) (O:bs.getD i false=true) {D:Nat->Prop} (hd:∀(j:Nat) (o:Oper),ops[j]? =some o->D j->∀m,IZ o m=true->D m)
 (U:∀(o:Oper),ops[i]? =some o->∀m,IZ o m=true->D m):∀j,j<i->D j:=by
 unfold UK at h;rw[Dw]at h;have I:=h i Gt;simp only[O,F6,NI,D5,Dw]at I
 have key:∀n j,i-j<=n->j<i->D j:=by
  intro n
  induction n with
  |zero=>intro j Y J;omega
  |succ n Z=>
   intro j Y J;have L:=I.1 j V7;rw[IU]at L;obtain⟨m,hm,M⟩:=L;simp only[vV]at hm;simp only[D5,Ht]at M;obtain⟨h6,q⟩:=M;have u:m<ops.size:=AB
   have z:ops[m]? =some ops[m]:=by simp[u]
   rw[z]at q;by_cases e:m=i
   ·subst e;exact U _ z j q
   exact hd m _ z (Z m AB AB) j q
 exact fun j hj=>key (i-j) j (EW _) hj
def aLF {bs:A8 AQ} (h:UK ops bs=true) {i:Nat} (hi:i<ops.size) (Y:bs.getD i false=true) {D:Nat->Prop} (hd:∀(j:Nat) (o:Oper),ops[j]? =some o->D j->∀m,IZ o m=true->D m):
 ∀k,i<k->∀(o:Oper),ops[k]? =some o->(∀m,IZ o m=true->D m)->D i:=by
 unfold UK at h;rw[Dw]at h;have L:=h i Gt;simp only[Y,F6,NI,D5,Dw]at L;intro k
 induction k using Nat.strongRecOn with
 |_ k Z=>
  intro I o M q;have hk:k<ops.size:=(Gn.1 M).1;have O:=L.2 k aO7;simp only[I,decide_true,F6,NI,IU]at O;obtain⟨m,hm,U⟩:=O;simp only[vV]at hm;simp only[D5,Ht,M]at U;obtain⟨h6,h7⟩:=U;have u:=q m h7;by_cases e:m=i
  ·subst e;exact u
  have J:m<ops.size:=AB
  have z:ops[m]? =some ops[m]:=by simp[J]
  exact Z m hm AB _ z (hd m _ z u)
def X5 (ops:BQ Oper):AQ:=(List.range ops.size).all fun i=>match ops[i]? with
 |some o=>o.after.toList.all fun(e:Edge)=> !Region.binds .any e||(e.on<i)
 |none=>true
def aM5 (h:X5 ops=true):∀(i:Nat) (o:Oper),ops[i]? =some o->∀e∈o.after.toList,Region.binds .any e=true->e.on<i:=by
 intro i o j e q u;unfold X5 at h;rw[Dw]at h;have hi:i<ops.size:=(Gn.1 j).1;have :=h i Gt;rw[j]at this;rw[Dw]at this;have :=this e q;simpa[u]using this
def SS (ops:BQ Oper) (bs:A8 AQ) (sl:A8 Nat):AQ:=(List.range ops.size).all fun i=> !(bs.getD i false)||(!sl.contains i&&
 ((List.range i).all fun j=>sl.contains j||(List.range (i+1)).any fun m=>(decide (j<m)&& !sl.contains m)&&(match ops[m]? with |some o=>IZ o j|none=>false))&&
  ((List.range ops.size).all fun k=> !decide (i<k)||(List.range k).any fun m=>i<=m&&(match ops[k]? with |some o=>IZ o m|none=>false)))
def aGw {bs:A8 AQ} {sl:A8 Nat} (h:SS ops bs sl=true) {i:Nat} (hi:i<ops.size) (Y:bs.getD i false=true) {D:Nat->Prop} (hd:∀(j:Nat) (o:Oper),ops[j]? =some o->D j->∀m,IZ o m=true->D m)
 (Z:∀(o:Oper),ops[i]? =some o->∀m,IZ o m=true->D m):∀j,j<i->sl.contains j=false->D j:=by
 unfold SS at h;rw[Dw]at h;have L:=h i Gt;simp only[Y,F6,NI,D5,Dw]at L
 have key:∀n j,i-j<=n->j<i->sl.contains j=false->D j:=by
  intro n
  induction n with
  |zero=>intro j h2 M _;omega
  |succ n ih=>
   intro j h2 M q;have O:=L.1.2 j jy;rw[q,NI,IU]at O;obtain⟨m,hm,U⟩:=O;simp only[vV]at hm;simp only[D5,Ht,SX]at U;obtain⟨⟨h6,u⟩,z⟩:=U;have I:m<ops.size:=AB
   have J:ops[m]? =some ops[m]:=by simp[I]
   rw[J]at z;by_cases e:m=i
   ·subst e;exact Z _ J j z
   exact hd m _ J (ih m AB AB u) j z
 exact fun j hj hs=>key (i-j) j (EW _) hj hs
def ant {bs:A8 AQ} {sl:A8 Nat} (h:SS ops bs sl=true) {i:Nat} (hi:i<ops.size) (Y:bs.getD i false=true) {D:Nat->Prop} (hd:∀(j:Nat) (o:Oper),ops[j]? =some o->D j->∀m,IZ o m=true->D m):
 ∀k,i<k->∀(o:Oper),ops[k]? =some o->(∀m,IZ o m=true->D m)->D i:=by
 unfold SS at h;rw[Dw]at h;have L:=h i Gt;simp only[Y,F6,NI,D5,Dw]at L;intro k
 induction k using Nat.strongRecOn with
 |_ k Z=>
  intro I o M q;have hk:k<ops.size:=(Gn.1 M).1;have O:=L.2 k aO7;simp only[I,decide_true,F6,NI,IU]at O;obtain⟨m,hm,U⟩:=O;simp only[vV]at hm;simp only[D5,Ht,M]at U;obtain⟨h6,h7⟩:=U;have u:=q m h7;by_cases e:m=i
  ·subst e;exact u
  have J:m<ops.size:=AB
  have z:ops[m]? =some ops[m]:=by simp[J]
  exact Z m hm AB _ z (hd m _ z u)
def aN2 {bs:A8 AQ} {sl:A8 Nat} (h:SS ops bs sl=true) {i:Nat} (hi:i<ops.size) (q:bs.getD i false=true):sl.contains i=false:=by
 unfold SS at h;rw[Dw]at h;have j:=h i Gt;simp only[q,F6,NI,D5,SX]at j;exact j.1.1
def BZ.aqI {id:Nat} {σ σ':Ap} {Q:Exit->Ap->Prop} {rs:A8 Aa} {ess:A8 (A8 BK)} {bs:A8 AQ} (hm:P.follows .mixedOrders=true) (M:(X5 ops&&VX ops&&Vw ops σ.slots.length&&Vs ops)=true) (sl:A8 Nat) (O:SS ops bs sl=true)
 (h:FH P ops ops.toList σ rs ess bs σ')
 (hsl:∀i,i∈sl->bs.getD i false=false/\∀m,i<=m->m<=ops.size->∀o,ops[i]? =some o->Ro P ops ⟨(Fl ops σ (fun i=>rs.getD i .junk) (fun i=>ess.getD i []) i).slots,(Fl ops σ (fun i=>rs.getD i .junk) (fun i=>ess.getD i []) m).ents,σ.base⟩ (rs.getD i .junk) (Fl ops σ (fun i=>rs.getD i .junk) (fun i=>ess.getD i []) m).ents false o) (hQ:Q .normal σ'):BZ P (.region id ops true) σ Q:=by
 refine⟨fun ro _ C ok H a w hh=>?_⟩;simp only[D5]at M;obtain⟨⟨⟨he,hd⟩,hs⟩,hc⟩:=M;have abC:=aM5 he;have hinj:=aLf hd;have M:=aSD hc
 have Vf:∀(i:Nat) (o:Oper) (d:Tmp),ops[i]? =some o->o.dst=some d->d<σ.slots.length:=by
  intro i o d h1 h2;unfold Vw at hs;rw[Dw]at hs;simpa using hs d (aSw h1 h2)
 let r:Nat->Aa:=fun i=>rs.getD i .junk
 let ev:Nat->A8 BK:=fun i=>ess.getD i []
 let bar:Nat->AQ:=fun i=>bs.getD i false
 obtain⟨Wh,hend⟩:=h.facts σ r ev bar 0 (fun k=>BR) BR rfl (fun k y hy=>by simp[r,List.getD,hy]) (fun k y hy=>by simp[ev,List.getD,hy]) (fun k y hy=>by simp[bar,List.getD,hy])
 let U:Nat->Ap:=Fl ops σ r ev
 have hU:∀i,i<ops.size->(U (i+1)).ents=ev i:=by
  intro i hi;have L:ops[i]? =some ops[i]:=U1
  show(Fl ops σ r ev (i+1)).ents=_;simp only[Fl,L];rfl
 have hconst:∀n lo,(∀b,lo<=b->b<lo+n->bar b=false)->lo+n<=ops.size->(U (lo+n)).ents=(U lo).ents:=by
  intro n
  induction n with
  |zero=>intro lo _ _;rfl
  |succ n ih=>
   intro lo z hle;have h1:=ih lo (fun b h1 h2=>z b h1 AB) AB;have hi:lo+n<ops.size:=AB
   have L:ops[lo+n]? =some ops[lo+n]:=U1
   have h2:=(Wh (lo+n) _ AB L).2 (z (lo+n) AB AB);rw[←Ru,hU _ hi,h2];exact h1
 have Y:∀lo hi,lo<=hi->hi<=ops.size->(∀b,lo<=b->b<hi->bar b=false)->(U hi).ents=(U lo).ents:=by
  intro lo hi h1 h2 h3;obtain⟨n,rfl⟩:=Nat.exists_eq_add_of_le h1;exact hconst n lo h3 h2
 refine wpIn_region_any hm ?_
 let I:BQ AQ->Act->BG->Prop:=fun l a w=>l.size=ops.size/\∃ok H m,m<=ops.size/\(∀b,bar b=true->b<ops.size->(l.getD b false=true↔b<m))/\DL C ok H (U m).ents w/\a.tmps.size=σ.slots.length/\Marks C ok w a.defers/\
  (∀t,t<σ.slots.length->(∀(j:Nat) (o:Oper),ops[j]? =some o->o.dst=some t->l.getD j false=false)->R ok w H (σ.slots.getD t .junk) (a.tmps.getD t undef))/\
  (∀(i:Nat) (o:Oper) (d:Tmp),ops[i]? =some o->o.dst=some d->l.getD i false=true->R ok w H (r i) (a.tmps.getD d undef))/\
  (∀(j:Nat) (o:Oper),ops[j]? =some o->l.getD j false=true->∀i,IZ o i=true->l.getD i false=true)
 refine aHW I (fun l a w h=>h.1) ?_ ?_ ops.size _ _ _ ?_ ?_
 ·rintro l a w ⟨h1,ok,H,m,Zz,J,hmem0,hsz,hdf,h5,h6,h7⟩ i hi;unfold Region.ready at hi;rw[Fa]at hi;obtain⟨hi1,hi2⟩:=hi;have hi':i<ops.size:=by simpa using hi1
  have L:ops[i]? =some ops[i]:=by simp[hi']
  simp only[D5]at hi2;have abD:=hi2.2;rw[L]at abD;simp only[JF,Nb]at abD;have amk:=fun e he=>(TQ.1 abD) e he
  have Z:∀j,IZ ops[i] j=true->l.getD j false=true/\j<i:=by
   intro j u;unfold IZ at u;rw[IU]at u;obtain⟨e,hee,u⟩:=u;simp only[D5,Ht]at u;have :=amk e (by simpa using hee);simp only[u.2,F6,NI]at this;rw[u.1]at this;exact⟨this,u.1▸abC i _ L e hee u.2⟩
  have hself:l.getD i false=false:=by
   have h8:=hi2.1;have hil:i<l.size:=AB
   simp[Array.getD,hil]at h8 ⊢;exact h8
  have ai8:∀(j:Nat) (o:Oper),ops[j]? =some o->l.getD j false=true->∀m,IZ o m=true->l.getD m false=true:=fun j o u hl m hm=>h7 j o u hl m hm
  have hEi:(i<=m->sl.contains i=false)->(U i).ents=(U m).ents:=fun hns=>by
   by_cases him:i<=m
   ·refine(Y i m him Zz (fun b h2 h3=>?_)).symm;rw[←PW];intro z;have hbl:=(J b z AB).2 h3;by_cases e:b=i
    ·subst e;rw[hself]at hbl;cases hbl
    have :=aGw O (show b<ops.size by omega) z (D:=fun j=>l.getD j false=true) ai8 (fun o L m hm=>ai8 b o L hbl m hm) i AB (hns him);rw[hself]at this;cases this
   refine Y m i AB AB (fun b h2 h3=>?_);rw[←PW];intro z;have :=ant O (show b<ops.size by omega) z (D:=fun j=>l.getD j false=true) ai8 i h3 _ L (fun m hm=>(Z m hm).1);exact absurd ((J b z AB).1 this) AB
  obtain⟨E0,E1,hmem,hfact,hE1,hE2⟩:∃E0 E1,DL C ok H E0 w/\Ro P ops ⟨(U i).slots,E0,σ.base⟩ (r i) E1 (bar i) ops[i]/\(bar i=false->E1=(U m).ents)/\(bar i=true->E1=ev i):=by
   by_cases hs:i<=m/\i∈sl
   ·have h9:=hsl i hs.2;refine⟨(U m).ents,(U m).ents,hmem0,?_,fun _=>rfl,fun z=>?_⟩
    ·rw[show bar i=false from h9.1];exact h9.2 m hs.1 Zz _ L
    rw[show bar i=false from h9.1]at z;cases z
   have hE:=hEi (fun him=>by
    rw[←PW]
    intro hc;exact hs ⟨him,by simpa using hc⟩)
   refine⟨(U i).ents,ev i,by rw[hE];exact hmem0,?_,fun z=>?_,fun _=>rfl⟩
   ·have hf:=Wh i ops[i] AB L;have hbase:(U i).base=σ.base:=ni i;have :U i=⟨(U i).slots,(U i).ents,σ.base⟩:=by rw[←hbase]
    exact this▸hf
   rw[(Wh i _ AB L).2 z];exact hE
  have hread:∀t,t∈tmpsOf ops[i]->R ok w H ((Fl ops σ r ev i).slots.getD t .junk) (a.tmps.getD t undef):=by
   intro t ht;by_cases hw:∃(j:Nat) (o:Oper),ops[j]? =some o/\o.dst=some t
   ·obtain⟨j,o,u,q⟩:=hw;rcases(M i _ L).1 j o t u q ht with hce|hce
    ·obtain⟨hdj,hji⟩:=Z j hce;rw[aC hinj u q (Vf j o t u q) i hji];exact h6 j o t u q hdj
    have hij:i<j:=by
     unfold IZ at hce;rw[IU]at hce;obtain⟨e,hee,hce⟩:=hce;simp only[D5,Ht]at hce;exact hce.1▸abC j _ u e hee hce.2
    rw[Y9 i (fun j' o' hj' ho' hd'=>aHO)];refine h5 t (Vf j o t u q) (fun j' o' ho' hd'=>?_);have hjj:=hinj j j' o o' t u ho' q hd';subst hjj;rw[←PW];intro hd;rw[h7 j o u hd i hce]at hself;cases hself
   have hw':∀(j:Nat) (o:Oper),ops[j]? =some o->o.dst≠some t:=fun j o h1 h2=>hw ⟨j,o,h1,h2⟩;rw[Y9 i (fun j o _ u=>hw' j o u)];by_cases htn:t<σ.slots.length
   ·exact h5 t htn (fun j o u q=>absurd q (hw' j o u))
   rw[uV htn];exact .junk _
  have adA:∀j d v,IZ ops[i] j=true->(ops[j]?).bind (·.dst)=some d->(Fl ops σ r ev i).slots.getD d .junk=.d (.lit v)->yielded ops a.tmps j=(match v with | .bool b=>some b|_=>none):=by
   intro j d v u q z;cases hoj:ops[j]? with
   |none=>rw[hoj]at q;simp at q
   |some oj=>
    rw[hoj]at q;simp only[Ad]at q;obtain⟨hdj,hji⟩:=Z j u;have hdn:=Vf j oj d hoj q;rw[aC hinj hoj q hdn i hji]at z;have hv:=(z▸h6 j oj d hoj q hdj).bool
    have hs:a.tmps[d]? =some v:=by
     have :d<a.tmps.size:=by rw[hsz];exact hdn
     simp[Array.getD,this]at hv;simp[this,hv]
    unfold yielded;rw[hoj];simp only[Ad,q,hs];cases v<;>rfl
  have hput:∀(x:Aa) (v:Ai) (ok':Nat->Prop) (H':A8 Bv) (w':BG),x=r i->Ej ok w ok' w'->Names H H'->DL C ok' H' E1 w'->R ok' w' H' x v->I (l.setIfInBounds i true) (a.put ops[i].dst v) w':=by
   intro x v ok' H' w' hx hgr hnm hmem' hR;subst hx
   have hother:∀(d t:Nat),ops[i].dst=some d->d≠t->(a.put ops[i].dst v).tmps.getD t undef=a.tmps.getD t undef:=by
    intro d t hd hne;rw[hd];exact aNH hne
   obtain⟨m',aqJ,ai9,aqK⟩:∃m',m'<=ops.size/\(∀b,bar b=true->b<ops.size->((l.setIfInBounds i true).getD b false=true↔b<m'))/\DL C ok' H' (U m').ents w':=by
    have hget:∀b,b≠i->(l.setIfInBounds i true).getD b false=l.getD b false:=fun b z=>by
     simp only[J9,OB (Ne.symm z)]
    have aqL:(l.setIfInBounds i true).getD i false=true:=by simp[Array.getD,h1,hi']
    cases hbi:bar i with
    |false=>
     refine⟨m,Zz,fun b z hbs=>?_,?_⟩
     ·have hne:b≠i:=fun e=>by subst e;rw[hbi]at z;cases z
      rw[hget b hne];exact J b z hbs
     rw[←hE1 hbi];exact hmem'
    |true=>
     refine⟨i+1,AB,fun b z hbs=>?_,by rw[hU i hi',←hE2 hbi];exact hmem'⟩;by_cases e:b=i
     ·subst e;rw[aqL];simp
     rw[hget b e];constructor
     ·intro hbl;apply X8;intro hn;have :=aGw O hbs z (D:=fun j=>l.getD j false=true) ai8 (fun o L m hm=>ai8 b o L hbl m hm) i AB (aN2 O hi' hbi);rw[hself]at this;cases this
     intro hlt;exact aGw O hi' hbi (D:=fun j=>l.getD j false=true) ai8 (fun o ho' m hm=>by rw[L]at ho';obtain rfl:=Ch ho';exact(Z m hm).1) b AB (aN2 O hbs z)
   refine⟨by simp[h1],ok',H',m',aqJ,ai9,aqK,by rw[size_put];exact hsz,by rw[aPW];exact hdf.mono hgr,?_,?_,?_⟩
   ·intro t ht hno
    have hne:ops[i].dst≠some t:=by
     intro e;have :=hno i _ L e;simp[Array.getD,h1,hi']at this
    have hold:(a.put ops[i].dst v).tmps.getD t undef=a.tmps.getD t undef:=by
     cases hdi:ops[i].dst with
     |none=>rfl
     |some d=>exact hdi▸hother d t hdi (fun e=>hne (by rw[hdi,e]))
    rw[hold];refine(h5 t ht (fun j o u q=>?_)).mono hgr hnm;have hij:i≠j:=fun e=>by subst e;rw[L]at u;obtain rfl:=Ch u;exact hne q
    have :=hno j o u q;simpa only[J9,OB hij]using this
   ·intro k o d hk hkd hl;by_cases hik:i=k
    ·subst hik;rw[L]at hk;obtain rfl:=Ch hk;rw[hkd,aQh (by rw[hsz];exact Vf i _ d L hkd)];exact hR
    have hl':l.getD k false=true:=by
     simp only[J9,OB hik]at hl ⊢;exact hl
    have :=(h6 k o d hk hkd hl').mono hgr hnm;cases hdst:ops[i].dst with
    |none=>exact this
    |some d'=>
     have hne:d'≠d:=fun e=>hik (hinj i k _ _ d' L hk hdst (e▸hkd));rw[←hdst,hother d' d hdst hne];exact this
   intro j o u hl k hk;have hil:i<l.size:=AB
   by_cases hik:i=k
   ·subst hik;simp[Array.getD,hil]
   have hkk:l.getD k false=true:=by
    by_cases hij:i=j
    ·subst hij;rw[L]at u;obtain rfl:=Ch u;exact(Z k hk).1
    have hl':l.getD j false=true:=by
     simp only[J9,OB hij]at hl ⊢;exact hl
    exact h7 j o u hl' k hk
   simp only[J9,OB hik]at hkk ⊢;exact hkk
  unfold wpOpIn;rw[L];show if Region.wanted ops[i] (yielded ops a.tmps)=true then _ else _
  rcases hfact.1 with⟨ns,hop,ahH,hnt,hg⟩|⟨hx,hev,hg⟩
  ·have hwant:Region.wanted ops[i] (yielded ops a.tmps)=true:=by
    unfold Region.wanted;rcases hg with hg|⟨j,want,d,b,hg,u,z,rfl⟩
    ·rw[hg]
    rw[hg];show(yielded ops a.tmps j==some b)=true;rw[adA j d _ ((M i _ L).2 j b hg) u z];simp
   rw[D8 hwant];refine Rw ?_ (hop.inR ro C ok H a w _ hmem (fun n hn=>?_))
   ·rintro a' w' ⟨v,ok',H',rfl,hgr,hnn,hm',hx⟩;exact hput _ v ok' H' w' rfl hgr hnn hm' hx
   have hnv:=Qg ahH n hn;obtain⟨x,y⟩:=n;simp only at hnv ⊢;subst hnv;cases x with
   |tmp t=>
    refine hread t ?_;rw[Dw]at hnt
    have :t∈Lm ns:=by
     unfold Lm;rw[QW];exact⟨_,hn,rfl⟩
    simpa using hnt t this
   |const v=>exact .d _ _ (.lit v)
   |global g=>exact .d _ _ (.lit _)
   |func f=>exact .d _ _ (.fn (.func f) [] [] #[] #[] rfl rfl (fun i hi=>Q9) (fun i hi=>Q9))
  have hwant:Region.wanted ops[i] (yielded ops a.tmps)=false:=by
   unfold Region.wanted;obtain⟨j,want,d,v,hg,u,z,hv⟩:=hg;rw[hg];show(yielded ops a.tmps j==some want)=false;rw[adA j d _ ((M i _ L).2 j want hg) u z];rcases hv with rfl|rfl
   ·simp
   rfl
  rw[DU (by rw[hwant];simp)];exact⟨fun _ _=>trivial,hput _ _ ok H w hx.symm (.refl _ _) (.refl _) (by rw[hev];exact hmem) (.d _ _ (.lit _))⟩
 ·rintro l a w ⟨h1,ok,H,m,Zz,J,hmem,hsz,hdf,h5,h6,h7⟩ hr
  have hall:∀n i,i<n->i<ops.size->l.getD i false=true:=by
   intro n
   induction n with
   |zero=>intro i hi;omega
   |succ n ih=>
    intro i hi hi2;by_cases hn:i<n
    ·exact ih i hn hi2
    have hin:i=n:=AB
    subst hin;rw[←Bool.not_eq_false];intro hf;have L:ops[i]? =some ops[i]:=by simp[hi2]
    have hmem:i∈Region.ready .any ops l:=by
     unfold Region.ready;rw[Fa];refine⟨by simpa using hi2,?_⟩;have hil:i<l.size:=AB
     have hf':l.getD i true=false:=aFr
     rw[hf',L];simp only[Ko,Gm,JF,Nb];rw[TQ];intro e he;cases hbe:Region.binds .any e with
     |false=>simp
     |true=>
      have hlt:=abC i _ L e aB5 hbe;rw[ih e.on AB AB];simp
    rw[hr]at hmem;simp at hmem
  refine⟨ok,H,σ',?_,hQ⟩;subst hend
  have hE:(U ops.size).ents=(U m).ents:=Y m ops.size Zz (EW _) (fun b h2 h3=>by
   rw[←PW];intro z
   exact absurd ((J b z h3).1 (hall (b+1) b AB h3)) AB)
  refine⟨by show DL C ok H (U ops.size).ents w;rw[hE];exact hmem,by rw[XM];exact hsz,hdf,by rw[ni];exact hh.base,fun t ht=>?_⟩;rw[XM]at ht;by_cases hw:∃(j:Nat) (o:Oper),ops[j]? =some o/\o.dst=some t
  ·obtain⟨j,o,u,q⟩:=hw;have hjn:j<ops.size:=(Gn.1 u).1;rw[aC hinj u q ht ops.size hjn];exact h6 j o t u q (hall (j+1) j AB hjn)
  have hw':∀(j:Nat) (o:Oper),ops[j]? =some o->o.dst≠some t:=fun j o h1 h2=>hw ⟨j,o,h1,h2⟩;rw[Y9 ops.size (fun j o _ u=>hw' j o u)];exact h5 t ht (fun j o u q=>absurd q (hw' j o u))
 ·unfold toCome;simp
 refine⟨BR,ok,H,0,Ec _,fun b z _=>by simp[Array.getD],?_,hh.size,hh.defers.mono (fun b z=>⟨z,rfl⟩),fun t ht _=>?_,fun i o d _ _ hl=>?_,fun j o _ hl=>?_⟩
 ·exact⟨⟨hh.mem.fr.os,hh.mem.fr.tape,hh.mem.fr.output,hh.mem.fr.size,hh.mem.fr.block⟩,hh.mem.yQ,hh.mem.yR,hh.mem.kC,hh.mem.names,hh.mem.hlen,fun k e h h1 h2=>(hh.mem.ent k e h h1 h2).drew,hh.mem.blk,hh.mem.Gg⟩
 ·exact R.mono (w:=w) (ok:=ok) (w':={ w with drawn:=w.drawn+1 }) (fun b z=>⟨z,rfl⟩) (.refl _) (hh.slot t ht)
 ·simp[Array.getD]at hl
 simp[Array.getD]at hl
def abf {bs:A8 AQ} (h:UK ops bs=true):SS ops bs []=true:=by
 unfold SS;unfold UK at h;simpa using h
def BZ.draw {id:Nat} {σ σ':Ap} {Q:Exit->Ap->Prop} {rs:A8 Aa} {ess:A8 (A8 BK)} {bs:A8 AQ} (hm:P.follows .mixedOrders=true) (j:(X5 ops&&VX ops&&Vw ops σ.slots.length&&Vs ops)=true) (q:UK ops bs=true)
 (h:FH P ops ops.toList σ rs ess bs σ') (u:Q .normal σ'):BZ P (.region id ops true) σ Q:=
 BZ.aqI hm j [] (abf q) h (fun _ hi=>absurd hi Ez) u
def El:=@BZ.draw
end
def Ei (P:CS) (f:FuncId) (args:A8 Aa) (E:A8 BK) (q:Aa) (E':A8 BK):Prop:=
 ∀(ok:Nat->Prop) (X:A8 Nat) (H:A8 Bv) (w:BG) (j:BQ Ai),DL ⟨w,ok,X,H⟩ ok H E w->j.size=args.length->(∀i,i<args.length->R ok w H (args.getD i .junk) (j.getD i undef))->
  Calls P f j w fun e w'=>∃v ok' H',e=.returned v/\DL ⟨w,ok,X,H⟩ ok' H' E' w'/\R ok' w' H' q v
def Holds.apJ {C:Ee} {ok:Nat->Prop} {H:A8 Bv} {σ:Ap} {a:Act} {w:BG} (h:Holds C ok H σ a w) (t:Nat):R ok w H (σ.slots.getD t .junk) (a.tmps.getD t undef):=h.get (.tmp t)
def Ap.enter (args:A8 Aa) (n:Nat) (E:A8 BK):Ap:=⟨args++List.replicate (n-args.length) .junk,E,E.length⟩
def R.lit {ok:Nat->Prop} {w:BG} {H:A8 Bv} {u v:Ai} (h:R ok w H (.d (.lit u)) v):v=u:=by
 cases h with |d _ _ h=>cases h;rfl
structure EC (P:Program) (t:TypeId) (agg:Bool) (size:Nat):Prop where
 agg:∀w,(isAgg t).run P w=.ok agg w
 size:∀w,(sizeOf t).run P w=.ok size w
def aFs (P:CS) (t:Bj) (agg:AQ) (size:Nat):AQ:=
 (match P.underlying t with |some (.struct _)|some (.array _ _)=>agg|some _=> !agg|none=>false)&&(match P.info? t with |some i=>i.size=size|none=>false)
def FP {P:CS} {t:Bj} {agg:AQ} {size:Nat} (h:aFs P t agg size=true):EC P t agg size:=by
 unfold aFs at h;simp only[D5]at h;refine⟨fun w=>?_,fun w=>?_⟩
 ·have q:=h.1;cases u:P.underlying t with
  |none=>rw[u]at q;cases q
  |some d=>
   rw[u]at q;have e:(underlying t).run P w=.ok d w:=by simp[underlying,u]
   simp only[isAgg,FW,e,Fj];cases d<;>cases agg<;>simp_all
 have j:=h.2;cases hi:P.info? t with
 |none=>rw[hi]at j;cases j
 |some i=>
  rw[hi]at j;have :i.size=size:=Qw
  simp[sizeOf,typeInfo,hi,this]
section
variable {P:CS} {o:Oper} {es:A8 BK}
def KU {α:Type} {p:α->Prop} {a:α} (h:∀n∈[a],p n):p a:=h a BR
def F8 {α:Type} {p:α->Prop} {a b:α} (h:∀n∈[a,b],p n):p a/\p b:=⟨h a BR,h b BR⟩
def amM {x:Bg} {v:Aa} (j:o.op=.move x):Bz P o [(x,v)] es v es:=
 .pure fun _ _ a _ _ _ q=>⟨a.eval x,by simp[execOp,j],q (x,v) BR⟩
def ajA {x:Bg} {v:Aa} (j:o.op=.assign x):Bz P o [(x,v)] es v es:=
 .pure fun _ _ a _ _ _ q=>⟨a.eval x,by simp[execOp,j],q (x,v) BR⟩
def aes {c x y:Bg} {v:Aa} (b:AQ) (q:b=true) (u:o.op=.pick c x y):Bz P o [(c,.d (.lit (.bool b))),(x,v)] es v es:=
 .pure fun _ _ a _ _ _ j=>⟨a.eval x,by
  have :=(F8 j).1.lit;simp only at this
  simp[execOp,u,this,asBool,q],(F8 j).2⟩
def an2 {c x y:Bg} {v:Aa} (b:AQ) (q:b=false) (u:o.op=.pick c x y):Bz P o [(c,.d (.lit (.bool b))),(y,v)] es v es:=
 .pure fun _ _ a _ _ _ j=>⟨a.eval y,by
  have :=(F8 j).1.lit;simp only at this
  simp[execOp,u,this,asBool,q],(F8 j).2⟩
def Gh {op:BinOp} {t t':Bj} {x y:Bg} {u v r:Ai} (I:o.op=.binOp op t x y t') (h:∀w,(binOp op t u v).run P w=.ok r w) (J:u.oneCell'=true/\u matches .int _ _| .string _| .bool _):
 Bz P o [(x,.d (.lit u)),(y,.d (.lit v))] es (.d (.lit r)) es:=
 .pure fun _ _ a w _ _ j=>⟨r,by
  have q:=(F8 j).1.lit;have z:=(F8 j).2.lit;simp only at q z
  have L:(eqGuard op t x y u v).run P w=.ok () w:=by
   unfold eqGuard;cases u<;>simp at J<;>(cases op<;>simp[pure,Sem.run_pure'])
  simp only[execOp,I,q,z,FW,L,h w,Fj,Gi],.d _ _ (.lit _)⟩
def aJF {op:UnOp} {t:Bj} {x:Bg} {u r:Ai} (q:o.op=.unOp op t x) (h:∀w,(Op.unary op u).run P w=.ok r w):Bz P o [(x,.d (.lit u))] es (.d (.lit r)) es:=
 .pure fun _ _ a w _ _ z=>⟨r,by
  have j:=(KU z).lit;simp only at j
  simp only[execOp,q,j,FW,h w,Fj,Gi],.d _ _ (.lit _)⟩
def aNr {s t:Bj} {x:Bg} {u r:Ai} (q:o.op=.convert s t x) (h:∀w,(convert s t u).run P w=.ok r w):Bz P o [(x,.d (.lit u))] es (.d (.lit r)) es:=
 .pure fun _ _ a w _ _ z=>⟨r,by
  have j:=(KU z).lit;simp only at j
  simp only[execOp,q,j,FW,h w,Fj,Gi],.d _ _ (.lit _)⟩
def ajD {x:Bg} {i:Nat} {xs:A8 Aa} {v:Aa} (J:o.op=.extract x i) (L:xs[i]? =some v):Bz P o [(x,.eH xs)] es v es:=
 .pure fun ok H a w _ _ M=>by
  have q:=KU M;simp only at q;generalize O:a.eval x=u at q;cases q with
  |eH _ vs hl h=>
   obtain⟨hi,z⟩:=G7.1 L;have I:=h i hi;have U:xs.getD i .junk=v:=by simp[List.getD,hi,z]
   have j:i<vs.size:=AB
   have Y:vs.getD i undef=vs[i]:=by simp[Array.getD,j]
   rw[U,Y]at I;exact⟨vs[i],by simp[execOp,J,O,Instr.extract,j],I⟩
def amX {x:Bg} {t e:Bj} {xs:A8 D} (J:P.underlying t=some (.slice e)) (q:o.op=.call { callee:=.builtin .len,args:= #[x],argTypes:= #[t] }):
 Bz P o [(x,.d (.sl xs))] es (.d (.lit (.int .i64 xs.length))) es:=
 .pure fun ok H a w _ _ L=>by
  have j:=KU L;simp only at j;generalize z:a.eval x=u at j;have I:(underlying t).run P w=.ok (.slice e) w:=by simp[underlying,J]
  refine⟨_,?_,.d _ _ (.lit _)⟩;cases j with
  |d _ _ h=>
   cases h with
   |sl0 ad cap=>simp[execOp,q,resolve,invoke,builtin,Builtin.len_,z,I,goInt]
   |sl _ b off cap size=>simp[execOp,q,resolve,invoke,builtin,Builtin.len_,z,I,goInt]
def aeg {x:Bg} {t:Bj} {s:BI} (q:P.underlying t=some .string) (u:o.op=.call { callee:=.builtin .len,args:= #[x],argTypes:= #[t] }):
 Bz P o [(x,.d (.lit (.string s)))] es (.d (.lit (.int .i64 s.size))) es:=
 .pure fun ok H a w _ _ z=>by
  have j:=(KU z).lit;simp only at j;have I:(underlying t).run P w=.ok .string w:=Mid
  exact⟨_,by simp[execOp,u,resolve,invoke,builtin,Builtin.len_,j,I,goInt],.d _ _ (.lit _)⟩
def GX {es:A8 BK} {H:A8 Bv} {ok:Nat->Prop} {w:BG} (u:∀(k:Nat) (e:BK) (h:Bv),es[k]? =some e->H[k]? =some h->FB ok w H h e) (hl:H.length=es.length) {k:Nat} {e:BK} (q:es[k]? =some e):
 ∃h,H[k]? =some h/\FB ok w H h e:=by
 have j:k<H.length:=by rw[hl];exact(G7.1 q).1
 exact⟨H[k],by simp[j],u k e _ q (by simp[j])⟩
def amq {x:Bg} {t e e':Bj} {k s:Nat} {xs:A8 D} (U:es[k]? =some (.arr e' s xs)) (Y:P.underlying t=some (.slice e)) (Z:o.op=.call { callee:=.builtin .len,args:= #[x],argTypes:= #[t] }):
 Bz P o [(x,.aS k)] es (.d (.lit (.int .i64 xs.length))) es:=
 .pure fun ok H a w j hl hn=>by
  have q:=KU hn;simp only at q;generalize he:a.eval x=u at q;have hu:(underlying t).run P w=.ok (.slice e) w:=by simp[underlying,Y]
  obtain⟨h,hh,z⟩:=GX j hl U;refine⟨_,?_,.d _ _ (.lit _)⟩;cases q with
  |aS _ ad n cap s' M=>
   rw[hh]at M;obtain rfl:=Ch M;obtain⟨_,_,ys,⟨_,I⟩,_⟩:=z
   have J:n=xs.length:=by
    rcases I with⟨L,h3⟩|⟨g,O,cur,L,_⟩
    ·simp at L;omega
    simp at L;omega
   subst J;simp[execOp,Z,resolve,invoke,builtin,Builtin.len_,he,hu,goInt]
structure DY (P:Program) (t:TypeId) (f off:Nat):Prop where
 run:∀(b o:Nat) w,(Instr.fieldAt t (.pointer (some ⟨b,o,none⟩)) f).run P w=.ok (.pointer (some ⟨b,o+off,none⟩)) w
def aR7 (P:CS) (t:Bj) (f off:Nat):AQ:=
 match P.underlying t with
 |some (.struct q)=>match q[f]? with
  |some j=>j.offset=off&&(match P.info? j.type with |some i=>i.size≠0|none=>false)
  |none=>false
 |_=>false
def Dk {P:CS} {t:Bj} {f off:Nat} (h:aR7 P t f off=true):DY P t f off:=by
 unfold aR7 at h;refine⟨fun b o w=>?_⟩;split at h
 ·rename_i u z;split at h
  ·rename_i I J;simp only[D5,Ht]at h;obtain⟨L,j⟩:=h;split at j
   ·rename_i i hi;have hs:(sizeOf I.type).run P w=.ok i.size w:=by simp[sizeOf,typeInfo,hi]
    have M:i.size≠0:=Qw
    have q:(underlying t).run P w=.ok (.struct u) w:=by simp[underlying,z]
    simp[Instr.fieldAt,q,J,Instr.sureAddr,fieldPlace,hs,M,addr_add,L]
   cases j
  cases h
 cases h
def aiS {x:Bg} {t:Bj} {f off j:Nat} {cs:A8 D} (J:DY P t f off) (L:o.op=.fieldAddr t x f):Bz P o [(x,.d (.ref cs j))] es (.d (.ref cs (j+off))) es:=
 .pure fun ok H a w _ _ M=>by
  have q:=KU M;simp only at q;generalize O:a.eval x=u at q;cases q with
  |d _ _ h=>
   cases h with
   |ref _ _ b p z I U Y=>
    refine⟨.pointer (some ⟨b,p+(j+off),none⟩),?_,.d _ _ (.ref cs (j+off) b p z I U Y)⟩;simp only[execOp,L,O,FW,J.run,Fj,Gi,Ru]
def alV {x:Bg} {t:Bj} {f off k j:Nat} (z:DY P t f off) (I:o.op=.fieldAddr t x f):Bz P o [(x,.ptr k j)] es (.ptr k (j+off)) es:=
 .pure fun ok H a w _ _ J=>by
  have q:=KU J;simp only at q;generalize L:a.eval x=u at q;cases q with
  |ptr _ _ b s h=>
   refine⟨.pointer (some ⟨b,j+off,none⟩),?_,.ptr _ _ b s h⟩;simp only[execOp,I,L,FW,z.run,Fj,Gi]
def acC {x:Bg} {t:Bj} {f off k i j:Nat} (z:DY P t f off) (I:o.op=.fieldAddr t x f):Bz P o [(x,.kX k i j)] es (.kX k i (j+off)) es:=
 .pure fun ok H a w _ _ J=>by
  have q:=KU J;simp only at q;generalize L:a.eval x=u at q;cases q with
  |kX _ _ _ b n cap s h=>
   refine⟨.pointer (some ⟨b,i*s+(j+off),none⟩),?_,.kX _ _ _ b n cap s h⟩;simp only[execOp,I,L,FW,z.run,Fj,Gi,Ru]
def aeV {x y:Bg} {t e:Bj} {k:IntKind} {i:Int} {xs:A8 D} {el:D} {agg:AQ} {size:Nat} (ht:P.underlying t=some (.slice e)) (hT:EC P e agg size) (h0:0<=i) (hi:xs[i.toNat]? =some el) (hs:el.cells.length=size)
 (ho:o.op=.indexAddr t x y):Bz P o [(x,.d (.sl xs)),(y,.d (.lit (.int k i)))] es (.d (.ref el.cells 0)) es:=
 .pure fun ok H a w _ _ Y=>by
  have J:=(F8 Y).1;have Z:=(F8 Y).2.lit;simp only at J Z;generalize he:a.eval x=u at J;have hu:(underlying t).run P w=.ok (.slice e) w:=og
  obtain⟨z,L⟩:=G7.1 hi;cases J with
  |d _ _ h=>
   cases h with
   |sl0 ad cap=>simp at z
   |sl _ b off cap q hcap M O hf hx hc=>
    have hd:xs.getD i.toNat Dl=el:=by simp[List.getD,z,L]
    have U:q=size:=by rw[←O _ z,hd,hs]
    subst U;refine⟨.pointer (some ⟨b,off+i.toNat*q+0,none⟩),?_,.d _ _ (.ref el.cells 0 b (off+i.toNat*q) (fun h=>M AB (by rw[hs]at h;exact h)) ?_ ?_ ?_)⟩
    ·have hlen:0<=i/\i<(xs.length:Int):=⟨h0,AB⟩
     simp only[execOp,ho,he,Z,Instr.indexAt,asIntOf,FW,Gi,hu,Fj,Sem.run_ite,hlen,and_self,Lp,hT.size,addr_add,RU]
    ·intro j I;rw[hs]at I;rw[←hd];exact hf _ z j I
    ·intro j I;rw[hs]at I;rw[Ru];exact hx _ z j I
    intro j I;rw[hs]at I;rw[Ru,←hd];exact hc _ z j I
def abh {x y:Bg} {t e e':Bj} {kd:IntKind} {i:Int} {k size:Nat} {xs:A8 D} {agg:AQ} (Z:es[k]? =some (.arr e' size xs)) (ht:P.underlying t=some (.slice e)) (hT:EC P e agg size) (h0:0<=i) (hi:i.toNat<xs.length)
 (ho:o.op=.indexAddr t x y):Bz P o [(x,.aS k),(y,.d (.lit (.int kd i)))] es (.kX k i.toNat 0) es:=
 .pure fun ok H a w q hl L=>by
  have z:=(F8 L).1;have M:=(F8 L).2.lit;simp only at z M;generalize he:a.eval x=u at z;have hu:(underlying t).run P w=.ok (.slice e) w:=og
  obtain⟨h,O,I⟩:=GX q hl Z;cases z with
  |aS _ ad n cap s' U=>
   rw[O]at U;obtain rfl:=Ch U;obtain⟨hs,_,ys,⟨_,J⟩,_⟩:=I;simp only at hs;subst hs;rcases J with⟨j,h3⟩|⟨g,Y,cur,j,_⟩
   ·omega
   simp only[jV]at j;obtain⟨rfl,rfl,rfl⟩:=j;refine⟨.pointer (some ⟨g,i.toNat*s'+0,none⟩),?_,.kX _ _ _ _ _ _ _ O⟩;have hlen:0<=i/\i<(xs.length:Int):=⟨h0,AB⟩
   simp only[execOp,ho,he,M,Instr.indexAt,asIntOf,FW,Gi,hu,Fj,Sem.run_ite,hlen,and_self,Lp,hT.size,addr_add,Jj,RU]
def aar {x y:Bg} {t:Bj} {k:IntKind} {i:Int} {s:BI} {c:UInt8} (z:P.underlying t=some .string) (I:0<=i) (hi:s[i.toNat]? =some c) (J:o.op=.index t x y):
 Bz P o [(x,.d (.lit (.string s))),(y,.d (.lit (.int k i)))] es (.d (.lit (.int .u8 c.toNat))) es:=
 .pure fun ok H a w _ _ j=>by
  have q:=(F8 j).1.lit;have u:=(F8 j).2.lit;simp only at q u;have L:(underlying t).run P w=.ok .string w:=by simp[underlying,z]
  exact⟨_,by simp only[execOp,J,q,u,Instr.index,asIntOf,FW,Gi,L,Fj,I,Lp,hi],.d _ _ (.lit _)⟩
def JE (l:A8 Aa):A8 D:=l.map fun | .d x=>x|_=>Dl
def Aa.zN:Aa->AQ
 | .d _=>true
 |_=>false
def R.toD {ok:Nat->Prop} {w:BG} {H:A8 Bv} {x:Aa} {v:Ai} (h:R ok w H x v) (hd:x.zN=true):Dq ok w ((fun | .d x=>x|_=>Dl) x) v:=by
 cases h with
 |d _ _ h=>exact h
 |_=>simp[Aa.zN]at hd
def Q5 (agg:AQ) (cs:A8 D) (off n:Nat):D:=if agg then .agg ((cs.drop off).take n)else cs.getD off Dl
def aEL {P:CS} {ok:Nat->Prop} {w:BG} {t:Bj} {agg:AQ} {n b p off:Nat} {cs:A8 D} (M:EC P t agg n) (hn:off+n<=cs.length) (U:agg=false->n=1)
 (Y:∀i,i<cs.length->(cs.getD i Dl).leaf=true) (Z:∀j,j<cs.length->(w.cell? ⟨b,p+j,none⟩).isSome=true) (O:∀j,j<cs.length->Dq ok w (cs.getD j Dl) (cellAt w b (p+j))):
 ∃v,(Instr.loadAt t (.pointer (some ⟨b,p+off,none⟩))).run P w=.ok v w/\Dq ok w (Q5 agg cs off n) v:=by
 have q:∀j,j<cs.length->w.cell? ⟨b,p+j,none⟩=some (cellAt w b (p+j)):=by
  intro j I;have :=Z j I;obtain⟨u,hu⟩:=VA.1 this;simp[cellAt,hu]
 cases agg with
 |false=>
  have :=U rfl;subst this;refine⟨cellAt w b (p+off),?_,O off AB⟩;have L:=q off AB;simp[Instr.loadAt,Instr.sureAddr,loadVar,M.agg,L]
 |true=>
  let vs:BQ Ai:=((List.range n).map fun j=>cellAt w b (p+(off+j))).toArray
  have z:vs.size=n:=by simp[vs]
  have J:∀j,j<n->vs.getD j undef=cellAt w b (p+(off+j)):=by
   intro j I;simp[vs,Array.getD,I]
  refine⟨.agg vs,?_,?_⟩
  ·simp only[Instr.loadAt,Instr.sureAddr,FW,Gi,Fj]
   have h:=alX (P:=P) w t b (p+off) vs (M.agg w) (by rw[z];exact M.size w) (fun j I=>by
    rw[z]at I;rw[J j I,Ru]
    exact q (off+j) AB)
   exact h
  simp only[Q5,Lp];have hlen:((cs.drop off).take n).length=n:=Et
  have L:∀i,i<n->((cs.drop off).take n).getD i Dl=cs.getD (off+i) Dl:=by
   intro i hi;simp[List.getD,NZ hi,Px]
  refine .agg _ vs (by rw[hlen,z]) (fun i hi=>?_) (fun i hi=>?_)
  ·rw[hlen]at hi;rw[L i hi];exact Y _ AB
  rw[hlen]at hi;rw[L i hi,J i hi];exact O _ AB
def akW {x:Bg} {t:Bj} {agg:AQ} {n off:Nat} {cs:A8 D} (z:EC P t agg n) (I:off+n<=cs.length) (J:agg=false->n=1) (L:o.op=.load t x):
 Bz P o [(x,.d (.ref cs off))] es (.d (Q5 agg cs off n)) es:=
 .pure fun ok H a w _ _ q=>by
  have j:=KU q;simp only at j;generalize M:a.eval x=u at j;cases j with
  |d _ _ h=>
   cases h with
   |ref _ _ b p O U Y Z=>
    obtain⟨v,hr,hd⟩:=aEL z I J U Y Z;exact⟨v,by simp only[execOp,L,M,FW,hr,Fj,Gi],.d _ _ hd⟩
def rV (l:A8 Aa):(JE l).length=l.length:=by simp[JE]
def aOd {l:A8 Aa} {i:Nat} (h:i<l.length):(JE l).getD i Dl=(fun | .d x=>x|_=>Dl) (l.getD i .junk):=by
 simp[JE,List.getD,h]
def aHw {ok:Nat->Prop} {w:BG} {H:A8 Bv} {h:Bv} {cs:A8 Aa} (O:FB ok w H h (.box cs)) (hd:cs.all Aa.zN=true):
 ∃b,h.v=.pointer (some ⟨b,0,none⟩)/\(∀i,i<(JE cs).length->((JE cs).getD i Dl).leaf=true)/\(∀j,j<(JE cs).length->(w.cell? ⟨b,0+j,none⟩).isSome=true)/\(∀j,j<(JE cs).length->Dq ok w ((JE cs).getD j Dl) (cellAt w b (0+j))):=by
 obtain⟨b,vs,T,U,Y,Z,I⟩:=O;rw[Dw]at hd
 have q:∀j,j<cs.length->w.cell? ⟨b,0+j,none⟩=some (vs.toList.getD j undef):=by
  intro j u;rw[Jj];have z:j<vs.size:=by simpa using(by omega:j<vs.toList.length)
  simp[World.cell?,Y,z,List.getD]
 refine⟨b,U,fun i hi=>?_,fun j u=>?_,fun j u=>?_⟩
 ·rw[rV]at hi;rw[aOd hi];have J:=(I i hi).1;have L:=hd (cs.getD i .junk) MX;cases M:cs.getD i .junk with
  |d x=>rw[M]at J;exact J
  |_=>rw[M]at L;simp[Aa.zN]at L
 ·rw[rV]at u;rw[q j u];rfl
 rw[rV]at u;rw[aOd u];unfold cellAt;rw[q j u];exact(I j u).2.toD (hd (cs.getD j .junk) aJg)
def afS {x:Bg} {t:Bj} {agg:AQ} {k n off:Nat} {cs:A8 Aa} (O:es[k]? =some (.box cs)) (hd:cs.all Aa.zN=true) (U:EC P t agg n) (Y:off+n<=cs.length) (Z:agg=false->n=1) (ho:o.op=.load t x):
 Bz P o [(x,.ptr k off)] es (.d (Q5 agg (JE cs) off n)) es:=
 .pure fun ok H a w q hl z=>by
  have j:=KU z;simp only at j;generalize he:a.eval x=u at j;obtain⟨h,hh,I⟩:=GX q hl O;obtain⟨b,J,hf,hx,hc⟩:=aHw I hd;cases j with
  |ptr _ _ b' s L=>
   rw[hh]at L;obtain rfl:=Ch L;simp at J;subst J;obtain⟨v,M,hD⟩:=aEL U (by rw[rV];exact Y) Z hf hx hc;rw[Jj]at M;exact⟨v,by simp only[execOp,ho,he,FW,M,Fj,Gi],.d _ _ hD⟩
def aRE {x:Bg} {t:Bj} {k off:Nat} {cs:A8 Aa} {v:Aa} (Y:es[k]? =some (.box cs)) (Z:cs[off]? =some v) (hT:EC P t false 1) (ho:o.op=.load t x):Bz P o [(x,.ptr k off)] es v es:=
 .pure fun ok H a w z hl J=>by
  have q:=KU J;simp only at q;generalize he:a.eval x=u at q;obtain⟨h,hh,b,vs,T,M,h2,h3,h4⟩:=GX z hl Y;cases q with
  |ptr _ _ b' s O=>
   rw[hh]at O;obtain rfl:=Ch O;simp at M;subst M;obtain⟨I,L⟩:=G7.1 Z;have U:=(h4 off I).2;have e1:cs.getD off .junk=v:=by simp[List.getD,I,L]
   have j:off<vs.size:=by simpa using(by omega:off<vs.toList.length)
   have e2:vs.toList.getD off undef=vs[off]:=yx
   rw[e1,e2]at U;refine⟨vs[off],?_,U⟩;have hc:w.cell? ⟨b',off,none⟩=some vs[off]:=by simp[World.cell?,h2,j]
   simp[execOp,ho,he,Instr.loadAt,Instr.sureAddr,loadVar,hT.agg,hc]
end
def DL.change {C:Ee} {ok ok':Nat->Prop} {H H':A8 Bv} {es es':A8 BK} {w w':BG} (hm:DL C ok H es w) (B:Nat->Prop)
 (hos:w'.os=w.os) (O:w'.tape=w.tape) (hout:w'.output=w.output) (q:w.heap.size<=w'.heap.size)
 (L:∀b,b<w.heap.size->¬B b->w'.heap[b]? =w.heap[b]?) (hB:∀b,B b->b<w.heap.size->¬ok b/\(C.w0.heap.size<=b\/b∈C.X))
 (hok:∀b,ok b->ok' b) (M:∀b,ok' b->ok b\/(w.heap.size<=b/\b<w'.heap.size)) (z:Names H H') (hlen:H'.length=es'.length)
 (I:∀(k:Nat) (e:BK) (h:Bv),es'[k]? =some e->H'[k]? =some h->
  (es[k]? =some e/\H[k]? =some h/\(e.live=true->∀b,DZ h.v=some b->¬B b))\/
  (FB ok' w' H' h e/\(e.live=true->∀b,DZ h.v=some b->¬ok' b/\b<w'.heap.size/\(C.w0.heap.size<=b\/b∈C.X)/\
   ∀(k':Nat) (e':BK) (h':Bv),k'≠k->es'[k']? =some e'->e'.live=true->H'[k']? =some h'->DZ h'.v≠some b))):
 DL C ok' H' es' w'/\Ej ok w ok' w':=by
 have hg:Ej ok w ok' w':=fun b j=>⟨hok b j,L b (hm.kC b j) (fun u=>(hB b u (hm.kC b j)).1 j)⟩
 refine⟨⟨⟨hos.trans hm.fr.os,O.trans hm.fr.tape,hout.trans hm.fr.output,EY hm.fr.size q,fun k hk hx=>?_⟩,fun b j=>hok b (hm.yQ b j),?_,?_,hm.names.trans z,hlen,?_,?_,?_⟩,hg⟩
 ·have hkw:k<w.heap.size:=Wi hk hm.fr.size;rw[L k hkw (fun j=>(hB k j hkw).2.elim (fun h=>AB) hx)];exact hm.fr.block k hk hx
 ·intro b j;rcases M b j with h|⟨h,_⟩
  ·exact hm.yR b h
  exact .inr (.inl (EY hm.fr.size h))
 ·intro b j;rcases M b j with h|⟨_,h⟩
  ·exact Wi (hm.kC b h) q
  exact h
 ·intro k e h he hh;rcases I k e h he hh with⟨J,h2,h3⟩|⟨J,_⟩
  ·exact(hm.ent k e h J h2).mono hg z (fun hl b j=>L b (hm.blk k e h b J hl h2 j).2.1 (h3 hl b j))
  exact J
 ·intro k e h b he hl hh j;rcases I k e h he hh with⟨J,h2,h3⟩|⟨_,J⟩
  ·have :=hm.blk k e h b J hl h2 j;refine⟨fun u=>?_,Wi this.2.1 q,this.2.2⟩;rcases M b u with h4|⟨h4,_⟩
   ·exact this.1 h4
   omega
  exact⟨(J hl b j).1,(J hl b j).2.1,(J hl b j).2.2.1⟩
 intro k k' e e' h h' b he he' hl U hh hh' j u;apply X8;intro Y;rcases I k e h he hh with⟨J,h2,h3⟩|⟨_,J⟩
 ·rcases I k' e' h' he' hh' with⟨Z,h2',h3'⟩|⟨_,Z⟩
  ·exact Y (hm.Gg k k' e e' h h' b J Z hl U h2 h2' j u)
  exact(Z U b u).2.2.2 k e h Y he hl hh j
 exact(J hl b j).2.2.2 k' e' h' (fun e=>Y e.symm) he' U hh' u
def aCw {α:Type} {l:A8 α} {i:Nat} {z:α} (h:i<l.length):l.getD i z=l[i]:=by simp[List.getD,h]
def WX {α:Type} {l:A8 α} {a x:α} {k:Nat} (h:(l++[a])[k]? =some x):l[k]? =some x\/(k=l.length/\x=a):=by
 by_cases q:k<l.length
 ·rw[Hw q]at h;exact .inl h
 have j:=(G7.1 h).1;simp at j;have :k=l.length:=AB
 subst this;simp at h;exact .inr ⟨rfl,h.symm⟩
def DL.push {C:Ee} {ok:Nat->Prop} {H:A8 Bv} {es:A8 BK} {w:BG} (hm:DL C ok H es w) (o:Obj) (h:Bv) (e:BK) (J:∀b,DZ h.v=some b->b=w.heap.size)
 (he:FB ok (w.alloc o) (H++[h]) h e):DL C ok (H++[h]) (es++[e]) (w.alloc o)/\Ej ok w ok (w.alloc o):=by
 refine hm.change (fun _=>False) rfl rfl rfl BR (fun b J _=>KC _ _ _ J) (fun _ h=>h.elim) (fun _ h=>h) (fun _ h=>.inl h) (I7 _ _) ZR ?_;intro k e' h' L q;rcases WX L with I|⟨I,h2⟩
 ·left;refine⟨I,?_,fun _ _ _ h=>h⟩;have M:k<H.length:=by rw[hm.hlen];exact(G7.1 I).1
  rwa [Hw M]at q
 subst h2;have M:k=H.length:=by rw[hm.hlen];exact I
 subst M;simp at q;subst q;refine .inr ⟨he,fun _ b O=>?_⟩;obtain rfl:=J b O;refine⟨fun u=>absurd (hm.kC _ u) AB,BR,.inl hm.fr.size,fun k' U Y Z hk' hl j z=>?_⟩;rcases WX hk' with u|⟨u,_⟩
 ·have hk2:k'<H.length:=by rw[hm.hlen];exact(G7.1 u).1
  rw[Hw hk2]at j;exact absurd (hm.blk k' U Y _ u hl j z).2.1 AB
 rw[←hm.hlen]at u;exact Z u
def DL.fresh {C:Ee} {ok:Nat->Prop} {H:A8 Bv} {es:A8 BK} {w:BG} (hm:DL C ok H es w) (o:Obj):
 DL C (fun b=>ok b\/b=w.heap.size) H es (w.alloc o)/\Ej ok w (fun b=>ok b\/b=w.heap.size) (w.alloc o):=by
 refine hm.change (fun _=>False) rfl rfl rfl BR (fun b j _=>KC _ _ _ j) (fun _ h=>h.elim) (fun _ h=>.inl h) (fun b h=>?_) (.refl _) hm.hlen ?_
 ·rcases h with h|rfl
  ·exact .inl h
  exact .inr ⟨EW _,BR⟩
 intro k e h q u;exact .inl ⟨q,u,fun _ _ _ h=>h⟩
def DL.drew {C:Ee} {ok:Nat->Prop} {H:A8 Bv} {es:A8 BK} {w:BG} (hm:DL C ok H es w):DL C ok H es w.drew/\Ej ok w ok w.drew:=
 hm.change (fun _=>False) rfl rfl rfl (EW _) (fun _ _ _=>rfl) (fun _ h=>h.elim) (fun _ h=>h) (fun _ h=>.inl h) (.refl _) hm.hlen fun _ _ _ j q=>.inl ⟨j,q,fun _ _ _ h=>h⟩
def FB.dead {ok:Nat->Prop} {w:BG} {H:A8 Bv} {h:Bv}:FB ok w H h .dead:=trivial
def R.aeU {ok:Nat->Prop} {w:BG} {H:A8 Bv} {x:Aa} {v:Ai} (h:R ok w H x v) (hl:x.cells.all Aa.leaf=true):G9 ok w H x.cells v.cells.toList:=by
 rw[Dw]at hl;cases h with
 |d x v h=>
  cases h with
  |agg cs vs hs L O=>
   refine⟨by simp[Aa.cells,D.cells,Value.cells,hs],fun i hi=>?_⟩;simp only[Aa.cells,D.cells,Cm]at hi;have U:(Aa.cells (.d (.agg cs))).getD i .junk=.d (cs.getD i Dl):=by simp[Aa.cells,D.cells,List.getD,hi]
   have z:i<vs.size:=AB
   have M:(Value.cells (.agg vs)).toList.getD i undef=vs.getD i undef:=aTr
   rw[U,M];exact⟨L i hi,.d _ _ (O i hi)⟩
  |lit v=>
   have q:=hl (.d (.lit v)) (by simp[Aa.cells,D.cells]);have e:v.cells= #[v]:=by cases v<;>first|rfl|(simp[Aa.leaf,D.leaf,Value.oneCell']at q)
   refine⟨by simp[Aa.cells,D.cells,e],fun i hi=>?_⟩;simp[Aa.cells,D.cells]at hi;subst hi;rw[e];exact⟨q,.d _ _ (.lit v)⟩
  |sl0 ad cap=>
   refine⟨rfl,fun i hi=>?_⟩;simp[Aa.cells,D.cells]at hi;subst hi;exact⟨rfl,.d _ _ (.sl0 ad cap)⟩
  |sl es b off cap size q u I J Y Z=>
   refine⟨rfl,fun i hi=>?_⟩;simp[Aa.cells,D.cells]at hi;subst hi;exact⟨rfl,.d _ _ (.sl es b off cap size q u I J Y Z)⟩
  |ref cs off b o q u I J=>
   refine⟨rfl,fun i hi=>?_⟩;simp[Aa.cells,D.cells]at hi;subst hi;exact⟨rfl,.d _ _ (.ref cs off b o q u I J)⟩
  |fn f first cap vs us q u I J=>
   refine⟨rfl,fun i hi=>?_⟩;simp[Aa.cells,D.cells]at hi;subst hi;exact⟨rfl,.d _ _ (.fn f first cap vs us q u I J)⟩
  |OE t x v q=>
   refine⟨rfl,fun i hi=>?_⟩;simp[Aa.cells,D.cells]at hi;subst hi;exact⟨rfl,.d _ _ (.OE t x v q)⟩
 |ptr k off b s h=>
  exact⟨rfl,fun i hi=>by simp[Aa.cells]at hi;subst hi;exact⟨rfl,.ptr k off b s h⟩⟩
 |aS k ad n cap s h=>
  exact⟨rfl,fun i hi=>by simp[Aa.cells]at hi;subst hi;exact⟨rfl,.aS k ad n cap s h⟩⟩
 |kX k i off b n cap s h=>
  exact⟨rfl,fun j hi=>by simp[Aa.cells]at hi;subst hi;exact⟨rfl,.kX k i off b n cap s h⟩⟩
 |fn f first cap vs us q u I J=>
  exact⟨rfl,fun i hi=>by simp[Aa.cells]at hi;subst hi;exact⟨rfl,.fn f first cap vs us q u I J⟩⟩
 |mp k v s hl h=>
  have e:v.cells= #[v]:=by cases v<;>first|rfl|(simp[Value.oneCell']at hl)
  exact⟨by simp[Aa.cells,e],fun j hi=>by simp[Aa.cells]at hi;subst hi;rw[e];exact⟨rfl,.mp k v s hl h⟩⟩
 |clip xs ad h=>exact⟨rfl,fun i hi=>by simp[Aa.cells]at hi;subst hi;exact⟨rfl,.clip xs ad h⟩⟩
 |wo k ad n cap s h=>exact⟨rfl,fun i hi=>by simp[Aa.cells]at hi;subst hi;exact⟨rfl,.wo k ad n cap s h⟩⟩
 |eH xs vs q u=>have :=hl (.eH xs) (by simp[Aa.cells]);simp[Aa.leaf]at this
 |ag xs vs q L u=>
  refine⟨by simp[Aa.cells,Value.cells,q],fun i hi=>?_⟩;have z:i<vs.size:=by rw[q];exact hi
  have M:(Value.cells (.agg vs)).toList.getD i undef=vs.getD i undef:=aTr
  rw[M];exact⟨L i hi,u i hi⟩
 |junk v=>have :=hl .junk (by simp[Aa.cells]);simp[Aa.leaf]at this
section
variable {P:CS} {o:Oper} {es:A8 BK}
def aBQ (w:BG):∀b,DZ (Bv.v ⟨.pointer (some ⟨w.heap.size,0,none⟩),0⟩)=some b->b=w.heap.size:=fun b j=>by simpa[DZ]using j.symm
def Bz.eff {ns:A8 (Bg×Aa)} {x:Aa} {es':A8 BK}
 (h:∀(C:Ee) (ok:Nat->Prop) (H:A8 Bv) (a:Act) (w:BG),DL C ok H es w->(∀n∈ns,R ok w H n.2 (a.eval n.1))->
  ∃v w' ok' H',((execOp a.eval o).run P w=.ok (.value v) w'\/(v=undef/\(execOp a.eval o).run P w=.ok .skip w'))/\Ej ok w ok' w'/\Names H H'/\DL C ok' H' es' w'/\R ok' w' H' x v):Bz P o ns es x es':=by
 intro C ok H a w Q hm J;obtain⟨v,w',ok',H',j,q,u,z,I⟩:=h C ok H a w hm J;unfold Oper.wp;rcases j with j|⟨rfl,j⟩
 ·rw[j];exact⟨v,ok',H',rfl,q,u,z,I⟩
 rw[j];exact⟨undef,ok',H',rfl,q,u,z,I⟩
def akG {t:Bj} {x:Bg} {v:Aa} (hl:v.cells.all Aa.leaf=true) (u:o.op=.box t x):Bz P o [(x,v)] es (.ptr es.length 0) (es++[.box v.cells]):=
 .eff fun C ok H a w hm z=>by
  have q:=KU z;simp only at q
  have j:FB ok (w.alloc (.cells (a.eval x).cells t)) (H++[⟨.pointer (some ⟨w.heap.size,0,none⟩),0⟩]) ⟨.pointer (some ⟨w.heap.size,0,none⟩),0⟩ (.box v.cells):=
   ⟨w.heap.size,(a.eval x).cells,t,rfl,Vp w _,(q.aeU hl).mono (fun b j=>⟨j,KC _ _ _ (hm.kC b j)⟩) (I7 _ _)⟩
  obtain⟨I,J⟩:=hm.push (.cells (a.eval x).cells t) ⟨.pointer (some ⟨w.heap.size,0,none⟩),0⟩ _ (aBQ w) j;refine⟨_,_,ok,_,.inl ?_,J,I7 _ _,I,.ptr _ _ w.heap.size 0 Pn⟩;simp[execOp,u,Instr.box,newVar,newRow]
def Oa :Ai->D
 | .slice none 0 0=>.sl []
 |v=>.lit v
def fE {ok:Nat->Prop} {w:BG} (v:Ai):Dq ok w (Oa v) v:=by
 unfold Oa;split
 ·exact .sl0 none 0
 exact .lit v
def pX {v:Ai} (h:v.oneCell'=true):(Oa v).leaf=true:=by
 unfold Oa;split
 ·rfl
 exact h
def Fh (z:Ai):A8 Aa:=z.cells.toList.map fun v=>.d (Oa v)
def afa {t:Bj} {z:Ai} (q:(P.info? t).bind (·.zero)=some z) (hl:z.cells.all (·.oneCell')=true) (u:o.op=.alloc t):Bz P o [] es (.ptr es.length 0) (es++[.box (Fh z)]):=
 .eff fun C ok H a w hm U=>by
  have I:FB ok (w.alloc (.cells z.cells t)) (H++[⟨.pointer (some ⟨w.heap.size,0,none⟩),0⟩]) ⟨.pointer (some ⟨w.heap.size,0,none⟩),0⟩ (.box (Fh z)):=by
   refine⟨w.heap.size,z.cells,t,rfl,Vp w _,by simp[Fh],fun i hi=>?_⟩;simp only[Fh,Cm,TY]at hi;have J:(Fh z).getD i .junk=.d (Oa z.cells[i]):=by simp[Fh,List.getD,hi]
   have L:z.cells.toList.getD i undef=z.cells[i]:=MX
   rw[J,L];exact⟨pX ((TQ.1 hl) _ BR),.d _ _ (fE _)⟩
  obtain⟨M,O⟩:=hm.push (.cells z.cells t) ⟨.pointer (some ⟨w.heap.size,0,none⟩),0⟩ _ (aBQ w) I;refine⟨_,_,ok,_,.inl ?_,O,I7 _ _,M,.ptr _ _ w.heap.size 0 Pn⟩;obtain⟨i,hi,j⟩:=ig.1 q;simp[execOp,u,Instr.alloc,zeroValue,typeInfo,hi,j,newVar,newRow]
def NR {l:A8 BK} {k j:Nat} {a x:BK} (q:k<l.length) (h:(l.set k a)[j]? =some x):(j=k/\x=a)\/(j≠k/\l[j]? =some x):=by
 by_cases e:k=j
 ·subst e;simp[q]at h;exact .inl ⟨rfl,h.symm⟩
 rw[Xu e]at h;exact .inr ⟨fun h'=>e h'.symm,h⟩
def DL.upd {C:Ee} {ok:Nat->Prop} {H:A8 Bv} {w w':BG} (hm:DL C ok H es w) {k:Nat} {M e:BK} {h:Bv} {b:Nat} (hk:es[k]? =some M) (I:M.live=true) (hh:H[k]? =some h) (hb:DZ h.v=some b)
 (hos:w'.os=w.os) (J:w'.tape=w.tape) (O:w'.output=w.output) (hsize:w'.heap.size=w.heap.size)
 (z:∀c,c≠b->w'.heap[c]? =w.heap[c]?) (he:Ej ok w ok w'->FB ok w' H h e):DL C ok H (es.set k e) w'/\Ej ok w ok w':=by
 have U:=hm.blk k M h b hk I hh hb;have hg:Ej ok w ok w':=fun c q=>⟨q,z c (fun e=>U.1 (e▸q))⟩
 refine hm.change (fun c=>c=b) hos J O AB (fun c _ q=>z c q) (fun c q _=>by subst q;exact⟨U.1,U.2.2⟩) (fun _ h=>h) (fun _ h=>.inl h) (.refl _) ZR ?_;intro j e' h' hj u;have Y:k<es.length:=(G7.1 hk).1;rcases NR Y hj with⟨rfl,rfl⟩|⟨L,Z⟩
 ·rw[hh]at u;obtain rfl:=Ch u;refine .inr ⟨he hg,fun _ c q=>?_⟩;rw[hb]at q;obtain rfl:=Ch q;refine⟨U.1,AB,U.2.2,fun k' e'' h'' L hk' hl' aAS aAT=>L ?_⟩;rcases NR Y hk' with⟨rfl,_⟩|⟨_,hk''⟩
  ·rfl
  exact hm.Gg k' j e'' M h'' h b hk'' hk hl' I aAS hh aAT hb
 refine .inl ⟨Z,u,fun hl c q hcb=>L ?_⟩;subst hcb;exact hm.Gg j k e' M h' h c Z hk hl I u hh q hb
def aKl (w:BG) (g:Nat) (cs:BQ Ai) (k:Nat) (h:k≠g):(w.setRow g cs).heap[k]? =w.heap[k]? :=setRow_other w g k cs h
def setAt {α:Type} (cs:A8 α) (off:Nat) (ys:A8 α):A8 α:=cs.take off++ys++cs.drop (off+ys.length)
def RI {α:Type} {cs ys:A8 α} {off:Nat} (h:off+ys.length<=cs.length):(setAt cs off ys).length=cs.length:=by simp[setAt];omega
def YK {α:Type} {cs ys:A8 α} {off:Nat} (h:off+ys.length<=cs.length) (i:Nat) (z:α):(setAt cs off ys).getD i z=if off<=i/\i<off+ys.length then ys.getD (i-off) z else cs.getD i z:=by
 unfold setAt;have j:(cs.take off).length=off:=Et
 by_cases hi:i<off
 ·rw[DU AB];simp only[List.getD];rw[IX,Hw AB,NZ hi]
 by_cases q:i<off+ys.length
 ·rw[D8 AB];simp only[List.getD];rw[IX,Ju AB,j,Hw AB]
 rw[DU AB];simp only[List.getD];rw[Ju Et,Px];congr 2;simp;omega
def aNj {t:Bj} {x y:Bg} {k off n:Nat} {cs:A8 Aa} {v:Aa} (hk:es[k]? =some (.box cs)) (hl:v.cells.all Aa.leaf=true) (hs:∀w,(sizeOf t).run P w=.ok n w) (hn:v.cells.length=n) (hle:off+n<=cs.length) (ho:o.op=.store t x y):
 Bz P o [(x,.ptr k off),(y,v)] es .junk (es.set k (.box (setAt cs off v.cells))):=
 .eff fun C ok H a w hm I=>by
  have U:=(F8 I).1;have h2:=(F8 I).2;simp only at U h2;generalize he:a.eval x=u at U;obtain⟨h,hh,Y⟩:=GX hm.ent hm.hlen hk;obtain⟨b,vs,T,hb,q,J,L⟩:=Y;have j:=h2.aeU hl;cases U with
  |ptr _ _ M s hH=>
   rw[hh]at hH;obtain rfl:=Ch hH;simp at hb;subst hb;have z:(a.eval y).cells.toList.length=n:=by rw[j.1,hn]
   have aEX:vs.size=cs.length:=V7
   have Z:(a.eval y).cells.size=n:=KW
   have hst:=aF9 (P:=P) M off T (a.eval y).cells.toList 0 vs w q (by rw[z];omega) (fun u hu=>by
    obtain⟨i,hi,rfl⟩:=Gf hu;have O:=j.2 i (by rw[←j.1];exact hi);have :=O.2.leaf O.1
    rwa [aCw hi]at this)
   simp only[RU]at hst;have hlt:M<w.heap.size:=(Gn.1 q).1
   obtain⟨h3,h4⟩:=hm.upd (e:=.box (setAt cs off v.cells)) (w':=w.setRow M (vs.toList.take off++(a.eval y).cells.toList++vs.toList.drop (off+(a.eval y).cells.toList.length)).toArray) hk rfl hh rfl rfl rfl rfl aIt (fun c hc=>aKl _ _ _ _ hc) (fun hg=>by
    refine⟨M,_,T,rfl,oW w M vs _ T (0,0) q,?_,fun i hi=>?_⟩
    ·have e1:(vs.toList.take off++(a.eval y).cells.toList++vs.toList.drop (off+(a.eval y).cells.toList.length))=setAt vs.toList off (a.eval y).cells.toList:=rfl;rw[e1,aEV,RI (by have :=vs.length_toList;omega),RI AB];simpa using J
    have e1:(vs.toList.take off++(a.eval y).cells.toList++vs.toList.drop (off+(a.eval y).cells.toList.length))=setAt vs.toList off (a.eval y).cells.toList:=rfl;rw[RI AB]at hi;rw[e1,aEV,YK (by have :=vs.length_toList;omega),YK AB,z,hn];split
    ·have O:=j.2 (i-off) AB;exact⟨O.1,O.2.mono hg (.refl _)⟩
    exact⟨(L i hi).1,(L i hi).2.mono hg (.refl _)⟩)
   refine⟨undef,_,ok,H,.inr ⟨rfl,?_⟩,h4,.refl _,h3,.junk _⟩;simp only[execOp,ho,he,Instr.storeAt,Instr.sureAddr,storeVar,FW,Gi,Fj,hs,Z,ne_eq,not_true_eq_false,L6,hst]
end
def Vt (x:D) (es:A8 D):flat (x::es)=x.cells.map .d++flat es:=TA
def jv (xs ys:A8 D):flat (xs++ys)=flat xs++flat ys:=TA
def SN {size:Nat}:∀{es:A8 D},(∀x∈es,x.cells.length=size)->(flat es).length=es.length*size
 | [],_=>TA
 |x::es,h=>by
  rw[Vt,EP,Cm,h x BR,SN (fun y j=>h y (Gp _ j)),GI,Un,Ug]
def flat_get {size:Nat}:∀{es:A8 D},(∀x∈es,x.cells.length=size)->∀i j,i<es.length->j<size->(flat es).getD (i*size+j) .junk=.d ((es.getD i Dl).cells.getD j Dl)
 | [],_,i,j,hi,_=>Q9
 |x::es,h,0,j,_,u=>by
  have q:=h x BR;rw[Vt,Nat.zero_mul,Jj];simp only[List.getD];rw[Hw (by simp[q,u])];have z:j<x.cells.length:=AB
  simp[z]
 |x::es,h,i+1,j,hi,u=>by
  have q:=h x BR;have I:=flat_get (fun y J=>h y (Gp _ J)) i j Gt u;rw[Vt];simp only[List.getD]at I ⊢;rw[Ju (by simp[q,Un];omega)];have e:(i+1)*size+j-(x.cells.map Aa.d).length=i*size+j:=by simp[q,Un];omega
  rw[e,I];simp
section
variable {P:CS} {o:Oper} {es:A8 BK}
structure WW (w:World) (v:Value) (m size:Nat) (news:List Value):Prop where
 len:news.length=m*size
 one:∀u∈news,u.oneCell'=true
 at_:(∃ad c,v=.slice (some ad) m c/\∀(j:Nat) (u:Value),news[j]? =some u->w.cell? (ad.add j)=some u)\/(∃c,v=.slice none 0 c/\m=0)
def kF {ok:Nat->Prop} {w:BG} (H:A8 Bv) {ys:A8 D} {v:Ai} {size:Nat} (h:Dq ok w (.sl ys) v) (hs:∀x∈ys,x.cells.length=size):
 ∃z,WW w v ys.length size z/\G9 ok w H (flat ys) z:=by
 cases h with
 |sl0 ad cap=>
  refine⟨[],⟨BR,BR,?_⟩,TA,fun i hi=>zH⟩;cases ad with
  |none=>exact .inr ⟨cap,rfl,rfl⟩
  |some ad=>exact .inl ⟨ad,cap,rfl,fun j u h=>IL⟩
 |sl _ b off cap q hcap hok hs' hf hx hc=>
  by_cases hy:ys=[]
  ·subst hy;refine⟨[],⟨BR,BR,.inl ⟨⟨b,off,none⟩,cap,rfl,fun j u h=>IL⟩⟩,TA,fun i hi=>zH⟩
  have J:0<ys.length:=gZ.2 hy;have hsz:q=size:=by rw[←hs' 0 J];exact hs _ (by simp[List.getD,J])
  subst hsz;have hl:=SN hs
  have key:∀k,k<ys.length*q->∃i j,k=i*q+j/\i<ys.length/\j<q:=by
   intro k I
   have hp:0<q:=by
    rcases V4 q with h0|h0
    ·rw[h0,Nat.mul_zero]at I;omega
    exact h0
   exact⟨k/q,k % q,by rw[UQ];exact(Bad k q).symm,oq (by rwa [UQ]at I),YN _ hp⟩
  let z:A8 Ai:=(List.range (ys.length*q)).map fun k=>cellAt w b (off+k)
  have L:z.length=ys.length*q:=by simp[z]
  have O:∀k,k<ys.length*q->z.getD k undef=cellAt w b (off+k):=by
   intro k I;simp[z,List.getD,I]
  have M:G9 ok w H (flat ys) z:=by
   refine⟨by rw[L,hl],fun k I=>?_⟩;rw[hl]at I;obtain⟨i,j,rfl,hi,U⟩:=key k I;rw[flat_get hs i j hi U,O _ I];exact⟨hf i hi j U,.d _ _ (hc i hi j U)⟩
  refine⟨z,⟨L,fun u hu=>?_,.inl ⟨⟨b,off,none⟩,cap,rfl,fun k u I=>?_⟩⟩,M⟩
  ·obtain⟨k,I,rfl⟩:=Gf hu;have h5:=M.2 k (by rw[←M.1];exact I);have :=h5.2.leaf h5.1
   rwa [aCw I]at this
  obtain⟨Y,rfl⟩:=G7.1 I;rw[addr_add];have Z:k<ys.length*q:=by rw[←L];exact Y
  obtain⟨i,j,e,hi,U⟩:=key k Z;have hxx:=hx i hi j U;rw[←e]at hxx;obtain⟨u',hu'⟩:=VA.1 hxx;have :=O k Z;rw[aCw Y]at this;rw[this];simp[cellAt,hu']
structure GU (P:Program) (t e:TypeId) (size bytes:Nat):Prop where
 und:P.underlying t=some (.slice e)
 info:∃i z,P.info? e=some i/\i.zero=some z/\i.size=size/\i.bytes=bytes/\z.cells.size=size
 pos:0<size
def aPl (P:CS) (t e size j:Nat):AQ:=
 (match P.underlying t with |some (.slice e')=>e'=e|_=>false)&&(match P.info? e with |some i=>i.size=size&&(i.bytes=j)&&(match i.zero with |some z=>z.cells.size=size|none=>false)|none=>false)&&(0<size)
def KZ {P:CS} {t e size j:Nat} (h:aPl P t e size j=true):GU P t e size j:=by
 unfold aPl at h;simp only[D5,Ht]at h;obtain⟨⟨q,u⟩,J⟩:=h;refine⟨?_,?_,J⟩
 ·split at q
  ·rename_i e' L;rw[L];simp at q;rw[q]
  cases q
 split at u
 ·rename_i i hi;simp only[D5,Ht]at u;obtain⟨⟨M,O⟩,I⟩:=u;split at I
  ·rename_i z U;exact⟨i,z,hi,U,M,O,SA⟩
  cases I
 cases u
def agP {w:BG} {t e:Bj} {ty:Bj} {size O:Nat} (hE:GU P t e size O) {v:Ai} {n:Nat} {xs:A8 Ai} (L:w.ownsRow 0 e size v n xs) {x:Ai} {m:Nat} {I:A8 Ai} (q:WW w x m size I)
 (hb:(n+m)*O<=140737488355328) (hn:n+m<=maxLen):
 ∃v' w',(Builtin.append_ #[t,t] ty #[v,x]).run P w=.ok v' w'/\w'.ownsRow 0 e size v' (n+m) (xs++I)/\w.grownBy w' v.ownBlock/\(∀g,DZ v'=some g->DZ v=some g\/w.heap.size<=g):=by
 obtain⟨i,z,hi,hz,hs,Z,hzs⟩:=hE.info;rcases q.at_ with⟨ad,c,rfl,J⟩|⟨c,rfl,rfl⟩
 ·obtain⟨v',w',hr,ho',hg,hnil⟩:=run_append_own (P:=P) w 0 t ty e i z size O hE.und hi hz hs Z hzs hE.pos v n xs L ad m c I q.len J q.one hn hb (Ec _);refine⟨v',w',hr,ho',hg,fun g U=>?_⟩;rcases L.2 with⟨rfl,rfl⟩|⟨g0,cap,cur,rfl,hbg,hg0,hnc,hcm,hcs,htake⟩
  ·have hx:xs=[]:=Gy (by simpa using L.1);subst hx;obtain⟨v2,w2,M,ho2,_,_⟩:=run_append_own (P:=P) w w.heap.size t ty e i z size O hE.und hi hz hs Z hzs hE.pos _ 0 [] (yw w w.heap.size e size) ad m c I q.len J q.one hn hb (EW _);rw[hr]at M;simp only[Result.ok.injEq]at M;obtain⟨rfl,rfl⟩:=M;rcases ho2.2 with⟨rfl,_⟩|⟨g',_,_,rfl,hle,_⟩
   ·simp[DZ]at U
   simp[DZ]at U;subst U;exact .inr hle
  by_cases Y:n+m<=cap
  ·have hfit:n*i.size+I.length<=cur.size:=by rw[q.len,hcs,hs,←Xx];exact Js _ Y
   have M:=run_append_room (P:=P) w t ty e i hE.und hi g0 n cap cur hg0 ad m c I (by rw[hs];exact q.len) J q.one Y hfit;rw[hr]at M;simp only[Result.ok.injEq]at M;obtain⟨rfl,rfl⟩:=M;exact .inl U
  have holds:∀(j:Nat) (u:Ai),xs[j]? =some u->w.cell? ((⟨g0,0,none⟩:Addr).add j)=some u:=L.cells (g:=g0) rfl;have M:=run_append_grow (P:=P) w t ty e i z hE.und hi hz ⟨g0,0,none⟩ n cap xs (by rw[hs];exact L.1) holds ad m c I (by rw[hs];exact q.len) J AB (by unfold maxLen at hn;omega) (growslice_fits AB (by rw[Z];exact hb));rw[hr]at M;simp only[Result.ok.injEq]at M;obtain⟨rfl,rfl⟩:=M;simp[DZ]at U;subst U;exact .inr (EW _)
 have hnews:I=[]:=Gy (by simpa using q.len);subst hnews;refine⟨v,w,?_,UE,⟨rfl,rfl,rfl,EW _,fun _ _ _=>rfl⟩,fun g hg=>.inl hg⟩;rcases L.2 with⟨rfl,rfl⟩|⟨g,cap,cur,rfl,_,_,hnc,_⟩
 ·simp[Builtin.append_,aBT hE.und,sizeOf,typeInfo,hi,Builtin.lenOf,Builtin.firstCells]
 simp[Builtin.append_,aBT hE.und,sizeOf,typeInfo,hi,Builtin.lenOf,Builtin.firstCells,hnc,storeCells]
def aHx {w:BG} {t e:Bj} {ty:Bj} {size I:Nat} (hE:GU P t e size I) {v:Ai} {n:Nat} {xs:A8 Ai} (u:lW w e size v n xs) {x:Ai} {m:Nat} {q:A8 Ai} (j:WW w x m size q)
 (hb:(n+m)*I<=140737488355328) (hn:n+m<=maxLen):
 ∃v' w',(Builtin.append_ #[t,t] ty #[v,x]).run P w=.ok v' w'/\lW w' e size v' (n+m) (xs++q)/\w.grownBy w' v.ownBlock/\(∀g,DZ v'=some g->DZ v=some g\/w.heap.size<=g):=by
 rcases u.2 with h|⟨g,cap,U,rfl,h0,hg0,hnc,hcm,hcs,Y⟩
 ·obtain⟨v',w',h1,h2,Z,h4⟩:=agP (ty:=ty) hE ⟨u.1,.inl h⟩ j hb hn;exact⟨v',w',h1,.of h2,Z,h4⟩
 obtain⟨i,z,hi,hz,hs,hby,hzs⟩:=hE.info;have hlen:(xs++q).length=(n+m)*size:=by rw[EP,u.1,j.len,Xx]
 rcases j.at_ with⟨ad,c,rfl,L⟩|⟨c,rfl,rfl⟩
 ·by_cases J:n+m<=cap
  ·have O:n*i.size+q.length<=U.size:=by
    rw[j.len,hs,←Xx];exact EY (Js _ J) hcs
   have hr:=run_append_room (P:=P) w t ty e i hE.und hi g n cap U hg0 ad m c q (by rw[hs];exact j.len) L j.one J O;rw[hs]at hr O;refine⟨_,_,hr,⟨hlen,.inr ⟨g,cap,_,rfl,Ec _,oW w g U _ e _ hg0,J,hcm,?_,?_⟩⟩,⟨rfl,rfl,rfl,BR,fun k _ hk=>setRow_other w g k _ (fun e=>hk (by simp[Value.ownBlock,e]))⟩,fun g' M=>.inl M⟩
   ·simp only[iO,EP,IB,Ji,TY];omega
   rw[Y,←hlen];exact aH9
  obtain⟨v',w',h1,h2,Z⟩:=run_append_arg_grows (P:=P) w t ty e i z size I hE.und hi hz hs hby hzs hE.pos ⟨g,0,none⟩ n cap xs u.1 (u.cells (g:=g) rfl) ad m c q j.len L AB hn hb;refine⟨v',w',h1,.of h2,⟨Z.os,Z.tape,Z.output,Z.size,fun k hk _=>Z.block k hk BR⟩,fun g' M=>.inr ?_⟩;rcases h2.2 with⟨rfl,_⟩|⟨g2,_,_,rfl,hle2,_⟩
  ·simp[DZ]at M
  simp[DZ]at M;subst M;exact hle2
 have hnews:q=[]:=Gy (by simpa using j.len);subst hnews;refine⟨.slice (some ⟨g,0,none⟩) n cap,w,?_,WC,⟨rfl,rfl,rfl,EW _,fun _ _ _=>rfl⟩,fun g hg=>.inl hg⟩;simp[Builtin.append_,aBT hE.und,sizeOf,typeInfo,hi,Builtin.lenOf,Builtin.firstCells,hnc,storeCells]
def DL.turn {C:Ee} {ok:Nat->Prop} {H:A8 Bv} {w w':BG} (hm:DL C ok H es w) {k:Nat} {e0 e:BK} {h h':Bv} (hk:es[k]? =some e0) (M:e0.live=true) (hh:H[k]? =some h)
 (hos:w'.os=w.os) (O:w'.tape=w.tape) (hout:w'.output=w.output) (U:w.heap.size<=w'.heap.size)
 (J:∀c,c<w.heap.size->DZ h.v≠some c->w'.heap[c]? =w.heap[c]?) (hb':∀g,DZ h'.v=some g->g<w'.heap.size/\(DZ h.v=some g\/w.heap.size<=g))
 (he:Ej ok w ok w'->FB ok w' (H++[h']) h' e):DL C ok (H++[h']) (es.set k .dead++[e]) w'/\Ej ok w ok w':=by
 have h0:=fun b hb=>hm.blk k e0 h b hk M hh hb;have hkl:k<es.length:=(G7.1 hk).1;have hg:Ej ok w ok w':=fun c I=>⟨I,J c (hm.kC c I) (fun e=>(h0 c e).1 I)⟩
 refine hm.change (fun c=>DZ h.v=some c) hos O hout U J (fun c I _=>⟨(h0 c I).1,(h0 c I).2.2⟩) (fun _ h=>h) (fun _ h=>.inl h) (I7 _ _) ZR ?_;intro j e' hj' hj u;rcases WX hj with h1|⟨h1,h2⟩
 ·have hjl:j<H.length:=by rw[hm.hlen];simpa using(G7.1 h1).1
  rw[Hw hjl]at u;rcases NR hkl h1 with⟨rfl,rfl⟩|⟨Y,h3⟩
  ·exact .inr ⟨trivial,fun h=>Gz⟩
  refine .inl ⟨h3,u,fun hl c I hcb=>Y ?_⟩;exact hm.Gg j k e' e0 hj' h c h3 hk hl M u hh I hcb
 subst h2;have hk2:j=H.length:=by rw[hm.hlen];simpa using h1
 subst hk2;simp at u;subst u;refine .inr ⟨he hg,fun _ c I=>?_⟩;obtain⟨h3,q⟩:=hb' c I;refine⟨fun hok=>?_,h3,?_,fun k' e'' h'' Y hk' Z z L=>?_⟩
 ·rcases q with q|q
  ·exact(h0 c q).1 hok
  have :=hm.kC c hok;omega
 ·rcases q with q|q
  ·exact(h0 c q).2.2
  exact .inl (EY hm.fr.size q)
 rcases WX hk' with h5|⟨h5,_⟩
 ·have hkl':k'<H.length:=by rw[hm.hlen];simpa using(G7.1 h5).1
  rw[Hw hkl']at z;rcases NR hkl h5 with⟨rfl,rfl⟩|⟨hne',h6⟩
  ·cases Z
  rcases q with q|q
  ·exact hne' (hm.Gg k' k e'' e0 h'' h c h6 hk Z M z hh L q)
  have :=(hm.blk k' e'' h'' c h6 Z z L).2.1;omega
 simp at h5;exact Y (by rw[h5,hm.hlen])
def tV {w:BG} {e size n:Nat} {v:Ai} {xs:A8 Ai} (h:lW w e size v n xs) {g:Nat} (j:DZ v=some g):g<w.heap.size:=by
 rcases h.2 with⟨rfl,_⟩|⟨u,_,_,rfl,_,q,_⟩
 ·simp[DZ]at j
 simp[DZ]at j;subst j;exact(Gn.1 q).1
def aJ7 {w:BG} {e size n:Nat} {v:Ai} {xs:A8 Ai} (h:lW w e size v n xs):v.ownBlock=DZ v:=by
 rcases h.2 with⟨rfl,_⟩|⟨j,_,_,rfl,_⟩<;>rfl
def Pe {ok:Nat->Prop} {w:BG} {H:A8 Bv} {k:Nat} {v:Ai} {h:Bv} (q:R ok w H (.aS k) v) (u:H[k]? =some h):v=h.v:=by
 cases q with
 |aS _ ad n cap s j=>rw[u]at j;rw[Ch j]
def aom {C:Ee} {ok:Nat->Prop} {H:A8 Bv} {w:BG} (hm:DL C ok H es w) {t ty e:Bj} {size q k:Nat} {xs ys:A8 D} (hE:GU P t e size q) (hk:es[k]? =some (.arr e size xs))
 {v x:Ai} (hv:R ok w H (.aS k) v) {j:A8 Ai} (L:WW w x ys.length size j) (I:G9 ok w H (flat ys) j) (hys:∀y∈ys,y.cells.length=size) (hb:(xs.length+ys.length)*q<=140737488355328) (hn:xs.length+ys.length<=maxLen):
 ∃v' w' H',(Builtin.append_ #[t,t] ty #[v,x]).run P w=.ok v' w'/\Ej ok w ok w'/\Names H H'/\DL C ok H' (es.set k .dead++[.arr e size (xs++ys)]) w'/\R ok w' H' (.aS es.length) v':=by
 obtain⟨h,hh,hok⟩:=GX hm.ent hm.hlen hk;obtain rfl:=Pe hv hh;obtain⟨h1,h2,Du,z,hrs⟩:=hok;obtain⟨v',w',hr,J,M,O⟩:=aHx (P:=P) (ty:=ty) hE z L hb hn
 obtain⟨h3,h4⟩:=hm.turn (h':=⟨v',size⟩) (e:=.arr e size (xs++ys)) hk rfl hh M.os M.tape M.output M.size (fun c hc hne=>M.block c hc (by rw[aJ7 z];exact fun e=>hne e.symm)) (fun g U=>⟨tV J U,O g U⟩) (fun Y=>by
  refine⟨rfl,fun y hy=>?_,Du++j,V7,?_⟩
  ·rcases Gx.1 hy with h|h
   ·exact h2 y h
   exact hys y h
  have Z:=hrs.mono Y (I7 H [⟨v',size⟩]);have a2:=I.mono Y (I7 H [⟨v',size⟩]);rw[jv];refine⟨by rw[EP,EP,Z.1,a2.1],fun i hi=>?_⟩;by_cases u:i<(flat xs).length
  ·have e1:(flat xs++flat ys).getD i .junk=(flat xs).getD i .junk:=by simp[List.getD,Hw u]
   have e2:(Du++j).getD i undef=Du.getD i undef:=by simp[List.getD,Hw (by rw[Z.1];exact u:i<Du.length)]
   rw[e1,e2];exact Z.2 i u
  have hi3:i-(flat xs).length<(flat ys).length:=aJs
  have e1:(flat xs++flat ys).getD i .junk=(flat ys).getD (i-(flat xs).length) .junk:=by simp[List.getD,Ju (Us u)]
  have e2:(Du++j).getD i undef=j.getD (i-(flat xs).length) undef:=by simp[List.getD,Ju (by rw[Z.1];omega:Du.length<=i),Z.1]
  rw[e1,e2];exact a2.2 _ hi3)
 refine⟨v',w',_,hr,h4,I7 _ _,h3,?_⟩;have hH:(H++[(⟨v',size⟩:Bv)])[es.length]? =some ⟨v',size⟩:=Pn
 rcases J.2 with⟨rfl,_⟩|⟨g',c',_,rfl,_⟩
 ·exact .aS _ _ _ _ size hH
 exact .aS _ _ _ _ size hH
def af6 {s x:Bg} {t e:Bj} {size j k:Nat} {xs ys:A8 D} (hE:GU P t e size j) (U:es[k]? =some (.arr e size xs)) (q:∀y∈ys,y.cells.length=size)
 (Y:(xs.length+ys.length)*j<=140737488355328) (Z:xs.length+ys.length<=maxLen) (ho:o.op=.call { callee:=.builtin .append,args:= #[s,x],argTypes:= #[t,t] }):
 Bz P o [(s,.aS k),(x,.d (.sl ys))] es (.aS es.length) (es.set k .dead++[.arr e size (xs++ys)]):=
 .eff fun C ok H a w hm u=>by
  have L:=(F8 u).1;have M:=(F8 u).2;simp only at L M;have I:Dq ok w (.sl ys) (a.eval x):=by cases M with |d _ _ h=>exact h
  obtain⟨O,z,J⟩:=kF H I q;obtain⟨v',w',H',hr,r1,r2,r3,r4⟩:=aom (ty:=o.type) hm hE U L z J q Y Z;refine⟨v',w',ok,H',.inl ?_,r1,r2,r3,r4⟩;simp[execOp,ho,resolve,invoke,builtin,hr]
def xX {C:Ee} {ok:Nat->Prop} {H:A8 Bv} {w:BG} (hm:DL C ok H es w) (e:Bj) (size:Nat):
 DL C ok (H++[⟨.slice none 0 0,size⟩]) (es++[.arr e size []]) w/\R ok w (H++[⟨.slice none 0 0,size⟩]) (.aS es.length) (.slice none 0 0):=by
 obtain⟨h,_⟩:=hm.change (ok':=ok) (w':=w) (H':=H++[⟨.slice none 0 0,size⟩]) (es':=es++[.arr e size []]) (fun _=>False) rfl rfl rfl (EW _) (fun _ _ _=>rfl) (fun _ h=>h.elim) (fun _ h=>h) (fun _ h=>.inl h) (I7 _ _) ZR (by
  intro k e' h' u j;rcases WX u with q|⟨q,I⟩
  ·have z:k<H.length:=by rw[hm.hlen];exact(G7.1 q).1
   rw[Hw z]at j;exact .inl ⟨q,j,fun _ _ _ h=>h⟩
  subst I;have z:k=H.length:=by rw[hm.hlen];exact q
  subst z;simp at j;subst j
  exact .inr ⟨⟨rfl,BR,[],⟨BR,.inl ⟨rfl,rfl⟩⟩,TA,fun i hi=>zH⟩,fun _ b J=>by simp[DZ]at J⟩)
 exact⟨h,.aS _ _ _ _ size Pn⟩
def DJ (e:Bj) (size:Nat) (j:o.op=.assign (.const (.slice none 0 0))):Bz P o [] es (.aS es.length) (es++[.arr e size []]):=
 .eff fun C ok H a w hm _=>by
  obtain⟨q,u⟩:=xX hm e size;exact⟨.slice none 0 0,w,ok,_,.inl aHm,.refl _ _,I7 _ _,q,u⟩
def ap4 (j:o.op=.assign (.const (.slice none 0 0))):Bz P o [] es (.d (.sl [])) es:=
 .pure fun _ _ a w _ _ _=>⟨.slice none 0 0,aHm,.d _ _ (.sl0 none 0)⟩
def ag8 (j:o.op=.move (.const (.slice none 0 0))):Bz P o [] es (.d (.sl [])) es:=
 .pure fun _ _ a w _ _ _=>⟨.slice none 0 0,aHm,.d _ _ (.sl0 none 0)⟩
end
def aOB (off:Nat):∀(vs:A8 Ai) (i:Nat) (cells:BQ Ai),off+i+vs.length<=cells.size->
 ((vs.zipIdx i).foldl (fun cs (p:Ai×Nat)=>cs.setIfInBounds (off+p.2) p.1) cells).toList=setAt cells.toList (off+i) vs
 | [],i,cells,h=>by simp[setAt]
 |v::vs,i,cells,h=>by
  simp only[GI]at h;rw[List.zipIdx_cons,Gj];rw[aOB off vs (i+1) _ Et];simp only[aH7];have j:off+i<cells.toList.length:=Et
  unfold setAt;rw[aMg,D8 j];have q:(cells.toList.take (off+i)).length=off+i:=Et
  have u:(List.take (off+i) cells.toList++v::List.drop (off+i+1) cells.toList).take (off+(i+1))=cells.toList.take (off+i)++[v]:=by
   rw[List.take_append,q,Qs AB];have :off+(i+1)-(off+i)=1:=AB
   rw[this];simp
  have z:(List.take (off+i) cells.toList++v::List.drop (off+i+1) cells.toList).drop (off+(i+1)+vs.length)=cells.toList.drop (off+i+(vs.length+1)):=by
   rw[List.drop_append,q,aA5 AB];have :off+(i+1)+vs.length-(off+i)=vs.length+1:=AB
   rw[this];simp[aIT];congr 1;omega
  rw[u,z];simp
def NU :A8 (Nat×Bg)->A8 Aa->A8 (Bg×Aa)
 |(_,x)::j,v::vs=>(x,v)::NU j vs
 |_,_=>[]
def NW (place:Nat->AL (Nat×Nat)) (n:Nat):A8 (Nat×Bg)->A8 Aa->AQ
 |(i,_)::j,v::vs=>(match place i with |some (off,s)=>v.cells.length=s&&(off+s<=n)&&v.cells.all Aa.leaf|none=>false)&&NW place n j vs
 | [],[]=>true
 |_,_=>false
def Jy (place:Nat->AL (Nat×Nat)):A8 Aa->A8 (Nat×Bg)->A8 Aa->A8 Aa
 |cs,(i,_)::j,v::vs=>Jy place (setAt cs ((place i).getD (0,0)).1 v.cells) j vs
 |cs,_,_=>cs
def G9.setAt {ok:Nat->Prop} {w:BG} {H:A8 Bv} {cs ys:A8 Aa} {vs us:A8 Ai} {off:Nat} (h:G9 ok w H cs vs) (k:G9 ok w H ys us) (j:off+ys.length<=cs.length):G9 ok w H (setAt cs off ys) (setAt vs off us):=by
 refine⟨by rw[RI (by rw[h.1,k.1];exact j),RI j,h.1],fun i hi=>?_⟩;rw[RI j]at hi;rw[YK j,YK (by rw[h.1,k.1];exact j),k.1];split
 ·exact k.2 _ AB
 exact h.2 i hi
def qX {ok:Nat->Prop} {w:BG} {H:A8 Bv} {place:Nat->AL (Nat×Nat)} {a:Act}:∀(q:A8 (Nat×Bg)) (vs:A8 Aa) (cs:A8 Aa) (cells:BQ Ai),G9 ok w H cs cells.toList->NW place cs.length q vs=true->
 (∀n∈NU q vs,R ok w H n.2 (a.eval n.1))->∃j,Instr.fill place cells (q.map fun p=>(p.1,a.eval p.2))=some j/\G9 ok w H (Jy place cs q vs) j.toList
 | [],[],cs,cells,J,_,_=>⟨cells,rfl,J⟩
 | [],_::_,_,_,_,h,_=>by simp[NW]at h
 |_::_,[],_,_,_,h,_=>by simp[NW]at h
 |(i,x)::q,v::vs,cs,cells,J,h,M=>by
  simp only[NW,D5]at h;obtain⟨u,Y⟩:=h;cases hp:place i with
  |none=>rw[hp]at u;cases u
  |some os=>
   obtain⟨off,s⟩:=os;rw[hp]at u;simp only[D5,Ht]at u;obtain⟨⟨h3,h4⟩,Z⟩:=u;have O:G9 ok w H v.cells (a.eval x).cells.toList:=(M (x,v) (by simp[NU])).aeU Z;have hsz:(a.eval x).cells.size=s:=by have :=O.1;simp at this;omega
   have U:cells.size=cs.length:=by simpa using J.1
   have z:((a.eval x).cells.zipIdx.foldl (fun cs (p:Ai×Nat)=>cs.setIfInBounds (off+p.2) p.1) cells).toList=setAt cells.toList off (a.eval x).cells.toList:=by
    rw[←Array.foldl_toList,Array.toList_zipIdx];exact aOB off (a.eval x).cells.toList 0 cells Et
   have I:=J.setAt O (off:=off) AB;rw[←z]at I;obtain⟨j,hc,hR⟩:=qX q vs (setAt cs off v.cells) _ I (by rw[RI AB];exact Y) (fun n L=>M n (by simp[NU,L]));refine⟨j,?_,?_⟩
   ·simp only[Gv,Instr.fill,hp];rw[DU Et];exact hc
   simp only[Jy,hp,Nb];exact hR
def Qb (z:Ai) (n:Nat):A8 Aa:=(List.range n).map fun k=>(Fh z).getD (k % z.cells.size) .junk
def aoN {ok:Nat->Prop} {w:BG} {H:A8 Bv} {z:Ai} {n:Nat} (hl:z.cells.all (·.oneCell')=true) (q:0<z.cells.size):G9 ok w H (Qb z n) (((Array.range n).map (z.cells[· % z.cells.size]!)).toList):=by
 refine⟨by simp[Qb],fun i hi=>?_⟩;have j:i<n:=by simpa[Qb]using hi
 have hm:i % z.cells.size<z.cells.size:=YN _ q;have u:(Qb z n).getD i .junk=.d (Oa z.cells[i % z.cells.size]):=by simp[Qb,Fh,List.getD,j,hm]
 have I:(((Array.range n).map (z.cells[· % z.cells.size]!)).toList).getD i undef=z.cells[i % z.cells.size]:=by simp[List.getD,j,hm]
 rw[u,I];exact⟨pX ((TQ.1 hl) _ BR),.d _ _ (fE _)⟩
def aGQ {ok:Nat->Prop} {w:BG} {H:A8 Bv} {z:Ai} (hl:z.cells.all (·.oneCell')=true):G9 ok w H (Fh z) z.cells.toList:=by
 refine⟨by simp[Fh],fun i hi=>?_⟩;simp only[Fh,Cm,TY]at hi;have j:(Fh z).getD i .junk=.d (Oa z.cells[i]):=by simp[Fh,List.getD,hi]
 have q:z.cells.toList.getD i undef=z.cells[i]:=MX
 rw[j,q];exact⟨pX ((TQ.1 hl) _ BR),.d _ _ (fE _)⟩
def aJp {P:CS} {w:BG}:∀(l:A8 Field),(∀f∈l,(P.info? f.type).isSome=true)->
 (l.mapM fun f=>(do pure (f.offset,←sizeOf f.type):Sem (Nat×Nat))).run P w=.ok (l.map fun f=>(f.offset,P.cellsOf f.type)) w
 | [],_=>rfl
 |f::l,h=>by
  obtain⟨i,hi⟩:=VA.1 (h f BR);have j:=aJp (P:=P) (w:=w) l (fun g q=>h g eu);have hs:(sizeOf f.type).run P w=.ok i.size w:=by simp[sizeOf,typeInfo,hi]
  have u:P.cellsOf f.type=i.size:=by simp[Program.cellsOf,hi]
  simp only[List.mapM_cons,FW,hs,Fj,Gi,j,Gv,u]
structure JB (P:Program) (t:TypeId) (places:List (Nat×Nat)) (z:Value):Prop where
 fields:∃fs,P.underlying t=some (.struct fs)/\(∀f∈fs.toList,(P.info? f.type).isSome=true)/\(fs.toList.map fun f=>(f.offset,P.cellsOf f.type))=places
 zero:(P.info? t).bind (·.zero)=some z
 one:z.cells.all (·.oneCell')=true
def aMs (P:CS) (t:Bj) (j:A8 (Nat×Nat)):AQ:=
 match P.underlying t with
 |some (.struct q)=>q.toList.all (fun f=>(P.info? f.type).isSome)&&decide ((q.toList.map fun f=>(f.offset,P.cellsOf f.type))=j)
 |_=>false
def KY {P:CS} {t:Bj} {j:A8 (Nat×Nat)} {z:Ai} (h:aMs P t j=true) (q:(P.info? t).bind (·.zero)=some z) (u:z.cells.all (·.oneCell')=true):JB P t j z:=by
 unfold aMs at h;split at h
 ·rename_i I J;simp only[D5,Dw,Ht]at h;exact⟨⟨I,J,h.1,h.2⟩,q,u⟩
 cases h
section
variable {P:CS} {o:Oper} {es:A8 BK}
def aD3 {t:Bj} {z:Ai} (q:(P.info? t).bind (·.zero)=some z) (w:BG):(zeroValue t).run P w=.ok z w:=by
 obtain⟨i,hi,j⟩:=ig.1 q;simp[zeroValue,typeInfo,hi,j]
def aa0 {l:A8 Aa} (h:l.all Aa.zN=true):l=(JE l).map .d:=by
 rw[Dw]at h;unfold JE;rw[uG]
 conv=>lhs;rw[←List.map_id l]
 refine jU fun x j=>?_;have :=h x j;cases x<;>first|rfl|(simp[Aa.zN]at this)
def afp {t:Bj} {q:BQ (Nat×Bg)} {j:A8 (Nat×Nat)} {z:Ai} (hS:JB P t j z) (vs:A8 Aa) (hp:NW (fun(i:Nat)=>j[i]?) (Fh z).length q.toList vs=true) (ho:o.op=.build t q):
 Bz P o (NU q.toList vs) es (.ag (Jy (fun(i:Nat)=>j[i]?) (Fh z) q.toList vs)) es:=
 .pure fun ok H a w _ _ hn=>by
  obtain⟨⟨Y,hu,hf,J⟩,hz,h1⟩:=hS;have L:=aD3 (P:=P) hz w;have M:(underlying t).run P w=.ok (.struct Y) w:=aCL
  have hm:(Y.mapM fun f=>(do pure (f.offset,←sizeOf f.type):Sem (Nat×Nat))).run P w=.ok j.toArray w:=by
   rw[aH2];rw[qF,aJp _ hf,J];rfl
  obtain⟨u,hc,I⟩:=qX (place:=fun(i:Nat)=>j[i]?) q.toList vs (Fh z) z.cells (aGQ (ok:=ok) (w:=w) (H:=H) h1) hp hn;refine⟨.agg u,?_,.ag _ _ (by simpa using I.1) (fun i hi=>(I.2 i hi).1) (fun i hi=>?_)⟩
  rotate_left
  ·have Z:=(I.2 i hi).2;have O:i<u.size:=by have :=I.1;simp at this;omega
   have U:u.toList.getD i undef=u.getD i undef:=by simp[List.getD,Array.getD,O]
   rw[U]at Z;exact Z
  have e:(q.map fun(i,x)=>(i,a.eval x)).toList=q.toList.map fun p=>(p.1,a.eval p.2):=BR
  have U:(fun(i:Nat)=>j.toArray[i]?)=(fun(i:Nat)=>j[i]?):=by funext i;simp
  simp only[execOp,ho,Instr.build,FW,L,M,hm,Fj];rw[e,U,hc];rfl
def alf {t:Bj} {q:BQ (Nat×Bg)} {j:A8 (Nat×Nat)} {z:Ai} (hS:JB P t j z) (vs:A8 Aa) (hp:NW (fun(i:Nat)=>j[i]?) (Fh z).length q.toList vs=true)
 (hd:(Jy (fun(i:Nat)=>j[i]?) (Fh z) q.toList vs).all Aa.zN=true) (ho:o.op=.build t q):
 Bz P o (NU q.toList vs) es (.d (.agg (JE (Jy (fun(i:Nat)=>j[i]?) (Fh z) q.toList vs)))) es:=
 .pure fun ok H a w _ _ hn=>by
  obtain⟨⟨fs,hu,hf,I⟩,hz,h1⟩:=hS;have J:=aD3 (P:=P) hz w;have L:(underlying t).run P w=.ok (.struct fs) w:=aCL
  have hm:(fs.mapM fun f=>(do pure (f.offset,←sizeOf f.type):Sem (Nat×Nat))).run P w=.ok j.toArray w:=by
   rw[aH2];rw[qF,aJp _ hf,I];rfl
  obtain⟨u,hc,M⟩:=qX (place:=fun(i:Nat)=>j[i]?) q.toList vs (Fh z) z.cells (aGQ (ok:=ok) (w:=w) (H:=H) h1) hp hn;refine⟨.agg u,?_,.d _ _ ?_⟩
  ·have e:(q.map fun(i,x)=>(i,a.eval x)).toList=q.toList.map fun p=>(p.1,a.eval p.2):=BR
   have e2:(fun(i:Nat)=>j.toArray[i]?)=(fun(i:Nat)=>j[i]?):=by funext i;simp
   simp only[execOp,ho,Instr.build,FW,J,L,hm,Fj];rw[e,e2,hc];rfl
  rw[aa0 hd]at M;generalize JE (Jy (fun(i:Nat)=>j[i]?) (Fh z) q.toList vs)=xs at M ⊢;obtain⟨h2,O⟩:=M;simp only[Cm]at h2 O
  have hg:∀i,i<xs.length->(xs.map Aa.d).getD i .junk=.d (xs.getD i Dl):=by
   intro i hi;simp[List.getD,hi]
  have U:u.size=xs.length:=rD
  refine .agg xs u U ?_ ?_<;>intro i hi
  ·have :=(O i hi).1;rw[hg i hi]at this;exact this
  have Y:=(O i hi).2;rw[hg i hi]at Y;have Z:i<u.size:=AB
  have e:u.toList.getD i undef=u.getD i undef:=by simp[List.getD,Array.getD,Z]
  rw[e]at Y;cases Y with |d _ _ h=>exact h
def ahT {ok:Nat->Prop} {w:BG} {H:A8 Bv} {ys:A8 D} {size b:Nat} {cells:BQ Ai} {e:Bj} {fr:Nat×Nat} (u:∀y∈ys,y.cells.length=size) (O:w.heap[b]? =some (.cells cells e fr)) (z:ok b) (I:G9 ok w H (flat ys) cells.toList):
 Dq ok w (.sl ys) (.slice (some ⟨b,0,none⟩) ys.length ys.length):=by
 have hl:=SN u;have J:cells.size=ys.length*size:=by have :=I.1;simp at this;omega
 have U:∀i,i<ys.length->ys.getD i Dl∈ys:=fun i hi=>MX
 have L:∀i j,i<ys.length->j<size->i*size+j<ys.length*size:=by
  intro i j hi q
  calc i*size+j<i*size+size:=AB
   _=(i+1)*size:=by rw[Un]
   _<=ys.length*size:=Js _ hi
 have M:∀i j,i<ys.length->j<size->w.cell? ⟨b,0+(i*size+j),none⟩=some (cells.toList.getD (i*size+j) undef):=by
  intro i j hi q;have :=L i j hi q;rw[Jj];simp[World.cell?,O,J,this,List.getD]
 refine .sl ys b 0 ys.length size (EW _) (fun _ _=>z) (fun i hi=>u _ (U i hi)) (fun i hi j q=>?_) (fun i hi j q=>?_) (fun i hi j q=>?_)
 ·have :=(I.2 (i*size+j) (by rw[hl];exact L i j hi q)).1;rw[flat_get u i j hi q]at this;exact this
 ·rw[M i j hi q];rfl
 have :=(I.2 (i*size+j) (by rw[hl];exact L i j hi q)).2;rw[flat_get u i j hi q]at this;unfold cellAt;rw[M i j hi q];cases this with |d _ _ h=>exact h
def aOV {t e:Bj} {size u len:Nat} {z:Ai} (hE:GU P t e size u) (hz:(P.info? e).bind (·.zero)=some z) (h1:z.cells.all (·.oneCell')=true) (Y:z.cells.size=size) (hlen:len*size<=16777216) {j:BQ (Nat×Bg)} {vs:A8 Aa}
 (hp:NW (fun i=>some (i*size,size)) (len*size) j.toList vs=true) {ok:Nat->Prop} {w:BG} {H:A8 Bv} {a:Act} (hn:∀n∈NU j.toList vs,R ok w H n.2 (a.eval n.1)):
 ∃cells,(Instr.buildSlice t len (j.map fun(i,x)=>(i,a.eval x))).run P w=.ok (.slice (some ⟨w.heap.size,0,none⟩) len len) (w.alloc (.cells cells e))/\G9 ok w H (Jy (fun i=>some (i*size,size)) (Qb z (len*size)) j.toList vs) cells.toList:=by
 obtain⟨i,z',hi,_,hs,_,_⟩:=hE.info;have Z:=aD3 (P:=P) hz w;have I:(sizeOf e).run P w=.ok size w:=aGv
 have J:(underlying t).run P w=.ok (.slice e) w:=aGI
 have e0:(j.map fun(i,x)=>(i,a.eval x)).toList=j.toList.map fun p=>(p.1,a.eval p.2):=BR
 have hzl:(Qb z (len*size)).length=len*size:=by simp[Qb]
 have L:0<z.cells.size:=by rw[Y];exact hE.pos
 obtain⟨q,hc,hR⟩:=qX (place:=fun i=>some (i*size,size)) j.toList vs (Qb z (len*size)) _ (aoN (ok:=ok) (w:=w) (H:=H) (n:=len*size) h1 L) (by rw[hzl];exact hp) hn;refine⟨q,?_,hR⟩;have M:¬(len*size>2^24):=AB
 by_cases O:len*size=0
 ·have hr0:(Array.range (len*size)).map (fun k=>(z.cells[k % z.cells.size]! :Ai))= #[]:=by rw[O];simp
  rw[hr0]at hc;have U:(Array.range (len*size)).map (fun k=>((#[]:BQ Ai)[k % (#[]:BQ Ai).size]! :Ai))= #[]:=by rw[O];simp
  simp only[Instr.buildSlice,FW,J,Fj,I,M,L6,Sem.run_ite,O,Lp,Gi];simp only[O]at U;rw[U,e0,hc];rfl
 simp only[Instr.buildSlice,FW,J,Fj,I,M,L6,Sem.run_ite,O,Z,Gi];rw[e0,hc];rfl
def Xt {t e:Bj} {size q len:Nat} {z:Ai} (hE:GU P t e size q) (O:(P.info? e).bind (·.zero)=some z) (U:z.cells.all (·.oneCell')=true) (J:z.cells.size=size) (hlen:len*size<=16777216) {j:BQ (Nat×Bg)} (vs:A8 Aa) (ys:A8 D)
 (hp:NW (fun i=>some (i*size,size)) (len*size) j.toList vs=true) (L:Jy (fun i=>some (i*size,size)) (Qb z (len*size)) j.toList vs=flat ys) (hl:ys.length=len) (u:ys.all (fun y=>y.cells.length=size)=true) (Y:o.op=.buildSlice t len j):
 Bz P o (NU j.toList vs) es (.d (.sl ys)) es:=
 .eff fun C ok H a w hm Z=>by
  obtain⟨cells,hr,I⟩:=aOV hE O U J hlen hp Z;rw[L]at I;obtain⟨h2,M⟩:=hm.fresh (.cells cells e);refine⟨.slice (some ⟨w.heap.size,0,none⟩) len len,_,_,H,.inl ?_,M,.refl _,h2,.d _ _ ?_⟩
  ·simp only[execOp,Y,FW,hr,Fj,Gi]
  rw[←hl];exact ahT (H:=H) (fun y L=>by rw[Dw]at u;simpa using u y L) (Vp w _) (.inr rfl) (I.mono M (.refl _))
def aM0 {t e:Bj} {size q len:Nat} {z:Ai} (hE:GU P t e size q) (hz:(P.info? e).bind (·.zero)=some z) (h1:z.cells.all (·.oneCell')=true) (U:z.cells.size=size) (hlen:len*size<=16777216) {j:BQ (Nat×Bg)} (vs:A8 Aa) (ys:A8 D)
 (hp:NW (fun i=>some (i*size,size)) (len*size) j.toList vs=true) (Y:Jy (fun i=>some (i*size,size)) (Qb z (len*size)) j.toList vs=flat ys) (hl:ys.length=len) (I:ys.all (fun y=>y.cells.length=size)=true) (ho:o.op=.buildSlice t len j):
 Bz P o (NU j.toList vs) es (.aS es.length) (es++[.arr e size ys]):=
 .eff fun C ok H a w hm hn=>by
  obtain⟨cells,hr,u⟩:=aOV hE hz h1 U hlen hp hn;rw[Y]at u;have J:∀y∈ys,y.cells.length=size:=fun y Y=>by rw[Dw]at I;simpa using I y Y
  have hfl:=SN J;have L:cells.size=ys.length*size:=by have :=u.1;simp at this;omega
  have M:=hE.pos
  have Z:ys.length<=16777216:=by
   have :ys.length*1<=ys.length*size:=Nat.mul_le_mul_left _ M;rw[hl]at this ⊢;omega
  obtain⟨h2,h3⟩:=hm.push (.cells cells e) ⟨.slice (some ⟨w.heap.size,0,none⟩) len len,size⟩ (.arr e size ys) (fun b O=>by simpa[DZ]using O.symm) (by
   refine⟨rfl,J,cells.toList,⟨UE,.inr ⟨w.heap.size,len,cells,by rw[hl],Ec _,Vp w _,AB,vX,Yy (by rw[L,hl]),?_⟩⟩,?_⟩
   ·rw[Qs Et]
   exact u.mono (fun b O=>⟨O,KC _ _ _ (hm.kC b O)⟩) (I7 _ _))
  refine⟨.slice (some ⟨w.heap.size,0,none⟩) len len,_,ok,_,.inl ?_,h3,I7 _ _,h2,.aS _ _ _ _ size Pn⟩;simp only[execOp,ho,FW,hr,Fj,Gi]
end
section
variable {P:CS} {ops:BQ Oper} {Q:Exit->Act->BG->Prop} {φ:Nat->Ai->BG->Prop} {W:BG} {a0:Act} {i:Nat}
variable {d:AL Tmp} {t:Bj} {p:String} {af:BQ Edge} {g:AL (Nat×AQ)}
def Enters (P:CS) (f:FuncId):Prop:=∀args w,(callFunc f args).run P w=.ok (.enter f args) w
def enters_of {f:FuncId} {fn:Func} {c:Code} (q:P.funcs[f]? =some fn) (j:(fn.name== "runtime.NumGoroutine")=false) (u:fn.body=some c):Enters P f:=by
 intro args w;have z:fn.name≠ "runtime.NumGoroutine" :=Qw
 simp[callFunc,q,z,u]
def H6 (P:CS) (f:FuncId):AQ:=match P.funcs[f]? with
 |some fn=> !(fn.name== "runtime.NumGoroutine")&&fn.body.isSome
 |none=>false
def U4 {f:FuncId} (h:H6 P f=true):Enters P f:=by
 unfold H6 at h;cases j:P.funcs[f]? with
 |none=>rw[j]at h;cases h
 |some fn=>
  rw[j]at h;simp only[D5,SX]at h;obtain⟨c,q⟩:=VA.1 h.2;exact enters_of j h.1 q
def pS {o:Oper} {a:Act} {f:FuncId} {ats:BQ Bj} {aE8:BQ Bg} (j:o.op=.call { callee:=.value (.func f),args:=aE8,argTypes:=ats }):execOp a.eval o=callFunc f (aE8.map a.eval):=by
 have q:a.eval (.func f)=.func (.func f) #[] #[]:=rfl;unfold execOp;simp[j,resolve,Deferred.ofValue,invoke,q]
end
inductive Dx where
 |ent (k:Nat)
 |nil (size:Nat)
def Dx.hd (H:A8 Bv):Dx->Bv
 | .ent k=>H.getD k ⟨undef,0⟩
 | .nil s=>⟨.slice none 0 0,s⟩
def Aa.Tt (srcs:A8 Dx) (n:Nat):Aa->Aa
 | .d x=>.d x
 | .ptr k off=>match srcs[k]? with |some (.ent j)=>.ptr j off|some (.nil _)=>.junk|none=>.ptr (n+(k-srcs.length)) off
 | .aS k=>match srcs[k]? with |some (.ent j)=>.aS j|some (.nil _)=>.junk|none=>.aS (n+(k-srcs.length))
 | .kX k i off=>match srcs[k]? with |some (.ent j)=>.kX j i off|some (.nil _)=>.junk|none=>.kX (n+(k-srcs.length)) i off
 | .mp k=>match srcs[k]? with |some (.ent j)=>.mp j|some (.nil _)=>.junk|none=>.mp (n+(k-srcs.length))
 | .wo k=>match srcs[k]? with |some (.ent j)=>.wo j|some (.nil _)=>.junk|none=>.wo (n+(k-srcs.length))
 | .clip xs=>.clip xs
 |_=>.junk
def Aa.up (srcs:A8 Dx) (n:Nat):Aa->Aa
 | .eH xs=>.eH (xs.map (Aa.Tt srcs n))
 | .fn f fi ca=>.fn f (fi.map (Aa.Tt srcs n)) (ca.map (Aa.Tt srcs n))
 |x=>x.Tt srcs n
def aI3 (srcs:A8 Dx):Aa->Aa->Prop
 | .d x,y=>y=.d x
 | .ptr k off,y=>∃i,y=.ptr i off/\srcs[i]? =some (.ent k)
 | .mp k,y=>∃i,y=.mp i/\srcs[i]? =some (.ent k)
 |_,_=>False
def ny (srcs:A8 Dx):A8 Aa->A8 Aa->Prop
 |x::xs,y::ys=>aI3 srcs x y/\ny srcs xs ys
 | [],[]=>True
 |_,_=>False
def vS {srcs:A8 Dx}:∀{xs ys:A8 Aa},ny srcs xs ys->xs.length=ys.length
 | [],[],_=>rfl
 |_::xs,_::ys,h=>by simp[vS h.2]
 | [],_::_,h=>h.elim
 |_::_,[],h=>h.elim
def aIo {srcs:A8 Dx}:∀{xs ys:A8 Aa},ny srcs xs ys->∀i,i<ys.length->aI3 srcs (xs.getD i .junk) (ys.getD i .junk)
 | [],[],_,i,hi=>Q9
 |_::xs,_::ys,h,0,_=>by simpa using h.1
 |_::xs,_::ys,h,i+1,hi=>by simpa using aIo h.2 i Gt
 | [],_::_,h,_,_=>h.elim
 |_::_,[],h,_,_=>h.elim
def aRT (srcs:A8 Dx):Aa->Aa->Prop
 | .fn f fi ca,y=>∃j q,y=.fn f j q/\ny srcs fi j/\ny srcs ca q
 | .d x,y=>y=.d x\/(∃i s,x=.lit (.slice none 0 0)/\y=.aS i/\srcs[i]? =some (.nil s))\/(x=.lit (.slice none 0 0)/\y=.d (.sl []))
 | .aS k,y=>∃i,y=.aS i/\srcs[i]? =some (.ent k)
 | .ptr k off,y=>∃i,y=.ptr i off/\srcs[i]? =some (.ent k)
 | .mp k,y=>∃i,y=.mp i/\srcs[i]? =some (.ent k)
 |_,_=>False
def BK.closed:BK->AQ
 | .box cs=>cs.all Aa.zN
 | .loop .. =>false
 |_=>true
def FB.any {ok:Nat->Prop} {w:BG} {H H2:A8 Bv} {h:Bv} {e:BK} (q:FB ok w H h e) (I:e.closed=true):FB ok w H2 h e:=by
 cases e with
 |dead=>trivial
 |box cs=>
  obtain⟨b,vs,T,J,L,M,z⟩:=q;refine⟨b,vs,T,J,L,M,fun i hi=>⟨(z i hi).1,?_⟩⟩;have u:=(z i hi).2;simp only[BK.closed,Dw]at I;have j:=I (cs.getD i .junk) MX;cases O:cs.getD i .junk with
  |d x=>rw[O]at u;cases u with |d _ _ h=>exact .d _ _ h
  |_=>rw[O]at j;simp[Aa.zN]at j
 |arr e s es=>
  obtain⟨J,L,xs,M,z,u⟩:=q;refine⟨J,L,xs,M,z,fun i hi=>⟨(u i hi).1,?_⟩⟩;have j:=(u i hi).2;have hm:(flat es).getD i .junk∈flat es:=MX
  unfold flat at hm ⊢;simp only[Ur,Ea]at hm;obtain⟨x,_,y,_,U⟩:=hm;unfold flat at j;rw[←U]at j ⊢;cases j with |d _ _ h=>exact .d _ _ h
 |map es=>exact q
 |eU es=>exact q
 |iter es vis=>exact q
 |loop=>cases I
def BK.up (srcs:A8 Dx) (n:Nat):BK->BK
 | .box cs=>.box (cs.map (Aa.Tt srcs n))
 |e=>e
def Aa.alP (srcs:A8 Dx):Aa->AQ
 | .d _=>true
 | .mp k=>match srcs[k]? with |some (.ent _)=>true|_=>false
 | .ptr k _=>match srcs[k]? with |some (.ent _)=>true|_=>false
 |_=>false
def BK.ahI (srcs:A8 Dx):BK->AQ
 | .box cs=>cs.all (Aa.alP srcs)
 | .loop .. =>false
 |_=>true
def BK.aja (srcs:A8 Dx) (n:Nat):BK->AQ
 | .box cs=>cs.all fun x=>x.zN||(x.Tt srcs n).leaf
 | .loop .. =>false
 |_=>true
def BK.aav (srcs:A8 Dx) (n:Nat) (e:BK):(e.up srcs n).live=e.live:=by cases e<;>rfl
def aTj {srcs:A8 Dx} {n:Nat} {x:Aa} (h:x.zN=true):x.Tt srcs n=x:=by cases x<;>first|rfl|cases h
def BK.asM {srcs:A8 Dx} {n:Nat} {e:BK} (h:e.closed=true):e.up srcs n=e:=by
 cases e with
 |box cs=>
  simp only[BK.closed,Dw]at h;show BK.box (cs.map (Aa.Tt srcs n))=BK.box cs
  rw[show cs.map (Aa.Tt srcs n)=cs from by
   conv=>rhs;rw[←List.map_id cs]
   exact jU fun x j=>aTj (h x j)]
 |_=>rfl
def aTv {srcs:A8 Dx} {n:Nat}:∀{E:A8 BK},E.all BK.closed=true->E.map (BK.up srcs n)=E
 | [],_=>rfl
 |e::E,h=>by
  simp only[uj,D5]at h;rw[Gv,BK.asM h.1,aTv h.2]
def aak {srcs:A8 Dx} {n:Nat} {e:BK} (h:e.closed=true):e.aja srcs n=true:=by
 cases e with
 |box cs=>
  simp only[BK.closed,BK.aja,Dw]at h ⊢;intro x j;rw[h x j];rfl
 |loop=>cases h
 |_=>rfl
def FB.down {ok:Nat->Prop} {w:BG} {H Hc:A8 Bv} {h:Bv} {srcs:A8 Dx} {n:Nat} {e:BK} (L:∀(j:Nat) (s:Dx),srcs[j]? =some s->Hc[j]? =some (Dx.hd H s)) (hd:e.ahI srcs=true) (z:FB ok w H h (e.up srcs n)):FB ok w Hc h e:=by
 cases e with
 |dead=>trivial
 |arr=>exact z.any rfl
 |map=>exact z
 |eU=>exact z
 |iter=>exact z
 |loop=>cases hd
 |box cs=>
  obtain⟨b,vs,T,M,O,U,Y⟩:=z;refine⟨b,vs,T,M,O,by rw[U,Cm],fun i hi=>?_⟩;obtain⟨I,u⟩:=Y i aCS;rw[V5 _ _ _ hi]at u I;simp only[BK.ahI,Dw]at hd;have q:=hd (cs.getD i .junk) MX;generalize cs.getD i .junk=x at u q I ⊢;generalize vs.toList.getD i undef=v at u ⊢;cases x with
  |d x=>exact⟨I,by cases u with |d _ _ h=>exact .d _ _ h⟩
  |mp k=>
   refine⟨rfl,?_⟩;simp only[Aa.alP]at q;simp only[Aa.Tt]at u;cases hs:srcs[k]? with
   |none=>rw[hs]at q;cases q
   |some s=>
    cases s with
    |nil _=>rw[hs]at q;cases q
    |ent j=>
     rw[hs]at u;cases u with
     |mp _ _ s hl J=>
      refine .mp k _ s hl ?_;rw[L k _ hs];simp[Dx.hd,List.getD,J]
  |ptr k off=>
   refine⟨rfl,?_⟩;simp only[Aa.alP]at q;simp only[Aa.Tt]at u;cases hs:srcs[k]? with
   |none=>rw[hs]at q;cases q
   |some s=>
    cases s with
    |nil _=>rw[hs]at q;cases q
    |ent j=>
     rw[hs]at u;cases u with
     |ptr _ _ b s J=>
      refine .ptr k off b s ?_;rw[L k _ hs];simp[Dx.hd,List.getD,J]
  |_=>simp[Aa.alP]at q
def Lj (srcs:A8 Dx) (es E':A8 BK):A8 BK:=
 (es.zipIdx.map fun(e,j)=>match srcs.findIdx? (fun s=>match s with | .ent k=>k==j| .nil _=>false)with |some i=>(E'.getD i .dead).up srcs es.length|none=>e)++(E'.drop srcs.length).map (BK.up srcs es.length)
def RY (srcs:A8 Dx) (es E E':A8 BK):AQ:=
 decide (srcs.length=E.length)&&(srcs.length<=E'.length)&&E.all (BK.ahI srcs)&&E'.all (BK.aja srcs es.length)&&
 decide ((srcs.filterMap fun s=>match s with | .ent k=>some k| .nil _=>none).Nodup)&&
 ((srcs.zip E').all fun p=>match p.1 with | .ent _=>true| .nil _=> !p.2.live)&&(srcs.all fun s=>match s with | .ent k=>k<es.length&&(es.getD k .dead).live| .nil _=>true)
def tH (srcs:A8 Dx) (es:A8 BK):A8 BK->Prop
 |E=>∀(i:Nat) (s:Dx),srcs[i]? =some s->match s with | .ent k=>(E[i]?).map (BK.up srcs es.length)=es[k]? | .nil sz=>∃e,E[i]? =some (.arr e sz [])
def UR {ok:Nat->Prop} {w:BG} {H Hc H':A8 Bv} {srcs:A8 Dx} {x:Aa} {v:Ai} (O:Hc=srcs.map (Dx.hd H)) (I:∀(i k:Nat),srcs[i]? =some (.ent k)->k<H.length) (U:Names Hc H') (h:R ok w H' x v):R ok w (H++H'.drop srcs.length) (x.Tt srcs H.length) v:=by
 have key:∀(k:Nat) (hd:Bv),H'[k]? =some hd->(∀(j:Nat),srcs[k]? =some (.ent j)->(H++H'.drop srcs.length)[j]? =some hd)/\(srcs[k]? =none->(H++H'.drop srcs.length)[H.length+(k-srcs.length)]? =some hd):=by
  intro k hd L;refine⟨fun j M=>?_,fun J=>?_⟩
  ·have z:=I k j M;have u:Hc[k]? =some (H.getD j ⟨undef,0⟩):=by rw[O,JI,M];rfl
   have q:=U _ _ u;rw[L]at q;rw[Hw z];simp[List.getD,z]at q;simp[z,q]
  have Y:srcs.length<=k:=V7
  rw[Ju AB,Px];have :srcs.length+(H.length+(k-srcs.length)-H.length)=k:=AB
  rw[this,L]
 cases h with
 |d x v h=>exact .d x v h
 |ptr k off b s h=>
  obtain⟨u,q⟩:=key k _ h;simp only[Aa.Tt];split<;>rename_i hs
  ·exact .ptr _ off b s (u _ hs)
  ·exact .junk _
  exact .ptr _ off b s (q hs)
 |aS k ad n cap s h=>
  obtain⟨u,q⟩:=key k _ h;simp only[Aa.Tt];split<;>rename_i hs
  ·exact .aS _ ad n cap s (u _ hs)
  ·exact .junk _
  exact .aS _ ad n cap s (q hs)
 |kX k i off b n cap s h=>
  obtain⟨u,q⟩:=key k _ h;simp only[Aa.Tt];split<;>rename_i hs
  ·exact .kX _ i off b n cap s (u _ hs)
  ·exact .junk _
  exact .kX _ i off b n cap s (q hs)
 |mp k v s hl h=>
  obtain⟨u,q⟩:=key k _ h;simp only[Aa.Tt];split<;>rename_i hs
  ·exact .mp _ v s hl (u _ hs)
  ·exact .junk _
  exact .mp _ v s hl (q hs)
 |clip xs ad h=>exact .clip xs ad h
 |wo k ad n cap s h=>
  obtain⟨u,q⟩:=key k _ h;simp only[Aa.Tt];split<;>rename_i hs
  ·exact .wo _ ad n cap s (u _ hs)
  ·exact .junk _
  exact .wo _ ad n cap s (q hs)
 |fn f first cap vs us hl hm h h'=>exact .junk _
 |eH xs vs hl h=>exact .junk _
 |ag xs vs hl Z h=>exact .junk _
 |junk v=>exact .junk _
def aQo {ok:Nat->Prop} {w:BG} {H Hc H':A8 Bv} {srcs:A8 Dx} {x:Aa} {v:Ai} (q:Hc=srcs.map (Dx.hd H)) (j:∀(i k:Nat),srcs[i]? =some (.ent k)->k<H.length) (u:Names Hc H') (h:R ok w H' x v):R ok w (H++H'.drop srcs.length) (x.up srcs H.length) v:=by
 cases h with
 |eH xs vs hl h=>exact .eH _ vs ZC (fun i hi=>aSf)
 |ag xs vs hl z h=>exact .junk _
 |d x v h=>exact UR q j u (.d x v h)
 |ptr k off b s h=>exact UR q j u (.ptr k off b s h)
 |aS k ad n cap s h=>exact UR q j u (.aS k ad n cap s h)
 |kX k i off b n cap s h=>exact UR q j u (.kX k i off b n cap s h)
 |mp k v s hl h=>exact UR q j u (.mp k v s hl h)
 |clip xs ad h=>exact UR q j u (.clip xs ad h)
 |wo k ad n cap s h=>exact UR q j u (.wo k ad n cap s h)
 |fn f first cap vs us hl hm h h'=>exact .fn f _ _ vs us ZC (by simp[hm]) (fun i hi=>aSf) (fun i hi=>by rw[Cm]at hi;rw[V5 _ _ _ hi];exact UR q j u (h' i hi))
 |junk v=>exact .junk _
def FB.upw {ok:Nat->Prop} {w:BG} {H Hc H':A8 Bv} {h:Bv} {srcs:A8 Dx} {n:Nat} {e:BK} (I:Hc=srcs.map (Dx.hd H)) (u:∀(i k:Nat),srcs[i]? =some (.ent k)->k<H.length) (J:Names Hc H') (hl:H.length=n) (z:e.aja srcs n=true) (j:FB ok w H' h e):
 FB ok w (H++H'.drop srcs.length) h (e.up srcs n):=by
 cases e with
 |dead=>trivial
 |arr=>exact j.any rfl
 |map=>exact j
 |eU=>exact j
 |iter=>exact j
 |loop=>cases z
 |box cs=>
  obtain⟨b,vs,T,L,M,O,U⟩:=j;refine⟨b,vs,T,L,M,by rw[O,Cm],fun i hi=>?_⟩;rw[Cm]at hi;obtain⟨Y,Z⟩:=U i hi;simp only[BK.aja,Dw]at z;have q:=z (cs.getD i .junk) MX;rw[V5 _ _ _ hi];refine⟨?_,by have :=UR I u J Z;rwa [hl]at this⟩;rcases Bool.or_eq_true_iff.1 q with q|q
  ·rw[aTj q];exact Y
  exact q
def FX :A8 Bg->A8 Aa->A8 (Bg×Aa)
 |x::xs,v::vs=>(x,v)::FX xs vs
 |_,_=>[]
def MH (srcs:A8 Dx):A8 Aa->A8 Aa->Prop
 |x::xs,y::ys=>aRT srcs x y/\MH srcs xs ys
 | [],[]=>True
 |_,_=>False
def aLj {srcs:A8 Dx}:∀{xs ys:A8 Aa},MH srcs xs ys->xs.length=ys.length
 | [],[],_=>rfl
 |_::xs,_::ys,h=>by simp[aLj h.2]
 | [],_::_,h=>h.elim
 |_::_,[],h=>h.elim
def ane {srcs:A8 Dx} {ops:A8 Bg}:∀{xs ys:A8 Aa},ops.length=xs.length->MH srcs xs ys->∀i,i<ys.length->∃o x,ops[i]? =some o/\(o,x)∈FX ops xs/\aRT srcs x (ys.getD i .junk):=by
 induction ops with
 |nil=>
  intro xs ys hl h i hi;cases xs with
  |nil=>cases ys with |nil=>simp at hi|cons _ _=>exact h.elim
  |cons _ _=>simp at hl
 |cons o ops j=>
  intro xs ys hl h i hi;cases xs with
  |nil=>simp at hl
  |cons x xs=>
   cases ys with
   |nil=>exact h.elim
   |cons y ys=>
    cases i with
    |zero=>exact⟨o,x,rfl,by simp[FX],h.1⟩
    |succ i=>
     obtain⟨q,u,z,I,J⟩:=j OW h.2 i Gt;exact⟨q,u,KW,by simp[FX,I],V7⟩
def ajg {srcs:A8 Dx} {H:A8 Bv} {b:Nat}:b∈(srcs.filterMap fun s=>match s with | .ent k=>DZ (H.getD k ⟨undef,0⟩).v| .nil _=>none)↔∃k,.ent k∈srcs/\DZ (H.getD k ⟨undef,0⟩).v=some b:=by
 rw[QW];constructor
 ·rintro⟨s,hs,h⟩;cases s with
  |ent k=>exact⟨k,hs,h⟩
  |nil _=>cases h
 rintro⟨k,hs,h⟩;exact⟨_,hs,h⟩
section
variable {P:CS} {o:Oper} {es:A8 BK}
def aNa :∀{srcs:A8 Dx},(srcs.filterMap fun s=>match s with | .ent k=>some k| .nil _=>none).Nodup->∀(i j k:Nat),srcs[i]? =some (.ent k)->srcs[j]? =some (.ent k)->i=j
 | [],_,i,j,k,h,_=>IL
 |s::srcs,u,i,j,k,hi,z=>by
  have q:∀(n:Nat),srcs[n]? =some (.ent k)->k∈srcs.filterMap fun s=>match s with | .ent k=>some k| .nil _=>none:=fun n h=>by
   rw[QW];exact⟨_,Vo h,rfl⟩
  have I:(srcs.filterMap fun s=>match s with | .ent k=>some k| .nil _=>none).Nodup:=by
   cases s with
   |ent k'=>simp only[Ob]at u;exact(Iq.1 u).2
   |nil _=>simpa only[Ob]using u
  match i,j with
  |0,0=>rfl
  |0,j+1=>
   simp at hi z;subst hi;simp only[Ob]at u;exact absurd (q j z) (Iq.1 u).1
  |i+1,0=>
   simp at hi z;subst z;simp only[Ob]at u;exact absurd (q i hi) (Iq.1 u).1
  |i+1,j+1=>rw[aNa I i j k Gt KW]
def aTe {f:FuncId} {C:Ee} {ok:Nat->Prop} {H:A8 Bv} {w:BG} (hm:DL C ok H es w) (srcs:A8 Dx) {dM fC:A8 Aa} {E E':A8 BK} {res:Aa} (hr:Ei P f fC E res E')
 (hb:RY srcs es E E'=true) (hE:tH srcs es E) (ha:MH srcs dM fC) {ops:A8 Bg} (hl:ops.length=dM.length) {a:Act} (hn:∀n∈FX ops dM,R ok w H n.2 (a.eval n.1)):
 Calls P f (ops.map a.eval).toArray w fun e w'=>∃v ok' H',e=.returned v/\Ej ok w ok' w'/\Names H H'/\DL C ok' H' (Lj srcs es E') w'/\R ok' w' H' (res.up srcs es.length) v:=by
 unfold RY at hb;simp only[D5,Ht,Dw]at hb;obtain⟨⟨⟨⟨⟨⟨hb1,hb2⟩,hb3⟩,hb4⟩,hb5⟩,hb6⟩,hb7⟩:=hb;have hidx:=aNa hb5
 let Hc:=srcs.map (Dx.hd H)
 let X:=srcs.filterMap fun s=>match s with | .ent k=>DZ (H.getD k ⟨undef,0⟩).v| .nil _=>none
 have hX:∀b,b∈X↔∃k,.ent k∈srcs/\DZ (H.getD k ⟨undef,0⟩).v=some b:=fun b=>ajg
 have U:∀(i k:Nat),srcs[i]? =some (.ent k)->k<es.length/\(es.getD k .dead).live=true:=by
  intro i k hi;have :=hb7 _ (Vo hi);simpa using this
 have hlt:∀(i k:Nat),srcs[i]? =some (.ent k)->k<H.length:=fun i k hi=>by rw[hm.hlen];exact(U i k hi).1
 have hHk:∀(k:Nat),k<H.length->H[k]? =some (H.getD k ⟨undef,0⟩):=fun k hk=>by simp[List.getD,hk]
 have ajb:∀(k:Nat),k<es.length->es[k]? =some (es.getD k .dead):=fun k hk=>by simp[List.getD,hk]
 have L:∀b,b∈X->∃(i k:Nat),srcs[i]? =some (.ent k)/\DZ (H.getD k ⟨undef,0⟩).v=some b/\¬ok b/\b<w.heap.size/\(C.w0.heap.size<=b\/b∈C.X):=by
  intro b hb;obtain⟨k,hk,hbk⟩:=(hX b).1 hb;obtain⟨i,hi,M⟩:=Gf hk;have hi':srcs[i]? =some (.ent k):=by simp[hi,M]
  have :=hm.blk k _ _ b (ajb k (U i k hi').1) (U i k hi').2 (hHk k (hlt i k hi')) hbk;exact⟨i,k,hi',hbk,this⟩
 have hmc:DL ⟨w,ok,X,Hc⟩ ok Hc E w:=by
  refine⟨.refl _ _,fun _ h=>h,fun _ h=>.inl h,hm.kC,.refl _,by simp[Hc,hb1],?_,?_,?_⟩
  ·intro i e h M I;have hi:i<srcs.length:=aHq
   have hcl:e.ahI srcs=true:=hb3 e (Vo M);have aAU:∀(j:Nat) (s:Dx),srcs[j]? =some s->Hc[j]? =some (Dx.hd H s):=fun j s hs=>by simp[Hc,hs]
   have hs:srcs[i]? =some srcs[i]:=U1
   have hd:=hE i _ hs;simp only[Hc,JI,hs,JF,Lc]at I;cases hsi:srcs[i]with
   |ent k=>
    rw[hsi]at hd I hs;simp only[Dx.hd]at I;subst I;simp only at hd;rw[M,JF]at hd;exact FB.down aAU hcl (hm.ent k _ _ hd.symm (hHk k (hlt i k hs)))
   |nil sz=>
    rw[hsi]at hd I;simp only[Dx.hd]at I;subst I;obtain⟨e',he'⟩:=hd;rw[M]at he';obtain rfl:=Ch he';exact⟨rfl,BR,[],⟨BR,.inl ⟨rfl,rfl⟩⟩,TA,fun i hi=>zH⟩
  ·intro i e h b M J I z;have hi:i<srcs.length:=aHq
   have hs:srcs[i]? =some srcs[i]:=U1
   simp only[Hc,JI,hs,JF,Lc]at I;cases hsi:srcs[i]with
   |ent k=>
    rw[hsi]at I hs;simp only[Dx.hd]at I;subst I;have hbX:b∈X:=(hX b).2 ⟨k,Vo hs,z⟩;obtain⟨_,_,_,_,O,Y,_⟩:=L b hbX;exact⟨O,Y,.inr hbX⟩
   |nil sz=>
    rw[hsi]at I;simp only[Dx.hd]at I;subst I;simp[DZ]at z
  intro i j e e' h h' b M he' J Z I hh' z agz;have hi:i<srcs.length:=aHq
  have hj:j<srcs.length:=by rw[hb1];exact(G7.1 he').1
  have hs:srcs[i]? =some srcs[i]:=U1
  have hs':srcs[j]? =some srcs[j]:=by simp[hj]
  simp only[Hc,JI,hs,JF,Lc]at I;simp only[Hc,JI,hs',JF,Lc]at hh';cases hsi:srcs[i]with
  |nil sz=>rw[hsi]at I;simp only[Dx.hd]at I;subst I;simp[DZ]at z
  |ent k=>
   cases hsj:srcs[j]with
   |nil sz=>rw[hsj]at hh';simp only[Dx.hd]at hh';subst hh';simp[DZ]at agz
   |ent k'=>
    rw[hsi]at I hs;rw[hsj]at hh' hs';simp only[Dx.hd]at I hh';subst I;subst hh';have hkk:=hm.Gg k k' _ _ _ _ b (ajb k (U i k hs).1) (ajb k' (U j k' hs').1) (U i k hs).2 (U j k' hs').2 (hHk k (hlt i k hs)) (hHk k' (hlt j k' hs')) z agz;subst hkk;exact hidx i j k hs hs'
 have hargs:∀i,i<fC.length->R ok w Hc (fC.getD i .junk) ((ops.map a.eval).toArray.getD i undef):=by
  intro i hi;obtain⟨op,x,ho,hmem,harg⟩:=ane hl ha i hi;have hR:=hn _ hmem
  have e:(ops.map a.eval).toArray.getD i undef=a.eval op:=by
   obtain⟨O,Y⟩:=G7.1 ho;simp[Array.getD,O,Y]
  rw[e];simp only at hR;generalize fC.getD i .junk=y at harg ⊢;generalize a.eval op=u at hR ⊢;have hHc:∀(j:Nat) (s:Dx),srcs[j]? =some s->Hc[j]? =some (Dx.hd H s):=fun j s hs=>by simp[Hc,hs]
  cases x with
  |d x=>
   rcases harg with rfl|⟨j,s,rfl,rfl,hs⟩|⟨rfl,rfl⟩
   ·cases hR with |d _ _ h=>exact .d _ _ h
   ·have :=hR.lit;rw[this];exact .aS j none 0 0 s (hHc j _ hs)
   have :=hR.lit;rw[this];exact .d _ _ (.sl0 none 0)
  |aS k=>
   obtain⟨j,rfl,hs⟩:=harg;cases hR with
   |aS _ ad n cap s hH=>
    refine .aS j ad n cap s ?_;rw[hHc j _ hs];simp[Dx.hd,List.getD,hH]
  |ptr k off=>
   obtain⟨j,rfl,hs⟩:=harg;cases hR with
   |ptr _ _ b s hH=>
    refine .ptr j off b s ?_;rw[hHc j _ hs];simp[Dx.hd,List.getD,hH]
  |mp k=>
   obtain⟨j,rfl,hs⟩:=harg;cases hR with
   |mp _ _ s hl hH=>
    refine .mp j _ s hl ?_;rw[hHc j _ hs];simp[Dx.hd,List.getD,hH]
  |fn f fi ca=>
   obtain⟨fi',ca',rfl,O,Y⟩:=harg
   have one:∀(x y:Aa) (v:Ai),aI3 srcs x y->R ok w H x v->R ok w Hc y v:=by
    intro x y v hxy hx;cases x with
    |d x=>obtain rfl:=hxy;cases hx with |d _ _ h=>exact .d _ _ h
    |mp k=>
     obtain⟨j,rfl,hs⟩:=hxy;cases hx with
     |mp _ _ s hl hH=>
      refine .mp j _ s hl ?_;rw[hHc j _ hs];simp[Dx.hd,List.getD,hH]
    |ptr k off=>
     obtain⟨j,rfl,hs⟩:=hxy;cases hx with
     |ptr _ _ b s hH=>
      refine .ptr j off b s ?_;rw[hHc j _ hs];simp[Dx.hd,List.getD,hH]
    |_=>exact hxy.elim
   cases hR with
   |fn _ _ _ vs us hl1 hl2 h3 h4=>
    refine .fn f fi' ca' vs us (by rw[hl1,vS O]) (by rw[hl2,vS Y]) (fun i hi=>?_) (fun i hi=>?_)
    ·exact one _ _ _ (aIo O i hi) (h3 i (by rw[vS O];exact hi))
    exact one _ _ _ (aIo Y i hi) (h4 i (by rw[vS Y];exact hi))
  |_=>exact harg.elim
 refine(hr ok X Hc w _ hmc (by simp[hl,aLj ha]) hargs).mono ?_;rintro e w' ⟨v,ok',H',rfl,q,hR⟩;have hgr:Ej ok w ok' w':=fun b hb=>⟨q.yQ b hb,q.fr.block b (hm.kC b hb) (fun hbX=>by obtain⟨_,_,_,_,O,_⟩:=L b hbX;exact O hb)⟩
 have aEn:srcs.length<=H'.length:=by rw[q.hlen];exact hb2
 refine⟨v,ok',H++H'.drop srcs.length,rfl,hgr,I7 _ _,?_,by have :=aQo rfl hlt q.names hR;rwa [hm.hlen]at this⟩
 let idx:Nat->AL Nat:=fun j=>srcs.findIdx? (fun s=>match s with | .ent k=>k==j| .nil _=>false)
 have azT:∀(j i:Nat),idx j=some i->srcs[i]? =some (.ent j):=by
  intro j i h;simp only[idx,aNu]at h;obtain⟨O,Y,_⟩:=h;have :srcs[i]? =some srcs[i]:=by simp[O]
  cases hs:srcs[i]with
  |ent k=>rw[hs]at Y this;simp at Y;rw[this,Y]
  |nil _=>rw[hs]at Y;simp at Y
 have azU:∀(j:Nat),idx j=none->∀(i:Nat),srcs[i]? ≠some (.ent j):=by
  intro j h i hi;simp only[idx,List.findIdx?_eq_none_iff]at h;have :=h _ (Vo hi);simp at this
 have hlow:∀(j:Nat),j<es.length->(Lj srcs es E')[j]? =some (match idx j with |some i=>(E'.getD i .dead).up srcs es.length|none=>es.getD j .dead):=by
  intro j hj;unfold Lj;rw[Hw (by simpa using hj)];simp only[JI,List.getElem?_zipIdx,ajb j hj,JF,Jj];rfl
 have ayK:(Lj srcs es E').length=es.length+(E'.length-srcs.length):=by simp[Lj]
 have hhigh:∀(j:Nat),es.length<=j->(Lj srcs es E')[j]? =(E'[srcs.length+(j-es.length)]?).map (BK.up srcs es.length):=by
  intro j hj;unfold Lj;rw[Ju (by simpa using hj),JI,Px];simp
 have azV:∀(j:Nat),j<es.length->(H++H'.drop srcs.length)[j]? =H[j]? :=fun j hj=>Hw (by rw[hm.hlen];exact hj)
 have ayL:∀(j:Nat),es.length<=j->(H++H'.drop srcs.length)[j]? =H'[srcs.length+(j-es.length)]? :=by
  intro j hj;rw[Ju (by rw[hm.hlen];exact hj),Px,hm.hlen]
 have hcls:∀(j:Nat) (e:BK) (h:Bv),(Lj srcs es E')[j]? =some e->e.live=true\/True->(H++H'.drop srcs.length)[j]? =some h->
  (∃(i:Nat) (e0:BK),e=e0.up srcs es.length/\E'[i]? =some e0/\H'[i]? =some h/\((j<es.length/\srcs[i]? =some (.ent j))\/(es.length<=j/\i=srcs.length+(j-es.length))))\/(j<es.length/\es[j]? =some e/\H[j]? =some h/\∀(i:Nat),srcs[i]? ≠some (.ent j)):=by
  intro j e h M _ I;by_cases hj:j<es.length
  ·rw[hlow j hj]at M;rw[azV j hj]at I;cases hi:idx j with
   |none=>
    rw[hi]at M;simp only[Lc]at M;exact .inr ⟨hj,by rw[ajb j hj,M],I,azU j hi⟩
   |some i=>
    rw[hi]at M;simp only[Lc]at M;have hs:=azT j i hi;have hil:i<srcs.length:=(G7.1 hs).1;have hiE:i<E'.length:=AB
    refine .inl ⟨i,_,M.symm,by simp[List.getD,hiE],?_,.inl ⟨hj,hs⟩⟩;refine q.names i h ?_;simp only[Hc,JI,hs,JF,Dx.hd];simp[List.getD,I]
  rw[hhigh j AB]at M;rw[ayL j AB]at I;rw[VB]at M;obtain⟨e0,M,rfl⟩:=M;exact .inl ⟨_,_,rfl,M,I,.inr ⟨AB,rfl⟩⟩
 have hold:∀(j:Nat) (e:BK) (h:Bv) (b:Nat),es[j]? =some e->H[j]? =some h->(∀(i:Nat),srcs[i]? ≠some (.ent j))->e.live=true->DZ h.v=some b->b<w.heap.size/\b∉X/\¬ok b/\(C.w0.heap.size<=b\/b∈C.X):=by
  intro j e h b M I hno J z;have O:=hm.blk j e h b M J I z;refine⟨O.2.1,fun hbX=>?_,O.1,O.2.2⟩;obtain⟨i,k,hs,hbk,_⟩:=L b hbX;have :=hm.Gg j k e _ h _ b M (ajb k (U i k hs).1) J (U i k hs).2 I (hHk k (hlt i k hs)) z hbk;subst this;exact hno i hs
 have ajc:∀(i:Nat) (e:BK) (h:Bv) (b:Nat),E'[i]? =some e->H'[i]? =some h->e.live=true->DZ h.v=some b->¬ok' b/\b<w'.heap.size/\(w.heap.size<=b\/b∈X):=fun i e h b M I J z=>q.blk i e h b M J I z;refine⟨⟨q.fr.os.trans hm.fr.os,q.fr.tape.trans hm.fr.tape,q.fr.output.trans hm.fr.output,EY hm.fr.size q.fr.size,fun k hk hx=>?_⟩,fun b hb=>q.yQ b (hm.yQ b hb),?_,q.kC,hm.names.trans (I7 _ _),?_,?_,?_,?_⟩
 ·have hkw:k<w.heap.size:=Wi hk hm.fr.size
  rw[q.fr.block k hkw (fun hkX=>by
   obtain⟨_,_,_,_,_,_,h⟩:=L k hkX;rcases h with h|h
   ·omega
   exact hx h)]
  exact hm.fr.block k hk hx
 ·intro b hb;rcases q.yR b hb with h|h|h
  ·exact hm.yR b h
  ·exact .inr (.inl (EY hm.fr.size h))
  obtain⟨_,_,_,_,_,_,h⟩:=L b h;exact .inr h
 ·rw[ayK,EP,Ji,hm.hlen,q.hlen]
 ·intro j e h M I;rcases hcls j e h M (.inr trivial) I with⟨i,e0,rfl,O,Y,_⟩|⟨_,O,Y,h3⟩
  ·exact FB.upw rfl hlt q.names hm.hlen (hb4 e0 (Vo O)) (q.ent i e0 h O Y)
  refine(hm.ent j e h O Y).mono hgr (I7 _ _) (fun J b z=>?_);have h4:=hold j e h b O Y h3 J z;exact q.fr.block b h4.1 h4.2.1
 ·intro j e h b M J I z;rcases hcls j e h M (.inr trivial) I with⟨i,e0,rfl,O,Y,_⟩|⟨_,O,Y,h3⟩
  ·have h4:=ajc i e0 h b O Y aKE z;refine⟨h4.1,h4.2.1,?_⟩;rcases h4.2.2 with h5|h5
   ·exact .inl (EY hm.fr.size h5)
   obtain⟨_,_,_,_,_,_,h⟩:=L b h5;exact h
  have h4:=hold j e h b O Y h3 J z;refine⟨fun hok'=>?_,Wi h4.1 q.fr.size,h4.2.2.2⟩;rcases q.yR b hok' with h5|h5|h5
  ·exact h4.2.2.1 h5
  ·have :w.heap.size<=b:=h5;omega
  exact h4.2.1 h5
 intro j j' e e' h h' b M he' J Z I hh' z agz;rcases hcls j e h M (.inr trivial) I with⟨i,e0,rfl,O,Y,h3⟩|⟨_,O,Y,h3⟩
 ·rcases hcls j' e' h' he' (.inr trivial) hh' with⟨i',e0',rfl,h1',h2',h3'⟩|⟨_,h1',h2',h3'⟩
  ·have hii:=q.Gg i i' e0 e0' h h' b O h1' aKE (by rw[BK.aav]at Z;exact Z) Y h2' z agz;subst hii;rcases h3 with⟨_,h4⟩|⟨h4,h5⟩
   ·rcases h3' with⟨_,h4'⟩|⟨h4',h5'⟩
    ·rw[h4]at h4';simpa using h4'
    have :=(G7.1 h4).1;omega
   rcases h3' with⟨_,h4'⟩|⟨h4',h5'⟩
   ·have :=(G7.1 h4').1;omega
   omega
  have h4:=hold j' e' h' b h1' h2' h3' Z agz;rcases(ajc i e0 h b O Y aKE z).2.2 with h5|h5
  ·omega
  exact absurd h5 h4.2.1
 rcases hcls j' e' h' he' (.inr trivial) hh' with⟨i',e0',rfl,h1',h2',h3'⟩|⟨_,h1',h2',h3'⟩
 ·have h4:=hold j e h b O Y h3 J z;rcases(ajc i' e0' h' b h1' h2' (by rw[BK.aav]at Z;exact Z) agz).2.2 with h5|h5
  ·omega
  exact absurd h5 h4.2.1
 exact hm.Gg j j' e e' h h' b O h1' J Z Y h2' z agz
def aaD {f:FuncId} {ops:BQ Bg} {ats:BQ Bj} (srcs:A8 Dx) {dM fC:A8 Aa} {E E':A8 BK} {j:Aa} (q:Ei P f fC E j E') (u:H6 P f=true) (z:RY srcs es E E'=true) (hE:tH srcs es E) (ha:MH srcs dM fC) (hl:ops.toList.length=dM.length)
 (I:o.op=.call { callee:=.value (.func f),args:=ops,argTypes:=ats }):Bz P o (FX ops.toList dM) es (j.up srcs es.length) (Lj srcs es E'):=by
 intro C ok H a w Q hm J;unfold Oper.wp;rw[pS I,U4 u,bU];have e:ops.map a.eval=(ops.toList.map a.eval).toArray:=aDr
 rw[e];refine(aTe hm srcs q z hE ha hl J).mono ?_;rintro e w' ⟨v,ok',H',rfl,L,M,O,U⟩;exact⟨v,ok',H',rfl,L,M,O,U⟩
end
def Ae (n:Int):D:=.lit (.int .i64 n)
def DI (n:Int):D:=.lit (.int .u8 n)
def Dt (b:AQ):D:=.lit (.bool b)
def Dj (s:BI):D:=.lit (.string s)
def BO {α:Type} (e:α->D) (l:A8 α):D:=.sl (l.map e)
def Au (x:D):A8 Aa:=x.cells.map .d
def BF {α:Type} (l:A8 α) (i:Int):AL α:=if 0<=i then l[i.toNat]? else none
def Dc {α:Type} (j:Nat) (l m:A8 α):AL (A8 α):=if(l.length+m.length)*j<=140737488355328 then some (l++m)else none
def Hy (s:BI) (i:Int):AL Int:=if 0<=i then(s[i.toNat]?).map fun c=>(c.toNat:Int)else none
def KQ {α:Type} (l:A8 α) (lo hi:Int):AL (A8 α):=if 0<=lo/\lo<=hi/\hi<=l.length then some ((l.drop lo.toNat).take (hi.toNat-lo.toNat))else none
def NY (s:BI) (lo hi:Int):AL BI:=if 0<=lo/\lo<=hi/\hi<=s.size then some (s.extract lo.toNat hi.toNat)else none
def Ir {α:Type} (j:Nat) (z:α) (n c:Int):AL (A8 α):=if 0<=n/\n<=c/\(j:Int)*c<=140737488355328 then some (List.replicate n.toNat z)else none
def Lh {α:Type} {l:A8 α} {i:Int} {x:α} (h:BF l i=some x):0<=i/\l[i.toNat]? =some x:=by
 unfold BF at h;split at h
 ·exact⟨‹_›,h⟩
 cases h
def ahx {α β:Type} {l:A8 α} {i:Nat} {x:α} (f:α->β) (h:l[i]? =some x):(l.map f)[i]? =some (f x):=by simp[h]
def P8 {α:Type} {b:AQ} {x y z:α} (j:b=true) (h:(bif b then x else y)=z):x=z:=by subst j;exact h
def PD {α:Type} {b:AQ} {x y z:α} (j:b=false) (h:(bif b then x else y)=z):y=z:=by subst j;exact h
def DT {α β:Type} {x:AL α} {f:α->AL β} {z:β} (h:x.bind f=some z):∃a,x=some a/\f a=some z:=ig.1 h
def Aw :Nat:=9223372036854775808
section
variable {P:CS} {o:Oper} {es:A8 BK} {α:Type}
def Bh {x:Bg} {t e:Bj} (enc:α->D) (l:A8 α) (j:P.underlying t=some (.slice e)) (q:o.op=.call { callee:=.builtin .len,args:= #[x],argTypes:= #[t] }):
 Bz P o [(x,.d (BO enc l))] es (.d (Ae l.length)) es:=by
 have :=amX (es:=es) (xs:=l.map enc) j q;rw[Cm]at this;exact this
def Ti {x:Bg} {t e e':Bj} {k s:Nat} (enc:α->D) (l:A8 α) (j:es[k]? =some (.arr e' s (l.map enc))) (q:P.underlying t=some (.slice e)) (u:o.op=.call { callee:=.builtin .len,args:= #[x],argTypes:= #[t] }):
 Bz P o [(x,.aS k)] es (.d (Ae l.length)) es:=by
 have :=amq j q u;rw[Cm]at this;exact this
def aam {x:Bg} {t:Bj} (s:BI) (j:P.underlying t=some .string) (q:o.op=.call { callee:=.builtin .len,args:= #[x],argTypes:= #[t] }):
 Bz P o [(x,.d (Dj s))] es (.d (Ae s.size)) es:=aeg j q
def ajT {x y:Bg} {t e:Bj} {k:IntKind} {i:Int} {agg:AQ} {size:Nat} (enc:α->D) {l:A8 α} {a:α} (h:BF l i=some a) (j:P.underlying t=some (.slice e)) (q:EC P e agg size) (hs:(enc a).cells.length=size) (u:o.op=.indexAddr t x y):
 Bz P o [(x,.d (BO enc l)),(y,.d (.lit (.int k i)))] es (.d (.ref (enc a).cells 0)) es:=
 aeV j q (Lh h).1 (ahx enc (Lh h).2) hs u
def Ry {x y:Bg} {t e e':Bj} {kd:IntKind} {i:Int} {k size:Nat} {agg:AQ} (enc:α->D) {l:A8 α} {a:α} (h:BF l i=some a) (j:es[k]? =some (.arr e' size (l.map enc))) (q:P.underlying t=some (.slice e)) (u:EC P e agg size) (z:o.op=.indexAddr t x y):
 Bz P o [(x,.aS k),(y,.d (.lit (.int kd i)))] es (.kX k i.toNat 0) es:=
 abh j q u (Lh h).1 (by have :=(G7.1 (Lh h).2).1;simpa using this) z
def ajZ {s:BI} {i n:Int} (h:Hy s i=some n):∃c,0<=i/\s[i.toNat]? =some c/\n=c.toNat:=by
 unfold Hy at h;split at h
 ·rename_i j;rw[VB]at h;obtain⟨c,q,u⟩:=h;exact⟨c,j,q,u.symm⟩
 cases h
def WE {x y:Bg} {t:Bj} {k:IntKind} {i n:Int} {s:BI} (h:Hy s i=some n) (j:P.underlying t=some .string) (q:o.op=.index t x y):
 Bz P o [(x,.d (Dj s)),(y,.d (.lit (.int k i)))] es (.d (DI n)) es:=by
 obtain⟨c,u,z,rfl⟩:=ajZ h;exact aar j u z q
def aDh {b:Nat} {l m r:A8 α} (h:Dc b l m=some r):r=l++m/\(l.length+m.length)*b<=140737488355328:=by
 unfold Dc at h;split at h
 ·exact⟨(Ch h).symm, ‹_›⟩
 cases h
def aGL {n b:Nat} (j:0<b) (h:n*b<=140737488355328):n<=maxLen:=by
 have :n*1<=n*b:=Nat.mul_le_mul_left _ j;unfold maxLen;omega
def Eb {s x:Bg} {t e:Bj} {size j k:Nat} (enc:α->D) {l m r:A8 α} (h:Dc j l m=some r) (hE:GU P t e size j) (u:es[k]? =some (.arr e size (l.map enc))) (z:∀a,(enc a).cells.length=size) (I:0<j)
 (J:o.op=.call { callee:=.builtin .append,args:= #[s,x],argTypes:= #[t,t] }):
 Bz P o [(s,.aS k),(x,.d (BO enc m))] es (.aS es.length) (es.set k .dead++[.arr e size (r.map enc)]):=by
 obtain⟨rfl,q⟩:=aDh h;have :=af6 (ys:=m.map enc) hE u (fun y L=>by obtain⟨a,_,rfl⟩:=Ea.1 L;exact z a) Oh (by simpa using aGL I q) J;rw[←LY]at this;exact this
def agK {s r:BI} {lo hi:Int} (h:NY s lo hi=some r):(0<=lo/\lo<=hi/\hi<=s.size)/\r=s.extract lo.toNat hi.toNat:=by
 unfold NY at h;split at h
 ·exact⟨‹_›,(Ch h).symm⟩
 cases h
def qR (x:AL Bg) (n:Int):A8 (Bg×Aa):=match x with |some y=>[(y,.d (Ae n))]|none=>[]
def aK3 {t:Bj} {x:Bg} {lo hi:AL Bg} {l h:Int} {s r:BI} (hr:NY s l h=some r) (hl:lo=none->l=0) (Z:hi=none->h=s.size) (ht:P.underlying t=some .string) (J:o.op=.slice t x lo hi none):
 Bz P o ((x,.d (Dj s))::(qR lo l++qR hi h)) es (.d (Dj r)) es:=
 .pure fun ok H a w _ _ M=>by
  obtain⟨⟨O,h1,h2⟩,rfl⟩:=agK hr;have q:=(M (x,.d (Dj s)) BR).lit;simp only at q;have L:(underlying t).run P w=.ok .string w:=og
  refine⟨.string (s.extract l.toNat h.toNat),?_,.d _ _ (.lit _)⟩;have u:∀y,lo=some y->a.eval y=.int .i64 l:=fun y e=>(M (y,.d (Ae l)) yh).lit;have I:∀y,hi=some y->a.eval y=.int .i64 h:=fun y e=>(M (y,.d (Ae h)) yh).lit;have e1:((0:Int)<=h/\h<=(s.size:Int)):=⟨AB,h2⟩
  have e2:((0:Int)<=l/\l<=(h.toNat:Int)):=⟨O,AB⟩
  cases lo with
  |none=>
   have U:=hl rfl;subst U;cases hi with
   |none=>
    have j:=Z rfl;subst j;simp[execOp,J,q,Instr.sliceAt,Instr.slice,L,Instr.sliceBounds]
   |some y=>
    simp[execOp,J,q,Instr.sliceAt,Instr.slice,L,Instr.sliceBounds,Instr.sliceBound,I y rfl,asIntOf,e1]
  |some z=>
   cases hi with
   |none=>
    have j:=Z rfl;subst j;have Y:((0:Int)<=l/\l<=(s.size:Int)):=⟨O,AB⟩
    simp[execOp,J,q,Instr.sliceAt,Instr.slice,L,Instr.sliceBounds,Instr.sliceBound,u z rfl,asIntOf,Y]
   |some y=>
    simp[execOp,J,q,Instr.sliceAt,Instr.slice,L,Instr.sliceBounds,Instr.sliceBound,u z rfl,I y rfl,asIntOf,e1];intro hc;have :=hc O;omega
def aMe {l r:A8 α} {lo hi:Int} (h:KQ l lo hi=some r):(0<=lo/\lo<=hi/\hi<=l.length)/\r=(l.drop lo.toNat).take (hi.toNat-lo.toNat):=by
 unfold KQ at h;split at h
 ·exact⟨‹_›,(Ch h).symm⟩
 cases h
def aNl {ok:Nat->Prop} {w:BG} {xs:A8 D} {ad:AL Addr} {cap size l h:Nat} (Y:Dq ok w (.sl xs) (.slice ad xs.length cap)) (hs:∀x∈xs,x.cells.length=size) (Z:l<=h) (h2:h<=xs.length):
 Dq ok w (.sl ((xs.drop l).take (h-l))) (.slice (if cap=l then ad else ad.map (·.add (l*size))) (h-l) (cap-l)):=by
 have hlen:((xs.drop l).take (h-l)).length=h-l:=Et
 by_cases hz:h-l=0
 ·have :(xs.drop l).take (h-l)=[]:=by rw[hz];rfl
  rw[this,hz];exact .sl0 _ _
 have z:0<xs.length:=AB
 generalize hn:xs.length=n at Y;cases Y with
 |sl0=>simp at z
 |sl _ b off _ q hcap L I hf hx hc=>
  have M:q=size:=by
   rw[←I 0 z];exact hs _ (by simp[List.getD,z])
  subst M;have O:cap≠l:=AB
  rw[DU O];simp only[JF,addr_add]
  have U:∀i,i<h-l->((xs.drop l).take (h-l)).getD i Dl=xs.getD (l+i) Dl:=by
   intro i hi;simp[List.getD,NZ hi,Px]
  have u:∀i j,off+l*q+(i*q+j)=off+((l+i)*q+j):=by
   intro i j;rw[Xx];omega
  have :=Dq.sl ((xs.drop l).take (h-l)) b (off+l*q) (cap-l) q (ok:=ok) (w:=w) (by rw[hlen];omega) (fun Z h2=>L (by rw[hlen]at Z;omega) h2) (fun i hi=>by rw[hlen]at hi;rw[U i hi];exact I _ AB)
   (fun i hi j J=>by rw[hlen]at hi;rw[U i hi];exact hf _ AB j J) (fun i hi j J=>by rw[hlen]at hi;rw[u];exact hx _ AB j J)
   (fun i hi j J=>by rw[hlen]at hi;rw[U i hi,u];exact hc _ AB j J)
  rw[hlen]at this;exact this
def jT {t e:Bj} {agg:AQ} {size:Nat} {x:Bg} {lo hi:AL Bg} {l h:Int} (enc:α->D) {xs r:A8 α} (hr:KQ xs l h=some r) (hl:lo=none->l=0) (hh:hi=none->h=xs.length) (ht:P.underlying t=some (.slice e)) (O:EC P e agg size)
 (hc:∀a,(enc a).cells.length=size) (U:o.op=.slice t x lo hi none):Bz P o ((x,.d (BO enc xs))::(qR lo l++qR hi h)) es (.d (BO enc r)) es:=
 .pure fun ok H a w _ _ hn=>by
  obtain⟨⟨h0,h1,h2⟩,rfl⟩:=aMe hr;have hx:=hn (x,.d (BO enc xs)) BR;simp only at hx;generalize Y:a.eval x=v at hx;have Z:(underlying t).run P w=.ok (.slice e) w:=og
  have L:∀y,lo=some y->a.eval y=.int .i64 l:=fun y e=>(hn (y,.d (Ae l)) yh).lit;have M:∀y,hi=some y->a.eval y=.int .i64 h:=fun y e=>(hn (y,.d (Ae h)) yh).lit;have u:Dq ok w (.sl (xs.map enc)) v:=by cases hx with |d _ _ h=>exact h
  have I:∃ad cap,v=.slice ad (xs.map enc).length cap/\(xs.map enc).length<=cap:=by
   generalize hys:xs.map enc=ys at u;cases u with
   |sl0 ad cap=>exact⟨ad,cap,rfl,Ec _⟩
   |sl _ b off cap size j=>exact⟨_,cap,rfl,j⟩
  obtain⟨ad,cap,rfl,j⟩:=I;have q:=aNl (l:=l.toNat) (h:=h.toNat) u (size:=size) (fun y hy=>aIU) AB Et;rw[←aA,←XZ]at q;rw[Cm]at j;refine⟨_,?_,.d _ _ q⟩;have e1:((0:Int)<=h/\h<=(cap:Int)):=⟨AB,AB⟩
  cases lo with
  |none=>
   have hl0:=hl rfl;subst hl0;cases hi with
   |none=>
    have J:=hh rfl;subst J;simp[execOp,U,Y,Instr.sliceAt,Instr.slice,Z,Instr.sliceBounds,O.size]
   |some y=>
    simp[execOp,U,Y,Instr.sliceAt,Instr.slice,Z,Instr.sliceBounds,Instr.sliceBound,M y rfl,asIntOf,e1,O.size]
  |some z=>
   cases hi with
   |none=>
    have J:=hh rfl;subst J;have e2':((0:Int)<=l/\l<=(xs.length:Int)):=⟨h0,AB⟩
    simp[execOp,U,Y,Instr.sliceAt,Instr.slice,Z,Instr.sliceBounds,Instr.sliceBound,L z rfl,asIntOf,e2',O.size]
   |some y=>
    simp[execOp,U,Y,Instr.sliceAt,Instr.slice,Z,Instr.sliceBounds,Instr.sliceBound,L z rfl,M y rfl,asIntOf,e1,O.size];intro hc';have :=hc' h0;omega
def iV (P:CS) (t:Bj) (f off:Nat) (agg:AQ) (n:Nat):AQ:=
 match P.underlying t with
 |some (.struct q)=>match q[f]? with
  |some j=>j.offset=off&&aFs P j.type agg n
  |none=>false
 |_=>false
def ak8 {x:Bg} {t:Bj} {f off n:Nat} {agg:AQ} {cs:A8 D} (hp:iV P t f off agg n=true) (hn:off+n<=cs.length) (Z:agg=false->n=1) (M:o.op=.field t x f):Bz P o [(x,.d (.agg cs))] es (.d (Q5 agg cs off n)) es:=
 .pure fun ok H a w _ _ I=>by
  have J:=KU I;simp only at J;generalize O:a.eval x=v at J;unfold iV at hp;split at hp
  ·rename_i fs hu;split at hp
   ·rename_i j U;simp only[D5,Ht]at hp;obtain⟨rfl,q⟩:=hp;have q:=FP q;have u:(underlying t).run P w=.ok (.struct fs) w:=aCL
    cases J with
    |d _ _ h=>
     cases h with
     |agg _ vs hl L Y=>
      cases agg with
      |false=>
       have :=Z rfl;subst this;have z:j.offset<vs.size:=AB
       refine⟨vs[j.offset],?_,?_⟩
       ·simp[execOp,M,O,Instr.field,u,U,asAgg,part,q.agg,z]
       have :=Y j.offset AB;simp[Array.getD,z]at this;exact .d _ _ this
      |true=>
       refine⟨.agg (vs.extract j.offset (j.offset+n)),?_,?_⟩
       ·simp[execOp,M,O,Instr.field,u,U,asAgg,part,q.agg,q.size]
       simp only[Q5,Lp];have hlen:((cs.drop j.offset).take n).length=n:=Et
       have hg:∀i,i<n->((cs.drop j.offset).take n).getD i Dl=cs.getD (j.offset+i) Dl:=by
        intro i hi;simp[List.getD,NZ hi,Px]
       refine .d _ _ (.agg _ _ (by rw[hlen];simp;omega) ?_ ?_)<;>intro i hi<;>rw[hlen]at hi<;>rw[hg i hi]
       ·exact L _ AB
       have :=Y (j.offset+i) AB
       have e:(vs.extract j.offset (j.offset+n)).getD i undef=vs.getD (j.offset+i) undef:=by
        have h3:j.offset+i<vs.size:=AB
        have h4:i<(vs.extract j.offset (j.offset+n)).size:=Et
        have h5:i<min (j.offset+n) vs.size-j.offset:=AB
        simp[Array.getD,h3,h5]
       rw[e];exact this
   cases hp
  cases hp
def Aa.flat:Aa->AQ
 | .d (.lit _)=>true
 | .eH xs=>xs.all fun x=>match x with | .d (.lit _)=>true|_=>false
 |_=>false
def aNn (es:A8 BK):Aa->Aa->Prop
 | .d x,y=>y=.d x
 | .aS k,y=>∃e s xs,es[k]? =some (.arr e s xs)/\y=.d (.sl xs)
 |_,_=>False
def Zo (es:A8 BK):A8 Aa->A8 Aa->Prop
 |x::xs,y::ys=>aNn es x y/\Zo es xs ys
 | [],[]=>True
 |_,_=>False
def aJ1 :∀{xs ys:A8 Aa},Zo es xs ys->xs.length=ys.length
 | [],[],_=>rfl
 |_::xs,_::ys,h=>by simp[aJ1 h.2]
 | [],_::_,h=>h.elim
 |_::_,[],h=>h.elim
def aLe {ops:A8 Bg}:∀{xs ys:A8 Aa},ops.length=xs.length->Zo es xs ys->∀i,i<ys.length->∃o x,ops[i]? =some o/\(o,x)∈FX ops xs/\aNn es x (ys.getD i .junk):=by
 induction ops with
 |nil=>
  intro xs ys hl h i hi;cases xs with
  |nil=>cases ys with |nil=>simp at hi|cons _ _=>exact h.elim
  |cons _ _=>simp at hl
 |cons o ops j=>
  intro xs ys hl h i hi;cases xs with
  |nil=>simp at hl
  |cons x xs=>
   cases ys with
   |nil=>exact h.elim
   |cons y ys=>
    cases i with
    |zero=>exact⟨o,x,rfl,by simp[FX],h.1⟩
    |succ i=>
     obtain⟨q,u,z,I,J⟩:=j OW h.2 i Gt;exact⟨q,u,KW,by simp[FX,I],V7⟩
def iW {ok ok':Nat->Prop} {w:BG} {H:A8 Bv} {h:Bv} {e s:Nat} {xs:A8 D} (he:FB ok w H h (.arr e s xs)) (z:∀b,ok b->ok' b) (O:∀b,DZ h.v=some b->ok' b):Dq ok' w (.sl xs) h.v:=by
 obtain⟨h1,L,ys,⟨h3,h4⟩,h5⟩:=he;rcases h4 with⟨M,h7⟩|⟨g,cap,u,M,h7,h8,h9,h10,U,Y⟩
 ·rw[Gy h7,M];exact .sl0 none 0
 rw[M];have I:=O g (by rw[M];rfl);have J:=SN L
 have Z:∀i j,i<xs.length->j<s->i*s+j<xs.length*s:=by
  intro i j hi q
  calc i*s+j<i*s+s:=AB
   _=(i+1)*s:=by rw[Un]
   _<=xs.length*s:=Js _ hi
 have hcur:xs.length*s<=u.size:=by
  exact EY (Js _ h9) U
 have hc:∀i j,i<xs.length->j<s->w.cell? ⟨g,0+(i*s+j),none⟩=some (ys.getD (i*s+j) undef):=by
  intro i j hi q;have h13:=Z i j hi q;rw[Jj]
  have e1:ys.getD (i*s+j) undef=u[i*s+j]' AB:=by
   rw[←Y];simp[List.getD,NZ h13,show i*s+j<u.size by omega]
  rw[e1];simp[World.cell?,h8,show i*s+j<u.size by omega]
 have hg:∀i,i<xs.length->xs.getD i Dl∈xs:=fun i hi=>MX
 refine .sl xs g 0 cap s h9 (fun _ _=>I) (fun i hi=>L _ (hg i hi)) (fun i hi j q=>?_) (fun i hi j q=>?_) (fun i hi j q=>?_)
 ·have :=(h5.2 (i*s+j) (by rw[J];exact Z i j hi q)).1;rw[flat_get L i j hi q]at this;exact this
 ·rw[hc i j hi q];rfl
 have :=(h5.2 (i*s+j) (by rw[J];exact Z i j hi q)).2;rw[flat_get L i j hi q]at this;unfold cellAt;rw[hc i j hi q];cases this with |d _ _ h=>exact h.mono (fun b O=>⟨z b O,rfl⟩)
def aRQ {f:FuncId} {ops:BQ Bg} {ats:BQ Bj} {dM fC:A8 Aa} {I:Aa} (hr:Ei P f fC [] I []) (hf:H6 P f=true) (z:I.flat=true) (ha:Zo es dM fC) (hl:ops.toList.length=dM.length)
 (ho:o.op=.call { callee:=.value (.func f),args:=ops,argTypes:=ats }):Bz P o (FX ops.toList dM) es I es:=by
 intro C ok H a w Q hm hn;unfold Oper.wp;rw[pS ho,U4 hf,bU];have e:ops.map a.eval=(ops.toList.map a.eval).toArray:=aDr
 rw[e]
 let J:Nat->Prop:=fun b=>b<w.heap.size
 have hmc:DL ⟨w,J,[],[]⟩ J [] [] w:=
  ⟨.refl _ _,fun _ h=>h,fun _ h=>.inl h,fun _ h=>h,.refl _,rfl,fun k e h L _=>oD,fun k e h b L=>oD,fun k k' e e' h h' b L=>oD⟩
 refine(hr J [] [] w _ hmc (by simp[hl,aJ1 ha]) (fun i hi=>?_)).mono ?_
 ·obtain⟨op,x,ho',U,j⟩:=aLe hl ha i hi;have O:=hn _ U
  have e:(ops.toList.map a.eval).toArray.getD i undef=a.eval op:=by
   obtain⟨h1,h2⟩:=G7.1 ho';have Y:i<ops.size:=by simpa using h1
   have Z:ops[i]=op:=rD
   simp[Array.getD,Y,Z]
  rw[e];simp only at O;generalize fC.getD i .junk=y at j;generalize a.eval op=u at O;cases x with
  |d x=>
   obtain rfl:=j;cases O with |d _ _ h=>exact .d _ _ (h.mono (fun b M=>⟨hm.kC b M,rfl⟩))
  |aS k=>
   obtain⟨e',s,xs,hk,rfl⟩:=j;obtain⟨h,hh,hok⟩:=GX hm.ent hm.hlen hk;obtain rfl:=Pe O hh;exact .d _ _ (iW hok (fun b M=>hm.kC b M) (fun b M=>(hm.blk k _ h b hk rfl hh M).2.1))
  |_=>exact j.elim
 rintro e w' ⟨v,ok',H',rfl,q,O⟩;have hblk:∀b,b<w.heap.size->¬False->w'.heap[b]? =w.heap[b]? :=fun b M _=>q.fr.block b M BR;obtain⟨h1,h2⟩:=hm.change (ok':=ok) (H':=H) (es':=es) (w':=w') (fun _=>False) q.fr.os q.fr.tape q.fr.output q.fr.size hblk (fun _ h=>h.elim) (fun _ h=>h) (fun _ h=>.inl h) (.refl _) hm.hlen (fun k e h L hh=>.inl ⟨L,hh,fun _ _ _ h=>h⟩);refine⟨v,ok,H,rfl,h2,.refl _,h1,?_⟩;cases O with
 |d x v h=>
  cases x with
  |lit u=>cases h;exact .d _ _ (.lit _)
  |_=>simp[Aa.flat]at z
 |eH xs vs hl' h=>
  refine .eH xs vs hl' (fun i hi=>?_);simp only[Aa.flat,Dw]at z;have Y:=z (xs.getD i .junk) MX;have Z:=h i hi;generalize xs.getD i .junk=x at Y Z;generalize vs.getD i undef=u at Z;cases Z with
  |d y _ h5=>
   cases y with
   |lit u=>cases h5;exact .d _ _ (.lit _)
   |_=>simp at Y
  |_=>simp at Y
 |_=>simp[Aa.flat]at z
end
def Aa.thaw (k:Nat) (xs:A8 D):Aa->Aa
 | .aS j=>if j=k then .d (.sl xs)else .aS j
 | .kX j i off=>if j=k then .junk else .kX j i off
 |x=>x
def Ap.thaw (σ:Ap) (k:Nat) (xs:A8 D):Ap:=⟨σ.slots.map (Aa.thaw k xs),σ.ents.set k .dead,σ.base⟩
def ML {σ:Ap} (k:Nat) {e s:Nat} {xs:A8 D} (hk:σ.ents[k]? =some (.arr e s xs)):∀C ok H a w,Holds C ok H σ a w->∃ok',Holds C ok' H (σ.thaw k xs) a w:=by
 intro C ok H a w u;obtain⟨hd,O,hok⟩:=GX u.mem.ent u.mem.hlen hk;have I:k<σ.ents.length:=(G7.1 hk).1
 let ok':Nat->Prop:=fun b=>ok b\/DZ hd.v=some b
 have M:=fun b q=>u.mem.blk k _ hd b hk rfl O q;have hg:Ej ok w ok' w:=fun b q=>⟨.inl q,rfl⟩
 refine⟨ok',⟨u.mem.fr,fun b q=>.inl (u.mem.yQ b q),?_,?_,u.mem.names,by simp[Ap.thaw,u.mem.hlen],?_,?_,?_⟩,by simp[Ap.thaw,u.size],u.defers.mono hg,u.base,?_⟩
 ·rintro b (q|q)
  ·exact u.mem.yR b q
  exact .inr (M b q).2.2
 ·rintro b (q|q)
  ·exact u.mem.kC b q
  exact(M b q).2.1
 ·intro j e' h' he J;rcases NR I he with⟨rfl,rfl⟩|⟨_,L⟩
  ·trivial
  exact(u.mem.ent j e' h' L J).mono hg (.refl _) (fun _ _ _=>rfl)
 ·intro j e' h' b he hl J q;rcases NR I he with⟨rfl,rfl⟩|⟨hne,L⟩
  ·cases hl
  have h3:=u.mem.blk j e' h' b L hl J q;refine⟨fun z=>?_,h3.2⟩;rcases z with z|z
  ·exact h3.1 z
  exact hne (u.mem.Gg j k e' _ h' hd b L hk hl rfl J O q z)
 ·intro i j e1 e2 h1 h2 b he1 he2 Y Z hh1 hh2 hb1 hb2;rcases NR I he1 with⟨rfl,rfl⟩|⟨_,auL⟩
  ·cases Y
  rcases NR I he2 with⟨rfl,rfl⟩|⟨_,amu⟩
  ·cases Z
  exact u.mem.Gg i j e1 e2 h1 h2 b auL amu Y Z hh1 hh2 hb1 hb2
 intro t ht;simp only[Ap.thaw,Cm]at ht
 have e1:(σ.thaw k xs).slots.getD t .junk=(σ.slots.getD t .junk).thaw k xs:=by
  simp only[Ap.thaw];exact V5 _ _ _ ht
 rw[e1];have U:=(u.slot t ht).mono hg (gX H);generalize σ.slots.getD t .junk=x at U ⊢;generalize a.tmps.getD t undef=v at U ⊢;cases x with
 |aS j=>
  simp only[Aa.thaw];split
  ·rename_i hj;subst hj;obtain rfl:=Pe U O;exact .d _ _ (iW hok (fun b q=>.inl q) (fun b q=>.inr q))
  exact U
 |kX j i off=>
  simp only[Aa.thaw];split
  ·exact .junk _
  exact U
 |_=>exact U
def BZ.thaw {P:CS} {c:Code} {σ:Ap} {Q:Exit->Ap->Prop} (k:Nat) {e s:Nat} {xs:A8 D} (q:σ.ents[k]? =some (.arr e s xs)) (h:BZ P c (σ.thaw k xs) Q):BZ P c σ Q:=by
 refine⟨fun ro u C ok H a w z=>?_⟩;obtain⟨ok',j⟩:=ML k q C ok H a w z;exact h.run ro u C ok' H a w j
def Ei.view {P:CS} {f:FuncId} {args:A8 Aa} {e s:Nat} {xs:A8 D} (h:Ei P f args [] (.aS 0) [.arr e s xs]):Ei P f args [] (.d (.sl xs)) []:=by
 intro ok X H w q hm hs ha;refine(h ok X H w q hm hs ha).mono ?_;rintro e' w' ⟨v,ok',H',rfl,j,L⟩;have M:H=[]:=Gy hm.hlen;have hl:H'.length=1:=j.hlen
 match H',hl with
 | [hd],_=>
   obtain rfl:=Pe L (h:=hd) rfl;have I:=j.ent 0 _ hd rfl rfl;have z:=fun b z=>j.blk 0 _ hd b rfl rfl rfl z
   let J:Nat->Prop:=fun b=>ok' b\/DZ hd.v=some b
   refine⟨hd.v,J,[],rfl,⟨j.fr,fun b h=>.inl (j.yQ b h),?_,?_,by intro k v O;subst M;simp at O,rfl,fun k e h u=>by simp at u,fun k e h b u=>by simp at u,fun k k' e e' h h' b u=>by simp at u⟩,.d _ _ (iW I (fun b h=>.inl h) (fun b h=>.inr h))⟩
   ·rintro b (h|h)
    ·exact j.yR b h
    exact .inr (z b h).2.2
   rintro b (h|h)
   ·exact j.kC b h
   exact(z b h).2.1
def abY (es E':A8 BK) (j:E'.all BK.closed=true):Lj [] es E'=es++E':=by
 unfold Lj;simp only[List.findIdx?_nil,Qo,vT];rw[aTv j];congr 1;apply dD;intro i;simp only[JI,List.getElem?_zipIdx];cases es[i]? <;>rfl
def aEv {P:CS} {o:Oper} {es:A8 BK} {f:FuncId} {ops:BQ Bg} {ats:BQ Bj} {dM fC:A8 Aa} {j res':Aa} {E':A8 BK} (z:Ei P f fC [] j E') (I:H6 P f=true) (q:E'.all BK.closed=true)
 (ha:MH [] dM fC) (hl:ops.toList.length=dM.length) (J:j.up [] es.length=res') (L:o.op=.call { callee:=.value (.func f),args:=ops,argTypes:=ats }):Bz P o (FX ops.toList dM) es res' (es++E'):=by
 have :=aaD (es:=es) [] z I (by
  have u:E'.all (BK.aja [] es.length)=true:=by
   rw[Dw]at q ⊢;exact fun e M=>aak (q e M)
  simp[RY,u]) (fun i s h=>IL) ha hl L
 rw[abY _ _ q,J]at this;exact this
def aND {P:CS} {o:Oper} {es:A8 BK} {f:FuncId} {ops:BQ Bg} {ats:BQ Bj} {dM fC:A8 Aa} {j res':Aa} (q:Ei P f fC [] j []) (u:H6 P f=true)
 (ha:MH [] dM fC) (hl:ops.toList.length=dM.length) (z:j.up [] es.length=res') (I:o.op=.call { callee:=.value (.func f),args:=ops,argTypes:=ats }):Bz P o (FX ops.toList dM) es res' es:=by
 have :=aEv (es:=es) q u rfl ha hl z I;rw[UW]at this;exact this
section
variable {P:CS} {σ:Ap} {Q:Exit->Ap->Prop}
def aGk (P:CS) (σ:Ap):ResultVar->Aa->Prop
 | .tmp t,x=>x=σ.slots.getD t .junk
 | .cell t T,x=>∃k cs agg n,σ.slots.getD t .junk=.ptr k 0/\σ.ents[k]? =some (.box cs)/\cs.all Aa.zN=true/\EC P T agg n/\n<=cs.length/\(agg=false->n=1)/\x=.d (Q5 agg (JE cs) 0 n)
def Gu {P:CS} {σ:Ap} {t:Tmp} {x:Aa} (h:x=σ.slots.getD t .junk):aGk P σ (.tmp t) x:=h
def YA (P:CS) (σ:Ap):A8 ResultVar->A8 Aa->Prop
 |r::rs,x::xs=>aGk P σ r x/\YA P σ rs xs
 | [],[]=>True
 |_,_=>False
def je :A8 Aa->Aa
 | [x]=>x
 |xs=>.eH xs
def aNc (P:CS) (fn:Func) (j:Aa) (E':A8 BK):Exit->Ap->Prop
 | .ret,σ=>∃xs π,YA P σ fn.results.toList xs/\UG σ.base σ.ents π=true/\j=(je xs).back π/\E'=SH σ.ents π
 | .normal,σ=>∃xs π,YA P σ fn.results.toList xs/\UG σ.base σ.ents π=true/\j=(je xs).back π/\E'=SH σ.ents π
 |_,_=>False
def aJa (tmps:BQ Ai):ResultVar->Sem Ai
 | .tmp t=>pure (tmps.getD t undef)
 | .cell t T=>do loadVar T (←asAddr (tmps.getD t undef))
def ae8 {C:Ee} {ok:Nat->Prop} {H:A8 Bv} {a:Act} {w:BG} (h:Holds C ok H σ a w) {r:ResultVar} {x:Aa} (j:aGk P σ r x):
 ∃v,(aJa a.tmps r).run P w=.ok v w/\R ok w H x v:=by
 cases r with
 |tmp t=>
  obtain rfl:=j;exact⟨_,rfl,h.apJ t⟩
 |cell t T=>
  obtain⟨k,cs,agg,n,hs,J,hd,L,hn,M,rfl⟩:=j;have hp:=hs▸h.apJ t;obtain⟨O,U,q⟩:=GX h.mem.ent h.mem.hlen J;obtain⟨b,z,Y,Z,hc⟩:=aHw q hd;generalize hu:a.tmps.getD t undef=u at hp;cases hp with
  |ptr _ _ b' s I=>
   rw[U]at I;obtain rfl:=Ch I;simp at z;subst z;show ∃v,((do loadVar T (←asAddr (a.tmps.getD t undef)):Sem Ai)).run P w=.ok v w/\_;rw[hu];obtain⟨v,j,hD⟩:=aEL L (off:=0) (by rw[rV];omega) M Y Z hc;refine⟨v,?_,.d _ _ hD⟩;simp only[Instr.loadAt,Instr.sureAddr,FW,Gi,Fj,Jj]at j;simp only[asAddr,FW,Gi,Fj];exact j
def aP8 {C:Ee} {ok:Nat->Prop} {H:A8 Bv} {a:Act} {w:BG} (h:Holds C ok H σ a w):∀(rs:A8 ResultVar) (xs:A8 Aa),YA P σ rs xs->
 ∃vs:A8 Ai,(rs.mapM (aJa a.tmps)).run P w=.ok vs w/\vs.length=xs.length/\∀i,i<xs.length->R ok w H (xs.getD i .junk) (vs.getD i undef)
 | [],[],_=>⟨[],rfl,rfl,fun i hi=>Q9⟩
 | [],_::_,h'=>h'.elim
 |_::_,[],h'=>h'.elim
 |r::rs,x::xs,h'=>by
  obtain⟨v,u,z⟩:=ae8 (P:=P) h h'.1;obtain⟨vs,j,hl,q⟩:=aP8 h rs xs h'.2;refine⟨v::vs,?_,ZC,fun i hi=>?_⟩
  ·simp only[List.mapM_cons,FW,u,j,Fj,Gi]
  cases i with
  |zero=>exact z
  |succ i=>simpa using q i Gt
def adp {C:Ee} {ok:Nat->Prop} {H:A8 Bv} {a:Act} {w:BG} (h:Holds C ok H σ a w) {fn:Func} {xs:A8 Aa} (I:YA P σ fn.results.toList xs):
 ∃v,(results fn a.tmps).run P w=.ok v w/\R ok w H (je xs) v:=by
 obtain⟨vs,u,hl,j⟩:=aP8 (P:=P) h _ _ I
 have hm:(results fn a.tmps).run P w=.ok (if h:vs.toArray.size=1 then vs.toArray[0]else .tuple vs.toArray) w:=by
  have e:results fn a.tmps=(do let vs ←fn.results.mapM (aJa a.tmps);pure (if h:vs.size=1 then vs[0]else .tuple vs)):=rfl;rw[e,aH2];simp only[FW,qF,u,Fj,Gi]
 refine⟨_,hm,?_⟩
 match xs,hl,j with
 | [x],hl,j=>
   have q:vs.toArray.size=1:=OW
   rw[dif_pos q];have :=j 0 BR
   have e:vs.getD 0 undef=vs.toArray[0]:=by
    have :0<vs.length:=ZC
    simp[List.getD,this]
   rw[e]at this;exact this
 | [],hl,j=>
   have q:¬vs.toArray.size=1:=by simp at hl;simp[hl]
   rw[dif_neg q];exact .eH [] _ OW (fun i hi=>Q9)
 |x::y::xs,hl,j=>
  have q:¬vs.toArray.size=1:=by simp at hl;simp[hl]
  rw[dif_neg q];refine .eH _ _ OW (fun i hi=>?_);have :=j i hi;have z:i<vs.length:=AB
  have e:vs.toArray.getD i undef=vs.getD i undef:=by simp[Array.getD,List.getD,z]
  rw[e];exact this
def anM {w:BG} {D:Nat} {x:AL (A8 Deferred)} (h:w.heap[D]? =some (.deferred x)) (o:Nat):w.cell? ⟨D,o,none⟩=none:=by
 unfold World.cell?;rw[h]
def Holds.take {C:Ee} {ok:Nat->Prop} {H:A8 Bv} {σ:Ap} {a:Act} {w:BG} (hC:∀b,C.ok0 b->b<C.w0.heap.size) (h:Holds C ok H σ a w) {D:Nat} {Ds:A8 Nat} (hd:∀d∈Ds,ok d/\C.w0.heap.size<=d/\w.heap[d]? =some (.deferred (some [])))
 (hD:ok D/\C.w0.heap.size<=D/\w.heap[D]? =some (.deferred (some []))) (J:(D::Ds).Nodup):
 ∃ok',Holds C ok' H σ { a with defers:=Ds.map fun D=>{ target:=.collected D,args:= #[] } } (w.putObj D (.deferred none))/\∀d∈Ds,ok' d/\C.w0.heap.size<=d/\(w.putObj D (.deferred none)).heap[d]? =some (.deferred (some [])):=by
 obtain⟨h1,h2,h3⟩:=hD;have q:∀b,b≠D->(w.putObj D (.deferred none)).heap[b]? =w.heap[b]? :=fun b j=>XY j;have L:∀b o,ok b->(w.cell? ⟨b,o,none⟩).isSome=true->ok b/\b≠D:=fun b o j M=>⟨j,fun e=>by subst e;rw[anM h3]at M;cases M⟩
 have hg:Ej (fun b=>ok b/\b≠D) w (fun b=>ok b/\b≠D) (w.putObj D (.deferred none)):=fun b j=>⟨j,q b j.2⟩
 have Y:∀(k:Nat) (e:BK) (hd:Bv) (b:Nat),σ.ents[k]? =some e->e.live=true->H[k]? =some hd->DZ hd.v=some b->b≠D:=fun k e hd b z hl I j Z=>(h.mem.blk k e hd b z hl I j).1 (Z▸h1)
 have O:∀d∈Ds,(ok d/\d≠D)/\C.w0.heap.size<=d/\(w.putObj D (.deferred none)).heap[d]? =some (.deferred (some [])):=fun d u=>by
  have U:d≠D:=fun e=>(Iq.1 J).1 (e▸u);exact⟨⟨(hd d u).1,U⟩,(hd d u).2.1,by rw[q d U];exact(hd d u).2.2⟩
 refine⟨fun b=>ok b/\b≠D,⟨⟨⟨h.mem.fr.os,h.mem.fr.tape,h.mem.fr.output,by simpa[World.putObj]using h.mem.fr.size,fun k hk hX=>by rw[q k AB];exact h.mem.fr.block k hk hX⟩,fun b j=>⟨h.mem.yQ b j,fun e=>by have :=hC b j;omega⟩,fun b j=>h.mem.yR b j.1,fun b j=>by simpa[World.putObj]using h.mem.kC b j.1,h.mem.names,h.mem.hlen,?_,?_,?_⟩,h.size,⟨Ds,rfl,(Iq.1 J).2,O⟩,h.base,fun t ht=>((h.slot t ht).shrink L).mono hg (.refl _)⟩,O⟩
 ·intro k e hd z I;exact((h.mem.ent k e hd z I).shrink L (fun b ms c j M=>⟨j,fun e=>by subst e;rw[h3]at M;cases M⟩)).mono hg (.refl _) fun hl b j=>q b (Y k e hd b z hl I j)
 ·intro k e hd b z hl I j;obtain⟨h4,h5,h6⟩:=h.mem.blk k e hd b z hl I j;exact⟨fun hx=>h4 hx.1,by simpa[World.putObj]using h5,h6⟩
 exact h.mem.Gg
def aFz {fn:Func} {Rr:Ending->BG->Prop} {C:Ee} (u:∀b,C.ok0 b->b<C.w0.heap.size) {H:A8 Bv} {σ:Ap}
 (z:∀ok a w,Holds C ok H σ a w->∃v,(results fn a.tmps).run P w=.ok v w/\Rr (.returned v) w):∀(Ds:A8 Nat) {ok:Nat->Prop} {a:Act} {w:BG},Holds C ok H σ a w->(∀d∈Ds,ok d/\C.w0.heap.size<=d/\w.heap[d]? =some (.deferred (some [])))->Ds.Nodup->
  LeavesInM (JD none) 0 P fn a.tmps Rr (Ds.map fun D=>{ target:=.collected D,args:= #[] }) .returning w
 | [],ok,a,w,h,_,_=>z ok a w h
 |D::Ds,ok,a,w,h,hd,I=>by
  obtain⟨ok',h',j⟩:=h.take u (fun d q=>hd d (Gp _ q)) (hd D (Fz ..)) I;have J:=aFz u z Ds h' j (Iq.1 I).2;exact⟨BR,.inl ⟨D,_,rfl,run_takeDeferred (hd D (Fz ..)).2.2,J⟩⟩
def Ei.aG {f:FuncId} {fn:Func} {c:Code} {args:A8 Aa} {E E':A8 BK} {u:Aa} (hf:P.funcs[f]? =some fn) (hb:fn.body=some c)
 (h:BZ P c (.enter args fn.ntmps E) (aNc P fn u E')):Ei P f args E u E':=by
 intro ok X H w j hm hs ha;refine(xq (ro:=none) (n:=0)).1 (aIl hf hb trivial (Uw (h.run none (.inl rfl) ⟨w,ok,X,H⟩ ok H _ w ?_) ?_) rfl)
 ·refine⟨hm,?_,.nil _ _ _,hm.hlen,fun t ht=>?_⟩
  ·simp[Ap.enter,hs]
  simp only[Ap.enter];by_cases e:t<args.length
  ·have J:(args++List.replicate (fn.ntmps-args.length) Aa.junk).getD t .junk=args.getD t .junk:=aJ4
   have e2:(j++Array.replicate (fn.ntmps-j.size) undef).getD t undef=j.getD t undef:=by
    simp[J9,YR (show t<j.size by omega)]
   rw[J,e2];exact ha t e
  have J:(args++List.replicate (fn.ntmps-args.length) Aa.junk).getD t .junk=.junk:=by
   simp only[List.getD,Ju (Us e),aF5];split<;>rfl
  rw[J];exact .junk _
 rintro e a' w' ⟨ok',H',σ',h1,L⟩;obtain⟨Ds,M,O,U⟩:=h1.defers
 have key:∀(x:A8 Aa) (π:A8 (Nat×AQ)),YA P σ' fn.results.toList x->UG σ'.base σ'.ents π=true->u=(je x).back π->E'=SH σ'.ents π->
  LeavesInM (JD none) 0 P fn a'.tmps (fun e w'=>∃v ok' H',e=.returned v/\DL ⟨w,ok,X,H⟩ ok' H' E' w'/\R ok' w' H' u v) a'.defers .returning w':=by
  rintro x π I q rfl rfl;rw[M];refine aFz (P:=P) (C:=⟨w,ok,X,H⟩) hm.kC (fun Y a2 w2 z=>?_) Ds h1 U O;obtain⟨v,hv,hR⟩:=adp (P:=P) z I;exact⟨v,hv,v,Y,_,rfl,z.mem.norm π (z.base▸q),hR.back π⟩
 cases e with
 |ret=>obtain⟨x,π,I,q,z,Z⟩:=L;exact key x π I q z Z
 |normal=>obtain⟨x,π,I,q,z,Z⟩:=L;exact key x π I q z Z
 |_=>exact L.elim
def BP:=@Ei.aG
def Ac {x y:Code} (j:BZ P x σ (Jg (fun s=>BZ P y s Q) Q)):BZ P (.seq x y) σ Q:=BZ.seq _ j (fun _ h=>h)
def BZ.join {x y:Code} (K:Ap->Prop) (j:∀s,K s->BZ P y s Q) (q:(∀s,K s->BZ P y s Q)->BZ P x σ (Jg (fun s=>BZ P y s Q) Q)):BZ P (.seq x y) σ Q:=BZ.seq _ (q j) (fun _ h=>h)
def Dp:=@BZ.join
def QE {c:Bg} {x y:Code} (j:σ.get c=.d (.lit (.bool true))) (h:BZ P x σ Q):BZ P (.cond c x y) σ Q:=BZ.cond true j (fun _=>h) (fun h=>Gz)
def MI {c:Bg} {x y:Code} (j:σ.get c=.d (.lit (.bool false))) (h:BZ P y σ Q):BZ P (.cond c x y) σ Q:=BZ.cond false j (fun h=>Gz) (fun _=>h)
def Hr {id:Nat} {ops:BQ Oper} {y:Code} {σ':Ap} {rs:A8 Aa} {ess:A8 (A8 BK)} {bs:A8 AQ} (hm:P.follows .mixedOrders=true) (j:(X5 ops&&VX ops&&Vw ops σ.slots.length&&Vs ops)=true) (q:UK ops bs=true)
 (h:FH P ops ops.toList σ rs ess bs σ') (u:BZ P y σ' Q):BZ P (.seq (.region id ops true) y) σ Q:=
 BZ.seq (fun s=>s=σ') (.draw hm j q h rfl) (fun _ e=>e▸u)
end
section
variable {P:CS} {o:Oper} {es:A8 BK}
def ac4 {x:Bg} {t:Bj} {agg:AQ} {n off:Nat} {cs:A8 D} {y:D} (j:y=Q5 agg cs off n) (q:EC P t agg n) (u:off+n<=cs.length) (z:agg=false->n=1) (I:o.op=.load t x):Bz P o [(x,.d (.ref cs off))] es (.d y) es:=j▸akW q u z I
def anS {x:Bg} {t:Bj} {agg:AQ} {k n off:Nat} {cs:A8 Aa} {y:D} (j:y=Q5 agg (JE cs) off n) (q:es[k]? =some (.box cs)) (hd:cs.all Aa.zN=true) (u:EC P t agg n) (z:off+n<=cs.length) (I:agg=false->n=1) (J:o.op=.load t x):
 Bz P o [(x,.ptr k off)] es (.d y) es:=j▸afS q hd u z I J
def aoY {x:Bg} {t:Bj} {f off n:Nat} {agg:AQ} {cs:A8 D} {y:D} (j:y=Q5 agg cs off n) (hp:iV P t f off agg n=true) (q:off+n<=cs.length) (u:agg=false->n=1) (z:o.op=.field t x f):Bz P o [(x,.d (.agg cs))] es (.d y) es:=j▸ak8 hp q u z
def afV {t:Bj} {q:BQ (Nat×Bg)} {j:A8 (Nat×Nat)} {z:Ai} {y:D} (u:JB P t j z) (vs:A8 Aa) (I:o.op=.build t q) (J:y=.agg (JE (Jy (fun(i:Nat)=>j[i]?) (Fh z) q.toList vs))) (hp:NW (fun(i:Nat)=>j[i]?) (Fh z).length q.toList vs=true)
 (hd:(Jy (fun(i:Nat)=>j[i]?) (Fh z) q.toList vs).all Aa.zN=true):Bz P o (NU q.toList vs) es (.d y) es:=J▸alf u vs hp hd I
def afz {s t:Bj} {x:Bg} {j k:IntKind} {n:Int} (hs:P.underlying s=some (.int j)) (q:P.underlying t=some (.int k)) (u:o.op=.convert s t x):Bz P o [(x,.d (.lit (.int j n)))] es (.d (.lit (.int k (k.wrap n)))) es:=
 aNr u fun w=>by simp[convert,underlying,hs,q,Conv.intToInt]
def ai3 {s t:Bj} {x:Bg} {u:BI} (hs:P.underlying s=some .string) (j:P.underlying t=some .string) (q:o.op=.convert s t x):Bz P o [(x,.d (Dj u))] es (.d (Dj u)) es:=
 aNr q fun w=>by simp[convert,underlying,hs,j]
def abG {t t':Bj} {x y:Bg} {a b:AQ} (j:P.underlying t=some .bool) (q:o.op=.binOp .eql t x y t'):Bz P o [(x,.d (Dt a)),(y,.d (Dt b))] es (.d (Dt (a==b))) es:=
 Gh (u:=.bool a) (v:=.bool b) (r:=.bool (a==b)) q (fun w=>by
  show((do pure (.bool (←Op.equal t (.bool a) (.bool b))):Sem Ai)).run P w=_
  simp only[FW,run_equal_bool w t a b j,Fj,Gi]) ⟨rfl,rfl⟩
def ac7 {t t':Bj} {x y:Bg} {a b:AQ} (j:P.underlying t=some .bool) (q:o.op=.binOp .neq t x y t'):Bz P o [(x,.d (Dt a)),(y,.d (Dt b))] es (.d (Dt (!(a==b)))) es:=
 Gh (u:=.bool a) (v:=.bool b) (r:=.bool (!(a==b))) q (fun w=>by
  show((do pure (.bool (!(←Op.equal t (.bool a) (.bool b)))):Sem Ai)).run P w=_
  simp only[FW,run_equal_bool w t a b j,Fj,Gi]) ⟨rfl,rfl⟩
end
def bI {A Rr:Type} (body:(A->AL Rr)->A->AL Rr):Nat->A->AL Rr
 |0,_=>none
 |n+1,a=>body (bI body n) a
def FZ {P:CS} {σ:Ap} {Q:Exit->Ap->Prop} {q:Code} {A Rr:Type} (S:A->Ap) (body:(A->AL Rr)->A->AL Rr) (r:Rr) (a0:A) (hs:Cj σ (S a0)) (h:Go.Proofs.YtfmoknlmaldmlaaGreat.bI body Aw a0=some r)
 (round:∀(J:Ap->Prop) (k:A->AL Rr),(∀σ' a,Cj σ' (S a)->k a=some r->J σ')->∀a,body k a=some r->BZ P q (S a) (Jg J Q)):BZ P (.loop q) σ Q:=by
 refine BZ.loop (fun n s=>∃a,Cj s (S a)/\Go.Proofs.YtfmoknlmaldmlaaGreat.bI body n a=some r) Aw ⟨a0,hs,h⟩ ?_;rintro n s ⟨a,j,u⟩;refine DW j ?_;cases n with
 |zero=>cases u
 |succ n=>exact round _ (Go.Proofs.YtfmoknlmaldmlaaGreat.bI body n) (fun σ' a z I=>⟨n,Xl n,a,z,I⟩) a u
def aU {A B Rr:Type} (body:(A->B->AL Rr)->A->B->AL Rr):Nat->A->B->AL Rr
 |0,_,_=>none
 |n+1,a,b=>body (aU body n) a b
def EI {P:CS} {σ:Ap} {Q:Exit->Ap->Prop} {u:Code} {A B Rr:Type} (S:A->B->Ap) (body:(A->B->AL Rr)->A->B->AL Rr) (r:Rr) (a0:A) (q:B) (hs:Cj σ (S a0 q)) (h:Go.Proofs.YtfmoknlmaldmlaaGreat.aU body Aw a0 q=some r)
 (round:∀(J:Ap->Prop) (k:A->B->AL Rr),(∀σ' a b,Cj σ' (S a b)->k a b=some r->J σ')->∀a b,body k a b=some r->BZ P u (S a b) (Jg J Q)):BZ P (.loop u) σ Q:=by
 refine BZ.loop (fun n s=>∃a b,Cj s (S a b)/\Go.Proofs.YtfmoknlmaldmlaaGreat.aU body n a b=some r) Aw ⟨a0,q,hs,h⟩ ?_;rintro n s ⟨a,b,j,z⟩;refine DW j ?_;cases n with
 |zero=>cases z
 |succ n=>exact round _ (Go.Proofs.YtfmoknlmaldmlaaGreat.aU body n) (fun σ' a b I L=>⟨n,Xl n,a,b,I,L⟩) a b z
def Dh {A B C Rr:Type} (body:(A->B->C->AL Rr)->A->B->C->AL Rr):Nat->A->B->C->AL Rr
 |0,_,_,_=>none
 |n+1,a,b,c=>body (Dh body n) a b c
def pG {P:CS} {σ:Ap} {Q:Exit->Ap->Prop} {z:Code} {A B C Rr:Type} (S:A->B->C->Ap) (body:(A->B->C->AL Rr)->A->B->C->AL Rr) (r:Rr) (a0:A) (q:B) (u:C) (hs:Cj σ (S a0 q u)) (h:Go.Proofs.YtfmoknlmaldmlaaGreat.Dh body Aw a0 q u=some r)
 (round:∀(J:Ap->Prop) (k:A->B->C->AL Rr),(∀σ' a b c,Cj σ' (S a b c)->k a b c=some r->J σ')->∀a b c,body k a b c=some r->BZ P z (S a b c) (Jg J Q)):BZ P (.loop z) σ Q:=by
 refine BZ.loop (fun n s=>∃a b c,Cj s (S a b c)/\Go.Proofs.YtfmoknlmaldmlaaGreat.Dh body n a b c=some r) Aw ⟨a0,q,u,hs,h⟩ ?_;rintro n s ⟨a,b,c,j,I⟩;refine DW j ?_;cases n with
 |zero=>cases I
 |succ n=>exact round _ (Go.Proofs.YtfmoknlmaldmlaaGreat.Dh body n) (fun σ' a b c L M=>⟨n,Xl n,a,b,c,L,M⟩) a b c I
def Yr {A B C D Rr:Type} (body:(A->B->C->D->AL Rr)->A->B->C->D->AL Rr):Nat->A->B->C->D->AL Rr
 |0,_,_,_,_=>none
 |n+1,a,b,c,d=>body (Yr body n) a b c d
def BZ.Yr {P:CS} {σ:Ap} {Q:Exit->Ap->Prop} {I:Code} {A B C D Rr:Type} (S:A->B->C->D->Ap) (body:(A->B->C->D->AL Rr)->A->B->C->D->AL Rr) (r:Rr) (a0:A) (q:B) (u:C) (z:D) (hs:Cj σ (S a0 q u z)) (h:Go.Proofs.YtfmoknlmaldmlaaGreat.Yr body Aw a0 q u z=some r)
 (round:∀(J:Ap->Prop) (k:A->B->C->D->AL Rr),(∀σ' a b c d,Cj σ' (S a b c d)->k a b c d=some r->J σ')->∀a b c d,body k a b c d=some r->BZ P I (S a b c d) (Jg J Q)):BZ P (.loop I) σ Q:=by
 refine BZ.loop (fun n s=>∃a b c d,Cj s (S a b c d)/\Go.Proofs.YtfmoknlmaldmlaaGreat.Yr body n a b c d=some r) Aw ⟨a0,q,u,z,hs,h⟩ ?_;rintro n s ⟨a,b,c,d,j,L⟩;refine DW j ?_;cases n with
 |zero=>cases L
 |succ n=>exact round _ (Go.Proofs.YtfmoknlmaldmlaaGreat.Yr body n) (fun σ' a b c d M O=>⟨n,Xl n,a,b,c,d,M,O⟩) a b c d L
def Bd {A B C D E Rr:Type} (body:(A->B->C->D->E->AL Rr)->A->B->C->D->E->AL Rr):Nat->A->B->C->D->E->AL Rr
 |0,_,_,_,_,_=>none
 |n+1,a,b,c,d,e=>body (Bd body n) a b c d e
def aCk {P:CS} {σ:Ap} {Q:Exit->Ap->Prop} {L:Code} {A B C D E Rr:Type} (S:A->B->C->D->E->Ap) (body:(A->B->C->D->E->AL Rr)->A->B->C->D->E->AL Rr) (r:Rr) (a0:A) (q:B) (u:C) (z:D) (I:E) (hs:Cj σ (S a0 q u z I)) (h:Go.Proofs.YtfmoknlmaldmlaaGreat.Bd body Aw a0 q u z I=some r)
 (round:∀(J:Ap->Prop) (k:A->B->C->D->E->AL Rr),(∀σ' a b c d e,Cj σ' (S a b c d e)->k a b c d e=some r->J σ')->∀a b c d e,body k a b c d e=some r->BZ P L (S a b c d e) (Jg J Q)):BZ P (.loop L) σ Q:=by
 refine BZ.loop (fun n s=>∃a b c d e,Cj s (S a b c d e)/\Go.Proofs.YtfmoknlmaldmlaaGreat.Bd body n a b c d e=some r) Aw ⟨a0,q,u,z,I,hs,h⟩ ?_;rintro n s ⟨a,b,c,d,e,j,M⟩;refine DW j ?_;cases n with
 |zero=>cases M
 |succ n=>exact round _ (Go.Proofs.YtfmoknlmaldmlaaGreat.Bd body n) (fun σ' a b c d e O U=>⟨n,Xl n,a,b,c,d,e,O,U⟩) a b c d e M
def ES {A B C D E F Rr:Type} (body:(A->B->C->D->E->F->AL Rr)->A->B->C->D->E->F->AL Rr):Nat->A->B->C->D->E->F->AL Rr
 |0,_,_,_,_,_,_=>none
 |n+1,a,b,c,d,e,f=>body (ES body n) a b c d e f
def BZ.ES {P:CS} {σ:Ap} {Q:Exit->Ap->Prop} {M:Code} {A B C D E F Rr:Type} (S:A->B->C->D->E->F->Ap) (body:(A->B->C->D->E->F->AL Rr)->A->B->C->D->E->F->AL Rr) (r:Rr) (a0:A) (q:B) (u:C) (z:D) (I:E) (L:F) (hs:Cj σ (S a0 q u z I L)) (h:Go.Proofs.YtfmoknlmaldmlaaGreat.ES body Aw a0 q u z I L=some r)
 (round:∀(J:Ap->Prop) (k:A->B->C->D->E->F->AL Rr),(∀σ' a b c d e f,Cj σ' (S a b c d e f)->k a b c d e f=some r->J σ')->∀a b c d e f,body k a b c d e f=some r->BZ P M (S a b c d e f) (Jg J Q)):BZ P (.loop M) σ Q:=by
 refine BZ.loop (fun n s=>∃a b c d e f,Cj s (S a b c d e f)/\Go.Proofs.YtfmoknlmaldmlaaGreat.ES body n a b c d e f=some r) Aw ⟨a0,q,u,z,I,L,hs,h⟩ ?_;rintro n s ⟨a,b,c,d,e,f,j,O⟩;refine DW j ?_;cases n with
 |zero=>cases O
 |succ n=>exact round _ (Go.Proofs.YtfmoknlmaldmlaaGreat.ES body n) (fun σ' a b c d e f U Y=>⟨n,Xl n,a,b,c,d,e,f,U,Y⟩) a b c d e f O
def Yt {A B C D E F G Rr:Type} (body:(A->B->C->D->E->F->G->AL Rr)->A->B->C->D->E->F->G->AL Rr):Nat->A->B->C->D->E->F->G->AL Rr
 |0,_,_,_,_,_,_,_=>none
 |n+1,a,b,c,d,e,f,g=>body (Yt body n) a b c d e f g
def BZ.Yt {P:CS} {σ:Ap} {Q:Exit->Ap->Prop} {O:Code} {A B C D E F G Rr:Type} (S:A->B->C->D->E->F->G->Ap) (body:(A->B->C->D->E->F->G->AL Rr)->A->B->C->D->E->F->G->AL Rr) (r:Rr) (a0:A) (q:B) (u:C) (z:D) (I:E) (L:F) (M:G) (hs:Cj σ (S a0 q u z I L M)) (h:Go.Proofs.YtfmoknlmaldmlaaGreat.Yt body Aw a0 q u z I L M=some r)
 (round:∀(J:Ap->Prop) (k:A->B->C->D->E->F->G->AL Rr),(∀σ' a b c d e f g,Cj σ' (S a b c d e f g)->k a b c d e f g=some r->J σ')->∀a b c d e f g,body k a b c d e f g=some r->BZ P O (S a b c d e f g) (Jg J Q)):BZ P (.loop O) σ Q:=by
 refine BZ.loop (fun n s=>∃a b c d e f g,Cj s (S a b c d e f g)/\Go.Proofs.YtfmoknlmaldmlaaGreat.Yt body n a b c d e f g=some r) Aw ⟨a0,q,u,z,I,L,M,hs,h⟩ ?_;rintro n s ⟨a,b,c,d,e,f,g,j,U⟩;refine DW j ?_;cases n with
 |zero=>cases U
 |succ n=>exact round _ (Go.Proofs.YtfmoknlmaldmlaaGreat.Yt body n) (fun σ' a b c d e f g Y Z=>⟨n,Xl n,a,b,c,d,e,f,g,Y,Z⟩) a b c d e f g U
section
variable {P:CS} {o:Oper} {es:A8 BK} {α:Type}
def ao0 {b:Nat} {z:α} {n c:Int} {r:A8 α} (h:Ir b z n c=some r):(0<=n/\n<=c/\(b:Int)*c<=140737488355328)/\r=List.replicate n.toNat z:=by
 unfold Ir at h;split at h
 ·exact⟨‹_›,(Ch h).symm⟩
 cases h
def Xr {x y:Bg} {t e:Bj} {size j:Nat} {q:Ai} {n c:Int} {r:A8 α} (enc:α->D) (z:α) (h:Ir j z n c=some r) (hE:GU P t e size j) (hz:(P.info? e).bind (·.zero)=some q) (h1:q.cells.all (·.oneCell')=true) (M:q.cells.size=size)
 (u:Fh q=(enc z).cells.map .d) (hb:0<j) (ho:o.op=.makeSlice t x y):Bz P o [(x,.d (Ae n)),(y,.d (Ae c))] es (.aS es.length) (es++[.arr e size (List.map enc r)]):=
 .eff fun C ok H a w hm hn=>by
  obtain⟨⟨h0,hnc,hbc⟩,rfl⟩:=ao0 h;have hx:=(F8 hn).1.lit;have O:=(F8 hn).2.lit;simp only at hx O;obtain⟨i,z',hi,hz',hs,hby,_⟩:=hE.info;have hzv:i.zero=some q:=by rw[hi]at hz;simpa using hz
  have U:c<=9223372036854775807:=by
   have h2:(1:Int)*c<=(j:Int)*c:=Int.mul_le_mul_of_nonneg_right AB AB;omega
  have hr:=run_make (P:=P) w t e i q hE.und hi hzv .i64 .i64 n c h0 hnc (by rw[hby];omega) U;rw[hs]at hr
  let cells:=madeCells q.cells (c.toNat*size)
  have Y:=hE.pos;have I:cells.size=c.toNat*size:=size_madeCells _ _;have Z:(Fh q).length=size:=by simp[Fh,M]
  have J:∀y∈List.map enc (List.replicate n.toNat z),y.cells.length=size:=by
   intro y O;simp only[List.map_replicate,List.mem_replicate]at O;rw[O.2,←Z,u];simp
  have L:=SN J;have hlen:(List.map enc (List.replicate n.toNat z)).length=n.toNat:=BR
  rw[hlen]at L;have aEY:n.toNat*size<=c.toNat*size:=Js _ AB
  have hrs:∀{ok:Nat->Prop} {w:BG} {H:A8 Bv},G9 ok w H (flat (List.map enc (List.replicate n.toNat z))) (cells.toList.take (n.toNat*size)):=by
   intro ok w H;refine⟨by rw[L,IB,TY,I];omega,fun k hk=>?_⟩;rw[L]at hk;have hd:=Bad k size;have hq:k/size<n.toNat:=oq (by rwa [UQ]at hk);have hm':k % size<size:=YN _ Y;have e0:k=k/size*size+k % size:=by rw[UQ];exact hd.symm
   have e1:(flat (List.map enc (List.replicate n.toNat z))).getD k .junk=.d ((enc z).cells.getD (k % size) Dl):=by
    have hg:=flat_get J (k/size) (k % size) (by rw[hlen];exact hq) hm';rw[←e0]at hg;rw[hg];congr 3;simp[List.getD,hq]
   have hcl:(enc z).cells.length=size:=by rw[←Z,u];simp
   have e2:(Aa.d ((enc z).cells.getD (k % size) Dl))=(Fh q).getD (k % size) .junk:=by
    rw[u];have :k % size<(enc z).cells.length:=AB
    simp[List.getD,this]
   have hmz:k % size<q.cells.size:=AB
   have e3:(cells.toList.take (n.toNat*size)).getD k undef=q.cells[k % size]:=by
    have hk2:k<c.toNat*size:=AB
    have e:cells.toList=(List.range (c.toNat*size)).map fun i=>q.cells[i % q.cells.size]! :=by
     show(madeCells q.cells (c.toNat*size)).toList=_;simp[madeCells]
    rw[e];simp only[List.getD,NZ hk];simp[hk2,M];rw[s0 q.cells (k % size) hmz]
   rw[e1,e2,e3];have e4:(Fh q).getD (k % size) .junk=.d (Oa q.cells[k % size]):=by simp[Fh,List.getD,hmz]
   rw[e4];exact⟨pX ((TQ.1 h1) _ BR),.d _ _ (fE _)⟩
  obtain⟨h2,h3⟩:=hm.push (.cells cells e) ⟨.slice (some ⟨w.heap.size,0,none⟩) n.toNat c.toNat,size⟩ (.arr e size (List.map enc (List.replicate n.toNat z))) (fun b hb=>by simpa[DZ]using hb.symm) (by
   refine⟨rfl,J,cells.toList.take (n.toNat*size),⟨?_,.inr ⟨w.heap.size,c.toNat,cells,by rw[hlen],Ec _,Vp w _,by rw[hlen];omega,vX,Yy I.symm,by rw[hlen]⟩⟩,hrs⟩
   rw[hlen,IB,TY,I];omega)
  refine⟨.slice (some ⟨w.heap.size,0,none⟩) n.toNat c.toNat,_,ok,_,.inl ?_,h3,I7 _ _,h2,.aS _ _ _ _ size Pn⟩;simp only[execOp,ho,hx,O,FW,hr,Fj,Gi];rfl
def gCopy (l m:A8 α):A8 α:=m.take l.length++l.drop m.length
def ahY {x y:Bg} {t e:Bj} {size bytes k:Nat} (enc:α->D) (l m:A8 α) (hE:GU P t e size bytes) (hk:es[k]? =some (.arr e size (List.map enc l))) (hc:∀a,(enc a).cells.length=size) (ho:o.op=.call { callee:=.builtin .copy,args:= #[x,y],argTypes:= #[t,t] }):
 Bz P o [(x,.aS k),(y,.d (BO enc m))] es .junk (es.set k (.arr e size (List.map enc (gCopy l m)))):=
 .eff fun C ok H a w hm hn=>by
  have hx:=(F8 hn).1;have hy:=(F8 hn).2;simp only at hx hy;obtain⟨h,hh,hok⟩:=GX hm.ent hm.hlen hk;have hxv:=Pe hx hh;obtain⟨i,z',hi,hz',hs,hby,_⟩:=hE.info;have hu:(underlying t).run P w=.ok (.slice e) w:=aGI
  have hsz:(sizeOf e).run P w=.ok size w:=aGv
  have Y:∀(q:A8 α),∀y∈q.map enc,y.cells.length=size:=fun q y hy=>aIU
  have hyR:Dq ok w (.sl (m.map enc)) (a.eval y):=by cases hy with |d _ _ h=>exact h
  obtain⟨z,U,aAV⟩:=kF H hyR (Y m);obtain⟨h1,h2,ys,Z,hrs⟩:=hok;have hlm:(m.map enc).length=m.length:=BR
  have hll:(l.map enc).length=l.length:=BR
  have hnl:z.length=m.length*size:=by rw[U.len,hlm]
  let n:=Nat.min m.length l.length
  have hlenx:(Builtin.lenOf (a.eval y)).run P w=.ok m.length w:=by
   rcases U.at_ with⟨ad,c,e1,_⟩|⟨c,e1,e2⟩
   ·rw[e1];simp[Builtin.lenOf]
   rw[e1];rw[hlm]at e2;simp[Builtin.lenOf,e2]
  have J:(Builtin.firstCells size n (a.eval y)).run P w=.ok (z.take (n*size)).toArray w:=by
   rcases U.at_ with⟨ad,c,e1,hcells⟩|⟨c,e1,e2⟩
   ·rw[e1];refine run_firstCells_some (P:=P) w size n ad _ c (z.take (n*size)) ?_ ?_
    ·rw[IB,hnl];have :n*size<=m.length*size:=Js _ (Nat.min_le_left _ _);omega
    intro j v hj;rw[qG]at hj;split at hj
    ·exact hcells j v hj
    cases hj
   rw[e1];rw[hlm]at e2;have :z=[]:=Gy (by rw[hnl,e2];simp);simp[Builtin.firstCells,this]
  have hone:∀u∈z.take (n*size),u.oneCell'=true:=fun u hu=>U.one u (kQ hu);have hn1:n<=m.length:=Nat.min_le_left _ _;have hn2:n<=l.length:=Nat.min_le_right _ _
  have I:(z.take (n*size)).length=n*size:=by
   rw[IB,hnl];have :n*size<=m.length*size:=Js _ hn1;omega
  have hgc:gCopy l m=m.take n++l.drop n:=by
   unfold gCopy;by_cases hle:m.length<=l.length
   ·have e1:n=m.length:=aBi hle;rw[e1,Qs hle,J7]
   have e1:n=l.length:=Nat.min_eq_right AB;rw[e1,aA5 AB,Rs]
  have L:(gCopy l m).length=l.length:=by rw[hgc];simp;omega
  rcases Z.2 with⟨hv,hl0⟩|⟨g,cap,M,hv,_,hg,hncap,hcm,hcs,htake⟩
  ·
   rw[hll]at hl0;have hn0:n=0:=AB
   have hl:l=[]:=Gy hl0;have hge:gCopy l m=l:=by rw[hgc,hn0];simp
   rw[hge]
   have hset:es.set k (.arr e size (List.map enc l))=es:=by
    apply dD;intro j;by_cases hj:k=j
    ·subst hj;have hkl:=(G7.1 hk).1;rw[List.getElem?_set_self hkl,hk]
    rw[Xu hj]
   rw[hset];refine⟨goInt n,w,ok,H,.inl ?_,.refl _ _,.refl _,hm,.junk _⟩;have e0:Nat.min m.length 0=n:=by rw[hn0];simp
   have hf0:(Builtin.firstCells size 0 (a.eval y)).run P w=.ok #[] w:=by rw[hn0]at J;simpa using J
   simp[execOp,ho,resolve,invoke,builtin,Builtin.copy_,hxv,hv,hu,hlenx,hsz,hf0,hn0]
  ·rw[hll]at hv hncap htake;have hlt:g<w.heap.size:=(Gn.1 hg).1
   have hfit:n*size<=M.size:=by
    exact EY (Js _ AB) hcs
   have hst:=aF9 (P:=P) g 0 e (z.take (n*size)) 0 M w hg (by rw[I];omega) hone;have auS:∀y∈(gCopy l m).map enc,y.cells.length=size:=Y _
   obtain⟨h3,h4⟩:=hm.upd (e:=.arr e size (List.map enc (gCopy l m))) (w':=w.setRow g (M.toList.take (0+0)++z.take (n*size)++M.toList.drop (0+0+(z.take (n*size)).length)).toArray) hk rfl hh (by rw[hv];rfl) rfl rfl rfl aIt (fun c hc=>aKl _ _ _ _ hc) (fun hg'=>by
    refine⟨h1,auS,z.take (n*size)++ys.drop (n*size),?_,?_⟩
    ·refine⟨?_,.inr ⟨g,cap,_,by rw[Cm,L];exact hv,Ec _,oW w g M _ e (0,0) hg,by rw[Cm,L];exact hncap,hcm,?_,?_⟩⟩
     ·simp only[EP,I,Ji,Z.1,Cm,L];have :n*size<=l.length*size:=Js _ hn2;omega
     ·simp only[RU,aBR,Jr,Jj,I];simp only[iO,EP,I,Ji,TY];rw[show n*size+(M.size-n*size)=M.size by omega];exact hcs
     simp only[RU,aBR,Jr,Jj,I,aEV];rw[Cm,L,←htake];rw[List.take_append,I,Qs (by rw[I];exact Js _ hn2)];congr 1;rw[List.drop_take]
    have ha:=aAV.mono hg' (gX H);have hb:=hrs.mono hg' (gX H);have aAW:=SN (Y l);have aqV:=SN (Y m);have ayP:=SN auS;have aEZ:n*size<=l.length*size:=Js _ hn2;have aE0:n*size<=m.length*size:=Js _ hn1;refine⟨by simp only[ayP,EP,I,Ji,Z.1,Cm,L];omega,fun j hj=>?_⟩;rw[ayP,Cm,L]at hj;have hpos:=hE.pos;have e0:j=j/size*size+j % size:=by rw[UQ];exact(Bad j size).symm
    have hq:j/size<l.length:=oq (by rwa [UQ]at hj);have hr:j % size<size:=YN _ hpos;have hg3:=flat_get auS (j/size) (j % size) (by rw[Cm,L];exact hq) hr;rw[←e0]at hg3;by_cases hjn:j<n*size
    ·have hqn:j/size<n:=oq (by rwa [UQ]at hjn);have hg2:=flat_get (Y m) (j/size) (j % size) (by rw[hlm];omega) hr;rw[←e0]at hg2
     have O:((gCopy l m).map enc).getD (j/size) Dl=(m.map enc).getD (j/size) Dl:=by
      rw[hgc];simp only[List.getD,LY];rw[Hw Et,XZ,NZ hqn]
     rw[hg3,O,←hg2]
     have e5:(z.take (n*size)++ys.drop (n*size)).getD j undef=z.getD j undef:=by
      simp only[List.getD];rw[Hw (by rw[I];exact hjn),NZ hjn]
     rw[e5];exact ha.2 j (by rw[aqV,hlm];omega)
    have hqn:n<=j/size:=(Nat.le_div_iff_mul_le hpos).2 AB;have hg1:=flat_get (Y l) (j/size) (j % size) (by rw[hll];exact hq) hr;rw[←e0]at hg1
    have O:((gCopy l m).map enc).getD (j/size) Dl=(l.map enc).getD (j/size) Dl:=by
     rw[hgc];have hlt':(m.take n).length=n:=Et
     simp only[List.getD,LY];rw[Ju (by rw[Cm,hlt'];exact hqn),Cm,hlt',aA,Px];congr 2;omega
    rw[hg3,O,←hg1]
    have e5:(z.take (n*size)++ys.drop (n*size)).getD j undef=ys.getD j undef:=by
     simp only[List.getD];rw[Ju (by rw[I];omega),I,Px];congr 2;omega
    rw[e5]
    exact hb.2 j (by rw[aAW,hll];omega))
   refine⟨goInt n,_,ok,H,.inl ?_,h4,.refl _,h3,.junk _⟩;have e0:Nat.min m.length l.length=n:=rfl;simp[execOp,ho,resolve,invoke,builtin,Builtin.copy_,hxv,hv,hu,hlenx,hsz,e0,J];rw[hst];simp
end
def CG (s:BI):A8 Int:=s.data.toList.map fun c=>(c.toNat:Int)
def IV (s:BI):(CG s).length=s.size:=by unfold CG;rw[Cm,TY];rfl
section
variable {P:CS} {o:Oper} {es:A8 BK} {α:Type}
def aDF :∀(l:A8 Int),flat (l.map DI)=l.map fun n=>.d (DI n)
 | []=>rfl
 |n::l=>by rw[Gv,Vt,aDF l];rfl
def abW {w:BG} {t u ty e:Bj} {i:TypeInfo} (ht:P.underlying t=some (.slice e)) (hu:P.underlying u=some .string) (hi:P.info? e=some i) (hz:i.zero=some (.int .u8 0)) (j:i.size=1) (Z:i.bytes=1)
 {v:Ai} {n:Nat} {xs:A8 Ai} (z:lW w e 1 v n xs) (s:BI) (O:n+s.size<=maxLen) (L:n+s.size<=140737488355328):
 ∃v' w',(Builtin.append_ #[t,u] ty #[v,.string s]).run P w=.ok v' w'/\lW w' e 1 v' (n+s.size) (xs++Lib.strCells s)/\w.grownBy w' v.ownBlock/\(∀Y,DZ v'=some Y->DZ v=some Y\/w.heap.size<=Y):=by
 have M:xs.length=n:=by simpa using z.1
 have hlen:(xs++Lib.strCells s).length=(n+s.size)*1:=by rw[EP,M,aKt,Zm]
 rcases z.2 with⟨rfl,rfl⟩|⟨g,cap,cur,rfl,_,hg,hnc,U,hcs,I⟩
 ·have hx:xs=[]:=Gy M;subst hx;obtain⟨v',w',q1,q2,q3,q4⟩:=Lib.run_append_own_string (P:=P) w w.heap.size t u ty e i ht hu hi hz j Z _ 0 [] (yw w w.heap.size e 1) s O L (EW _);refine⟨v',w',q1,.of q2,q3,fun Y q=>.inr ?_⟩;rcases q2.2 with⟨rfl,_⟩|⟨g2,_,_,rfl,hle,_⟩
  ·simp[DZ]at q
  simp[DZ]at q;subst q;exact hle
 rw[Zm]at hcs I;by_cases J:n+s.size<=cap
 ·have hr:=Lib.run_append_room_string (P:=P) w t u ty e i ht hu hi j g n cap cur hg s J AB;refine⟨_,_,hr,⟨hlen,.inr ⟨g,cap,_,rfl,Ec _,oW w g cur _ e _ hg,J,U,?_,?_⟩⟩,⟨rfl,rfl,rfl,BR,fun k _ hk=>setRow_other w g k _ (fun e=>hk (by simp[Value.ownBlock,e]))⟩,fun Y q=>.inl q⟩
  ·simp only[iO,EP,IB,Ji,TY,aKt];omega
  rw[I,←hlen];exact aH9
 have hr:=Lib.run_append_grow_string (P:=P) w t u ty e i (.int .u8 0) ht hu hi hz ⟨g,0,none⟩ n cap xs (by rw[j];simpa using M) (z.cells (g:=g) rfl) s AB (by unfold maxLen at O;omega) (by rw[Z];exact growslice_fits AB AB);have hge:=grownCap_ge w (n+s.size) cap e;have U:grownCap w (n+s.size) cap e<=maxLen:=aGs w (n+s.size) cap e O;refine⟨_,_,hr,⟨hlen,.inr ⟨w.heap.size,_,_,rfl,Ec _,Vp w.drew _,hge,U,Yy ?_,?_⟩⟩,⟨rfl,rfl,rfl,BR,fun k hk _=>KC w.drew _ k hk⟩,fun Y q=>.inr (by simp[DZ]at q;omega)⟩
 ·have hz1:(Value.int IntKind.u8 0).cells.size=1:=rfl;simp only[Array.size_append,iO,size_zeroCells,hz1,M,aKt];omega
 simp only[Array.toList_append,IX];rw[←IX,←hlen];exact aH9
def apK {s x:Bg} {t u e:Bj} {k:Nat} {l r:A8 Int} {j:BI} (h:Dc 1 l (CG j)=some r) (hE:GU P t e 1 1) (hz:(P.info? e).bind (·.zero)=some (.int .u8 0)) (hu:P.underlying u=some .string) (hk:es[k]? =some (.arr e 1 (List.map DI l)))
 (ho:o.op=.call { callee:=.builtin .append,args:= #[s,x],argTypes:= #[t,u] }):Bz P o [(s,.aS k),(x,.d (Dj j))] es (.aS es.length) (es.set k .dead++[.arr e 1 (List.map DI r)]):=
 .eff fun C ok H a w hm hn=>by
  obtain⟨rfl,hlen⟩:=aDh h;rw[IV,Zm]at hlen;have hs:=(F8 hn).1;have hx:=(F8 hn).2.lit;simp only at hs hx;obtain⟨hd,hh,hok⟩:=GX hm.ent hm.hlen hk;have hsv:=Pe hs hh;obtain⟨h1,h2,ys,I,hrs⟩:=hok;obtain⟨i,z',hi,hz',hs1,hby,_⟩:=hE.info;have hz2:i.zero=some (.int .u8 0):=by rw[hi]at hz;simpa using hz
  have L:(l.map DI).length=l.length:=BR
  have M:(l.map DI).length+j.size<=maxLen:=by rw[L];unfold maxLen;omega
  obtain⟨v',w',hr,J,O,U⟩:=abW (P:=P) (ty:=o.type) hE.und hu hi hz2 hs1 hby I j M (by rw[L];exact hlen)
  obtain⟨h3,h4⟩:=hm.turn (h':=⟨v',1⟩) (e:=.arr e 1 (List.map DI (l++CG j))) hk rfl hh O.os O.tape O.output O.size (fun c hc hne=>O.block c hc (by rw[aJ7 I];exact fun e=>hne e.symm)) (fun g Y=>⟨tV J Y,U g Y⟩) (fun hgr=>by
   refine⟨rfl,fun y hy=>by obtain⟨q,_,rfl⟩:=Ea.1 hy;rfl,ys++Lib.strCells j,?_,?_⟩
   ·have e:(List.map DI (l++CG j)).length=(l.map DI).length+j.size:=by simp[IV]
    rw[e];exact J
   have Z:=hrs.mono hgr (I7 H [⟨v',1⟩]);have hfl:(flat (l.map DI)).length=l.length:=by rw[aDF];simp
   have hcl:(Lib.strCells j)=(CG j).map (.int .u8):=by unfold Lib.strCells CG;rw[uG];rfl
   rw[LY,jv,aDF (CG j),hcl];refine⟨by rw[EP,EP,Z.1,Cm,Cm],fun i hi=>?_⟩;by_cases z:i<(flat (l.map DI)).length
   ·have e1:(flat (l.map DI)++(CG j).map fun n=>Aa.d (DI n)).getD i .junk=(flat (l.map DI)).getD i .junk:=by simp[List.getD,Hw z]
    have e2:(ys++(CG j).map (Value.int .u8)).getD i undef=ys.getD i undef:=by simp[List.getD,Hw (by rw[Z.1];exact z:i<ys.length)]
    rw[e1,e2];exact Z.2 i z
   have hi3:i-(flat (l.map DI)).length<(CG j).length:=by rw[EP,Cm]at hi;omega
   have e1:(flat (l.map DI)++(CG j).map fun n=>Aa.d (DI n)).getD i .junk=.d (DI (CG j)[i-(flat (l.map DI)).length]):=by simp[List.getD,Ju (Us z),hi3]
   have e2:(ys++(CG j).map (Value.int .u8)).getD i undef=.int .u8 (CG j)[i-(flat (l.map DI)).length]:=by simp[List.getD,Ju (by rw[Z.1];omega:ys.length<=i),Z.1,hi3]
   rw[e1,e2]
   exact⟨rfl,.d _ _ (.lit _)⟩)
  have hH:(H++[(⟨v',1⟩:Bv)])[es.length]? =some ⟨v',1⟩:=Pn
  refine⟨v',w',ok,_,.inl ?_,h4,I7 _ _,h3,?_⟩
  ·simp[execOp,ho,resolve,invoke,builtin,hx,hsv,hr]
  rcases J.2 with⟨rfl,_⟩|⟨g',c',_,rfl,_⟩
  ·exact .aS _ _ _ _ 1 hH
  exact .aS _ _ _ _ 1 hH
def agw {x:Bg} {I J e:Bj} {s:BI} (hs:P.underlying I=some .string) (hd:P.underlying J=some (.slice e)) (O:P.underlying e=some (.int .u8)) (U:o.op=.convert I J x):Bz P o [(x,.d (Dj s))] es (.d (BO DI (CG s))) es:=
 .eff fun C ok H a w hm Y=>by
  have M:=(KU Y).lit;simp only at M;have Z:=run_bytes_of_string (P:=P) w I J e s hs hd O;obtain⟨h1,h2⟩:=hm.drew;obtain⟨h3,h4⟩:=h1.fresh (.cells (bytesRow s (grownCap w s.size 0 e)) e ((bytesRow s (grownCap w s.size 0 e)).size,(bytesRow s (grownCap w s.size 0 e)).size+1));refine⟨.slice (some ⟨w.heap.size,0,none⟩) s.size (grownCap w s.size 0 e),_,_,H,.inl ?_,h2.trans h4,.refl _,h3,.d _ _ ?_⟩
  ·simp only[execOp,U,M,FW,Z,Fj,Gi]
  have q:((CG s).map DI).length=s.size:=by simp[IV]
  have u:∀i,i<s.size->(w.drew.alloc (.cells (bytesRow s (grownCap w s.size 0 e)) e ((bytesRow s (grownCap w s.size 0 e)).size,(bytesRow s (grownCap w s.size 0 e)).size+1))).cell? ⟨w.heap.size,0+(i*1+0),none⟩=some (.int .u8 ((s.data.toList.getD i 0).toNat)):=by
   intro i hi;have hb:(w.drew.alloc (.cells (bytesRow s (grownCap w s.size 0 e)) e ((bytesRow s (grownCap w s.size 0 e)).size,(bytesRow s (grownCap w s.size 0 e)).size+1))).heap[w.heap.size]? =some (.cells (bytesRow s (grownCap w s.size 0 e)) e ((bytesRow s (grownCap w s.size 0 e)).size,(bytesRow s (grownCap w s.size 0 e)).size+1)):=Vp w.drew _;rw[Jj,Zm,RU];have z:i<s.data.size:=hi
   have hg:(bytesRow s (grownCap w s.size 0 e))[i]? =some (.int .u8 ((s.data.toList.getD i 0).toNat)):=by
    unfold bytesRow;rw[YR KW];simp[eA z,List.getD]
   unfold World.cell?;simp only[hb];simpa using hg
  have hl:∀i,i<s.size->((CG s).map DI).getD i Dl=DI ((s.data.toList.getD i 0).toNat):=by
   intro i hi;have z:i<s.data.size:=hi;simp[CG,List.getD,eA z]
  have z0:∀j,j<1->j=0:=fun j L=>AB
  have :=Dq.sl (ok:=fun b=>ok b\/b=w.drew.heap.size) (w:=w.drew.alloc (.cells (bytesRow s (grownCap w s.size 0 e)) e ((bytesRow s (grownCap w s.size 0 e)).size,(bytesRow s (grownCap w s.size 0 e)).size+1))) ((CG s).map DI) w.heap.size 0 (grownCap w s.size 0 e) 1 (by rw[q];exact grownCap_ge w s.size 0 e) (fun _ _=>.inr rfl)
   (fun i hi=>by rw[q]at hi;rw[hl i hi];rfl)
   (fun i hi j L=>by rw[q]at hi;rw[z0 j L,hl i hi];rfl)
   (fun i hi j L=>by rw[q]at hi;rw[z0 j L,u i hi];rfl)
   (fun i hi j L=>by rw[q]at hi;rw[z0 j L];unfold cellAt;rw[u i hi,hl i hi];exact .lit _)
  rw[q]at this;exact this
def Ef (op:BinOp) (k:IntKind) (x y:Int):Int:=
 match op with
 | .and=>k.wrap ((BitVec.ofInt k.bits x&&& BitVec.ofInt k.bits y).toNat)
 | .or=>k.wrap ((BitVec.ofInt k.bits x|||BitVec.ofInt k.bits y).toNat)
 | .xor=>k.wrap ((BitVec.ofInt k.bits x^^^BitVec.ofInt k.bits y).toNat)
 |_=>k.wrap ((BitVec.ofInt k.bits x&&& ~~~(BitVec.ofInt k.bits y)).toNat)
def Qu {t t':Bj} {x y:Bg} {k:IntKind} {u v:Int} (j:o.op=.binOp .and t x y t'):Bz P o [(x,.d (.lit (.int k u))),(y,.d (.lit (.int k v)))] es (.d (.lit (.int k (Ef .and k u v)))) es:=
 Gh j (fun w=>aBk) ⟨rfl,rfl⟩
def XH {t t':Bj} {x y:Bg} {k:IntKind} {u v:Int} (j:o.op=.binOp .or t x y t'):Bz P o [(x,.d (.lit (.int k u))),(y,.d (.lit (.int k v)))] es (.d (.lit (.int k (Ef .or k u v)))) es:=
 Gh j (fun w=>aBk) ⟨rfl,rfl⟩
def aaE {t t':Bj} {x y:Bg} {k:IntKind} {u v:Int} (j:o.op=.binOp .xor t x y t'):Bz P o [(x,.d (.lit (.int k u))),(y,.d (.lit (.int k v)))] es (.d (.lit (.int k (Ef .xor k u v)))) es:=
 Gh j (fun w=>aBk) ⟨rfl,rfl⟩
def abB {t t':Bj} {x y:Bg} {k:IntKind} {u v:Int} (j:o.op=.binOp .andNot t x y t'):Bz P o [(x,.d (.lit (.int k u))),(y,.d (.lit (.int k v)))] es (.d (.lit (.int k (Ef .andNot k u v)))) es:=
 Gh j (fun w=>aBk) ⟨rfl,rfl⟩
def aO (k:IntKind) (x:Int):Int:=Ef .xor k (if k.signed then -1 else k.max) x
def aSr {t:Bj} {x:Bg} {k:IntKind} {u:Int} (j:o.op=.unOp .xor t x):Bz P o [(x,.d (.lit (.int k u)))] es (.d (.lit (.int k (aO k u)))) es:=
 aJF j (fun w=>by simp[Op.unary,Op.intBits,aO,Ef])
def Oq (op:BinOp) (k:IntKind) (x y:Int):AL Int:=
 if y<0 then none else some (match op with | .shl=>k.wrap (x*2^(min y.toNat k.bits))|_=>x.fdiv (2^(min y.toNat k.bits)))
def aBU {t t':Bj} {x y:Bg} {k k':IntKind} {u v r:Int} (h:Oq .shl k u v=some r) (j:o.op=.binOp .shl t x y t'):Bz P o [(x,.d (.lit (.int k u))),(y,.d (.lit (.int k' v)))] es (.d (.lit (.int k r))) es:=by
 unfold Oq at h;split at h
 ·cases h
 rename_i q;obtain rfl:=Ch h;exact Gh j (fun w=>by simp[binOp,Op.shift,q]) ⟨rfl,rfl⟩
def aSY {t t':Bj} {x y:Bg} {k k':IntKind} {u v r:Int} (h:Oq .shr k u v=some r) (j:o.op=.binOp .shr t x y t'):Bz P o [(x,.d (.lit (.int k u))),(y,.d (.lit (.int k' v)))] es (.d (.lit (.int k r))) es:=by
 unfold Oq at h;split at h
 ·cases h
 rename_i q;obtain rfl:=Ch h;exact Gh j (fun w=>by simp[binOp,Op.shift,q]) ⟨rfl,rfl⟩
def uN (k:IntKind) (a b:Int):AL Int:=if b=0 then none else some (k.wrap (a.tdiv b))
def Oj (a b:Int):AL Int:=if b=0 then none else some (a.tmod b)
def aiq {t t':Bj} {x y:Bg} {k:IntKind} {u v r:Int} (h:uN k u v=some r) (j:o.op=.binOp .quo t x y t'):Bz P o [(x,.d (.lit (.int k u))),(y,.d (.lit (.int k v)))] es (.d (.lit (.int k r))) es:=by
 unfold uN at h;split at h
 ·cases h
 rename_i q;obtain rfl:=Ch h;exact Gh j (fun w=>by simp[binOp,Op.intDiv,q]) ⟨rfl,rfl⟩
def oM {t t':Bj} {x y:Bg} {k:IntKind} {u v r:Int} (h:Oj u v=some r) (j:o.op=.binOp .rem t x y t'):Bz P o [(x,.d (.lit (.int k u))),(y,.d (.lit (.int k v)))] es (.d (.lit (.int k r))) es:=by
 unfold Oj at h;split at h
 ·cases h
 rename_i q;obtain rfl:=Ch h;exact Gh j (fun w=>by simp[binOp,Op.intDiv,q]) ⟨rfl,rfl⟩
end
section
variable {P:CS} {o:Oper} {es:A8 BK} {α:Type}
def aQ2 {ok:Nat->Prop} {w:BG} {H:A8 Bv} {h:Bv} {e size k i off:Nat} {xs:A8 D} {v:Ai} (U:H[k]? =some h) (z:FB ok w H h (.arr e size xs)) (hi:i<xs.length) (Y:R ok w H (.kX k i off) v):
 ∃g cap j ys,h.v=.slice (some ⟨g,0,none⟩) xs.length cap/\w.heap[g]? =some (.cells j e (0,0))/\xs.length<=cap/\cap<=maxLen/\xs.length*size<=j.size/\cap*size<=j.size/\j.toList.take (xs.length*size)=ys/\ys.length=xs.length*size/\G9 ok w H (flat xs) ys/\(∀x∈xs,x.cells.length=size)/\v=.pointer (some ⟨g,i*size+off,none⟩):=by
 obtain⟨L,Z,ys,⟨h3,h4⟩,h5⟩:=z;rcases h4 with⟨u,h7⟩|⟨g,cap,j,u,h7,h8,M,I,q,J⟩
 ·omega
 refine⟨g,cap,j,ys,u,h8,M,I,EY (Js _ M) q,q,J,h3,h5,Z,?_⟩;cases Y with
 |kX _ _ _ b n c s O=>
  rw[U]at O;obtain rfl:=Ch O;simp only[jV,Lc,Addr.mk.injEq]at u;simp only at L;rw[u.1.1,L]
def aPi {size n i j:Nat} (hi:i<n) (q:j<size):i*size+j<n*size:=
 calc i*size+j<i*size+size:=AB
  _=(i+1)*size:=by rw[Un]
  _<=n*size:=Js _ hi
def XW {x:Bg} {t:Bj} {agg:AQ} {k n i off e size:Nat} {y:D} (enc:α->D) {l:A8 α} {a:α} (hy:y=Q5 agg (enc a).cells off n) (hk:es[k]? =some (.arr e size (List.map enc l))) (ha:l[i]? =some a) (hT:EC P t agg n) (hn:off+n<=(enc a).cells.length) (h1:agg=false->n=1)
 (ho:o.op=.load t x):Bz P o [(x,.kX k i off)] es (.d y) es:=
 .pure fun ok H ac w O hl Z=>by
  have hx:=KU Z;simp only at hx;subst hy;obtain⟨h,hh,hok⟩:=GX O hl hk;obtain⟨J,U⟩:=G7.1 ha;have q:i<(List.map enc l).length:=V7
  obtain⟨g,cap,u,ys,e1,e2,e3,e4,e5,e5',e6,e7,e8,e9,e10⟩:=aQ2 hh hok q hx;have L:(List.map enc l).getD i Dl=enc a:=by simp[List.getD,J,U]
  have hsz:(enc a).cells.length=size:=by
   refine e9 _ ?_;exact Ea.2 ⟨a,by rw[←U];exact E5 J,rfl⟩
  have hfl:=SN e9
  have z:∀j,j<size->w.cell? ⟨g,i*size+j,none⟩=some (ys.getD (i*size+j) undef):=by
   intro j M;have I:=aPi q M;have hcur:(List.map enc l).length*size<=u.size:=e5;have h15:i*size+j<u.size:=AB
   have e11:ys.getD (i*size+j) undef=u[i*size+j]'(h15):=by
    rw[←e6];have h14:i*size+j<l.length*size:=SA
    simp[List.getD,NZ h14,show i*size+j<u.size by omega]
   rw[e11];simp[World.cell?,e2,show i*size+j<u.size by omega]
  have Y:∀j,j<size->((enc a).cells.getD j Dl).leaf=true/\Dq ok w ((enc a).cells.getD j Dl) (ys.getD (i*size+j) undef):=by
   intro j M;have I:=e8.2 (i*size+j) (by rw[hfl];exact aPi q M);rw[flat_get e9 i j q M,L]at I;refine⟨I.1,?_⟩;cases I.2 with |d _ _ h=>exact h
  obtain⟨v,hr,hD⟩:=aEL (ok:=ok) (w:=w) (b:=g) (p:=i*size) (cs:=(enc a).cells) hT hn h1 (fun j M=>(Y j AB).1) (fun j M=>by rw[z j AB];rfl) (fun j M=>by unfold cellAt;rw[z j AB];exact(Y j AB).2);exact⟨v,by simp only[execOp,ho,e10,FW,hr,Fj,Gi],.d _ _ hD⟩
def zk {t:Bj} {x y:Bg} {k i off n e size:Nat} (enc:α->D) {l:A8 α} {a a':α} {v:Aa} (hk:es[k]? =some (.arr e size (List.map enc l))) (ha:l[i]? =some a) (hl:v.cells.all Aa.leaf=true) (hs:∀w,(sizeOf t).run P w=.ok n w) (hn:v.cells.length=n)
 (hle:off+n<=(enc a).cells.length) (hset:(enc a').cells.map Aa.d=setAt ((enc a).cells.map Aa.d) off v.cells) (hc:∀b,(enc b).cells.length=size) (ho:o.op=.store t x y):
 Bz P o [(x,.kX k i off),(y,v)] es .junk (es.set k (.arr e size (List.map enc (l.set i a')))):=
 .eff fun C ok H J w hm hn'=>by
  have h1:=(F8 hn').1;have h2:=(F8 hn').2;simp only at h1 h2;obtain⟨h,hh,hok⟩:=GX hm.ent hm.hlen hk;obtain⟨Y,hia⟩:=G7.1 ha;have aAX:i<(List.map enc l).length:=nZ
  have hok1:=hok.1;obtain⟨g,cap,z,ys,e1,e2,e3,e4,e5,e5',e6,e7,e8,e9,e10⟩:=aQ2 hh hok aAX h1;have I:=h2.aeU hl;have hll:(List.map enc l).length=l.length:=BR
  rw[hll]at e1 e3 e6 e7;have hea:(enc a).cells.length=size:=hc a;have Z:(J.eval y).cells.toList.length=n:=by rw[I.1,hn]
  have hsz:(J.eval y).cells.size=n:=by simpa using Z
  have hcur:l.length*size<=z.size:=by simpa using e5
  have hend:i*size+off+n<=l.length*size:=by
   have :(i+1)*size<=l.length*size:=Js _ Y;rw[Un]at this;omega
  have hst:=aF9 (P:=P) g (i*size+off) e (J.eval y).cells.toList 0 z w e2 (by rw[Z];omega) (fun u hu=>by
   obtain⟨j,L,rfl⟩:=Gf hu;have h5:=I.2 j (by rw[←I.1];exact L);have :=h5.2.leaf h5.1
   rwa [aCw L]at this)
  simp only[RU]at hst;have O:∀(q:A8 α),∀y∈q.map enc,y.cells.length=size:=fun q y hy=>aIU
  obtain⟨h3,h4⟩:=hm.upd (e:=.arr e size (List.map enc (l.set i a'))) (w':=w.setRow g (z.toList.take (i*size+off)++(J.eval y).cells.toList++z.toList.drop (i*size+off+(J.eval y).cells.toList.length)).toArray) hk rfl hh (by rw[e1];rfl) rfl rfl rfl aIt (fun c hc=>aKl _ _ _ _ hc) (fun hg'=>by
   have esz:(setAt z.toList (i*size+off) (J.eval y).cells.toList).length=z.toList.length:=RI (by have :=z.length_toList;omega);refine⟨hok1,O _,setAt ys (i*size+off) (J.eval y).cells.toList,⟨?_,.inr ⟨g,cap,_,by simp;exact e1,Ec _,oW w g z _ e (0,0) e2,by simpa using e3,e4,?_,?_⟩⟩,?_⟩
   ·rw[RI AB];simpa using e7
   ·have h9:(setAt z.toList (i*size+off) (J.eval y).cells.toList).toArray.size=z.size:=by rw[iO,esz];simp
    show _<=(setAt z.toList (i*size+off) (J.eval y).cells.toList).toArray.size;rw[h9];exact e5'
   ·rw[aEV];show(setAt z.toList (i*size+off) (J.eval y).cells.toList).take _=_;rw[←e6];have hlen':(List.map enc (l.set i a')).length=l.length:=BR
    rw[hlen'];apply dD;intro j;have hcl:=z.length_toList;by_cases L:j<l.length*size
    ·have a1:((setAt z.toList (i*size+off) (J.eval y).cells.toList).take (l.length*size))[j]? =some ((setAt z.toList (i*size+off) (J.eval y).cells.toList).getD j undef):=by
      rw[NZ L];simp[List.getD,show j<(setAt z.toList (i*size+off) (J.eval y).cells.toList).length by rw[esz];omega]
     have tl:(z.toList.take (l.length*size)).length=l.length*size:=Et
     have sl:(setAt (z.toList.take (l.length*size)) (i*size+off) (J.eval y).cells.toList).length=l.length*size:=by rw[RI AB,tl]
     have a2:(setAt (z.toList.take (l.length*size)) (i*size+off) (J.eval y).cells.toList)[j]? =some ((setAt (z.toList.take (l.length*size)) (i*size+off) (J.eval y).cells.toList).getD j undef):=by
      simp[List.getD,show j<(setAt (z.toList.take (l.length*size)) (i*size+off) (J.eval y).cells.toList).length by omega]
     rw[a1,a2,YK AB,YK AB];congr 1;split
     ·rfl
     simp[List.getD,NZ L]
    have tl:(z.toList.take (l.length*size)).length=l.length*size:=Et
    have sl:(setAt (z.toList.take (l.length*size)) (i*size+off) (J.eval y).cells.toList).length=l.length*size:=by rw[RI AB,tl]
    rw[LD Et,LD AB]
   have hb:=e8.mono hg' (gX H);have hcr:=I.mono hg' (gX H);have hfl:=SN (O l);have aqV:=SN (O (l.set i a'));refine⟨by rw[RI AB,e7,aqV];simp,fun j L=>?_⟩;rw[aqV]at L;simp only[Cm,bG]at L
   have hpos:0<size:=by
    rcases V4 size with h0|h0
    ·rw[h0,Nat.mul_zero]at L;omega
    exact h0
   have e0:j=j/size*size+j % size:=by rw[UQ];exact(Bad j size).symm
   have hq:j/size<l.length:=oq (by rwa [UQ]at L);have hr:j % size<size:=YN _ hpos
   have hdiv:j/size=i↔i*size<=j/\j<i*size+size:=by
    rw[Nat.div_eq_iff hpos,UQ];omega
   rw[Z]at hb hcr;generalize j/size=qd at e0 hq hdiv;generalize j % size=M at e0 hr;have hg3:=flat_get (O (l.set i a')) qd M (by simpa using hq) hr;rw[←e0]at hg3;have hg1:=flat_get (O l) qd M (by simpa using hq) hr;rw[←e0]at hg1;rw[hg3,YK AB,Z];by_cases U:qd=i
   ·have hnew:(List.map enc (l.set i a')).getD (qd) Dl=enc a':=by rw[U];simp[List.getD,Y]
    have hold:(List.map enc l).getD (qd) Dl=enc a:=by rw[U];simp[List.getD,Y,hia]
    rw[hnew];have aE1:(enc a').cells.length=size:=hc a'
    have e11:Aa.d ((enc a').cells.getD (M) Dl)=(setAt ((enc a).cells.map Aa.d) off v.cells).getD (M) .junk:=by
     rw[←hset];simp[List.getD,show M<(enc a').cells.length by omega]
    rw[e11,YK (by rw[Cm,hn];exact hle),hn];have hji:j=i*size+M:=by rw[←U];exact e0
    by_cases hin:off<=M/\M<off+n
    ·rw[D8 hin,D8 AB];have :j-(i*size+off)=M-off:=AB
     rw[this];exact hcr.2 _ AB
    rw[DU hin,DU AB];have e12:((enc a).cells.map Aa.d).getD (M) .junk=.d ((enc a).cells.getD (M) Dl):=by simp[List.getD,show M<(enc a).cells.length by omega]
    rw[e12,←hold,←hg1];exact hb.2 j (by rw[hfl];simpa using L)
   have hsame:(List.map enc (l.set i a')).getD (qd) Dl=(List.map enc l).getD (qd) Dl:=by
    simp[List.getD,Xu (Ne.symm U)]
   have hnot:¬(i*size+off<=j/\j<i*size+off+n):=by
    rintro⟨ha1,ha2⟩;exact U (hdiv.2 ⟨AB,AB⟩)
   rw[DU hnot,hsame,←hg1]
   exact hb.2 j (by rw[hfl];simpa using L))
  refine⟨undef,_,ok,H,.inr ⟨rfl,?_⟩,h4,.refl _,h3,.junk _⟩;simp only[execOp,ho,e10,Instr.storeAt,Instr.sureAddr,storeVar,FW,Gi,Fj,hs,hsz,ne_eq,not_true_eq_false,L6,hst]
end
end
end Go.Proofs.YtfmoknlmaldmlaaGreat
