/- Part 1 of the laws' proofs (short forms by wip/shrink2.py). -/
import Derived.Test.YtkkdimcnpacjhaaGreatRows
import Derived.WalkSpells
import Derived.WalkLawsBesides
import Derived.Lib.Hide
import Derived.Laws.AppendOwnNone
import Derived.Laws.CopyOwn
import Derived.RangeFuncRecord
import Derived.Lib.OwnBridge
import Derived.Sort.OwnSortedInts
import Derived.ProofKit
import Derived.Shelf.Small.Strs
import Derived.Shelf.Strings.Shaped
import Derived.Shelf.Sort.Plain
import Derived.Shelf.Slices.Turned
import Derived.Shelf.Slices.Clone
import Derived.Shelf.Slices.Cells
import Derived.Shelf.Slices.In.SortNone
import Derived.Shelf.Slices.Empties
import Derived.Shelf.SlicesE.Clone
import Derived.Shelf.SlSortCmp.NoneTotal
import Derived.Shelf.Spec.SlicesInsertGrow
import Derived.StillTailTactics
set_option linter.defProp false
set_option linter.unnecessarySimpa false
set_option linter.unusedSectionVars false
set_option linter.unusedVariables false
set_option linter.unusedSimpArgs false
namespace Go.Proofs.YtkkdimcnpacjhaaGreat
open Go.RowKit Go.Proofs.Tryz
abbrev A8.{u}:=List.{u}
abbrev AO.{u}:=Option.{u}
abbrev BA:=ByteArray
abbrev Aw:=Value
abbrev Bc:=World
abbrev Bh.{u}:=Array.{u}
abbrev CM:=Operand
abbrev Cm:=Program
abbrev CO:=TypeId
abbrev Ad:=Bool
abbrev AU (n:Nat):Nat×Ad:=(n,true)
def Af:=@Option.bind_some
def BZ:=@cond_false
def BP:=@congrArg
def Dj:=@Nat.le_of_ble_eq_true
def Bq:=@cond_true
def EK:=@List.getElem?_eq_getElem
def DY:=@List.length_map
def EZ:=@List.length_append
def Df:=@Bool.and_eq_true
def Dh:=@Option.some.inj
def Ns:=@List.length_singleton
def Fv:=@List.getElem?_eq_some_iff
def EY:=@List.all_eq_true
def Gl:=@Array.getElem?_eq_some_iff
def Du:=@Nat.zero_le
def Hw:=@List.eq_nil_of_length_eq_zero
def Ej:=@List.getElem_mem
def Hf:=@List.getElem?_append_left
def FY:=@List.mem_map
def FB:=@List.not_mem_nil
def G6:=@List.length_take
def Io:=@Array.getD_eq_getD_getElem?
def Eo:=@Bool.not_true
def EX:=@Nat.le_refl
def GX:=@List.take_length
def Gv:=@List.mem_cons_of_mem
def GU:=@List.mem_cons_self
def G8:=@Go.Result.andThen_ok
def F5:=@List.mem_cons
def GZ:=@List.length_cons
def FC:=@Nat.le_trans
def DX:=@if_pos
def Hd:=@decide_eq_true_eq
def IK:=@List.getElem_of_mem
def Gm:=@List.foldl_cons
def J5:=@List.getElem?_eq_none
def Dk:=@if_neg
def KN:=@List.pairwise_iff_getElem
def KX:=@List.getElem?_append_right
def Fl:=@Go.Sem.run_bind
def Nb:=@Array.getElem?_setIfInBounds_ne
def HY:=@List.mem_filter
def Ku:=@List.drop_eq_getElem_cons
def Gh:=@Bool.true_and
def KL:=@List.length_filter_le
def I8:=@List.any_eq_true
def IU:=@List.append_assoc
def OE:=@List.take_succ_eq_append_getElem
def Ik:=@List.nil_append
def Jz:=@Nat.mul_le_mul_right
def IX:=@decide_eq_false
def Gw:=@Go.Sem.run_pure
def JX:=@List.length_drop
def MX:=@List.getElem?_take_of_lt
def Ij:=@Option.map_some
def Il:=@List.mem_append
def N8:=@List.length_nil
def QJ:=@Array.all_eq_true_iff_forall_mem
def KP:=@List.mem_singleton
def Ji:=@List.getElem?_map
def Jh:=@Option.some.injEq
def Ih:=@decide_eq_true
def Iu:=@Bool.not_false
def LQ:=@of_decide_eq_false
abbrev Ar:=IntKind.i64.wrap
def Y9 (n:Int):Ar n=(n+9223372036854775808)%18446744073709551616-9223372036854775808:=Go.IntKind.wrap_i64 n
def Sl:=@Nat.add_assoc
def OH:=@Array.getElem?_modify
def L8:=@Go.RowKit.Below.heap_alloc
def JJ:=@List.map_cons
def J3:=@Nat.zero_add
def PX:=@decide_eq_false_iff_not
def Ls:=@Bool.not_eq_true'
def MC:=@List.flatMap_cons
def Kw:=@List.map_append
def ML:=@Option.getD_some
def Ue:=@Nat.add_comm
def QL:=@List.take_of_length_le
def Rk:=@Option.isSome_iff_exists
def Lj:=@Bool.false_or
def Nh:=@List.nodup_cons
def PS:=@List.filter_append
def XY:=@Array.eq_empty_of_size_eq_zero
def Po:=@List.pairwise_cons
def QC:=@List.filterMap_cons
def Sz:=@Go.MapKept.run_getObj_map
def MJ:=@Bool.or_false
def PU:=@bne_self_eq_false
def SI:=@List.take_append_drop
def Qg:=@List.getElem?_drop
def RI:=@List.filter_sublist
def PO:=@Bool.not_eq_true
def PE:=@List.drop_length
def OY:=@Bool.eq_iff_iff
def NT:=@Prod.mk.injEq
def RU:=@Bool.false_eq_true
def RV:=@Option.toList_some
def Rl:=@beq_eq_false_iff_ne
def P8:=@List.append_nil
def RQ:=@List.findIdx_cons
def OM:=@Bool.and_true
def Ul:=@Option.map_eq_some_iff
def TN:=@Array.length_toList
def Yu:=@Array.getElem?_append_left
def Si:=@Int.toNat_natCast
def Y8:=@List.getElem?_set_ne
def TR:=@List.mem_filterMap
def X9:=@Go.World.putObj_heap_same
def OT:=@Nat.add_zero
def Ru:=@List.filter_cons
def XZ:=@Array.getElem?_toList
def Tj:=@List.take_add_one
def KT:=@if_false
def YJ:=@Go.World.putObj_heap_other
def Qm:=@Go.Oper.wpIn_mono
def aF:=@List.getD_eq_getElem?_getD
def XL:=@List.mem_of_getElem?
def VP:=@Nat.lt_of_lt_of_le
def P9:=@Bool.or_true
def Tt:=@List.getElem_map
def Ut:=@beq_self_eq_true
def bQ:=@Array.getElem?_eq_getElem
def dP:=@List.mem_of_find?_eq_some
def V5:=@List.foldl_append
def Jr:=@if_true
def QS:=@Nat.succ_mul
def TQ:=@Bool.or_eq_true
def Oa:=@beq_iff_eq
def Ud:=@List.foldlM_cons
def ZI:=@Bool.or_eq_false_iff
def ug:=@List.takeWhile_append_dropWhile
def Zw:=@List.findIdx_lt_length
def ig:=@Classical.byContradiction
def VA:=@List.find?_cons
def dL:=@List.filterMap_append
def X7:=@Nat.le_of_not_lt
def XA:=@List.mem_flatMap
def Z5:=@Nat.eq_zero_or_pos
def WH:=@Nat.lt_succ_self
def Ws:=@Go.Proofs.Tryz.underlying3
def ah:=@Array.toArray_toList
def QU:=@Go.wpS_region
def bI:=@List.mem_of_mem_drop
def iQ:=@Option.bind_eq_some_iff
def YN:=@of_decide_eq_true
def Ze:=@List.length_pos_iff
def ng:=@List.findIdx_le_length
def Zb:=@List.cons_append
def WY:=@Go.heap_alloc_new
def Vj:=@Nat.mul_comm
def mG:=@List.mem_of_mem_take
def kT:=@List.pairwise_append
def mD:=@Go.World.alloc_heap_new
def jU:=@List.mem_append_left
def bV:=@List.ext_getElem?
def eA:=@List.pairwise_map
def aV:=@List.find?_append
def gy:=@Go.Proofs.Tryz.underlying73
def a02:=@List.getElem?_cons_succ
def kS:=@List.filter_eq_self
def er:=@Go.Proofs.Tryz.underlying9
def bY:=@decide_eq_decide
def zI:=@List.filter_eq_nil_iff
def qK:=@List.drop_of_length_le
def bF:=@List.length_set
def Zt:=@Go.Oper.upon_enter
def au:=@Go.run_equalIn_int
def ru:=@Bool.and_eq_false_iff
def YK:=@List.map_take
def a2g:=@List.nodup_iff_pairwise_ne
def jZ:=@Go.Value.slice.injEq
def lS:=@List.size_toArray
def oG:=@List.getElem_take
def mF:=@List.getElem_drop
def sU:=@Nat.div_lt_of_lt_mul
def Uc:=@bne_iff_ne
def aJI:=@List.set_eq_take_append_cons_drop
def ZQ:=@Int.le_refl
def Zv:=@List.nodup_nil
def QF:=@Go.wpS_seq
def Zp:=@Go.wp_region_list
def ZF:=@Nat.le_of_eq
def YI:=@List.map_map
def ZG:=@getElem!_pos
def kX:=@Go.Proofs.Tryz.underlying4
def lM:=@Go.IntKind.wrap_u64
def a2Z:=@List.getElem?_cons_zero
def aG:=@List.map_drop
def bP:=@List.any_cons
def xW:=@List.getElem?_take
def VX:=@Go.wpIn_mono
def jK:=@Nat.min_eq_left
def jl:=@Go.Proofs.Tryz.zeroValue3
def yx:=@Array.ext_getElem?
def oZ:=@beq_false_of_ne
def nV:=@Go.IntKind.wrap_u8
def YG:=@Nat.add_mul
def aF0:=@List.dropWhile_sublist
def aCJ:=@ByteArray.size_extract
def pz:=@Function.comp_def
def sJ:=@List.map_inj_left
def og:=@List.mem_range
def jF:=@List.drop_zero
def aLl:=@Array.getElem?_setIfInBounds
def gU:=@Nat.lt_or_ge
def aF4:=@List.mem_append_right
def aLP:=@Array.getElem?_append_right
def sW:=@List.ext_getElem
def zT:=@Go.Proofs.Tryz.underlying5
def aCm:=@List.findIdx_getElem
def aI1:=@Array.toList_setIfInBounds
def iT:=@Go.Oper.semAt_eq
def dO:=@Nat.mul_one
def a0x:=@List.toList_toArray
def aHt:=@Array.mapM_eq_mapM_toList
def qX:=@Go.Proofs.Tryz.zeroValue5
def zn:=@Go.Proofs.Tryz.zeroValue9
def zu:=@Go.Proofs.Tryz.zeroValue4
def pK:=@List.take_left'
def Z4:=@Array.ext
def iY:=@Go.Proofs.Tryz.sizeOf3
def a0q:=@Go.Proofs.Tryz.underlying148
def aBa:=@Go.Proofs.Tryz.underlying212
def aBB:=@Array.extract_size
def kC:=@Go.Addr.add_lit
def aMv:=@List.length_filterMap_le
def aMX:=@List.getElem_append_left
def a1p:=@List.find?_eq_none
def sF:=@List.take_zero
def aGV:=@List.getElem?_replicate
def a1B:=@Go.World.ownsRow_nil
def aBx:=@Go.Proofs.Tryz.zeroValue148
def a2a:=@Go.Proofs.Tryz.zeroValue212
def aEv:=@Nat.lt_trichotomy
def aBo:=@List.nodup_append
def a0m:=@Go.Proofs.Tryz.underlying22
def aD5:=@List.drop_sublist
def aTG:=@List.findIdx?_eq_some_iff_getElem
def aHh:=@List.takeWhile_sublist
def kF:=@Go.Proofs.Tryz.isAgg3
def aLC:=@Go.World.cell?_alloc_past
def aMQ:=@List.not_of_lt_findIdx
def pX:=@List.all_cons
def aF6:=@List.take_append
def aCA:=@Go.Proofs.Tryz.underlying0
def a1R:=@List.perm_middle
def aIS:=@Nat.eq_of_beq_eq_true
def aIa:=@Go.Lib.wpList_append_run
def aAL:=@Go.wpIn_region_any
def aEb:=@Nat.div_add_mod
def nN:=@Nat.mod_lt
def aLb:=@Array.ext'
def pG:=@Go.Proofs.Tryz.sizeOf5
def qm:=@Go.Proofs.Tryz.sizeOf9
def a07:=@Go.Proofs.Tryz.sizeOf4
def a2I:=@Go.Proofs.Tryz.zeroValue0
def a0s:=@Option.map_none
def aWo:=@List.Nodup.length_le_of_subset
def uH:=@Bool.not_not
def aO4:=@List.map_congr_left
def aKe:=@Go.callsIn_of_wp_marks
def aH1:=@Go.Lib.strCells_length
def aLz:=@Array.getElem?_push
def aFT:=@List.reverse_append
def a1q:=@Go.run_underlying
def aAX:=@List.take_left
def aAm:=@Go.Proofs.Tryz.sizeOf148
def aEF:=@Go.Proofs.Tryz.sizeOf212
def a2O:=@Nat.mul_le_mul
def pS:=@Go.setRow_heap
def a00:=@Go.Sem.run_map
def a0J:=@Go.Proofs.Tryz.isAgg5
def qO:=@Go.Proofs.Tryz.isAgg9
def uK:=@Go.Proofs.Tryz.isAgg4
def aW6:=@Nat.min_def
def aR1:=@Go.run_loadCells_list
def aGe:=@Int.natCast_nonneg
def aI4:=@Go.MapKept.heap_alloc
def aJX:=@List.filterMap_nil
def aHq:=@Option.toList_none
def aK5:=@Nat.eq_or_lt_of_le
def aSv:=@List.dropWhile_cons_of_pos
def aRM:=@List.dropWhile_cons_of_neg
def aDt:=@Go.callsD_of_wpS
def aWK:=@List.getElem?_take_eq_none
def aX6:=@Int.fdiv_eq_ediv_of_nonneg
def aV6:=@Int.tmod_eq_emod_of_nonneg
def aFc:=@Bool.not_eq_false
def aO8:=@Go.run_storeCells_at
def aGU:=@List.take_sublist
def aGu:=@List.any_eq_false
def aSP:=@List.getElem?_zip_eq_some
def Zk:=@Ne.symm
def aSB:=@Go.wpIn_region_list
def aDR:=@Nat.zero_mul
def aJ9:=@List.drop_append
def nI:=@or_false
def a1T:=@Bool.or_self
def aMe:=@Go.World.size_alloc
def aAg:=@List.map_set
def jo:=@Go.wpS_cond
def aMc:=@List.flatMap_map
def aGz:=@List.getElem_zip
def aKA:=@List.map_reverse
def aIz:=@Nat.min_le_left
def aFR:=@List.cons.injEq
def aGF:=@List.find?_some
def aJ1:=@List.any_append
def aF8:=@Nat.one_mul
def aIL:=@List.drop_drop
def aKV:=@List.take_take
def aNF:=@Bool.false_and
abbrev Di:=Value.int .i64
section
variable {p:Prop}
def AA (h:p:=by kernel_rfl):p:=h
def AB (h:p:=by omega):p:=h
def D8 (h:p:=by cases h;exact .ret (FQ [])):p:=h
def DK (h:p:=by cases h;kernel_rfl):p:=h
def Bo (h:p:=by decide):p:=h
def Bj (h:p:=by simp):p:=h
def Pn (h:p:=by cases h;exact .ret (FQ [AU 0])):p:=h
def EN (h:p:=by simp;omega):p:=h
def Fz (h:p:=by simp only[Ns];omega):p:=h
def Jd (h:p:=by cases h;exact .ret (FQ [AU 2])):p:=h
def Jt (h:p:=by cases h;exact .ret (FQ [AU 1])):p:=h
def Gp (h:p:=by simpa using hi):p:=h
def Y1 (h:p:=by rw[←Ce h];exact⟨[],[AU 0],trivial,by kernel_rfl,by kernel_rfl,by kernel_rfl⟩):p:=h
def MW (h:p:=by simpa using z):p:=h
def NU (h:p:=by obtain⟨a,_,rfl⟩:=FY.1 j;rfl):p:=h
def aYJ (h:p:=by rintro s ⟨j,hs,h⟩;exact Bz.sub hs<|Aa<|Bz.ret<|by rw[←Ce h];exact⟨[IV j],[],⟨⟨0,BU (FD j),true,9,by kernel_rfl,by kernel_rfl,by kernel_rfl,ZV,Dj (by kernel_rfl),(by intro q;cases q),by kernel_rfl⟩,trivial⟩,by kernel_rfl,by kernel_rfl,by kernel_rfl⟩):p:=h
def KU (h:p:=by intro j;cases j):p:=h
def aYA (h:p:=by rw[←Ce h];exact⟨[D7 Ch,Aj false],[],⟨⟨0,BU (Aq Ch),true,29,by kernel_rfl,by kernel_rfl,by kernel_rfl,Cj,Dj (by kernel_rfl),(by intro q;cases q),by kernel_rfl⟩,Gj (by kernel_rfl),trivial⟩,by kernel_rfl,by kernel_rfl,by kernel_rfl⟩):p:=h
def aRV (h:p:=by rw[←Ce h];exact⟨[D7 z,Aj true],[],⟨⟨0,BU (Aq z),true,29,by kernel_rfl,by kernel_rfl,by kernel_rfl,Cj,Dj (by kernel_rfl),(by intro q;cases q),by kernel_rfl⟩,Gj (by kernel_rfl),trivial⟩,by kernel_rfl,by kernel_rfl,by kernel_rfl⟩):p:=h
def aTY (h:p:=by rw[←Ce h];exact⟨[D7 Ch,AY u],[],⟨⟨0,BU (Aq Ch),true,29,by kernel_rfl,by kernel_rfl,by kernel_rfl,Cj,Dj (by kernel_rfl),(by intro j;cases j),by kernel_rfl⟩,Gj (by kernel_rfl),trivial⟩,by kernel_rfl,by kernel_rfl,by kernel_rfl⟩):p:=h
def Lr (h:p:=by intro hh;cases hh):p:=h
def aon (h:p:=by rw[←Ce h];exact⟨[IV j],[],⟨⟨0,BU (FD j),true,9,by kernel_rfl,by kernel_rfl,by kernel_rfl,ZV,Dj (by kernel_rfl),(by intro q;cases q),by kernel_rfl⟩,trivial⟩,by kernel_rfl,by kernel_rfl,by kernel_rfl⟩):p:=h
def KC (h:p:=by simpa using h):p:=h
def O4 (h:p:=by simp[underlying,ht]):p:=h
def OC (h:p:=by simp[List.getD,hi]):p:=h
def LK (h:p:=by rw[EZ];omega):p:=h
def NJ (h:p:=by simpa using hl):p:=h
def qj (h:p:=by have :=hb (k+1) y (by simpa using z);simpa[Sl,Ue 1 k]using this):p:=h
def J8 (h:p:=by simp at h):p:=h
def sS (h:p:=by have :=hl (k+1) (by simpa using hk);simpa[Sl,Ue 1 k]using this):p:=h
def yg (h:p:=by have :=M (k+1) y (by simpa using z);simpa[Sl,Ue 1 k]using this):p:=h
def vO (h:p:=by have :=O (k+1) y (by simpa using z);simpa[Sl,Ue 1 k]using this):p:=h
def wO (h:p:=by cases h;exact .ret (FQ [AU 0,AU 1,AU 2,AU 3])):p:=h
def NY (h:p:=by decide+kernel):p:=h
def P7 (h:p:=by rw[←hm.hlen];simp):p:=h
def TB (h:p:=by simp only[N8];omega):p:=h
def Xk (h:p:=by cases h;exact .ret (FQ [AU 3])):p:=h
def Ub (h:p:=by simp only[EZ,Ns];omega):p:=h
def XC (h:p:=by obtain⟨a,_,rfl⟩:=FY.1 hx;rfl):p:=h
def Np (h:p:=by simpa using q):p:=h
def nE (h:p:=by cases h;exact .ret (FQ [(0,false),AU 1])):p:=h
def JD (h:p:=by cases h):p:=h
def aSO (h:p:=by rintro s ⟨J,hs,h⟩;exact Bz.sub hs<|BI h (fun h=>Aa<|by cases h;exact .ret (FQ [])) fun h=>Aa<|by cases h;exact .ret (FQ [])):p:=h
def ni (h:p:=by have :Az=9223372036854775808:=rfl;omega):p:=h
def mV (h:p:=by intro q;cases q):p:=h
def ZE (h:p:=by first|exact u|kernel_rfl):p:=h
def Qh (h:p:=by rw[Y9];omega):p:=h
def aYW (h:p:=by rw[←Ce h];exact⟨[],[AU 0,AU 1,AU 2,AU 3],trivial,by kernel_rfl,by kernel_rfl,by kernel_rfl⟩):p:=h
def oU (h:p:=by simp[Act.eval,Array.replicate]):p:=h
def aTW (h:p:=by subst e;have h:=i;exact .a 2<|AQ h fun J u h=>.mg 12 3 (Aj J) (.bi u)<|.aW<|by cases h;kernel_rfl):p:=h
def TL (h:p:=by simpa using J):p:=h
def SE (h:p:=by simpa using e):p:=h
def PY (h:p:=by simp at hi):p:=h
def qG (h:p:=by simp[Array.getD,hil]at hf ⊢;exact hf):p:=h
def WG (h:p:=by rw[Iq]at h;exact h):p:=h
def Xu (h:p:=by rw[Iq];exact aKQ hs):p:=h
def Ti (h:p:=by simpa using I):p:=h
def QD (h:p:=by rw[aa9];rfl):p:=h
def rJ (h:p:=by simpa using(hl 0 (by simp)).symm):p:=h
def Vh (h:p:=by simpa using u):p:=h
def Xh (h:p:=by rw[DY];omega):p:=h
def Vq (h:p:=by simpa using j):p:=h
def WJ (h:p:=by simpa using Y):p:=h
def aCB (h:p:=by cases h;exact .ret (FQ [AU 4])):p:=h
def aKX (h:p:=by rw[alloc_eq_grow,alloc_eq_grow,grow_grow];rfl):p:=h
def aGT (h:p:=by rw[ha];exact FC (KL _ _) (by rw[G6];omega)):p:=h
def Td (h:p:=by simp[flat]):p:=h
def aGS (h:p:=by by_cases h:(s.size:Int)>32<;>simp[h]<;>omega):p:=h
def nP (h:p:=by intro u;cases u):p:=h
def Y6 (h:p:=by simpa using L):p:=h
def aIQ (h:p:=by cases h;exact .ret (FQ [AU 0,AU 1])):p:=h
def aG0 (h:p:=by by_cases h:(s.size:Int)<1<;>simp[h]<;>omega):p:=h
def mP (h:p:=by rw[ha,DY,G6];omega):p:=h
def SC (h:p:=by simp[hi]):p:=h
def aVo (h:p:=by simpa using hk):p:=h
def dw (h:p:=by simpa using he):p:=h
def aKE (h:p:=by have :=hinj j j' o o' t u ho' q hd';omega):p:=h
def a1t (h:p:=by simp only[aW6];split<;>omega):p:=h
def jr (h:p:=by simp[Az];omega):p:=h
def dR (h:p:=by simp[hm.hlen]):p:=h
def aXu (h:p:=by rw[G6];omega):p:=h
def aCk (h:p:=by rw[EZ];simp only[Ns];omega):p:=h
def jP (h:p:=by rw[aKZ j L];simp):p:=h
def aE6 (h:p:=by simpa using M 0 x (by simp)):p:=h
def uS (h:p:=by intro I;cases I):p:=h
def lJ (h:p:=by intro z;cases z):p:=h
def iq (h:p:=by simp at J;omega):p:=h
def aLG (h:p:=by obtain⟨b,_,rfl⟩:=FY.1 hy;exact hc b):p:=h
def aIA (h:p:=by obtain⟨a,_,rfl⟩:=FY.1 hy;exact hc a):p:=h
def zo (h:p:=by rw[map_take hi,ha]):p:=h
def aAv (h:p:=by simp[binOp,Op.intBits,Eu]):p:=h
def aB0 (h:p:=by simp only[GZ];simp;omega):p:=h
def aNV (h:p:=by rw[L rfl b (by rw[q];rfl)];exact u):p:=h
def aKS (h:p:=by cases h;exact .ret (FQ [AU 5])):p:=h
def aYN (h:p:=by rw[DY]at hi;rw[S9 _ _ _ hi];exact V7 q j u (h i hi)):p:=h
def aWE (h:p:=by subst e;have h:=i;exact Dw.aW<|by cases h;kernel_rfl):p:=h
def aFE (h:p:=by simp[Act.eval,Act.put]):p:=h
def aKv (h:p:=by simpa using O 0 σ.ents (by simp)):p:=h
def gW (h:p:=by rw[ha,GX]):p:=h
def aPe (h:p:=by rw[DY]at hi;rw[S9 _ _ _ hi];exact(h i hi).vC π):p:=h
def aQA (h:p:=by rw[M]at ho';obtain rfl:=Dh ho';exact(O m hm).1):p:=h
def xI (h:p:=by rw[j]at h;exact h):p:=h
def aEU (h:p:=by simp[Op.bytesLess]at h):p:=h
def aR7 (h:p:=by unfold Iy;rw[DX ⟨ZQ _,by omega,by omega⟩];rfl):p:=h
def aVF (h:p:=by simp only[aDO,dec_lt h,Bq,D5 h,Af,Ut,Eo,BZ]):p:=h
def uo (h:p:=by intro h;cases h):p:=h
def aJ8 (h:p:=by unfold uQ;rw[u];simp only[z]):p:=h
def aAj (h:p:=by rw[q];rfl):p:=h
def aQq (h:p:=by simpa using(by omega:i<(ops.map a.eval).size)):p:=h
def aBT (h:p:=by rw[World.cell?,j];rfl):p:=h
def aD3 (h:p:=by constructor<;>omega):p:=h
def sK (h:p:=by simpa using hs):p:=h
def aWG (h:p:=by cases h;exact .ret (FQ [(0,false),AU 5])):p:=h
def aP1 (h:p:=by rw[ha];exact FC (YF _ _) (by rw[G6];omega)):p:=h
def a1b (h:p:=by unfold maxLen;omega):p:=h
def aPG (h:p:=by simp[Array.getD,show ¬e.on<l.size by omega]):p:=h
def aFw (h:p:=by simp[sizeOf,typeInfo,hi,hs]):p:=h
def aXD (h:p:=by have :=oW s ⟨k,key,0⟩;unfold FX at *;omega):p:=h
def tC (h:p:=by simpa using q2):p:=h
def aEd (h:p:=by simp[underlying,hu]):p:=h
def pF (h:p:=by simpa using h2):p:=h
def aQ6 (h:p:=by simp[Value.cells,List.getD,Array.getD,z]):p:=h
def aC (h:p:=by simp[hl]):p:=h
def aMh (h:p:=by have :=eq_of_beq h;omega):p:=h
def aFW (h:p:=by show user.size<=2000;omega):p:=h
def jd (h:p:=by rw[e];rfl):p:=h
def aHQ (h:p:=by rw[hb1];exact(Fv.1 M).1):p:=h
def aNe (h:p:=by rw[Bf.aer]at J;exact J):p:=h
def aA1 (h:p:=by intro Z;cases Z):p:=h
def aRv (h:p:=by unfold LD at j;rw[EK hl]at j;exact j):p:=h
def a1j (h:p:=by simp[Array.getD]):p:=h
def aJN (h:p:=by simp[underlying,hE.und]):p:=h
def cD (h:p:=by cases h'):p:=h
def Zg (h:p:=by simp[q]):p:=h
def aBz (h:p:=by simpa using hi'):p:=h
def aAs (h:p:=by simpa using hc):p:=h
def aE7 (h:p:=by simpa using hj):p:=h
def aTk (h:p:=by simp[stepG,stepG.exec,Frame.atR]):p:=h
def aOK (h:p:=by rw[uD];exact fuel_lt (by decide)):p:=h
def aLT (h:p:=by simp[List.getD,Y8 e]):p:=h
def aAR (h:p:=by simpa using M):p:=h
def a0v (h:p:=by simpa using hi1):p:=h
def aD7 (h:p:=by simp[flat]at hi):p:=h
def aH9 (h:p:=by simp[List.getD,Hf e]):p:=h
def iR (h:p:=by simp at q):p:=h
def aNp (h:p:=by simpa[EF]using q.symm):p:=h
def a1S (h:p:=by simpa using ht):p:=h
def aCz (h:p:=by rw[Ik];omega):p:=h
def a2T (h:p:=by simpa using h0):p:=h
def aIC (h:p:=by simp[World.setRow]):p:=h
def aMf (h:p:=by have :=h.len;omega):p:=h
def aFd (h:p:=by simp only[aDO,Dq,BZ]):p:=h
def aCa (h:p:=by apply aLb;simp):p:=h
def xA (h:p:=by rw[z];rfl):p:=h
def a1c (h:p:=by simp[go_sem]):p:=h
def aEz (h:p:=by rw[Iq];exact h):p:=h
def aA7 (h:p:=by simpa using hp):p:=h
def aHu (h:p:=by rw[EZ];simp;omega):p:=h
def a2S (h:p:=by simpa using O):p:=h
def aBO (h:p:=by rw[JX];omega):p:=h
def aHC (h:p:=by show 1+4<=20;omega):p:=h
def aFa (h:p:=by simp[execOp,j];rfl):p:=h
def aEc (h:p:=by simpa using U):p:=h
def aGa (h:p:=by simp[List.getD,ht]):p:=h
def aKi (h:p:=by rw[EZ]at hi;omega):p:=h
def aM0 (h:p:=by rw[Y9];simp;omega):p:=h
def aKk (h:p:=by simp[List.getD,u]):p:=h
def aLw (h:p:=by simpa using this):p:=h
def aLq (h:p:=by rw[DY];exact hi):p:=h
def aNJ (h:p:=by simpa using hee):p:=h
def a1G (h:p:=by simp[vX,e]):p:=h
def xM (h:p:=by simp at j):p:=h
def Fn1 (h:p:=by simp at z):p:=h
def aGE (h:p:=by rw[I]at q;omega):p:=h
def aN4 (h:p:=by intro U;cases U):p:=h
def aFb (h:p:=by intro J;cases J):p:=h
end
section
variable {p:Prop}
def CQ (h:p:=by exact fun h=>Aa<|D8):p:=h
def F6 (h:p:=by exact Bz.exit<|Aa<|D8):p:=h
def Hu (h:p:=by exact Bz.exit<|Aa<|Pn):p:=h
def aTB (h:p:=by exact .aW<|Aa<|Aa<|Bz.ret<|by rw[←Ce h];exact⟨[D7 ({ { { aT with Hash:=j }with Id:=q }with o7:=(⟨Dz,({ { aT with Hash:=j }with Id:=q }).Id⟩:QI) })],[],⟨⟨1,BU (Aq ({ { { aT with Hash:=j }with Id:=q }with o7:=(⟨Dz,({ { aT with Hash:=j }with Id:=q }).Id⟩:QI) })),true,29,AA,AA,AA,Cj,Dj AA,uS,AA⟩,trivial⟩,AA,AA,AA⟩):p:=h
def oC (h:p:=by exact PN AA<|PN AA<|PN AA<|PN AA<|trivial):p:=h
def a0c (h:p:=by exact .nil<|Or.inl ⟨(),(Ce h).symm,(⟨[],[],trivial,AA,AA,AA⟩)⟩):p:=h
def aWq (h:p:=by exact .aW<|Aa<|Bz.ret<|by rw[←Ce h];exact⟨[D7 ({ aT with Content:=j })],[],⟨⟨1,BU (Aq ({ aT with Content:=j })),true,29,AA,AA,AA,Cj,Dj AA,nP,AA⟩,trivial⟩,AA,AA,AA⟩):p:=h
def aXh (h:p:=by exact fun h=>Bz.ret<|⟨.inr rfl,(ZX I).slots,(.ready,none),.normal,AA,rfl,(K3 _ ⟨q,u,Ae 16 32 [AU 2,AU 6],h⟩)⟩):p:=h
def aPR (h:p:=by exact Bz.ret<|⟨.inr rfl,(Xc iV j).slots,(.ready,none),.normal,AA,rfl,(K3 _ ⟨v7,v8,Ae 21 80 [AU 0,AU 1],h⟩)⟩):p:=h
def aBK (h:p:=by exact .nil<|q _ _ _ (Ae 16 449 [AU 0]) h):p:=h
def Zh (h:p:=by exact Aa<|Aa<|D8):p:=h
def jW (h:p:=by exact fun h=>Aa<|Pn):p:=h
def aLe (h:p:=by exact fun h=>Bz.exit<|K4 _ ⟨Ae 18 2 [],h⟩):p:=h
def Je (h:p:=by exact BI h CQ fun h=>Aa<|D8):p:=h
end
section
def addr_add (b o j:Nat):(⟨b,o,none⟩:Addr).add j=⟨b,o+j,none⟩:=by
 unfold Addr.add;split<;>simp_all
section
variable {P:Cm} {ops:Bh Oper} {rest:A8 Oper} {o:Oper} {a:Act} {w:Bc} {Q:Exit->Act->Bc->Prop}
def agU (w:Bc) (ty:CO) (b off:Nat) (cs:Bh Aw) (hA:(isAgg ty).run P w=.ok true w) (z:(sizeOf ty).run P w=.ok cs.size w)
 (I:∀j,j<cs.size->w.cell? ⟨b,off+j,none⟩=some (cs.getD j undef)):(loadVar ty ⟨b,off,none⟩).run P w=.ok (.agg cs) w:=by
 have hl:(loadCells ⟨b,off,none⟩ cs.toList.length).run P w=.ok cs.toList.toArray w:=
  aR1 (P:=P) w ⟨b,off,none⟩ cs.toList (fun j v q=>by
   rw[addr_add]
   have u:j<cs.size:=by
    have :=(Fv.1 q).1;simpa using this
   rw[I j u];simp only[XZ]at q;simp[Array.getD,u]at q ⊢
   exact q)
 simp only[TN,ah]at hl;simp only[loadVar,Fl,hA,z,G8,Jr,hl,Gw]
end
def aGw (w:Bc) (cs:Bh Aw) (t:CO):∀k,(w.alloc (.cells cs t)).cell? ⟨w.heap.size,k,none⟩=cs[k]? :=fun k=>cell_of_row _ _ k cs t (0,0) (WY w _)
inductive D where
 |lit (v:Value)
 |agg (cs:List D)
 |sl (es:List D)
 |ref (cs:List D) (off:Nat)
 |fn (f:Fn) (first cap:List D)
 |Qj (t:TypeId) (x:D)
def D.cells:D->A8 D
 | .agg cs=>cs
 |x=>[x]
def D.leaf:D->Ad
 | .lit v=>v.oneCell'
 | .agg _=>false
 |_=>true
abbrev ES :D:=.lit undef
abbrev cellAt (w:Bc) (b o:Nat):Aw:=(w.cell? ⟨b,o,none⟩).getD undef
inductive EU (ok:Nat->Prop) (w:World):D->Value->Prop
 |lit (v:Value):EU ok w (.lit v) v
 |agg (cs:List D) (vs:Array Value) (hl:vs.size=cs.length) (hf:∀i,i<cs.length->(cs.getD i ES).leaf=true)
  (h:∀i,i<cs.length->EU ok w (cs.getD i ES) (vs.getD i undef)):EU ok w (.agg cs) (.agg vs)
 |sl0 (ad:Option Addr) (cap:Nat):EU ok w (.sl []) (.slice ad 0 cap)
 |sl (es:List D) (b off cap size:Nat) (hcap:es.length<=cap) (hok:0<es.length->0<size->ok b) (hs:∀i,i<es.length->(es.getD i ES).cells.length=size)
  (hf:∀i,i<es.length->∀j,j<size->((es.getD i ES).cells.getD j ES).leaf=true)
  (hx:∀i,i<es.length->∀j,j<size->(w.cell? ⟨b,off+(i*size+j),none⟩).isSome=true)
  (hc:∀i,i<es.length->∀j,j<size->EU ok w ((es.getD i ES).cells.getD j ES) (cellAt w b (off+(i*size+j)))):
  EU ok w (.sl es) (.slice (some ⟨b,off,none⟩) es.length cap)
 |ref (cs:List D) (off b o:Nat) (hok:0<cs.length->ok b) (hf:∀i,i<cs.length->(cs.getD i ES).leaf=true)
  (hx:∀j,j<cs.length->(w.cell? ⟨b,o+j,none⟩).isSome=true)
  (hc:∀j,j<cs.length->EU ok w (cs.getD j ES) (cellAt w b (o+j))):EU ok w (.ref cs off) (.pointer (some ⟨b,o+off,none⟩))
 |fn (f:Fn) (first cap:List D) (vs us:Array Value) (hl:vs.size=first.length) (hm:us.size=cap.length)
  (h:∀i,i<first.length->EU ok w (first.getD i ES) (vs.getD i undef)) (h':∀i,i<cap.length->EU ok w (cap.getD i ES) (us.getD i undef)):
  EU ok w (.fn f first cap) (.func f vs us)
 |Qj (t:TypeId) (x:D) (v:Value) (h:EU ok w x v):EU ok w (.Qj t x) (.iface t v)
def Ep (ok:Nat->Prop) (w:Bc) (ok':Nat->Prop) (w':Bc):Prop:=∀b,ok b->ok' b/\w'.heap[b]? =w.heap[b]?
def Ep.refl (ok:Nat->Prop) (w:Bc):Ep ok w ok w:=fun _ h=>⟨h,rfl⟩
def Ep.trans {ok j q:Nat->Prop} {w z I:Bc} (h:Ep ok w j z) (k:Ep j z q I):Ep ok w q I:=
 fun b u=>⟨(k b (h b u).1).1,((k b (h b u).1).2).trans (h b u).2⟩
def Ep.cell {ok ok':Nat->Prop} {w w':Bc} (h:Ep ok w ok' w') {b o:Nat} (j:ok b):w'.cell? ⟨b,o,none⟩=w.cell? ⟨b,o,none⟩:=
 World.cell?_of_block (w:=w) (a:=⟨b,o,none⟩) (h b j).2
def EU.mono {ok ok':Nat->Prop} {w w':Bc} (I:Ep ok w ok' w') {x:D} {v:Aw} (h:EU ok w x v):EU ok' w' x v:=by
 induction h with
 |lit v=>exact .lit v
 |agg cs vs hl J _ z=>exact .agg cs vs hl J z
 |sl0 ad cap=>exact .sl0 ad cap
 |sl es b off cap size L q hs J M _ z=>
  have Y:∀i j,i<es.length->j<size->ok b:=fun i j hi u=>q AB AB;refine .sl es b off cap size L (fun O Z=>(I b (q O Z)).1) hs J (fun i hi j u=>?_) (fun i hi j u=>?_)
  ·rw[I.cell (Y i j hi u)];exact M i hi j u
  unfold cellAt;rw[I.cell (Y i j hi u)];exact z i hi j u
 |ref cs off b o q J M _ z=>
  refine .ref cs off b o (fun O=>(I b (q O)).1) J (fun j u=>?_) (fun j u=>?_)
  ·rw[I.cell (q AB)];exact M j u
  unfold cellAt;rw[I.cell (q AB)];exact z j u
 |fn f first cap vs us hl hm _ _ z U=>exact .fn f first cap vs us hl hm z U
 |Qj t x v _ z=>exact .Qj t x v z
def EU.shrink {ok ok':Nat->Prop} {w:Bc} (hs:∀b o,ok b->(w.cell? ⟨b,o,none⟩).isSome=true->ok' b) {x:D} {v:Aw} (h:EU ok w x v):EU ok' w x v:=by
 induction h with
 |lit v=>exact .lit v
 |agg cs vs hl u _ j=>exact .agg cs vs hl u j
 |sl0 ad cap=>exact .sl0 ad cap
 |sl es b off cap size z q L u I _ j=>exact .sl es b off cap size z (fun J O=>hs b _ (q J O) (I 0 J 0 O)) L u I j
 |ref cs off b o q u I _ j=>exact .ref cs off b o (fun J=>hs b _ (q J) (I 0 J)) u I j
 |fn f first cap vs us hl hm _ _ j M=>exact .fn f first cap vs us hl hm j M
 |Qj t x v _ j=>exact .Qj t x v j
def EU.leaf {ok:Nat->Prop} {w:Bc} {x:D} {v:Aw} (h:EU ok w x v) (hl:x.leaf=true):v.oneCell'=true:=by
 cases h<;>first|rfl|exact hl|(simp[D.leaf]at hl)
inductive Ai where
 |d (x:D)
 |ptr (k off:Nat)
 |aO (k:Nat)
 |lC (k i off:Nat)
 |fn (f:Fn) (first cap:List Ai)
 |mp (k:Nat)
 |clip (xs:List D)
 |xU (k:Nat)
 |eX (vs:List Ai)
 |ag (vs:List Ai)
 |junk
def Ai.leaf:Ai->Ad
 | .d x=>x.leaf
 | .eX _| .ag _| .junk=>false
 |_=>true
def Ai.cells:Ai->A8 Ai
 | .d x=>x.cells.map .d
 | .ag xs=>xs
 |x=>[x]
inductive Bf where
 |dead
 |box (cs:List Ai)
 |arr (e:TypeId) (size:Nat) (es:List D)
 |map (es:List (Value×D))
 |iL (es:List (Value×D))
 |iter (es:List (Value×D)) (vis:List Nat)
 |loop (tm:Array Value) (slots:List Ai) (rc:Array Tmp×Code×Code) (st:LoopState) (pe:Option Code)
def Bf.live:Bf->Ad
 | .dead=>false
 |_=>true
structure CP where
 v:Value
 size:Nat:=0
inductive R (ok:Nat->Prop) (w:World) (H:List CP):Ai->Value->Prop
 |d (x:D) (v:Value) (h:EU ok w x v):R ok w H (.d x) v
 |ptr (k off b s:Nat) (h:H[k]? =some ⟨.pointer (some ⟨b,0,none⟩),s⟩):R ok w H (.ptr k off) (.pointer (some ⟨b,off,none⟩))
 |aO (k:Nat) (ad:Option Addr) (n cap s:Nat) (h:H[k]? =some ⟨.slice ad n cap,s⟩):R ok w H (.aO k) (.slice ad n cap)
 |lC (k i off b n cap s:Nat) (h:H[k]? =some ⟨.slice (some ⟨b,0,none⟩) n cap,s⟩):R ok w H (.lC k i off) (.pointer (some ⟨b,i*s+off,none⟩))
 |fn (f:Fn) (first cap:List Ai) (vs us:Array Value) (hl:vs.size=first.length) (hm:us.size=cap.length) (h:∀i,i<first.length->R ok w H (first.getD i .junk) (vs.getD i undef))
  (h':∀i,i<cap.length->R ok w H (cap.getD i .junk) (us.getD i undef)):R ok w H (.fn f first cap) (.func f vs us)
 |mp (k:Nat) (v:Value) (s:Nat) (hl:v.oneCell'=true) (h:H[k]? =some ⟨v,s⟩):R ok w H (.mp k) v
 |clip (xs:List D) (ad:Option Addr) (h:EU ok w (.sl xs) (.slice ad xs.length xs.length)):R ok w H (.clip xs) (.slice ad xs.length xs.length)
 |xU (k:Nat) (ad:Option Addr) (n cap s:Nat) (h:H[k]? =some ⟨.slice ad n cap,s⟩):R ok w H (.xU k) (.slice ad n n)
 |eX (xs:List Ai) (vs:Array Value) (hl:vs.size=xs.length) (h:∀i,i<xs.length->R ok w H (xs.getD i .junk) (vs.getD i undef)):R ok w H (.eX xs) (.tuple vs)
 |ag (xs:List Ai) (vs:Array Value) (hl:vs.size=xs.length) (hf:∀i,i<xs.length->(xs.getD i .junk).leaf=true) (h:∀i,i<xs.length->R ok w H (xs.getD i .junk) (vs.getD i undef)):R ok w H (.ag xs) (.agg vs)
 |junk (v:Value):R ok w H .junk v
def Names (H H':A8 CP):Prop:=∀(k:Nat) (v:CP),H[k]? =some v->H'[k]? =some v
def Names.refl (H:A8 CP):Names H H:=fun _ _ h=>h
def bD:=@Names.refl
def Names.trans {H H1 H2:A8 CP} (h:Names H H1) (k:Names H1 H2):Names H H2:=fun i v j=>k i v (h i v j)
def Names.push (H H':A8 CP):Names H (H++H'):=fun k v h=>by
 rw[Hf (Fv.1 h).1];exact h
def Ht:=@Names.push
def R.mono {ok ok':Nat->Prop} {w w':Bc} {H H':A8 CP} (z:Ep ok w ok' w') (j:Names H H') {x:Ai} {v:Aw} (h:R ok w H x v):R ok' w' H' x v:=by
 induction h with
 |d x v h=>exact .d x v (h.mono z)
 |ptr k off b s h=>exact .ptr k off b s (j _ _ h)
 |aO k ad n cap s h=>exact .aO k ad n cap s (j _ _ h)
 |lC k i off b n cap s h=>exact .lC k i off b n cap s (j _ _ h)
 |fn f first cap vs us hl hm _ _ q u=>exact .fn f first cap vs us hl hm q u
 |mp k v s hl h=>exact .mp k v s hl (j _ _ h)
 |clip xs ad h=>exact .clip xs ad (h.mono z)
 |xU k ad n cap s h=>exact .xU k ad n cap s (j _ _ h)
 |eX xs vs hl _ q=>exact .eX xs vs hl q
 |ag xs vs hl I _ q=>exact .ag xs vs hl I q
 |junk v=>exact .junk v
def R.shrink {ok ok':Nat->Prop} {w:Bc} (hs:∀b o,ok b->(w.cell? ⟨b,o,none⟩).isSome=true->ok' b) {H:A8 CP} {x:Ai} {v:Aw} (h:R ok w H x v):R ok' w H x v:=by
 induction h with
 |d x v h=>exact .d x v (h.shrink hs)
 |ptr k off b s h=>exact .ptr k off b s h
 |aO k ad n cap s h=>exact .aO k ad n cap s h
 |lC k i off b n cap s h=>exact .lC k i off b n cap s h
 |fn f first cap vs us hl hm _ _ j q=>exact .fn f first cap vs us hl hm j q
 |mp k v s hl h=>exact .mp k v s hl h
 |clip xs ad h=>exact .clip xs ad (h.shrink hs)
 |xU k ad n cap s h=>exact .xU k ad n cap s h
 |eX xs vs hl _ j=>exact .eX xs vs hl j
 |ag xs vs hl u _ j=>exact .ag xs vs hl u j
 |junk v=>exact .junk v
def R.leaf {ok:Nat->Prop} {w:Bc} {H:A8 CP} {x:Ai} {v:Aw} (h:R ok w H x v) (hl:x.leaf=true):v.oneCell'=true:=by
 cases h with
 |d x v h=>exact h.leaf hl
 |eX=>simp[Ai.leaf]at hl
 |ag=>simp[Ai.leaf]at hl
 |junk=>simp[Ai.leaf]at hl
 |mp k v s hl h=>exact hl
 |_=>rfl
def Fg (ok:Nat->Prop) (w:Bc) (H:A8 CP) (xs:A8 Ai) (vs:A8 Aw):Prop:=
 vs.length=xs.length/\∀i,i<xs.length->(xs.getD i .junk).leaf=true/\R ok w H (xs.getD i .junk) (vs.getD i undef)
def Fg.mono {ok ok':Nat->Prop} {w w':Bc} {H H':A8 CP} (j:Ep ok w ok' w') (q:Names H H') {xs:A8 Ai} {vs:A8 Aw} (h:Fg ok w H xs vs):Fg ok' w' H' xs vs:=
 ⟨h.1,fun i hi=>⟨(h.2 i hi).1,(h.2 i hi).2.mono j q⟩⟩
def Fg.shrink {ok ok':Nat->Prop} {w:Bc} (hs:∀b o,ok b->(w.cell? ⟨b,o,none⟩).isSome=true->ok' b) {H:A8 CP} {xs:A8 Ai} {vs:A8 Aw} (h:Fg ok w H xs vs):Fg ok' w H xs vs:=
 ⟨h.1,fun i hi=>⟨(h.2 i hi).1,(h.2 i hi).2.shrink hs⟩⟩
def flat (es:A8 D):A8 Ai:=es.flatMap fun x=>x.cells.map .d
def lG (w:Bc) (e:CO) (size:Nat) (v:Aw) (n:Nat) (xs:A8 Aw):Prop:=
 xs.length=n*size/\
 ((v=.slice none 0 0/\n=0)\/
  ∃g cap cur,v=.slice (some ⟨g,0,none⟩) n cap/\0<=g/\w.heap[g]? =some (.cells cur e (0,0))/\n<=cap/\cap<=maxLen/\cap*size<=cur.size/\cur.toList.take (n*size)=xs)
def lG.of {w:Bc} {base:Nat} {e:CO} {size:Nat} {v:Aw} {n:Nat} {xs:A8 Aw} (h:w.ownsRow base e size v n xs):lG w e size v n xs:=by
 refine⟨h.1,?_⟩;rcases h.2 with j|⟨g,cap,cur,j,L,q,u,z,I,J⟩
 ·exact .inl j
 exact .inr ⟨g,cap,cur,j,Du _,q,u,z,ZF I.symm,J⟩
def lG.cells {w:Bc} {e:CO} {size:Nat} {v:Aw} {n:Nat} {xs:A8 Aw} (h:lG w e size v n xs) {g:Nat} (J:v.ownBlock=some g):∀j u,xs[j]? =some u->w.cell? ((⟨g,0,none⟩:Addr).add j)=some u:=by
 intro j u I;rcases h.2 with⟨rfl,_⟩|⟨L,cap,cur,rfl,_,M,_,_,_,q⟩
 ·simp[Value.ownBlock]at J
 simp[Value.ownBlock]at J;subst J;have z:(⟨L,0,none⟩:Addr).add j=⟨L,j,none⟩:=by unfold Addr.add;split<;>simp_all
 rw[z,cell_of_row w L j cur e (0,0) M];rw[←q,xW]at I;split at I
 ·simpa using I
 cases I
structure Lc (ok:Nat->Prop) (w:World) (es:List (Value×D)) (ms:Array MapEntry) (clock:Nat):Prop where
 len:ms.size=es.length
 ent:∀(i:Nat) (e:Value×D) (m:MapEntry),es[i]? =some e->ms[i]? =some m->m.key=e.1/\EU ok w e.2 m.val/\m.born<clock
 inc:∀(i j:Nat) (m n:MapEntry),i<j->ms[i]? =some m->ms[j]? =some n->m.born<n.born
def Ro (ms:Bh MapEntry) (clock:Nat):Prop:=clock=ms.size/\∀(i:Nat) (e:MapEntry),ms[i]? =some e->e.born=i
def FZ (ok:Nat->Prop) (w:Bc) (H:A8 CP) (h:CP):Bf->Prop
 | .dead=>True
 | .box cs=>∃b vs T,h.v=.pointer (some ⟨b,0,none⟩)/\w.heap[b]? =some (.cells vs T (0,0))/\Fg ok w H cs vs.toList
 | .arr e size es=>h.size=size/\(∀x∈es,x.cells.length=size)/\∃xs,lG w e size h.v es.length xs/\Fg ok w H (flat es) xs
 | .map es=>∃b ms clock,h.v=.map (some b)/\w.heap[b]? =some (.map ms clock)/\Lc ok w es ms clock
 | .iL es=>∃b ms clock,h.v=.map (some b)/\w.heap[b]? =some (.map ms clock)/\Lc ok w es ms clock/\Ro ms clock
 | .iter es vis=>∃bi q ms clock seen,h.v=.pointer (some ⟨bi,0,none⟩)/\w.heap[bi]? =some (.mapIter (some q) clock seen clock)/\ok q/\w.heap[q]? =some (.map ms clock)/\Lc ok w es ms clock/\
  seen.size=vis.length/\∀(j i:Nat),vis[j]? =some i->∃e,ms[i]? =some e/\seen[j]? =some e.born
 | .loop tm slots rc st u=>∃l fn D,h.v=.func (.yield l) #[] #[]/\w.heap[l]? =some (.loop { state:=st,pending:=u,fn,tmps:=tm,params:=rc.1,assign:=rc.2.1,body:=rc.2.2,defers:=D })/\tm.size=slots.length/\∀t,t<slots.length->R ok w H (slots.getD t .junk) (tm.getD t undef)
def EF :Aw->AO Nat
 | .pointer (some a)=>some a.block
 | .slice (some a) _ _=>some a.block
 | .map (some b)=>some b
 | .func (.yield l) _ _=>some l
 |_=>none
structure xB (w0:World) (X:List Nat) (w:World):Prop where
 os:w.os=w0.os
 tape:w.tape=w0.tape
 output:w.output=w0.output
 size:w0.heap.size<=w.heap.size
 block:∀k,k<w0.heap.size->k∉X->w.heap[k]? =w0.heap[k]?
def xB.refl (w:Bc) (X:A8 Nat):xB w X w:=⟨rfl,rfl,rfl,EX _,fun _ _ _=>rfl⟩
def xB.below {w0 w:Bc} (h:xB w0 [] w):Below w0.heap.size w0 w:=⟨h.os,h.tape,h.output,h.size,fun k j=>h.block k j Bj⟩
structure En where
 w0:World
 ok0:Nat->Prop
 X:List Nat
 H0:List CP
structure Dv (C:En) (ok:Nat->Prop) (H:List CP) (es:List Bf) (w:World):Prop where
 fr:xB C.w0 C.X w
 yF:∀b,C.ok0 b->ok b
 yG:∀b,ok b->C.ok0 b\/C.w0.heap.size<=b\/b∈C.X
 kM:∀b,ok b->b<w.heap.size
 names:Names C.H0 H
 hlen:H.length=es.length
 ent:∀(k:Nat) (e:Bf) (h:CP),es[k]? =some e->H[k]? =some h->FZ ok w H h e
 blk:∀(k:Nat) (e:Bf) (h:CP) (b:Nat),es[k]? =some e->e.live=true->H[k]? =some h->EF h.v=some b->¬ok b/\b<w.heap.size/\(C.w0.heap.size<=b\/b∈C.X)
 Ef:∀(k k':Nat) (e e':Bf) (h h':CP) (b:Nat),es[k]? =some e->es[k']? =some e'->e.live=true->e'.live=true->H[k]? =some h->H[k']? =some h'->EF h.v=some b->EF h'.v=some b->k=k'
def FZ.mono {ok ok':Nat->Prop} {w w':Bc} {H H':A8 CP} {h:CP} {e:Bf} (I:Ep ok w ok' w') (U:Names H H') (L:e.live=true->∀b,EF h.v=some b->w'.heap[b]? =w.heap[b]?) (M:FZ ok w H h e):FZ ok' w' H' h e:=by
 cases e with
 |dead=>trivial
 |box cs=>
  obtain⟨b,vs,T,q,u,j⟩:=M;exact⟨b,vs,T,q,aNV,j.mono I U⟩
 |arr e s es=>
  obtain⟨q,u,xs,⟨j,z⟩,J⟩:=M;refine⟨q,u,xs,⟨j,?_⟩,J.mono I U⟩;rcases z with z|⟨g,cap,cur,O,Y,h8,h9⟩
  ·exact .inl z
  exact .inr ⟨g,cap,cur,O,Y,by rw[L rfl g (by rw[O];rfl)];exact h8,h9⟩
 |map es=>
  obtain⟨b,ms,clock,q,u,j⟩:=M;exact⟨b,ms,clock,q,aNV,j.len,fun i e m hi hm=>⟨(j.ent i e m hi hm).1,(j.ent i e m hi hm).2.1.mono I,(j.ent i e m hi hm).2.2⟩,j.inc⟩
 |iL es=>
  obtain⟨b,ms,clock,q,u,j,z⟩:=M;exact⟨b,ms,clock,q,aNV,⟨j.len,fun i e m hi hm=>⟨(j.ent i e m hi hm).1,(j.ent i e m hi hm).2.1.mono I,(j.ent i e m hi hm).2.2⟩,j.inc⟩,z⟩
 |iter es vis=>
  obtain⟨bi,Z,ms,clock,seen,q,u,j,z,J,O,Y⟩:=M;exact⟨bi,Z,ms,clock,seen,q,by rw[L rfl bi aAj];exact u,(I Z j).1,by rw[(I Z j).2];exact z,⟨J.len,fun i e m hi hm=>⟨(J.ent i e m hi hm).1,(J.ent i e m hi hm).2.1.mono I,(J.ent i e m hi hm).2.2⟩,J.inc⟩,O,Y⟩
 |loop tm slots rc st pe=>
  obtain⟨l,fn,D,q,u,j,z⟩:=M;exact⟨l,fn,D,q,by rw[L rfl l aAj];exact u,j,fun t ht=>(z t ht).mono I U⟩
def FZ.shrink {ok ok':Nat->Prop} {w:Bc} (hs:∀b o,ok b->(w.cell? ⟨b,o,none⟩).isSome=true->ok' b) (L:∀(b:Nat) (ms:Bh MapEntry) (c:Nat),ok b->w.heap[b]? =some (.map ms c)->ok' b) {H:A8 CP} {h:CP} {e:Bf} (I:FZ ok w H h e):FZ ok' w H h e:=by
 cases e with
 |dead=>trivial
 |box cs=>
  obtain⟨b,vs,T,q,u,j⟩:=I;exact⟨b,vs,T,q,u,j.shrink hs⟩
 |arr e s es=>
  obtain⟨q,u,xs,j,z⟩:=I;exact⟨q,u,xs,j,z.shrink hs⟩
 |map es=>
  obtain⟨b,ms,clock,q,u,j⟩:=I;exact⟨b,ms,clock,q,u,j.len,fun i e m hi hm=>⟨(j.ent i e m hi hm).1,(j.ent i e m hi hm).2.1.shrink hs,(j.ent i e m hi hm).2.2⟩,j.inc⟩
 |iL es=>
  obtain⟨b,ms,clock,q,u,j,J⟩:=I;exact⟨b,ms,clock,q,u,⟨j.len,fun i e m hi hm=>⟨(j.ent i e m hi hm).1,(j.ent i e m hi hm).2.1.shrink hs,(j.ent i e m hi hm).2.2⟩,j.inc⟩,J⟩
 |iter es vis=>
  obtain⟨bi,M,ms,clock,seen,q,u,j,J,z,O,U⟩:=I;exact⟨bi,M,ms,clock,seen,q,u,L M ms clock j J,J,⟨z.len,fun i e m hi hm=>⟨(z.ent i e m hi hm).1,(z.ent i e m hi hm).2.1.shrink hs,(z.ent i e m hi hm).2.2⟩,z.inc⟩,O,U⟩
 |loop tm slots rc st Y=>
  obtain⟨l,fn,D,q,u,j,J⟩:=I;exact⟨l,fn,D,q,u,j,fun t ht=>(J t ht).shrink hs⟩
def FZ.drew {ok:Nat->Prop} {w:Bc} {H:A8 CP} {h:CP} {e:Bf} {n:Nat} (j:FZ ok w H h e):FZ ok { w with drawn:=n } H h e:=
 FZ.mono (w:=w) (ok:=ok) (fun _ q=>⟨q,rfl⟩) (.refl _) (fun _ _ _=>rfl) j
def CS (P:Cm) (o:Oper) (ns:A8 (CM×Ai)) (es:A8 Bf) (x:Ai) (es':A8 Bf):Prop:=
 ∀(C:En) (ok:Nat->Prop) (H:A8 CP) (a:Act) (w:Bc) (Q:Exit->Act->Bc->Prop),
  Dv C ok H es w->(∀n∈ns,R ok w H n.2 (a.eval n.1))->
  o.wp P a w (fun a' w'=>∃v ok' H',a'=a.put o.dst v/\Ep ok w ok' w'/\Names H H'/\Dv C ok' H' es' w'/\R ok' w' H' x v) Q
def CS.pure {P:Cm} {o:Oper} {ns:A8 (CM×Ai)} {es:A8 Bf} {x:Ai}
 (h:∀(ok:Nat->Prop) (H:A8 CP) (a:Act) (w:Bc),(∀(k:Nat) (e:Bf) (h:CP),es[k]? =some e->H[k]? =some h->FZ ok w H h e)->H.length=es.length->(∀n∈ns,R ok w H n.2 (a.eval n.1))->∃v,(execOp a.eval o).run P w=.ok (.value v) w/\R ok w H x v):CS P o ns es x es:=by
 intro C ok H a w Q hm j;obtain⟨v,q,u⟩:=h ok H a w hm.ent hm.hlen j;unfold Oper.wp;rw[q];exact⟨v,ok,H,rfl,.refl _ _,.refl _,hm,u⟩
structure BR where
 slots:List Ai
 ents:List Bf
 base:Nat:=0
def BR.get (σ:BR):CM->Ai
 | .tmp t=>σ.slots.getD t .junk
 | .const v=>.d (.lit v)
 | .global g=>.d (.lit (.pointer (some ⟨g,0,none⟩)))
 | .func f=>.d (.fn (.func f) [] [])
def BR.put (σ:BR) (d:AO Tmp) (x:Ai) (es:A8 Bf):BR:=
 ⟨match d with |some t=>σ.slots.set t x|none=>σ.slots,es,σ.base⟩
def BR.qJ (σ:BR) (d:AO Tmp) (x:Ai):BR:=
 ⟨match d with |some t=>σ.slots.set t x|none=>σ.slots,σ.ents,σ.base⟩
def BR.akm (σ:BR) (d:AO Tmp) (x:Ai):σ.qJ d x=σ.put d x σ.ents:=rfl
def Marks (C:En) (ok:Nat->Prop) (w:Bc) (j:A8 Deferred):Prop:=
 ∃Ds:A8 Nat,j=Ds.map (fun D=>{ target:=.collected D,args:= #[] })/\Ds.Nodup/\∀D∈Ds,ok D/\C.w0.heap.size<=D/\w.heap[D]? =some (.deferred (some []))
def Marks.nil (C:En) (ok:Nat->Prop) (w:Bc):Marks C ok w []:=⟨[],rfl,Zv,fun _ h=>JD⟩
def Marks.mono {C:En} {ok ok':Nat->Prop} {w w':Bc} {u:A8 Deferred} (h:Marks C ok w u) (z:Ep ok w ok' w'):Marks C ok' w' u:=by
 obtain⟨Ds,I,J,j⟩:=h;exact⟨Ds,I,J,fun D q=>⟨(z D (j D q).1).1,(j D q).2.1,((z D (j D q).1).2).trans (j D q).2.2⟩⟩
structure Holds (C:En) (ok:Nat->Prop) (H:List CP) (σ:BR) (a:Act) (w:World):Prop where
 mem:Dv C ok H σ.ents w
 size:a.tmps.size=σ.slots.length
 defers:Marks C ok w a.defers
 base:C.H0.length=σ.base
 slot:∀t,t<σ.slots.length->R ok w H (σ.slots.getD t .junk) (a.tmps.getD t undef)
def uz {l:A8 Ai} {t:Nat} (h:¬t<l.length):l.getD t .junk=.junk:=by
 simp[List.getD,J5 (X7 h)]
def Holds.get {C:En} {ok:Nat->Prop} {H:A8 CP} {σ:BR} {a:Act} {w:Bc} (h:Holds C ok H σ a w) (x:CM):R ok w H (σ.get x) (a.eval x):=by
 cases x with
 |tmp t=>
  show R ok w H (σ.slots.getD t .junk) (a.tmps.getD t undef);by_cases ht:t<σ.slots.length
  ·exact h.slot t ht
  rw[uz ht];exact .junk _
 |const v=>exact .d _ _ (.lit v)
 |global g=>exact .d _ _ (.lit _)
 |func f=>exact .d _ _ (.fn (.func f) [] [] #[] #[] rfl rfl (fun i hi=>PY) (fun i hi=>PY))
def Holds.put {C:En} {ok ok':Nat->Prop} {H H':A8 CP} {σ:BR} {a:Act} {w w':Bc} (h:Holds C ok H σ a w) (d:AO Tmp) {x:Ai} {v:Aw} {es':A8 Bf}
 (j:Ep ok w ok' w') (z:Names H H') (hm:Dv C ok' H' es' w') (I:R ok' w' H' x v):Holds C ok' H' (σ.put d x es') (a.put d v) w':=by
 cases d with
 |none=>exact⟨hm,h.size,h.defers.mono j,h.base,fun t ht=>(h.slot t ht).mono j z⟩
 |some d=>
  refine⟨hm,by simp[BR.put,Act.put,h.size],h.defers.mono j,h.base,fun t ht=>?_⟩;simp only[BR.put,bF]at ht;simp only[BR.put,Act.put];by_cases e:d=t
  ·subst e;have q:(σ.slots.set d x).getD d .junk=x:=aGa
   have u:(a.tmps.setIfInBounds d v).getD d undef=v:=by simp[Array.getD,h.size,ht]
   rw[q,u];exact I
  have q:(σ.slots.set d x).getD t .junk=σ.slots.getD t .junk:=aLT
  have u:(a.tmps.setIfInBounds d v).getD t undef=a.tmps.getD t undef:=by simp[Io,Nb e]
  rw[q,u];exact(h.slot t ht).mono j z
def Ai.vC (π:A8 (Nat×Ad)):Ai->Ai
 | .d x=>.d x
 | .ptr k off=>match π.idxOf? (k,true)with |some j=>.ptr j off|none=>.junk
 | .aO k=>match π.idxOf? (k,true)with |some j=>.aO j|none=>.junk
 | .lC k i off=>match π.idxOf? (k,true)with |some j=>.lC j i off|none=>.junk
 | .mp k=>match π.idxOf? (k,true)with |some j=>.mp j|none=>.junk
 | .xU k=>match π.idxOf? (k,true)with |some j=>.xU j|none=>.junk
 | .clip xs=>.clip xs
 |_=>.junk
def Ai.back (π:A8 (Nat×Ad)):Ai->Ai
 | .fn f first cap=>.fn f (first.map (Ai.vC π)) (cap.map (Ai.vC π))
 | .eX vs=>.eX (vs.map (Ai.vC π))
 |x=>x.vC π
def Bf.back (π:A8 (Nat×Ad)):Bf->Bf
 | .dead=>.dead
 | .box cs=>.box (cs.map (Ai.vC π))
 | .arr e s es=>.arr e s es
 | .map es=>.map es
 | .iL es=>.iL es
 | .iter es vis=>.iter es vis
 | .loop tm slots rc st j=>.loop tm (slots.map (Ai.back π)) rc st j
def rG {π:A8 (Nat×Ad)} {H:A8 CP} {k j:Nat} {h:CP} (u:π.idxOf? (k,true)=some j) (z:H[k]? =some h):(π.map fun p=>H.getD p.1 ⟨undef,0⟩)[j]? =some h:=by
 rw[List.idxOf?,aTG]at u;obtain⟨q,I, -⟩:=u;have e:π[j]=(k,true):=Ti
 simp[q,e,List.getD,z]
def R.vC {ok:Nat->Prop} {w:Bc} {H:A8 CP} (π:A8 (Nat×Ad)) {x:Ai} {v:Aw} (h:R ok w H x v):R ok w (π.map fun p=>H.getD p.1 ⟨undef,0⟩) (x.vC π) v:=by
 cases h with
 |d x v h=>exact .d x v h
 |ptr k off b s h=>
  simp only[Ai.vC];split<;>rename_i j q
  ·exact .ptr _ off b s (rG q h)
  exact .junk _
 |aO k ad n cap s h=>
  simp only[Ai.vC];split<;>rename_i j q
  ·exact .aO _ ad n cap s (rG q h)
  exact .junk _
 |lC k i off b n cap s h=>
  simp only[Ai.vC];split<;>rename_i j q
  ·exact .lC _ i off b n cap s (rG q h)
  exact .junk _
 |mp k v s hl h=>
  simp only[Ai.vC];split<;>rename_i j q
  ·exact .mp _ v s hl (rG q h)
  exact .junk _
 |clip xs ad h=>exact .clip xs ad h
 |xU k ad n cap s h=>
  simp only[Ai.vC];split<;>rename_i j q
  ·exact .xU _ ad n cap s (rG q h)
  exact .junk _
 |fn f first cap vs us hl hm h h'=>exact .junk _
 |eX xs vs hl h=>exact .junk _
 |ag xs vs hl u h=>exact .junk _
 |junk v=>exact .junk _
def S9 (f:Ai->Ai) (l:A8 Ai) (i:Nat) (h:i<l.length):(l.map f).getD i .junk=f (l.getD i .junk):=by
 simp[List.getD,h]
def R.back {ok:Nat->Prop} {w:Bc} {H:A8 CP} (π:A8 (Nat×Ad)) {x:Ai} {v:Aw} (h:R ok w H x v):R ok w (π.map fun p=>H.getD p.1 ⟨undef,0⟩) (x.back π) v:=by
 cases h with
 |fn f first cap vs us hl hm h h'=>
  exact .fn f _ _ vs us aC (by simp[hm]) (fun i hi=>aPe) (fun i hi=>by rw[DY]at hi;rw[S9 _ _ _ hi];exact(h' i hi).vC π)
 |eX xs vs hl h=>exact .eX _ vs aC (fun i hi=>aPe)
 |ag xs vs hl j h=>exact .junk _
 |d x v h=>exact(R.d x v h).vC π
 |ptr k off b s h=>exact(R.ptr k off b s h).vC π
 |aO k ad n cap s h=>exact(R.aO k ad n cap s h).vC π
 |lC k i off b n cap s h=>exact(R.lC k i off b n cap s h).vC π
 |mp k v s hl h=>exact(R.mp k v s hl h).vC π
 |clip xs ad h=>exact(R.clip xs ad h).vC π
 |xU k ad n cap s h=>exact(R.xU k ad n cap s h).vC π
 |junk v=>exact .junk _
def Bf.backOk (π:A8 (Nat×Ad)):Bf->Ad
 | .box cs=>cs.all fun x=>(x.vC π).leaf
 |_=>true
def Uj (base:Nat) (es:A8 Bf) (π:A8 (Nat×Ad)):Ad:=
 π.all (fun p=>p.1<es.length)&&decide ((π.filterMap fun p=>if p.2 then some p.1 else none).Nodup)&&((π.take base).map (·.1)==List.range base)&&π.all fun p=>(es.getD p.1 .dead).backOk π
def SY (es:A8 Bf) (π:A8 (Nat×Ad)):A8 Bf:=π.map fun p=>if p.2 then(es.getD p.1 .dead).back π else .dead
def aYO :∀{π:A8 (Nat×Ad)},(π.filterMap fun p=>if p.2 then some p.1 else none).Nodup->∀(i j k:Nat),π[i]? =some (k,true)->π[j]? =some (k,true)->i=j
 | [],_,i,j,k,h,_=>J8
 |p::π,q,i,j,k,hi,z=>by
  have u:∀(n:Nat),π[n]? =some (k,true)->k∈π.filterMap fun p=>if p.2 then some p.1 else none:=fun n h=>by
   rw[TR];exact⟨_,XL h,rfl⟩
  have I:(π.filterMap fun p=>if p.2 then some p.1 else none).Nodup:=by
   rw[QC]at q;split at q
   ·exact q
   exact(Nh.1 q).2
  match i,j with
  |0,0=>rfl
  |0,j+1=>
   simp at hi z;subst hi;simp only[QC,Jr]at q;exact absurd (u j z) (Nh.1 q).1
  |i+1,0=>
   simp at hi z;subst z;simp only[QC,Jr]at q;exact absurd (u i hi) (Nh.1 q).1
  |i+1,j+1=>rw[aYO I i j k Gp MW]
def FZ.back {ok:Nat->Prop} {w:Bc} {H:A8 CP} {h:CP} {e:Bf} (π:A8 (Nat×Ad)) (L:e.backOk π=true) (j:FZ ok w H h e):FZ ok w (π.map fun p=>H.getD p.1 ⟨undef,0⟩) h (e.back π):=by
 cases e with
 |dead=>trivial
 |box cs=>
  obtain⟨b,vs,T,q,u,z,I⟩:=j;refine⟨b,vs,T,q,u,MW,fun i hi=>?_⟩;rw[DY]at hi;rw[S9 _ _ _ hi];refine⟨?_,(I i hi).2.vC π⟩;simp only[Bf.backOk,EY]at L;exact L _ OC
 |arr e s es=>
  obtain⟨q,u,xs,z,I,M⟩:=j;refine⟨q,u,xs,z,I,fun i hi=>⟨(M i hi).1,?_⟩⟩;have J:=(M i hi).2;have hm:(flat es).getD i .junk∈flat es:=OC
  unfold flat at hm ⊢;simp only[XA,FY]at hm;obtain⟨x,_,y,_,O⟩:=hm;unfold flat at J;rw[←O]at J ⊢;cases J with |d _ _ h=>exact .d _ _ h
 |map es=>exact j
 |iL es=>exact j
 |iter es vis=>exact j
 |loop tm slots rc st U=>
  obtain⟨l,fn,D,q,u,z,I⟩:=j;refine⟨l,fn,D,q,u,MW,fun t ht=>?_⟩;rw[DY]at ht;rw[S9 _ _ _ ht];exact(I t ht).back π
def aQi {π:A8 (Nat×Ad)} {e:Bf}:(e.back π).live=e.live:=by cases e<;>rfl
def Dv.norm {C:En} {ok:Nat->Prop} {H:A8 CP} {es:A8 Bf} {w:Bc} (hm:Dv C ok H es w) (π:A8 (Nat×Ad)) (U:Uj C.H0.length es π=true):
 Dv C ok (π.map fun p=>H.getD p.1 ⟨undef,0⟩) (SY es π) w:=by
 unfold Uj at U;simp only[Df,Hd,Oa,EY]at U;obtain⟨⟨⟨hlt,hnd⟩,hpre⟩,hbk⟩:=U
 have u:∀(j:Nat) (h:CP),(π.map fun p=>H.getD p.1 ⟨undef,0⟩)[j]? =some h->∃p,π[j]? =some p/\p.1<es.length/\H[p.1]? =some h:=by
  intro j h q;rw[Ji]at q;cases hp:π[j]? with
  |none=>rw[hp]at q;simp at q
  |some p=>
   rw[hp]at q;have z:p.1<es.length:=hlt p (XL hp);refine⟨p,rfl,z,?_⟩;have hkH:p.1<H.length:=by rw[hm.hlen];exact z
   simp[List.getD,hkH]at q ⊢;exact q
 have I:∀(j:Nat) (p:Nat×Ad) (e:Bf),(SY es π)[j]? =some e->π[j]? =some p->p.1<es.length->(p.2=false/\e=.dead)\/(p.2=true/\∃M,es[p.1]? =some M/\e=M.back π/\p∈π):=by
  intro j p e q hp z;unfold SY at q;rw[Ji,hp]at q;cases Z:p.2 with
  |false=>simp[Z]at q;exact .inl ⟨rfl,q.symm⟩
  |true=>
   simp[Z,List.getD,z]at q;exact .inr ⟨rfl,es[p.1],by simp[z],q.symm,XL hp⟩
 refine⟨hm.fr,hm.yF,hm.yG,hm.kM,?_,by simp[SY],?_,?_,?_⟩
 ·intro k v hv;have z:k<C.H0.length:=(Fv.1 hv).1;have h1:((π.take C.H0.length).map (·.1))[k]? =some k:=by rw[hpre];simp[z]
  rw[Ji,MX z]at h1;have h2:=hm.names k v hv;cases hp:π[k]? with
  |none=>rw[hp]at h1;simp at h1
  |some p=>
   rw[hp]at h1;have hpk:p.1=k:=by simpa using h1
   rw[Ji,hp];simp[List.getD,hpk,h2]
 ·intro j e h q hh;obtain⟨p,hp,z,hH⟩:=u j h hh;rcases I j p e q hp z with⟨_,rfl⟩|⟨_,M,J,rfl,L⟩
  ·trivial
  refine(hm.ent p.1 M h J hH).back π ?_;have :=hbk p L;simpa[List.getD,J]using this
 ·intro j e h b q hl hh Z;obtain⟨p,hp,z,hH⟩:=u j h hh;rcases I j p e q hp z with⟨_,rfl⟩|⟨_,M,J,rfl,L⟩
  ·cases hl
  rw[aQi]at hl;exact hm.blk p.1 M h b J hl hH Z
 intro j j' e e' h h' b q hj' hl Y hh hh' Z hb';obtain⟨p,hp,z,hH⟩:=u j h hh;obtain⟨p',hp',hk',hH'⟩:=u j' h' hh';rcases I j p e q hp z with⟨_,rfl⟩|⟨hpt,M,J,rfl,L⟩
 ·cases hl
 rcases I j' p' e' hj' hp' hk' with⟨_,rfl⟩|⟨O,e0',aHF,rfl,hmem'⟩
 ·cases Y
 rw[aQi]at hl Y;have hkk:=hm.Ef p.1 p'.1 M e0' h h' b J aHF hl Y hH hH' Z hb';obtain⟨k,bb⟩:=p;obtain⟨k',bb'⟩:=p';simp only at hkk hpt O;subst hkk;subst hpt;subst O;exact aYO hnd j j' k hp hp'
def MV (π:A8 (Nat×Ad)):A8 Ad->A8 Ai->A8 Ai
 |_,[]=>[]
 |true::m,x::xs=>x.back π::MV π m xs
 |false::m,_::xs=>.junk::MV π m xs
 | [],_::xs=>.junk::MV π [] xs
def a0d (π:A8 (Nat×Ad)):∀(m:A8 Ad) (l:A8 Ai),(MV π m l).length=l.length
 |_,[]=>by unfold MV;rfl
 |true::m,x::xs=>by simp[MV,a0d π m xs]
 |false::m,x::xs=>by simp[MV,a0d π m xs]
 | [],x::xs=>by simp[MV,a0d π [] xs]
def a2G (π:A8 (Nat×Ad)):∀(m:A8 Ad) (l:A8 Ai) (t:Nat),(MV π m l).getD t .junk=(l.getD t .junk).back π\/(MV π m l).getD t .junk=.junk
 |_,[],t=>by unfold MV;right;simp
 |true::m,x::xs,0=>by left;simp[MV]
 |false::m,x::xs,0=>by right;simp[MV]
 | [],x::xs,0=>by right;simp[MV]
 |true::m,x::xs,t+1=>by simpa[MV]using a2G π m xs t
 |false::m,x::xs,t+1=>by simpa[MV]using a2G π m xs t
 | [],x::xs,t+1=>by simpa[MV]using a2G π [] xs t
def aCb (σ S:BR):Prop:=∃(m:A8 Ad) (π:A8 (Nat×Ad)),Uj σ.base σ.ents π=true/\S=⟨MV π m σ.slots,SY σ.ents π,σ.base⟩
def Holds.aHG {C:En} {ok:Nat->Prop} {H:A8 CP} {σ S:BR} {a:Act} {w:Bc} (h:Holds C ok H σ a w) (hs:aCb σ S):∃H',Holds C ok H' S a w:=by
 obtain⟨m,π,j,rfl⟩:=hs;refine⟨π.map fun p=>H.getD p.1 ⟨undef,0⟩,h.mem.norm π (h.base▸j),by simp[a0d,h.size],h.defers,h.base,fun t ht=>?_⟩;rcases a2G π m σ.slots t with e|e
 ·simp only[e];exact(h.get (.tmp t)).back π
 simp only[e];exact .junk _
def Cb (σ S:BR):Prop:=∀(C:En) (ok:Nat->Prop) (H:A8 CP) (a:Act) (w:Bc),Holds C ok H σ a w->∃ok' H',Holds C ok' H' S a w
def aCb.sub {σ S:BR} (h:aCb σ S):Cb σ S:=fun _ ok _ _ _ j=>let⟨H',h'⟩:=j.aHG h;⟨ok,H',h'⟩
def abr {σ S:BR} (j:BR) (h:∀C ok H a w,Holds C ok H σ a w->∃ok',Holds C ok' H j a w) (k:Cb j S):Cb σ S:=fun C _ H a w q=>let⟨ok',h'⟩:=h C _ H a w q;k C ok' H a w h'
section
variable {P:Cm} {ops:Bh Oper} {Q:Exit->Act->Bc->Prop}
def toCome (j:Bh Ad):Nat:=(j.toList.filter (!·)).length
def toCome_set {j:Bh Ad} {i:Nat} (hi:i<j.size) (h:j.getD i true=false):toCome (j.setIfInBounds i true)+1=toCome j:=by
 unfold toCome;have hl:j.toList[i]' Gp=false:=by simpa[Array.getD,hi]using h
 have e:j.toList=j.toList.take i++false::j.toList.drop (i+1):=by
  rw[←hl,List.getElem_cons_drop,SI]
 have q:(j.setIfInBounds i true).toList=j.toList.take i++true::j.toList.drop (i+1):=by
  rw[aI1,aJI,DX Gp]
 rw[q]
 conv=>rhs;rw[e]
 simp[PS];omega
def written (ops:Bh Oper):A8 Tmp:=ops.toList.filterMap (·.dst)
def Xj (ops:Bh Oper):Ad:=(List.range ops.size).all fun i=>(List.range ops.size).all fun j=>i==j||match(ops[i]?).bind (·.dst),(ops[j]?).bind (·.dst)with
 |some d,some q=>d != q
 |_,_=>true
def Wn (ops:Bh Oper) (n:Nat):Ad:=(written ops).all fun d=>d<n
def aTD (h:Xj ops=true):∀(i j:Nat) (o q:Oper) (d:Tmp),ops[i]? =some o->ops[j]? =some q->o.dst=some d->q.dst=some d->i=j:=by
 intro i j o q d u z I J;unfold Xj at h;rw[EY]at h;have hi:i<ops.size:=(Gl.1 u).1;have L:j<ops.size:=(Gl.1 z).1;have :=h i Gp;rw[EY]at this;have :=this j Y6;rw[u,z]at this;simp[I,J]at this;exact this
def aQD {i:Nat} {o:Oper} {d:Tmp} (h:ops[i]? =some o) (hd:o.dst=some d):d∈written ops:=by
 unfold written;rw[TR]
 exact⟨o,by
  have⟨hi,j⟩:=Gl.1 h
  rw[←j];exact Array.getElem_mem_toList hi,hd⟩
def a2u {a:Act} {d:Tmp} {v:Aw} (h:d<a.tmps.size):(a.put (some d) v).tmps.getD d undef=v:=by
 simp[Act.put,Array.getD,h]
def a1K {a:Act} {d t:Tmp} {v:Aw} (h:d≠t):(a.put (some d) v).tmps.getD t undef=a.tmps.getD t undef:=by
 simp[Act.put,Io,Nb h]
def size_put {a:Act} {d:AO Tmp} {v:Aw}:(a.put d v).tmps.size=a.tmps.size:=by cases d<;>simp[Act.put]
def yU {a:Act} {d:AO Tmp} {v:Aw}:(a.put d v).defers=a.defers:=by cases d<;>rfl
end
def WQ (ops:Bh Oper) (σ:BR) (g:AO (Nat×Ad)):Prop:=g=none\/
 ∃j q d b,g=some (j,q)/\(ops[j]?).bind (·.dst)=some d/\σ.slots.getD d .junk=.d (.lit (.bool b))/\b=q
def Yn (ops:Bh Oper) (σ:BR) (g:AO (Nat×Ad)):Prop:=
 ∃j q d v,g=some (j,q)/\(ops[j]?).bind (·.dst)=some d/\σ.slots.getD d .junk=.d (.lit v)/\(v=.bool (!q)\/v=undef)
def aZu {ops:Bh Oper} {σ:BR} {g:AO (Nat×Ad)} (j:Nat) (q:Ad) (d:Nat) (b:Ad) (u:g=some (j,q)) (hd:(ops[j]?).bind (·.dst)=some d) (hs:σ.slots.getD d .junk=.d (.lit (.bool b))) (z:b= !q):Yn ops σ g:=⟨j,q,d,_,u,hd,hs,.inl (by rw[z])⟩
def afj {ops:Bh Oper} {σ:BR} {g:AO (Nat×Ad)} (j:Nat) (q:Ad) (d:Nat) (u:g=some (j,q)) (hd:(ops[j]?).bind (·.dst)=some d) (hs:σ.slots.getD d .junk=.d (.lit undef)):Yn ops σ g:=⟨j,q,d,_,u,hd,hs,.inr rfl⟩
def R.bool {ok:Nat->Prop} {w:Bc} {H:A8 CP} {u v:Aw} (h:R ok w H (.d (.lit u)) v):v=u:=by
 cases h with |d _ _ h=>cases h;rfl
def afc {C:En} {ok:Nat->Prop} {H:A8 CP} {σ:BR} {a:Act} {w:Bc} (h:Holds C ok H σ a w) {ops:Bh Oper} {j d:Nat} {v:Aw}
 (z:(ops[j]?).bind (·.dst)=some d) (q:σ.slots.getD d .junk=.d (.lit v)):yielded ops a.tmps j=(match v with | .bool b=>some b|_=>none):=by
 have hd:d<σ.slots.length:=by
  apply ig;intro I;rw[uz I]at q;cases q
 have u:=(q▸h.slot d hd).bool
 have hs:a.tmps[d]? =some v:=by
  have :d<a.tmps.size:=by rw[h.size];exact hd
  simp[Array.getD,this]at u;simp[this,u]
 unfold yielded;rw[z];simp only[Af,hs];cases v<;>rfl
def afx {C:En} {ok:Nat->Prop} {H:A8 CP} {σ:BR} {a:Act} {w:Bc} (h:Holds C ok H σ a w) {ops:Bh Oper} {j d:Nat} {b:Ad}
 (z:(ops[j]?).bind (·.dst)=some d) (q:σ.slots.getD d .junk=.d (.lit (.bool b))):yielded ops a.tmps j=some b:=by
 have hd:d<σ.slots.length:=by
  apply ig;intro I;rw[uz I]at q;cases q
 have u:=(q▸h.slot d hd).bool
 have hs:a.tmps[d]? =some (.bool b):=by
  have :d<a.tmps.size:=by rw[h.size];exact hd
  simp[Array.getD,this]at u;simp[this,u]
 unfold yielded;rw[z];simp only[Af,hs]
def Q7 {C:En} {ok:Nat->Prop} {H:A8 CP} {σ:BR} {a:Act} {w:Bc} (h:Holds C ok H σ a w) {ops:Bh Oper} {o:Oper} (q:WQ ops σ o.guard):Region.wanted o (yielded ops a.tmps)=true:=by
 unfold Region.wanted;rcases q with q|⟨j,u,d,b,q,z,I,rfl⟩
 ·rw[q]
 rw[q];show(yielded ops a.tmps j==some b)=true;rw[afx h z I];simp
def aKZ {C:En} {ok:Nat->Prop} {H:A8 CP} {σ:BR} {a:Act} {w:Bc} (h:Holds C ok H σ a w) {ops:Bh Oper} {o:Oper} (u:Yn ops σ o.guard):Region.wanted o (yielded ops a.tmps)=false:=by
 unfold Region.wanted;obtain⟨j,q,d,v,u,z,I,J⟩:=u;rw[u];show(yielded ops a.tmps j==some q)=false;rw[afc h z I];rcases J with rfl|rfl
 ·simp
 rfl
def needs (σ:BR):A8 (CM×Ai)->Prop
 | []=>True
 |n::ns=>σ.get n.1=n.2/\needs σ ns
def Q5 {σ:BR}:∀{ns:A8 (CM×Ai)},needs σ ns->∀n∈ns,σ.get n.1=n.2
 | [],_,n,h=>J8
 |m::ns,j,n,h=>by
  rcases F5.1 h with rfl|h
  ·exact j.1
  exact Q5 j.2 n h
def tmpsOf (o:Oper):A8 Tmp:=o.op.operands.toList.filterMap fun | .tmp t=>some t|_=>none
def KF (ns:A8 (CM×Ai)):A8 Tmp:=ns.filterMap fun n=>match n.1 with | .tmp t=>some t|_=>none
def Sr (P:Cm) (ops:Bh Oper) (σ:BR) (x:Ai) (E:A8 Bf) (bar:Ad) (o:Oper):Prop:=
 ((∃ns,CS P o ns σ.ents x E/\needs σ ns/\(KF ns).all (tmpsOf o).contains=true/\WQ ops σ o.guard)\/(x=.d (.lit undef)/\E=σ.ents/\Yn ops σ o.guard))/\(bar=false->E=σ.ents)
def aT3 {P:Cm} {ops:Bh Oper} {σ:BR} {x:Ai} {o:Oper} {ns:A8 (CM×Ai)} (h:CS P o ns σ.ents x σ.ents) (j:needs σ ns) (q:WQ ops σ o.guard) (ht:(KF ns).all (tmpsOf o).contains=true):Sr P ops σ x σ.ents false o:=
 ⟨.inl ⟨ns,h,j,ht,q⟩,fun _=>rfl⟩
def JF (ro:AO Nat):Fence:={ fn:=fun _=>True,depth:=none,alive:=false,round:=ro }
def aCG {ro:AO Nat} {n:Nat} {P:Cm} {f:FuncId} {args:Bh Aw} {w:Bc} {R:Ending->Bc->Prop}:CallsIn (JF ro) n P f args w R↔Calls P f args w R:=
 callsIn_wide (n:=n)
def adz {ro:AO Nat} {n:Nat} {P:Cm} {j:String} {args:Bh Aw} {w:Bc} {R:Aw->Bc->Prop} (h:Rows P j args w R):RowsIn (JF ro) n P j args w R:=
 fun c cs _=>let⟨v,w',r,s⟩:=h c cs;⟨v,w',r,(stepsIn_wide (P:=P)).2 s⟩
def CS.aD0 {P:Cm} {o:Oper} {ns:A8 (CM×Ai)} {es es':A8 Bf} {x:Ai} (h:CS P o ns es x es') {C:En} {ok:Nat->Prop} {H:A8 CP} {a:Act} {w:Bc} (hm:Dv C ok H es w) (u:∀n∈ns,R ok w H n.2 (a.eval n.1)):∀c,o.op≠ .defer c:=by
 intro c z;have j:=h C ok H a w (fun _ _ _=>False) hm u;unfold Oper.wp execOp at j;rw[z]at j;simp only[Fl]at j;cases q:(resolve a.eval c o.type).run P w with
 |ok d w'=>
  rw[q]at j;simp only[Result.andThen]at j;obtain⟨v,_,_,I,_⟩:=j;have :=BP (fun a=>a.defers.length) I;cases J:o.dst<;>simp[Act.put,J]at this
 |halt x w'=>
  rw[q]at j;cases x<;>exact j
def CS.inR {P:Cm} {o:Oper} {ns:A8 (CM×Ai)} {es es':A8 Bf} {x:Ai} (h:CS P o ns es x es') (ro:AO Nat) (C:En) (ok:Nat->Prop) (H:A8 CP) (a:Act) (w:Bc) (Q:Exit->Act->Bc->Prop)
 (hm:Dv C ok H es w) (q:∀n∈ns,R ok w H n.2 (a.eval n.1)):
 o.wpIn (JF ro) 0 P a w (fun a' w'=>∃v ok' H',a'=a.put o.dst v/\Ep ok w ok' w'/\Names H H'/\Dv C ok' H' es' w'/\R ok' w' H' x v) Q:=by
 have j:=h C ok H a w Q hm q;refine⟨fun _ _=>trivial,?_⟩;rw[iT _ _ _ (h.aD0 hm q)];unfold Oper.wp at j;generalize(execOp a.eval o).run P w=r at j;cases r with
 |ok n w'=>
  cases n<;>first
   |exact j
   |exact j.elim
   |exact⟨fun h=>JD,aCG.2 j⟩
   |exact⟨fun h=>JD,adz j⟩
 |halt x w'=>cases x<;>exact j
inductive Chain (P:Program) (ops:Array Oper):List Oper->BR->BR->Prop
 |nil (σ:BR):Chain P ops [] σ σ
 |op {o:Oper} {rest:List Oper} {σ σ':BR} {ns:List (Operand×Ai)} {x:Ai} (d:Option Tmp) (h:CS P o ns σ.ents x σ.ents) (hn:needs σ ns) (hg:WQ ops σ o.guard) (hd:o.dst=d)
  (k:Chain P ops rest (σ.qJ d x) σ'):Chain P ops (o::rest) σ σ'
 |oe {o:Oper} {rest:List Oper} {σ σ':BR} {ns:List (Operand×Ai)} {x:Ai} {es':List Bf} (d:Option Tmp) (E:List Bf) (h:CS P o ns σ.ents x es') (he:es'=E) (hn:needs σ ns) (hg:WQ ops σ o.guard) (hd:o.dst=d)
  (k:Chain P ops rest (σ.put d x E) σ'):Chain P ops (o::rest) σ σ'
 |skip {o:Oper} {rest:List Oper} {σ σ':BR} (d:Option Tmp) (hg:Yn ops σ o.guard) (hd:o.dst=d) (k:Chain P ops rest (σ.qJ d (.d (.lit undef))) σ'):Chain P ops (o::rest) σ σ'
 |any {o:Oper} {rest:List Oper} {σ σ':BR} {x:Ai} (d:Option Tmp) (h:Sr P ops σ x σ.ents false o) (hd:o.dst=d) (k:Chain P ops rest (σ.qJ d x) σ'):Chain P ops (o::rest) σ σ'
 |ah4 {o:Oper} {rest:List Oper} {σ σ':BR} {x:Ai} {E:List Bf} {bar:Bool} (d:Option Tmp) (h:Sr P ops σ x E bar o) (hd:o.dst=d) (k:Chain P ops rest (σ.put d x E) σ'):Chain P ops (o::rest) σ σ'
 |conv {rest:List Oper} {σ σ':BR} (σ2:BR) (h:∀C ok H a w,Holds C ok H σ a w->∃ok',Holds C ok' H σ2 a w) (k:Chain P ops rest σ2 σ'):Chain P ops rest σ σ'
def Chain.sound {P:Cm} {ops:Bh Oper} {l:A8 Oper} {σ σ':BR} (h:Chain P ops l σ σ') {ro:AO Nat} {C:En} {H0:A8 CP} {Q:Exit->Act->Bc->Prop}:
 ∀{ok:Nat->Prop} {H:A8 CP} {a:Act} {w:Bc},Holds C ok H σ a w->Names H0 H->(∀ok' H' a' w',Holds C ok' H' σ' a' w'->Names H0 H'->Q .normal a' w')->wpListIn (JF ro) 0 P ops Q l a w:=by
 induction h with
 |nil σ=>intro ok H a w j O z;exact z ok H a w j O
 | @op o rest σ σ' ns x d U O L hd k M=>
   intro ok H a w j q z;subst hd;unfold wpListIn;rw[DX (Q7 j L)];refine Qm ?_ (U.inR ro C ok H a w Q j.mem (fun n I=>Q5 O n I▸j.get n.1));rintro a' w' ⟨v,ok',H',rfl,J,u,hm,Y⟩;exact M (j.put o.dst J u hm Y) (q.trans u) z
 | @oe o rest σ σ' ns x es' d E U he O L hd k M=>
   intro ok H a w j q z;subst hd;subst he;unfold wpListIn;rw[DX (Q7 j L)];refine Qm ?_ (U.inR ro C ok H a w Q j.mem (fun n I=>Q5 O n I▸j.get n.1));rintro a' w' ⟨v,ok',H',rfl,J,u,hm,Y⟩;exact M (j.put o.dst J u hm Y) (q.trans u) z
 | @skip o rest σ σ' d L hd k M=>
   intro ok H a w j q z;subst hd;unfold wpListIn;rw[Dk jP];exact⟨fun _ _=>trivial,M (j.put o.dst (.refl _ _) (.refl _) j.mem (.d _ _ (.lit _))) q z⟩
 | @any o rest σ σ' x d hs hd k M=>
   intro ok H a w j q z;subst hd;unfold wpListIn;rcases hs.1 with⟨ns,U,O,_,L⟩|⟨rfl,_,L⟩
   ·rw[DX (Q7 j L)];refine Qm ?_ (U.inR ro C ok H a w Q j.mem (fun n I=>Q5 O n I▸j.get n.1));rintro a' w' ⟨v,ok',H',rfl,J,u,hm,Y⟩;exact M (j.put o.dst J u hm Y) (q.trans u) z
   rw[Dk jP];exact⟨fun _ _=>trivial,M (j.put o.dst (.refl _ _) (.refl _) j.mem (.d _ _ (.lit _))) q z⟩
 | @ah4 o rest σ σ' x E bar d hs hd k M=>
   intro ok H a w j q z;subst hd;unfold wpListIn;rcases hs.1 with⟨ns,U,O,_,L⟩|⟨rfl,rfl,L⟩
   ·rw[DX (Q7 j L)];refine Qm ?_ (U.inR ro C ok H a w Q j.mem (fun n I=>Q5 O n I▸j.get n.1));rintro a' w' ⟨v,ok',H',rfl,J,u,hm,Y⟩;exact M (j.put o.dst J u hm Y) (q.trans u) z
   rw[Dk jP];exact⟨fun _ _=>trivial,M (j.put o.dst (.refl _ _) (.refl _) j.mem (.d _ _ (.lit _))) q z⟩
 |conv σ2 hc k M=>
  intro ok H a w j q z;obtain⟨ok',Z⟩:=hc C ok H a w j;exact M Z q z
def QN :Code->Ad
 | .seq a b=>QN a&&QN b
 | .cond _ a b=>QN a&&QN b
 | .block _ a=>QN a
 | .loop a=>QN a
 | .scope a=>QN a
 | .rangeFunc .. =>false
 |_=>true
def uw (ro:AO Nat) (c:Code):Prop:=ro=none\/QN c=true
def uw.two {ro:AO Nat} {c x y:Code} (h:uw ro c) (e:QN c=(QN x&&QN y)):uw ro x/\uw ro y:=by
 rcases h with h|h
 ·exact⟨.inl h,.inl h⟩
 rw[e,Df]at h;exact⟨.inr h.1,.inr h.2⟩
def af0 (P:Cm) (c:Code) (σ:BR) (Q:Exit->BR->Prop):Prop:=
 ∀(ro:AO Nat),uw ro c->∀(C:En) (ok:Nat->Prop) (H:A8 CP) (a:Act) (w:Bc),Holds C ok H σ a w->c.wpIn (JF ro) 0 P (fun e a' w'=>∃ok' H' σ',Holds C ok' H' σ' a' w'/\Q e σ') a w
structure Bz (P:Program) (c:Code) (σ:BR) (Q:Exit->BR->Prop):Prop where
 run:af0 P c σ Q
section
variable {P:Cm} {σ σ':BR} {Q:Exit->BR->Prop}
def Bz.mono {c:Code} {Q':Exit->BR->Prop} (h:Bz P c σ Q) (j:∀e σ,Q e σ->Q' e σ):Bz P c σ Q':=
 ⟨fun ro q C ok H a w u=>VX (h.run ro q C ok H a w u) fun _ _ _ ⟨ok',H',σ',z,I⟩=>⟨ok',H',σ',z,j _ _ I⟩⟩
def Bz.region {id:Nat} {ops:Bh Oper} (h:Chain P ops ops.toList σ σ') (j:Q .normal σ'):Bz P (.region id ops false) σ Q:=⟨fun ro _ C ok H a w q=>
 aSB (h.sound q (.refl H) fun ok' H' a' w' u _=>⟨ok',H',σ',u,j⟩)⟩
def Bz.skip (h:Q .normal σ):Bz P .skip σ Q:=⟨fun _ _ _ ok H a w j=>wpIn_skip ⟨ok,H,σ,j,h⟩⟩
def G9:=@Bz.skip
def Bz.label {l:Nat} (h:Q .normal σ):Bz P (.label l) σ Q:=⟨fun _ _ _ ok H a w j=>wpIn_label ⟨ok,H,σ,j,h⟩⟩
def Bz.exit {i:Nat} (h:Q (.exit i) σ):Bz P (.exit i) σ Q:=⟨fun _ _ _ ok H a w j=>wpIn_exit ⟨ok,H,σ,j,h⟩⟩
def DF:=@Bz.exit
def Bz.ret (h:Q .ret σ):Bz P .ret σ Q:=⟨fun _ _ _ ok H a w j=>wpIn_ret ⟨ok,H,σ,j,h⟩⟩
def Ew:=@Bz.ret
def KH (K:BR->Prop) (Q:Exit->BR->Prop):Exit->BR->Prop
 | .normal,σ=>K σ
 |e,σ=>Q e σ
def Bz.seq {x y:Code} (K:BR->Prop) (z:Bz P x σ (KH K Q)) (I:∀σ',K σ'->Bz P y σ' Q):Bz P (.seq x y) σ Q:=⟨fun ro j C ok H a w J=>
 wpIn_seq (VX (z.run ro (j.two rfl).1 C ok H a w J) (by
  rintro e a' w' ⟨ok',H',σ',q,u⟩;cases e with
  |normal=>exact(I σ' u).run ro (j.two rfl).2 C ok' H' a' w' q
  |_=>exact⟨ok',H',σ',q,u⟩))⟩
def aFH {x y:Code} (j:BR) (q:Bz P x σ (KH (fun σ'=>σ'=j) Q)) (u:Bz P y j Q):Bz P (.seq x y) σ Q:=Bz.seq _ q (fun _ e=>e▸u)
def Bz.cond {c:CM} {x y:Code} (b:Ad) (u:σ.get c=.d (.lit (.bool b))) (ht:b=true->Bz P x σ Q) (z:b=false->Bz P y σ Q):Bz P (.cond c x y) σ Q:=by
 refine⟨fun ro q C ok H a w j=>?_⟩;have e:=(u▸j.get c).bool;exact wpIn_cond_split e (fun h=>(ht h).run ro (q.two rfl).1 C ok H a w j) (fun h=>(z h).run ro (q.two rfl).2 C ok H a w j)
def aR9 (i:Nat) (Q:Exit->BR->Prop):Exit->BR->Prop
 | .exit j,σ=>if j=i then Q .normal σ else Q (.exit j) σ
 |e,σ=>Q e σ
def Bz.block {i:Nat} {c:Code} (h:Bz P c σ (aR9 i Q)):Bz P (.block i c) σ Q:=⟨fun ro I C ok H a w J=>
 wpIn_block (VX (h.run ro I C ok H a w J) (by
  rintro e a' w' ⟨ok',H',σ',u,q⟩;cases e with
  |exit j=>
   show if j=i then _ else _
   simp only[aR9]at q;split<;>rename_i z
   ·rw[DX z]at q;exact⟨ok',H',σ',u,q⟩
   rw[Dk z]at q;exact⟨ok',H',σ',u,q⟩
  |_=>exact⟨ok',H',σ',u,q⟩))⟩
def Ak:=@Bz.block
def acG {ro:AO Nat} {P:Cm} {Q:Exit->Act->Bc->Prop} {c:Code} (I:Nat->Act->Bc->Prop)
 (round:∀n a w,I n a w->c.wpIn (JF ro) 0 P (Exit.then (fun a' w'=>∃m,m<n/\I m a' w') Q) a w):∀n a w,I n a w->(Code.loop c).wpIn (JF ro) 0 P Q a w:=by
 intro n a w Z b k cs J L M
 have key:∀n a w,I n a w->∃e a' w',Q e a' w'/\ArrivesIn (Machine.fenced P (JF ro)) P (lone (b.atR a (.code c::.inLoop c::k)) cs w) b k cs e a' w':=by
  intro n
  induction n using Nat.strongRecOn with
  |_ n ih=>
   intro a w hI;obtain⟨e,u,z,j,harr⟩:=round n a w hI b (.inLoop c::k) cs J L M;cases e with
   |normal=>
    obtain⟨m,O,U⟩:=j;obtain⟨e₂,a₂,w₂,Y,q⟩:=ih m O u z U;exact⟨e₂,a₂,w₂,Y,.of_steps (StepsIn.trans harr (.one (fenced_calm L M rfl) stepR_inLoop)) q⟩
   |exit id=>exact⟨_,u,z,j,.pass (x:=.inLoop c) rfl (fun _ _=>.inl Bj) harr⟩
   |goto l=>exact⟨_,u,z,j,.pass (x:=.inLoop c) rfl (fun _ _=>.inl Bj) harr⟩
   |ret=>exact⟨_,u,z,j,.pass (x:=.inLoop c) rfl (fun _ _=>.inl Bj) harr⟩
   |panic ch=>exact⟨_,u,z,j,.pass (x:=.inLoop c) rfl (fun _ _=>.inl Bj) harr⟩
   |outgrown=>exact⟨_,u,z,j,.pass (x:=.inLoop c) rfl (fun _ _=>.inl Bj) harr⟩
 obtain⟨e,a',w',j,harr⟩:=key n a w Z;exact⟨e,a',w',j,.of_steps (.one (fenced_calm L M rfl) stepR_loop) harr⟩
def Bz.loop {c:Code} (I:Nat->BR->Prop) (n:Nat) (h:I n σ) (round:∀n σ,I n σ->Bz P c σ (KH (fun σ'=>∃m,m<n/\I m σ') Q)):Bz P (.loop c) σ Q:=by
 refine⟨fun ro J C ok H a w j=>?_⟩;refine acG (fun n a w=>∃ok H σ,Holds C ok H σ a w/\I n σ) ?_ n a w ⟨ok,H,σ,j,h⟩;rintro n a w ⟨ok,H,σ,j,L⟩;refine VX ((round n σ L).run ro J C ok H a w j) ?_;rintro e a' w' ⟨ok',H',σ',u,z⟩;cases e with
 |normal=>obtain⟨m,hm,q⟩:=z;exact⟨m,hm,ok',H',σ',u,q⟩
 |_=>exact⟨ok',H',σ',u,z⟩
end
def Bz.sub {P:Cm} {σ S:BR} {Q:Exit->BR->Prop} {c:Code} (hs:Cb σ S) (h:Bz P c S Q):Bz P c σ Q:=⟨fun ro j C ok H a w q=>by
 obtain⟨ok',H',h'⟩:=hs C ok H a w q
 exact h.run ro j C ok' H' a w h'⟩
def DJ:=@Bz.sub
section
variable {P:Cm} {ops:Bh Oper} {Q:Exit->Act->Bc->Prop}
def aAE {F:Fence} {n:Nat} (I:Bh Ad->Act->Bc->Prop) (j:∀l a w,I l a w->l.size=ops.size)
 (z:∀l a w,I l a w->∀i,i∈Region.ready .any ops l->wpOpIn F n P ops Q i (fun a' w'=>I (l.setIfInBounds i true) a' w') a w)
 (u:∀l a w,I l a w->Region.ready .any ops l=[]->Q .normal a w):
 ∀(Az:Nat) l a w,toCome l<=Az->I l a w->wpAnyIn F n P .any ops Q Az l a w:=by
 intro Az
 induction Az with
 |zero=>
  intro l a w O L
  have U:Region.ready .any ops l=[]:=by
   unfold Region.ready;rw[zI];intro i hi;have J:i<l.size:=by rw[j l a w L];simpa using hi
   have Y:l.toList.filter (!·)=[]:=Hw (by unfold toCome at O;omega);rw[zI]at Y;have :=Y (l[i]) Bj;have M:l[i]=true:=aLw
   simp[Array.getD,J,M]
  exact⟨U,u l a w L U⟩
 |succ Az Z=>
  intro l a w O L;refine⟨u l a w L,fun i hi=>?_⟩;have q:=hi;unfold Region.ready at q;rw[HY]at q;have J:i<l.size:=by rw[j l a w L];simpa using q.1
  have hf:l.getD i true=false:=by
   have :=q.2;simp only[Df,Ls]at this;exact this.1
  have hs:=toCome_set J hf;exact wpOpIn_mono (fun a' w' h=>Z _ a' w' AB h) (z l a w L i hi)
end
def I9 (o:Oper) (j:Nat):Ad:=o.after.toList.any fun e=>e.on=j&&Region.binds .any e
def Wj (ops:Bh Oper):Ad:=(List.range ops.size).all fun i=>match ops[i]? with
 |some o=>((List.range ops.size).all fun j=>match(ops[j]?).bind (·.dst)with
  |some d=> !(tmpsOf o).contains d||I9 o j||(match ops[j]? with |some q=>I9 q i|none=>false)
  |none=>true)&&(match o.guard with |some (j,_)=>I9 o j|none=>true)
 |none=>true
inductive Fe (P:Program) (ops:Array Oper):List Oper->BR->List Ai->List (List Bf)->List Bool->BR->Prop
 |nil (σ:BR):Fe P ops [] σ [] [] [] σ
 |op {o:Oper} {rest:List Oper} {σ σ':BR} {ns:List (Operand×Ai)} {x:Ai} {rs:List Ai} {ess:List (List Bf)} {bs:List Bool} (d:Option Tmp) (h:CS P o ns σ.ents x σ.ents) (hn:needs σ ns)
  (hg:WQ ops σ o.guard) (hd:o.dst=d) (ht:(KF ns).all (tmpsOf o).contains=true) (k:Fe P ops rest (σ.qJ d x) rs ess bs σ'):Fe P ops (o::rest) σ (x::rs) (σ.ents::ess) (false::bs) σ'
 |oe {o:Oper} {rest:List Oper} {σ σ':BR} {ns:List (Operand×Ai)} {x:Ai} {es':List Bf} {rs:List Ai} {ess:List (List Bf)} {bs:List Bool} (d:Option Tmp) (E:List Bf) (h:CS P o ns σ.ents x es') (he:es'=E) (hn:needs σ ns)
  (hg:WQ ops σ o.guard) (hd:o.dst=d) (ht:(KF ns).all (tmpsOf o).contains=true) (k:Fe P ops rest (σ.put d x E) rs ess bs σ'):Fe P ops (o::rest) σ (x::rs) (E::ess) (true::bs) σ'
 |any {o:Oper} {rest:List Oper} {σ σ':BR} {x:Ai} {rs:List Ai} {ess:List (List Bf)} {bs:List Bool} (d:Option Tmp) (h:Sr P ops σ x σ.ents false o) (hd:o.dst=d) (k:Fe P ops rest (σ.qJ d x) rs ess bs σ'):Fe P ops (o::rest) σ (x::rs) (σ.ents::ess) (false::bs) σ'
 |ah4 {o:Oper} {rest:List Oper} {σ σ':BR} {x:Ai} {E:List Bf} {bar:Bool} {rs:List Ai} {ess:List (List Bf)} {bs:List Bool} (d:Option Tmp) (h:Sr P ops σ x E bar o) (hd:o.dst=d) (k:Fe P ops rest (σ.put d x E) rs ess bs σ'):Fe P ops (o::rest) σ (x::rs) (E::ess) (bar::bs) σ'
 |skip {o:Oper} {rest:List Oper} {σ σ':BR} {rs:List Ai} {ess:List (List Bf)} {bs:List Bool} (d:Option Tmp) (hg:Yn ops σ o.guard) (hd:o.dst=d) (k:Fe P ops rest (σ.qJ d (.d (.lit undef))) rs ess bs σ'):Fe P ops (o::rest) σ (.d (.lit undef)::rs) (σ.ents::ess) (false::bs) σ'
section
variable {P:Cm} {ops:Bh Oper} {es:A8 Bf}
def GK (ops:Bh Oper) (σ0:BR) (r:Nat->Ai) (ev:Nat->A8 Bf):Nat->BR
 |0=>σ0
 |i+1=>match ops[i]? with
  |some o=>(GK ops σ0 r ev i).put o.dst (r i) (ev i)
  |none=>GK ops σ0 r ev i
def Fe.azQ (N:Nat) {l:A8 Oper} {σ σ':BR} {rs:A8 Ai} {ess:A8 (A8 Bf)} {bs:A8 Ad} (h:Fe P ops l σ rs ess bs σ') (σ0:BR) (r:Nat->Ai) (ev:Nat->A8 Bf) (bar:Nat->Ad):∀i,(∀k:Nat,k<l.length->l[k]? =ops[i+k]?)->i+l.length=N->σ=GK ops σ0 r ev i->
 (∀(k:Nat) y,rs[k]? =some y->r (i+k)=y)->(∀(k:Nat) y,ess[k]? =some y->ev (i+k)=y)->(∀(k:Nat) y,bs[k]? =some y->bar (i+k)=y)->
 (∀j (o:Oper),i<=j->j<N->ops[j]? =some o->Sr P ops (GK ops σ0 r ev j) (r j) (ev j) (bar j) o)/\σ'=GK ops σ0 r ev N:=by
 induction h with
 |nil σ=>
  intro i hl J I M _ _;have :i=N:=TL
  subst this;exact⟨fun j o Z L ho=>AB,I⟩
 | @op o rest σ σ' ns x rs ess bs d ho hn hg hd ht k ih=>
   intro i hl J I M O hb;subst hd;have U:ops[i]? =some o:=rJ
   have Y:r i=x:=aE6
   have u:ev i=σ.ents:=aKv
   obtain⟨h1,h2⟩:=ih (i+1) (fun k hk=>sS) iq (by
    rw[BR.akm];simp only[GK,U,Y,u];rw[←I]) (fun k y z=>yg)
    (fun k y z=>vO) (fun k y z=>qj)
   refine⟨fun j o' Z L q=>?_,h2⟩;by_cases e:i=j
   ·subst e;rw[U]at q;obtain rfl:=Dh q;exact⟨.inl ⟨ns,by rw[Y,u,←I];exact ho,I▸hn,ht,I▸hg⟩,fun _=>by rw[u,←I]⟩
   exact h1 j o' AB L q
 | @oe o rest σ σ' ns x es' rs ess bs d E ho hE hn hg hd ht k ih=>
   intro i hl J I M O hb;subst hd;subst hE;have U:ops[i]? =some o:=rJ
   have Y:r i=x:=aE6
   have u:ev i=es':=by simpa using O 0 es' Bj
   have hbr:bar i=true:=by simpa using hb 0 true Bj
   obtain⟨h1,h2⟩:=ih (i+1) (fun k hk=>sS) iq (by
    simp only[GK,U,Y,u];rw[←I]) (fun k y z=>yg)
    (fun k y z=>vO) (fun k y z=>qj)
   refine⟨fun j o' Z L q=>?_,h2⟩;by_cases e:i=j
   ·subst e;rw[U]at q;obtain rfl:=Dh q;exact⟨.inl ⟨ns,by rw[Y,u,←I];exact ho,I▸hn,ht,I▸hg⟩,fun hf=>by rw[hbr]at hf;cases hf⟩
   exact h1 j o' AB L q
 | @any o rest σ σ' x rs ess bs d hs hd k ih=>
   intro i hl J I M O hb;subst hd;have U:ops[i]? =some o:=rJ
   have Y:r i=x:=aE6
   have u:ev i=σ.ents:=aKv
   obtain⟨h1,h2⟩:=ih (i+1) (fun k hk=>sS) iq (by
    rw[BR.akm];simp only[GK,U,Y,u];rw[←I]) (fun k y z=>yg)
    (fun k y z=>vO) (fun k y z=>qj)
   refine⟨fun j o' Z L q=>?_,h2⟩;by_cases e:i=j
   ·subst e;rw[U]at q;obtain rfl:=Dh q;refine⟨?_,fun _=>by rw[u,←I]⟩;rw[Y,u,←I];exact hs.1
   exact h1 j o' AB L q
 | @ah4 o rest σ σ' x E br rs ess bs d hs hd k ih=>
   intro i hl J I M O hb;subst hd;have U:ops[i]? =some o:=rJ
   have Y:r i=x:=aE6
   have u:ev i=E:=by simpa using O 0 E Bj
   have hbr:bar i=br:=by simpa using hb 0 br Bj
   obtain⟨h1,h2⟩:=ih (i+1) (fun k hk=>sS) iq (by
    simp only[GK,U,Y,u];rw[←I]) (fun k y z=>yg)
    (fun k y z=>vO) (fun k y z=>qj)
   refine⟨fun j o' Z L q=>?_,h2⟩;by_cases e:i=j
   ·subst e;rw[U]at q;obtain rfl:=Dh q;rw[Y,u,hbr,←I];exact hs
   exact h1 j o' AB L q
 | @skip o rest σ σ' rs ess bs d hg hd k ih=>
   intro i hl J I M O hb;subst hd;have U:ops[i]? =some o:=rJ
   have Y:r i=.d (.lit undef):=by simpa using M 0 (.d (.lit undef)) Bj
   have u:ev i=σ.ents:=aKv
   obtain⟨h1,h2⟩:=ih (i+1) (fun k hk=>sS) iq (by
    rw[BR.akm];simp only[GK,U,Y,u];rw[←I]) (fun k y z=>yg)
    (fun k y z=>vO) (fun k y z=>qj)
   refine⟨fun j o' Z L q=>?_,h2⟩;by_cases e:i=j
   ·subst e;rw[U]at q;obtain rfl:=Dh q;exact⟨.inr ⟨Y,by rw[u,←I],I▸hg⟩,fun _=>by rw[u,←I]⟩
   exact h1 j o' AB L q
def Fe.facts {l:A8 Oper} {σ σ':BR} {rs:A8 Ai} {ess:A8 (A8 Bf)} {bs:A8 Ad} (h:Fe P ops l σ rs ess bs σ') (σ0:BR) (r:Nat->Ai) (ev:Nat->A8 Bf) (bar:Nat->Ad):∀i,(∀k:Nat,l[k]? =ops[i+k]?)->i+l.length=ops.size->σ=GK ops σ0 r ev i->
 (∀(k:Nat) y,rs[k]? =some y->r (i+k)=y)->(∀(k:Nat) y,ess[k]? =some y->ev (i+k)=y)->(∀(k:Nat) y,bs[k]? =some y->bar (i+k)=y)->
 (∀j (o:Oper),i<=j->ops[j]? =some o->Sr P ops (GK ops σ0 r ev j) (r j) (ev j) (bar j) o)/\σ'=GK ops σ0 r ev ops.size:=by
 intro i hl q I J L M;obtain⟨O,U⟩:=h.azQ ops.size σ0 r ev bar i (fun k _=>hl k) q I J L M;exact⟨fun j o u z=>O j o u (Gl.1 z).1 z,U⟩
def Y4 {σ0:BR} {r:Nat->Ai} {ev:Nat->A8 Bf} {t:Nat}:∀i,(∀j (o:Oper),j<i->ops[j]? =some o->o.dst≠some t)->(GK ops σ0 r ev i).slots.getD t .junk=σ0.slots.getD t .junk
 |0,_=>rfl
 |i+1,h=>by
  have q:=Y4 (σ0:=σ0) (r:=r) (ev:=ev) i (fun j o J u=>h j o AB u);simp only[GK];split
  ·rename_i o u;have z:=h i o AB u;cases hd:o.dst with
   |none=>exact q
   |some d=>
    have I:d≠t:=fun e=>z (by rw[hd,e]);show((GK ops σ0 r ev i).slots.set d (r i)).getD t .junk=_;rw[←q];simp[List.getD,Y8 I]
  exact q
def Xq {σ0:BR} {r:Nat->Ai} {ev:Nat->A8 Bf}:∀i,(GK ops σ0 r ev i).slots.length=σ0.slots.length
 |0=>rfl
 |i+1=>by
  simp only[GK];split
  ·rename_i o j;cases hd:o.dst with
   |none=>exact Xq i
   |some d=>show((GK ops σ0 r ev i).slots.set d (r i)).length=_;rw[bF];exact Xq i
  exact Xq i
def wJ {σ0:BR} {r:Nat->Ai} {ev:Nat->A8 Bf}:∀i,(GK ops σ0 r ev i).base=σ0.base
 |0=>rfl
 |i+1=>by
  simp only[GK];split
  ·exact wJ i
  exact wJ i
def dA {σ0:BR} {r:Nat->Ai} {ev:Nat->A8 Bf} (q:∀(i j:Nat) (o u:Oper) (d:Tmp),ops[i]? =some o->ops[j]? =some u->o.dst=some d->u.dst=some d->i=j) {t j:Nat} {o:Oper} (z:ops[j]? =some o) (hd:o.dst=some t) (ht:t<σ0.slots.length):
 ∀i,j<i->(GK ops σ0 r ev i).slots.getD t .junk=r j
 |0,h=>AB
 |i+1,h=>by
  by_cases e:j=i
  ·subst e;simp only[GK,z,hd];have hl:t<(GK ops σ0 r ev j).slots.length:=by rw[Xq];exact ht
   show((GK ops σ0 r ev j).slots.set t (r j)).getD t .junk=_;simp[List.getD,hl]
  have I:=dA (r:=r) (ev:=ev) q z hd ht i AB;simp only[GK];split
  ·rename_i u J;cases L:u.dst with
   |none=>exact I
   |some d=>
    have M:d≠t:=fun e'=>e (q j i o u t z J hd (by rw[L,e']));show((GK ops σ0 r ev i).slots.set d (r i)).getD t .junk=_;rw[←I];simp[List.getD,Y8 M]
  exact I
def aWp (h:Wj ops=true):∀(i:Nat) (o:Oper),ops[i]? =some o->(∀(j:Nat) (z:Oper) (d:Tmp),ops[j]? =some z->z.dst=some d->d∈tmpsOf o->I9 o j=true\/I9 z i=true)/\(∀j b,o.guard=some (j,b)->I9 o j=true):=by
 intro i o J;unfold Wj at h;rw[EY]at h;have hi:i<ops.size:=(Gl.1 J).1;have I:=h i Gp;rw[J]at I;simp only[Df,EY]at I;refine⟨fun j z d u hd hm=>?_,fun j b L=>?_⟩
 ·have M:j<ops.size:=(Gl.1 u).1;have q:=I.1 j aAR;rw[u]at q;simp only[Af,hd,TQ,Ls]at q;rcases q with(q|q)|q
  ·have :(tmpsOf o).contains d=true:=by simpa using hm
   rw[this]at q;cases q
  ·exact .inl q
  exact .inr q
 have q:=I.2;rw[L]at q;exact q
def VY (ops:Bh Oper) (bs:A8 Ad):Ad:=(List.range ops.size).all fun i=> !(bs.getD i false)||
 (((List.range i).all fun j=>(List.range (i+1)).any fun m=>j<m&&(match ops[m]? with |some o=>I9 o j|none=>false))&&
  ((List.range ops.size).all fun k=> !decide (i<k)||(List.range k).any fun m=>i<=m&&(match ops[k]? with |some o=>I9 o m|none=>false)))
def tX {bs:A8 Ad} (h:VY ops bs=true) {i:Nat} (hi:i<ops.size) (O:bs.getD i false=true) {D:Nat->Prop} (hd:∀(j:Nat) (o:Oper),ops[j]? =some o->D j->∀m,I9 o m=true->D m)
 (U:∀(o:Oper),ops[i]? =some o->∀m,I9 o m=true->D m):∀j,j<i->D j:=by
 unfold VY at h;rw[EY]at h;have I:=h i Gp;simp only[O,Eo,Lj,Df,EY]at I
 have key:∀n j,i-j<=n->j<i->D j:=by
  intro n
  induction n with
  |zero=>intro j Y J;omega
  |succ n Z=>
   intro j Y J;have L:=I.1 j TL;rw[I8]at L;obtain⟨m,hm,M⟩:=L;simp only[og]at hm;simp only[Df,Hd]at M;obtain⟨h6,q⟩:=M;have u:m<ops.size:=AB
   have z:ops[m]? =some ops[m]:=by simp[u]
   rw[z]at q;by_cases e:m=i
   ·subst e;exact U _ z j q
   exact hd m _ z (Z m AB AB) j q
 exact fun j hj=>key (i-j) j (EX _) hj
def aTt {bs:A8 Ad} (h:VY ops bs=true) {i:Nat} (hi:i<ops.size) (Y:bs.getD i false=true) {D:Nat->Prop} (hd:∀(j:Nat) (o:Oper),ops[j]? =some o->D j->∀m,I9 o m=true->D m):
 ∀k,i<k->∀(o:Oper),ops[k]? =some o->(∀m,I9 o m=true->D m)->D i:=by
 unfold VY at h;rw[EY]at h;have L:=h i Gp;simp only[Y,Eo,Lj,Df,EY]at L;intro k
 induction k using Nat.strongRecOn with
 |_ k Z=>
  intro I o M q;have hk:k<ops.size:=(Gl.1 M).1;have O:=L.2 k aVo;simp only[I,decide_true,Eo,Lj,I8]at O;obtain⟨m,hm,U⟩:=O;simp only[og]at hm;simp only[Df,Hd,M]at U;obtain⟨h6,h7⟩:=U;have u:=q m h7;by_cases e:m=i
  ·subst e;exact u
  have J:m<ops.size:=AB
  have z:ops[m]? =some ops[m]:=by simp[J]
  exact Z m hm AB _ z (hd m _ z u)
def U4 (ops:Bh Oper):Ad:=(List.range ops.size).all fun i=>match ops[i]? with
 |some o=>o.after.toList.all fun(e:Edge)=> !Region.binds .any e||(e.on<i)
 |none=>true
def aMi (h:U4 ops=true):∀(i:Nat) (o:Oper),ops[i]? =some o->∀e∈o.after.toList,Region.binds .any e=true->e.on<i:=by
 intro i o j e q u;unfold U4 at h;rw[EY]at h;have hi:i<ops.size:=(Gl.1 j).1;have :=h i Gp;rw[j]at this;rw[EY]at this;have :=this e q;simpa[u]using this
def U5 (ops:Bh Oper) (bs:A8 Ad) (sl:A8 Nat):Ad:=(List.range ops.size).all fun i=> !(bs.getD i false)||(!sl.contains i&&
 ((List.range i).all fun j=>sl.contains j||(List.range (i+1)).any fun m=>(decide (j<m)&& !sl.contains m)&&(match ops[m]? with |some o=>I9 o j|none=>false))&&
  ((List.range ops.size).all fun k=> !decide (i<k)||(List.range k).any fun m=>i<=m&&(match ops[k]? with |some o=>I9 o m|none=>false)))
def aHb {bs:A8 Ad} {sl:A8 Nat} (h:U5 ops bs sl=true) {i:Nat} (hi:i<ops.size) (Y:bs.getD i false=true) {D:Nat->Prop} (hd:∀(j:Nat) (o:Oper),ops[j]? =some o->D j->∀m,I9 o m=true->D m)
 (Z:∀(o:Oper),ops[i]? =some o->∀m,I9 o m=true->D m):∀j,j<i->sl.contains j=false->D j:=by
 unfold U5 at h;rw[EY]at h;have L:=h i Gp;simp only[Y,Eo,Lj,Df,EY]at L
 have key:∀n j,i-j<=n->j<i->sl.contains j=false->D j:=by
  intro n
  induction n with
  |zero=>intro j h2 M _;omega
  |succ n ih=>
   intro j h2 M q;have O:=L.1.2 j aAR;rw[q,Lj,I8]at O;obtain⟨m,hm,U⟩:=O;simp only[og]at hm;simp only[Df,Hd,Ls]at U;obtain⟨⟨h6,u⟩,z⟩:=U;have I:m<ops.size:=AB
   have J:ops[m]? =some ops[m]:=by simp[I]
   rw[J]at z;by_cases e:m=i
   ·subst e;exact Z _ J j z
   exact hd m _ J (ih m AB AB u) j z
 exact fun j hj hs=>key (i-j) j (EX _) hj hs
def aan {bs:A8 Ad} {sl:A8 Nat} (h:U5 ops bs sl=true) {i:Nat} (hi:i<ops.size) (Y:bs.getD i false=true) {D:Nat->Prop} (hd:∀(j:Nat) (o:Oper),ops[j]? =some o->D j->∀m,I9 o m=true->D m):
 ∀k,i<k->∀(o:Oper),ops[k]? =some o->(∀m,I9 o m=true->D m)->D i:=by
 unfold U5 at h;rw[EY]at h;have L:=h i Gp;simp only[Y,Eo,Lj,Df,EY]at L;intro k
 induction k using Nat.strongRecOn with
 |_ k Z=>
  intro I o M q;have hk:k<ops.size:=(Gl.1 M).1;have O:=L.2 k aVo;simp only[I,decide_true,Eo,Lj,I8]at O;obtain⟨m,hm,U⟩:=O;simp only[og]at hm;simp only[Df,Hd,M]at U;obtain⟨h6,h7⟩:=U;have u:=q m h7;by_cases e:m=i
  ·subst e;exact u
  have J:m<ops.size:=AB
  have z:ops[m]? =some ops[m]:=by simp[J]
  exact Z m hm AB _ z (hd m _ z u)
def aPh {bs:A8 Ad} {sl:A8 Nat} (h:U5 ops bs sl=true) {i:Nat} (hi:i<ops.size) (q:bs.getD i false=true):sl.contains i=false:=by
 unfold U5 at h;rw[EY]at h;have j:=h i Gp;simp only[q,Eo,Lj,Df,Ls]at j;exact j.1.1
def Bz.aye {id:Nat} {σ σ':BR} {Q:Exit->BR->Prop} {rs:A8 Ai} {ess:A8 (A8 Bf)} {bs:A8 Ad} (hm:P.follows .mixedOrders=true) (M:(U4 ops&&Xj ops&&Wn ops σ.slots.length&&Wj ops)=true) (sl:A8 Nat) (O:U5 ops bs sl=true)
 (h:Fe P ops ops.toList σ rs ess bs σ')
 (hsl:∀i,i∈sl->bs.getD i false=false/\∀m,i<=m->m<=ops.size->∀o,ops[i]? =some o->Sr P ops ⟨(GK ops σ (fun i=>rs.getD i .junk) (fun i=>ess.getD i []) i).slots,(GK ops σ (fun i=>rs.getD i .junk) (fun i=>ess.getD i []) m).ents,σ.base⟩ (rs.getD i .junk) (GK ops σ (fun i=>rs.getD i .junk) (fun i=>ess.getD i []) m).ents false o) (hQ:Q .normal σ'):Bz P (.region id ops true) σ Q:=by
 refine⟨fun ro _ C ok H a w hh=>?_⟩;simp only[Df]at M;obtain⟨⟨⟨he,hd⟩,hs⟩,hc⟩:=M;have abK:=aMi he;have hinj:=aTD hd;have M:=aWp hc
 have Yr:∀(i:Nat) (o:Oper) (d:Tmp),ops[i]? =some o->o.dst=some d->d<σ.slots.length:=by
  intro i o d h1 h2;unfold Wn at hs;rw[EY]at hs;simpa using hs d (aQD h1 h2)
 let r:Nat->Ai:=fun i=>rs.getD i .junk
 let ev:Nat->A8 Bf:=fun i=>ess.getD i []
 let bar:Nat->Ad:=fun i=>bs.getD i false
 obtain⟨Zn,hend⟩:=h.facts σ r ev bar 0 (fun k=>Bj) Bj rfl (fun k y hy=>by simp[r,List.getD,hy]) (fun k y hy=>by simp[ev,List.getD,hy]) (fun k y hy=>by simp[bar,List.getD,hy])
 let U:Nat->BR:=GK ops σ r ev
 have hU:∀i,i<ops.size->(U (i+1)).ents=ev i:=by
  intro i hi;have L:ops[i]? =some ops[i]:=SC
  show(GK ops σ r ev (i+1)).ents=_;simp only[GK,L];rfl
 have hconst:∀n lo,(∀b,lo<=b->b<lo+n->bar b=false)->lo+n<=ops.size->(U (lo+n)).ents=(U lo).ents:=by
  intro n
  induction n with
  |zero=>intro lo _ _;rfl
  |succ n ih=>
   intro lo z hle;have h1:=ih lo (fun b h1 h2=>z b h1 AB) AB;have hi:lo+n<ops.size:=AB
   have L:ops[lo+n]? =some ops[lo+n]:=SC
   have h2:=(Zn (lo+n) _ AB L).2 (z (lo+n) AB AB);rw[←Sl,hU _ hi,h2];exact h1
 have Y:∀lo hi,lo<=hi->hi<=ops.size->(∀b,lo<=b->b<hi->bar b=false)->(U hi).ents=(U lo).ents:=by
  intro lo hi h1 h2 h3;obtain⟨n,rfl⟩:=Nat.exists_eq_add_of_le h1;exact hconst n lo h3 h2
 refine aAL hm ?_
 let I:Bh Ad->Act->Bc->Prop:=fun l a w=>l.size=ops.size/\∃ok H m,m<=ops.size/\(∀b,bar b=true->b<ops.size->(l.getD b false=true↔b<m))/\Dv C ok H (U m).ents w/\a.tmps.size=σ.slots.length/\Marks C ok w a.defers/\
  (∀t,t<σ.slots.length->(∀(j:Nat) (o:Oper),ops[j]? =some o->o.dst=some t->l.getD j false=false)->R ok w H (σ.slots.getD t .junk) (a.tmps.getD t undef))/\
  (∀(i:Nat) (o:Oper) (d:Tmp),ops[i]? =some o->o.dst=some d->l.getD i false=true->R ok w H (r i) (a.tmps.getD d undef))/\
  (∀(j:Nat) (o:Oper),ops[j]? =some o->l.getD j false=true->∀i,I9 o i=true->l.getD i false=true)
 refine aAE I (fun l a w h=>h.1) ?_ ?_ ops.size _ _ _ ?_ ?_
 ·rintro l a w ⟨h1,ok,H,m,adn,J,hmem0,hsz,hdf,h5,h6,h7⟩ i hi;unfold Region.ready at hi;rw[HY]at hi;obtain⟨hi1,hi2⟩:=hi;have hi':i<ops.size:=a0v
  have L:ops[i]? =some ops[i]:=by simp[hi']
  simp only[Df]at hi2;have Qn:=hi2.2;rw[L]at Qn;simp only[Ij,ML]at Qn;have aem:=fun e he=>(QJ.1 Qn) e he
  have Z:∀j,I9 ops[i] j=true->l.getD j false=true/\j<i:=by
   intro j u;unfold I9 at u;rw[I8]at u;obtain⟨e,hee,u⟩:=u;simp only[Df,Hd]at u;have :=aem e aNJ;simp only[u.2,Eo,Lj]at this;rw[u.1]at this;exact⟨this,u.1▸abK i _ L e hee u.2⟩
  have hself:l.getD i false=false:=by
   have h8:=hi2.1;have hil:i<l.size:=AB
   simp[Array.getD,hil]at h8 ⊢;exact h8
  have apf:∀(j:Nat) (o:Oper),ops[j]? =some o->l.getD j false=true->∀m,I9 o m=true->l.getD m false=true:=fun j o u hl m hm=>h7 j o u hl m hm
  have hEi:(i<=m->sl.contains i=false)->(U i).ents=(U m).ents:=fun hns=>by
   by_cases him:i<=m
   ·refine(Y i m him adn (fun b h2 h3=>?_)).symm;rw[←PO];intro z;have hbl:=(J b z AB).2 h3;by_cases e:b=i
    ·subst e;rw[hself]at hbl;cases hbl
    have :=aHb O (show b<ops.size by omega) z (D:=fun j=>l.getD j false=true) apf (fun o L m hm=>apf b o L hbl m hm) i AB (hns him);rw[hself]at this;cases this
   refine Y m i AB AB (fun b h2 h3=>?_);rw[←PO];intro z;have :=aan O (show b<ops.size by omega) z (D:=fun j=>l.getD j false=true) apf i h3 _ L (fun m hm=>(Z m hm).1);exact absurd ((J b z AB).1 this) AB
  obtain⟨E0,E1,hmem,hfact,hE1,hE2⟩:∃E0 E1,Dv C ok H E0 w/\Sr P ops ⟨(U i).slots,E0,σ.base⟩ (r i) E1 (bar i) ops[i]/\(bar i=false->E1=(U m).ents)/\(bar i=true->E1=ev i):=by
   by_cases hs:i<=m/\i∈sl
   ·have h9:=hsl i hs.2;refine⟨(U m).ents,(U m).ents,hmem0,?_,fun _=>rfl,fun z=>?_⟩
    ·rw[show bar i=false from h9.1];exact h9.2 m hs.1 adn _ L
    rw[show bar i=false from h9.1]at z;cases z
   have hE:=hEi (fun him=>by
    rw[←PO]
    intro hc;exact hs ⟨him,aAs⟩)
   refine⟨(U i).ents,ev i,by rw[hE];exact hmem0,?_,fun z=>?_,fun _=>rfl⟩
   ·have hf:=Zn i ops[i] AB L;have hbase:(U i).base=σ.base:=wJ i;have :U i=⟨(U i).slots,(U i).ents,σ.base⟩:=by rw[←hbase]
    exact this▸hf
   rw[(Zn i _ AB L).2 z];exact hE
  have hread:∀t,t∈tmpsOf ops[i]->R ok w H ((GK ops σ r ev i).slots.getD t .junk) (a.tmps.getD t undef):=by
   intro t ht;by_cases hw:∃(j:Nat) (o:Oper),ops[j]? =some o/\o.dst=some t
   ·obtain⟨j,o,u,q⟩:=hw;rcases(M i _ L).1 j o t u q ht with hce|hce
    ·obtain⟨hdj,hji⟩:=Z j hce;rw[dA hinj u q (Yr j o t u q) i hji];exact h6 j o t u q hdj
    have hij:i<j:=by
     unfold I9 at hce;rw[I8]at hce;obtain⟨e,hee,hce⟩:=hce;simp only[Df,Hd]at hce;exact hce.1▸abK j _ u e hee hce.2
    rw[Y4 i (fun j' o' hj' ho' hd'=>aKE)];refine h5 t (Yr j o t u q) (fun j' o' ho' hd'=>?_);have hjj:=hinj j j' o o' t u ho' q hd';subst hjj;rw[←PO];intro hd;rw[h7 j o u hd i hce]at hself;cases hself
   have hw':∀(j:Nat) (o:Oper),ops[j]? =some o->o.dst≠some t:=fun j o h1 h2=>hw ⟨j,o,h1,h2⟩;rw[Y4 i (fun j o _ u=>hw' j o u)];by_cases htn:t<σ.slots.length
   ·exact h5 t htn (fun j o u q=>absurd q (hw' j o u))
   rw[uz htn];exact .junk _
  have ah5:∀j d v,I9 ops[i] j=true->(ops[j]?).bind (·.dst)=some d->(GK ops σ r ev i).slots.getD d .junk=.d (.lit v)->yielded ops a.tmps j=(match v with | .bool b=>some b|_=>none):=by
   intro j d v u q z;cases hoj:ops[j]? with
   |none=>rw[hoj]at q;simp at q
   |some oj=>
    rw[hoj]at q;simp only[Af]at q;obtain⟨hdj,hji⟩:=Z j u;have hdn:=Yr j oj d hoj q;rw[dA hinj hoj q hdn i hji]at z;have hv:=(z▸h6 j oj d hoj q hdj).bool
    have hs:a.tmps[d]? =some v:=by
     have :d<a.tmps.size:=by rw[hsz];exact hdn
     simp[Array.getD,this]at hv;simp[this,hv]
    unfold yielded;rw[hoj];simp only[Af,q,hs];cases v<;>rfl
  have hput:∀(x:Ai) (v:Aw) (ok':Nat->Prop) (H':A8 CP) (w':Bc),x=r i->Ep ok w ok' w'->Names H H'->Dv C ok' H' E1 w'->R ok' w' H' x v->I (l.setIfInBounds i true) (a.put ops[i].dst v) w':=by
   intro x v ok' H' w' hx hgr hnm hmem' hR;subst hx
   have hother:∀(d t:Nat),ops[i].dst=some d->d≠t->(a.put ops[i].dst v).tmps.getD t undef=a.tmps.getD t undef:=by
    intro d t hd hne;rw[hd];exact a1K hne
   obtain⟨m',ayf,apg,ayg⟩:∃m',m'<=ops.size/\(∀b,bar b=true->b<ops.size->((l.setIfInBounds i true).getD b false=true↔b<m'))/\Dv C ok' H' (U m').ents w':=by
    have hget:∀b,b≠i->(l.setIfInBounds i true).getD b false=l.getD b false:=fun b z=>by
     simp only[Io,Nb (Zk z)]
    have ayh:(l.setIfInBounds i true).getD i false=true:=by simp[Array.getD,h1,hi']
    cases hbi:bar i with
    |false=>
     refine⟨m,adn,fun b z hbs=>?_,?_⟩
     ·have hne:b≠i:=fun e=>by subst e;rw[hbi]at z;cases z
      rw[hget b hne];exact J b z hbs
     rw[←hE1 hbi];exact hmem'
    |true=>
     refine⟨i+1,AB,fun b z hbs=>?_,by rw[hU i hi',←hE2 hbi];exact hmem'⟩;by_cases e:b=i
     ·subst e;rw[ayh];simp
     rw[hget b e];constructor
     ·intro hbl;apply ig;intro hn;have :=aHb O hbs z (D:=fun j=>l.getD j false=true) apf (fun o L m hm=>apf b o L hbl m hm) i AB (aPh O hi' hbi);rw[hself]at this;cases this
     intro hlt;exact aHb O hi' hbi (D:=fun j=>l.getD j false=true) apf (fun o ho' m hm=>by rw[L]at ho';obtain rfl:=Dh ho';exact(Z m hm).1) b AB (aPh O hbs z)
   refine⟨by simp[h1],ok',H',m',ayf,apg,ayg,by rw[size_put];exact hsz,by rw[yU];exact hdf.mono hgr,?_,?_,?_⟩
   ·intro t ht hno
    have hne:ops[i].dst≠some t:=by
     intro e;have :=hno i _ L e;simp[Array.getD,h1,hi']at this
    have hold:(a.put ops[i].dst v).tmps.getD t undef=a.tmps.getD t undef:=by
     cases hdi:ops[i].dst with
     |none=>rfl
     |some d=>exact hdi▸hother d t hdi (fun e=>hne (by rw[hdi,e]))
    rw[hold];refine(h5 t ht (fun j o u q=>?_)).mono hgr hnm;have hij:i≠j:=fun e=>by subst e;rw[L]at u;obtain rfl:=Dh u;exact hne q
    have :=hno j o u q;simpa only[Io,Nb hij]using this
   ·intro k o d hk hkd hl;by_cases hik:i=k
    ·subst hik;rw[L]at hk;obtain rfl:=Dh hk;rw[hkd,a2u (by rw[hsz];exact Yr i _ d L hkd)];exact hR
    have hl':l.getD k false=true:=by
     simp only[Io,Nb hik]at hl ⊢;exact hl
    have :=(h6 k o d hk hkd hl').mono hgr hnm;cases hdst:ops[i].dst with
    |none=>exact this
    |some d'=>
     have hne:d'≠d:=fun e=>hik (hinj i k _ _ d' L hk hdst (e▸hkd));rw[←hdst,hother d' d hdst hne];exact this
   intro j o u hl k hk;have hil:i<l.size:=AB
   by_cases hik:i=k
   ·subst hik;simp[Array.getD,hil]
   have hkk:l.getD k false=true:=by
    by_cases hij:i=j
    ·subst hij;rw[L]at u;obtain rfl:=Dh u;exact(Z k hk).1
    have hl':l.getD j false=true:=by
     simp only[Io,Nb hij]at hl ⊢;exact hl
    exact h7 j o u hl' k hk
   simp only[Io,Nb hik]at hkk ⊢;exact hkk
  unfold wpOpIn;rw[L];show if Region.wanted ops[i] (yielded ops a.tmps)=true then _ else _
  rcases hfact.1 with⟨ns,hop,afP,hnt,hg⟩|⟨hx,hev,hg⟩
  ·have hwant:Region.wanted ops[i] (yielded ops a.tmps)=true:=by
    unfold Region.wanted;rcases hg with hg|⟨j,want,d,b,hg,u,z,rfl⟩
    ·rw[hg]
    rw[hg];show(yielded ops a.tmps j==some b)=true;rw[ah5 j d _ ((M i _ L).2 j b hg) u z];simp
   rw[DX hwant];refine Qm ?_ (hop.inR ro C ok H a w _ hmem (fun n hn=>?_))
   ·rintro a' w' ⟨v,ok',H',rfl,hgr,hnn,hm',hx⟩;exact hput _ v ok' H' w' rfl hgr hnn hm' hx
   have hnv:=Q5 afP n hn;obtain⟨x,y⟩:=n;simp only at hnv ⊢;subst hnv;cases x with
   |tmp t=>
    refine hread t ?_;rw[EY]at hnt
    have :t∈KF ns:=by
     unfold KF;rw[TR];exact⟨_,hn,rfl⟩
    simpa using hnt t this
   |const v=>exact .d _ _ (.lit v)
   |global g=>exact .d _ _ (.lit _)
   |func f=>exact .d _ _ (.fn (.func f) [] [] #[] #[] rfl rfl (fun i hi=>PY) (fun i hi=>PY))
  have hwant:Region.wanted ops[i] (yielded ops a.tmps)=false:=by
   unfold Region.wanted;obtain⟨j,want,d,v,hg,u,z,hv⟩:=hg;rw[hg];show(yielded ops a.tmps j==some want)=false;rw[ah5 j d _ ((M i _ L).2 j want hg) u z];rcases hv with rfl|rfl
   ·simp
   rfl
  rw[Dk (by rw[hwant];simp)];exact⟨fun _ _=>trivial,hput _ _ ok H w hx.symm (.refl _ _) (.refl _) (by rw[hev];exact hmem) (.d _ _ (.lit _))⟩
 ·rintro l a w ⟨h1,ok,H,m,adn,J,hmem,hsz,hdf,h5,h6,h7⟩ hr
  have hall:∀n i,i<n->i<ops.size->l.getD i false=true:=by
   intro n
   induction n with
   |zero=>intro i hi;omega
   |succ n ih=>
    intro i hi hi2;by_cases hn:i<n
    ·exact ih i hn hi2
    have hin:i=n:=AB
    subst hin;rw[←aFc];intro hf;have L:ops[i]? =some ops[i]:=by simp[hi2]
    have hmem:i∈Region.ready .any ops l:=by
     unfold Region.ready;rw[HY];refine⟨by simpa using hi2,?_⟩;have hil:i<l.size:=AB
     have hf':l.getD i true=false:=qG
     rw[hf',L];simp only[Iu,Gh,Ij,ML];rw[QJ];intro e he;cases hbe:Region.binds .any e with
     |false=>simp
     |true=>
      have hlt:=abK i _ L e dw hbe;rw[ih e.on AB AB];simp
    rw[hr]at hmem;simp at hmem
  refine⟨ok,H,σ',?_,hQ⟩;subst hend
  have hE:(U ops.size).ents=(U m).ents:=Y m ops.size adn (EX _) (fun b h2 h3=>by
   rw[←PO];intro z
   exact absurd ((J b z h3).1 (hall (b+1) b AB h3)) AB)
  refine⟨by show Dv C ok H (U ops.size).ents w;rw[hE];exact hmem,by rw[Xq];exact hsz,hdf,by rw[wJ];exact hh.base,fun t ht=>?_⟩;rw[Xq]at ht;by_cases hw:∃(j:Nat) (o:Oper),ops[j]? =some o/\o.dst=some t
  ·obtain⟨j,o,u,q⟩:=hw;have hjn:j<ops.size:=(Gl.1 u).1;rw[dA hinj u q ht ops.size hjn];exact h6 j o t u q (hall (j+1) j AB hjn)
  have hw':∀(j:Nat) (o:Oper),ops[j]? =some o->o.dst≠some t:=fun j o h1 h2=>hw ⟨j,o,h1,h2⟩;rw[Y4 ops.size (fun j o _ u=>hw' j o u)];exact h5 t ht (fun j o u q=>absurd q (hw' j o u))
 ·unfold toCome;simp
 refine⟨Bj,ok,H,0,Du _,fun b z _=>a1j,?_,hh.size,hh.defers.mono (fun b z=>⟨z,rfl⟩),fun t ht _=>?_,fun i o d _ _ hl=>?_,fun j o _ hl=>?_⟩
 ·exact⟨⟨hh.mem.fr.os,hh.mem.fr.tape,hh.mem.fr.output,hh.mem.fr.size,hh.mem.fr.block⟩,hh.mem.yF,hh.mem.yG,hh.mem.kM,hh.mem.names,hh.mem.hlen,fun k e h h1 h2=>(hh.mem.ent k e h h1 h2).drew,hh.mem.blk,hh.mem.Ef⟩
 ·exact R.mono (w:=w) (ok:=ok) (w':={ w with drawn:=w.drawn+1 }) (fun b z=>⟨z,rfl⟩) (.refl _) (hh.slot t ht)
 ·simp[Array.getD]at hl
 simp[Array.getD]at hl
def aae {bs:A8 Ad} (h:VY ops bs=true):U5 ops bs []=true:=by
 unfold U5;unfold VY at h;simpa using h
def Bz.draw {id:Nat} {σ σ':BR} {Q:Exit->BR->Prop} {rs:A8 Ai} {ess:A8 (A8 Bf)} {bs:A8 Ad} (hm:P.follows .mixedOrders=true) (j:(U4 ops&&Xj ops&&Wn ops σ.slots.length&&Wj ops)=true) (q:VY ops bs=true)
 (h:Fe P ops ops.toList σ rs ess bs σ') (u:Q .normal σ'):Bz P (.region id ops true) σ Q:=
 Bz.aye hm j [] (aae q) h (fun _ hi=>absurd hi FB) u
def Dt:=@Bz.draw
end
def El (P:Cm) (f:FuncId) (args:A8 Ai) (E:A8 Bf) (q:Ai) (E':A8 Bf):Prop:=
 ∀(ok:Nat->Prop) (X:A8 Nat) (H:A8 CP) (w:Bc) (j:Bh Aw),Dv ⟨w,ok,X,H⟩ ok H E w->j.size=args.length->(∀i,i<args.length->R ok w H (args.getD i .junk) (j.getD i undef))->
  Calls P f j w fun e w'=>∃v ok' H',e=.returned v/\Dv ⟨w,ok,X,H⟩ ok' H' E' w'/\R ok' w' H' q v
def Holds.axr {C:En} {ok:Nat->Prop} {H:A8 CP} {σ:BR} {a:Act} {w:Bc} (h:Holds C ok H σ a w) (t:Nat):R ok w H (σ.slots.getD t .junk) (a.tmps.getD t undef):=h.get (.tmp t)
def BR.enter (args:A8 Ai) (n:Nat) (E:A8 Bf):BR:=⟨args++List.replicate (n-args.length) .junk,E,E.length⟩
def R.lit {ok:Nat->Prop} {w:Bc} {H:A8 CP} {u v:Aw} (h:R ok w H (.d (.lit u)) v):v=u:=by
 cases h with |d _ _ h=>cases h;rfl
structure Ee (P:Program) (t:TypeId) (agg:Bool) (size:Nat):Prop where
 agg:∀w,(isAgg t).run P w=.ok agg w
 size:∀w,(sizeOf t).run P w=.ok size w
def aH5 (P:Cm) (t:CO) (agg:Ad) (size:Nat):Ad:=
 (match P.underlying t with |some (.struct _)|some (.array _ _)=>agg|some _=> !agg|none=>false)&&(match P.info? t with |some i=>i.size=size|none=>false)
def Gt {P:Cm} {t:CO} {agg:Ad} {size:Nat} (h:aH5 P t agg size=true):Ee P t agg size:=by
 unfold aH5 at h;simp only[Df]at h;refine⟨fun w=>?_,fun w=>?_⟩
 ·have q:=h.1;cases u:P.underlying t with
  |none=>rw[u]at q;cases q
  |some d=>
   rw[u]at q;have e:(underlying t).run P w=.ok d w:=by simp[underlying,u]
   simp only[isAgg,Fl,e,G8];cases d<;>cases agg<;>simp_all
 have j:=h.2;cases hi:P.info? t with
 |none=>rw[hi]at j;cases j
 |some i=>
  rw[hi]at j;have :i.size=size:=Vq
  simp[sizeOf,typeInfo,hi,this]
section
variable {P:Cm} {o:Oper} {es:A8 Bf}
def LP {α:Type} {p:α->Prop} {a:α} (h:∀n∈[a],p n):p a:=h a Bj
def FK {α:Type} {p:α->Prop} {a b:α} (h:∀n∈[a,b],p n):p a/\p b:=⟨h a Bj,h b Bj⟩
def alO {x:CM} {v:Ai} (j:o.op=.move x):CS P o [(x,v)] es v es:=
 .pure fun _ _ a _ _ _ q=>⟨a.eval x,by simp[execOp,j],q (x,v) Bj⟩
def anC {x:CM} {v:Ai} (j:o.op=.assign x):CS P o [(x,v)] es v es:=
 .pure fun _ _ a _ _ _ q=>⟨a.eval x,by simp[execOp,j],q (x,v) Bj⟩
def alM {c x y:CM} {v:Ai} (b:Ad) (q:b=true) (u:o.op=.pick c x y):CS P o [(c,.d (.lit (.bool b))),(x,v)] es v es:=
 .pure fun _ _ a _ _ _ j=>⟨a.eval x,by
  have :=(FK j).1.lit;simp only at this
  simp[execOp,u,this,asBool,q],(FK j).2⟩
def af2 {c x y:CM} {v:Ai} (b:Ad) (q:b=false) (u:o.op=.pick c x y):CS P o [(c,.d (.lit (.bool b))),(y,v)] es v es:=
 .pure fun _ _ a _ _ _ j=>⟨a.eval y,by
  have :=(FK j).1.lit;simp only at this
  simp[execOp,u,this,asBool,q],(FK j).2⟩
def Ho {op:BinOp} {t t':CO} {x y:CM} {u v r:Aw} (I:o.op=.binOp op t x y t') (h:∀w,(binOp op t u v).run P w=.ok r w) (J:u.oneCell'=true/\u matches .int _ _| .string _| .bool _):
 CS P o [(x,.d (.lit u)),(y,.d (.lit v))] es (.d (.lit r)) es:=
 .pure fun _ _ a w _ _ j=>⟨r,by
  have q:=(FK j).1.lit;have z:=(FK j).2.lit;simp only at q z
  have L:(eqGuard op t x y u v).run P w=.ok () w:=by
   unfold eqGuard;cases u<;>simp at J<;>(cases op<;>simp[pure,Sem.run_pure'])
  simp only[execOp,I,q,z,Fl,L,h w,G8,Gw],.d _ _ (.lit _)⟩
def aNf {op:UnOp} {t:CO} {x:CM} {u r:Aw} (q:o.op=.unOp op t x) (h:∀w,(Op.unary op u).run P w=.ok r w):CS P o [(x,.d (.lit u))] es (.d (.lit r)) es:=
 .pure fun _ _ a w _ _ z=>⟨r,by
  have j:=(LP z).lit;simp only at j
  simp only[execOp,q,j,Fl,h w,G8,Gw],.d _ _ (.lit _)⟩
def aVn {s t:CO} {x:CM} {u r:Aw} (q:o.op=.convert s t x) (h:∀w,(convert s t u).run P w=.ok r w):CS P o [(x,.d (.lit u))] es (.d (.lit r)) es:=
 .pure fun _ _ a w _ _ z=>⟨r,by
  have j:=(LP z).lit;simp only at j
  simp only[execOp,q,j,Fl,h w,G8,Gw],.d _ _ (.lit _)⟩
def aeN {x:CM} {i:Nat} {xs:A8 Ai} {v:Ai} (J:o.op=.extract x i) (L:xs[i]? =some v):CS P o [(x,.eX xs)] es v es:=
 .pure fun ok H a w _ _ M=>by
  have q:=LP M;simp only at q;generalize O:a.eval x=u at q;cases q with
  |eX _ vs hl h=>
   obtain⟨hi,z⟩:=Fv.1 L;have I:=h i hi;have U:xs.getD i .junk=v:=by simp[List.getD,hi,z]
   have j:i<vs.size:=AB
   have Y:vs.getD i undef=vs[i]:=by simp[Array.getD,j]
   rw[U,Y]at I;exact⟨vs[i],by simp[execOp,J,O,Instr.extract,j],I⟩
def ajh {x:CM} {t e:CO} {xs:A8 D} (ht:P.underlying t=some (.slice e)) (q:o.op=.call { callee:=.builtin .len,args:= #[x],argTypes:= #[t] }):
 CS P o [(x,.d (.sl xs))] es (.d (.lit (.int .i64 xs.length))) es:=
 .pure fun ok H a w _ _ J=>by
  have j:=LP J;simp only at j;generalize z:a.eval x=u at j;have I:(underlying t).run P w=.ok (.slice e) w:=O4
  refine⟨_,?_,.d _ _ (.lit _)⟩;cases j with
  |d _ _ h=>
   cases h with
   |sl0 ad cap=>simp[execOp,q,resolve,invoke,builtin,Builtin.len_,z,I,goInt]
   |sl _ b off cap size=>simp[execOp,q,resolve,invoke,builtin,Builtin.len_,z,I,goInt]
def ahD {x:CM} {t:CO} {s:BA} (ht:P.underlying t=some .string) (q:o.op=.call { callee:=.builtin .len,args:= #[x],argTypes:= #[t] }):
 CS P o [(x,.d (.lit (.string s)))] es (.d (.lit (.int .i64 s.size))) es:=
 .pure fun ok H a w _ _ u=>by
  have j:=(LP u).lit;simp only at j;have z:(underlying t).run P w=.ok .string w:=O4
  exact⟨_,by simp[execOp,q,resolve,invoke,builtin,Builtin.len_,j,z,goInt],.d _ _ (.lit _)⟩
def H8 {es:A8 Bf} {H:A8 CP} {ok:Nat->Prop} {w:Bc} (u:∀(k:Nat) (e:Bf) (h:CP),es[k]? =some e->H[k]? =some h->FZ ok w H h e) (hl:H.length=es.length) {k:Nat} {e:Bf} (q:es[k]? =some e):
 ∃h,H[k]? =some h/\FZ ok w H h e:=by
 have j:k<H.length:=by rw[hl];exact(Fv.1 q).1
 exact⟨H[k],by simp[j],u k e _ q (by simp[j])⟩
def aZb {x:CM} {t e e':CO} {k s:Nat} {xs:A8 D} (U:es[k]? =some (.arr e' s xs)) (ht:P.underlying t=some (.slice e)) (Y:o.op=.call { callee:=.builtin .len,args:= #[x],argTypes:= #[t] }):
 CS P o [(x,.aO k)] es (.d (.lit (.int .i64 xs.length))) es:=
 .pure fun ok H a w j hl Z=>by
  have q:=LP Z;simp only at q;generalize he:a.eval x=u at q;have hu:(underlying t).run P w=.ok (.slice e) w:=O4
  obtain⟨h,hh,z⟩:=H8 j hl U;refine⟨_,?_,.d _ _ (.lit _)⟩;cases q with
  |aO _ ad n cap s' M=>
   rw[hh]at M;obtain rfl:=Dh M;obtain⟨_,_,ys,⟨_,I⟩,_⟩:=z
   have J:n=xs.length:=by
    rcases I with⟨L,h3⟩|⟨g,O,cur,L,_⟩
    ·simp at L;omega
    simp at L;omega
   subst J;simp[execOp,Y,resolve,invoke,builtin,Builtin.len_,he,hu,goInt]
structure EH (P:Program) (t:TypeId) (f off:Nat):Prop where
 run:∀(b o:Nat) w,(Instr.fieldAt t (.pointer (some ⟨b,o,none⟩)) f).run P w=.ok (.pointer (some ⟨b,o+off,none⟩)) w
def aP3 (P:Cm) (t:CO) (f off:Nat):Ad:=
 match P.underlying t with
 |some (.struct q)=>match q[f]? with
  |some j=>j.offset=off&&(match P.info? j.type with |some i=>i.size≠0|none=>false)
  |none=>false
 |_=>false
def EP {P:Cm} {t:CO} {f off:Nat} (h:aP3 P t f off=true):EH P t f off:=by
 unfold aP3 at h;refine⟨fun b o w=>?_⟩;split at h
 ·rename_i u z;split at h
  ·rename_i I J;simp only[Df,Hd]at h;obtain⟨L,j⟩:=h;split at j
   ·rename_i i hi;have hs:(sizeOf I.type).run P w=.ok i.size w:=by simp[sizeOf,typeInfo,hi]
    have M:i.size≠0:=Vq
    have q:(underlying t).run P w=.ok (.struct u) w:=by simp[underlying,z]
    simp[Instr.fieldAt,q,J,Instr.sureAddr,fieldPlace,hs,M,addr_add,L]
   cases j
  cases h
 cases h
def ag3 {x:CM} {t:CO} {f off j:Nat} {cs:A8 D} (J:EH P t f off) (L:o.op=.fieldAddr t x f):CS P o [(x,.d (.ref cs j))] es (.d (.ref cs (j+off))) es:=
 .pure fun ok H a w _ _ M=>by
  have q:=LP M;simp only at q;generalize O:a.eval x=u at q;cases q with
  |d _ _ h=>
   cases h with
   |ref _ _ b p z I U Y=>
    refine⟨.pointer (some ⟨b,p+(j+off),none⟩),?_,.d _ _ (.ref cs (j+off) b p z I U Y)⟩;simp only[execOp,L,O,Fl,J.run,G8,Gw,Sl]
def ahQ {x:CM} {t:CO} {f off k j:Nat} (z:EH P t f off) (I:o.op=.fieldAddr t x f):CS P o [(x,.ptr k j)] es (.ptr k (j+off)) es:=
 .pure fun ok H a w _ _ J=>by
  have q:=LP J;simp only at q;generalize L:a.eval x=u at q;cases q with
  |ptr _ _ b s h=>
   refine⟨.pointer (some ⟨b,j+off,none⟩),?_,.ptr _ _ b s h⟩;simp only[execOp,I,L,Fl,z.run,G8,Gw]
def ab6 {x:CM} {t:CO} {f off k i j:Nat} (z:EH P t f off) (I:o.op=.fieldAddr t x f):CS P o [(x,.lC k i j)] es (.lC k i (j+off)) es:=
 .pure fun ok H a w _ _ J=>by
  have q:=LP J;simp only at q;generalize L:a.eval x=u at q;cases q with
  |lC _ _ _ b n cap s h=>
   refine⟨.pointer (some ⟨b,i*s+(j+off),none⟩),?_,.lC _ _ _ b n cap s h⟩;simp only[execOp,I,L,Fl,z.run,G8,Gw,Sl]
def anV {x y:CM} {t e:CO} {k:IntKind} {i:Int} {xs:A8 D} {J:D} {agg:Ad} {size:Nat} (ht:P.underlying t=some (.slice e)) (hT:Ee P e agg size) (h0:0<=i) (hi:xs[i.toNat]? =some J) (hs:J.cells.length=size)
 (ho:o.op=.indexAddr t x y):CS P o [(x,.d (.sl xs)),(y,.d (.lit (.int k i)))] es (.d (.ref J.cells 0)) es:=
 .pure fun ok H a w _ _ Z=>by
  have L:=(FK Z).1;have h2:=(FK Z).2.lit;simp only at L h2;generalize he:a.eval x=u at L;have hu:(underlying t).run P w=.ok (.slice e) w:=O4
  obtain⟨z,M⟩:=Fv.1 hi;cases L with
  |d _ _ h=>
   cases h with
   |sl0 ad cap=>simp at z
   |sl _ b off cap q hcap O U hf hx hc=>
    have hd:xs.getD i.toNat ES=J:=by simp[List.getD,z,M]
    have Y:q=size:=by rw[←U _ z,hd,hs]
    subst Y;refine⟨.pointer (some ⟨b,off+i.toNat*q+0,none⟩),?_,.d _ _ (.ref J.cells 0 b (off+i.toNat*q) (fun h=>O AB (by rw[hs]at h;exact h)) ?_ ?_ ?_)⟩
    ·have hlen:0<=i/\i<(xs.length:Int):=⟨h0,AB⟩
     simp only[execOp,ho,he,h2,Instr.indexAt,asIntOf,Fl,Gw,hu,G8,Sem.run_ite,hlen,and_self,Jr,hT.size,addr_add,OT]
    ·intro j I;rw[hs]at I;rw[←hd];exact hf _ z j I
    ·intro j I;rw[hs]at I;rw[Sl];exact hx _ z j I
    intro j I;rw[hs]at I;rw[Sl,←hd];exact hc _ z j I
def aZG {x y:CM} {t e e':CO} {kd:IntKind} {i:Int} {k size:Nat} {xs:A8 D} {agg:Ad} (Z:es[k]? =some (.arr e' size xs)) (ht:P.underlying t=some (.slice e)) (hT:Ee P e agg size) (h0:0<=i) (hi:i.toNat<xs.length)
 (ho:o.op=.indexAddr t x y):CS P o [(x,.aO k),(y,.d (.lit (.int kd i)))] es (.lC k i.toNat 0) es:=
 .pure fun ok H a w q hl L=>by
  have z:=(FK L).1;have M:=(FK L).2.lit;simp only at z M;generalize he:a.eval x=u at z;have hu:(underlying t).run P w=.ok (.slice e) w:=O4
  obtain⟨h,O,I⟩:=H8 q hl Z;cases z with
  |aO _ ad n cap s' U=>
   rw[O]at U;obtain rfl:=Dh U;obtain⟨hs,_,ys,⟨_,J⟩,_⟩:=I;simp only at hs;subst hs;rcases J with⟨j,h3⟩|⟨g,Y,cur,j,_⟩
   ·omega
   simp only[jZ]at j;obtain⟨rfl,rfl,rfl⟩:=j;refine⟨.pointer (some ⟨g,i.toNat*s'+0,none⟩),?_,.lC _ _ _ _ _ _ _ O⟩;have hlen:0<=i/\i<(xs.length:Int):=⟨h0,AB⟩
   simp only[execOp,ho,he,M,Instr.indexAt,asIntOf,Fl,Gw,hu,G8,Sem.run_ite,hlen,and_self,Jr,hT.size,addr_add,J3,OT]
def aiI {x y:CM} {t:CO} {k:IntKind} {i:Int} {s:BA} {c:UInt8} (ht:P.underlying t=some .string) (z:0<=i) (hi:s[i.toNat]? =some c) (I:o.op=.index t x y):
 CS P o [(x,.d (.lit (.string s))),(y,.d (.lit (.int k i)))] es (.d (.lit (.int .u8 c.toNat))) es:=
 .pure fun ok H a w _ _ j=>by
  have q:=(FK j).1.lit;have u:=(FK j).2.lit;simp only at q u;have J:(underlying t).run P w=.ok .string w:=O4
  exact⟨_,by simp only[execOp,I,q,u,Instr.index,asIntOf,Fl,Gw,J,G8,z,Jr,hi],.d _ _ (.lit _)⟩
def JQ (l:A8 Ai):A8 D:=l.map fun | .d x=>x|_=>ES
def Ai.BJ:Ai->Ad
 | .d _=>true
 |_=>false
def R.toD {ok:Nat->Prop} {w:Bc} {H:A8 CP} {x:Ai} {v:Aw} (h:R ok w H x v) (hd:x.BJ=true):EU ok w ((fun | .d x=>x|_=>ES) x) v:=by
 cases h with
 |d _ _ h=>exact h
 |_=>simp[Ai.BJ]at hd
def QY (agg:Ad) (cs:A8 D) (off n:Nat):D:=if agg then .agg ((cs.drop off).take n)else cs.getD off ES
def aCC {P:Cm} {ok:Nat->Prop} {w:Bc} {t:CO} {agg:Ad} {n b p off:Nat} {cs:A8 D} (M:Ee P t agg n) (hn:off+n<=cs.length) (U:agg=false->n=1)
 (Y:∀i,i<cs.length->(cs.getD i ES).leaf=true) (Z:∀j,j<cs.length->(w.cell? ⟨b,p+j,none⟩).isSome=true) (O:∀j,j<cs.length->EU ok w (cs.getD j ES) (cellAt w b (p+j))):
 ∃v,(Instr.loadAt t (.pointer (some ⟨b,p+off,none⟩))).run P w=.ok v w/\EU ok w (QY agg cs off n) v:=by
 have q:∀j,j<cs.length->w.cell? ⟨b,p+j,none⟩=some (cellAt w b (p+j)):=by
  intro j I;have :=Z j I;obtain⟨u,hu⟩:=Rk.1 this;simp[cellAt,hu]
 cases agg with
 |false=>
  have :=U rfl;subst this;refine⟨cellAt w b (p+off),?_,O off AB⟩;have L:=q off AB;simp[Instr.loadAt,Instr.sureAddr,loadVar,M.agg,L]
 |true=>
  let vs:Bh Aw:=((List.range n).map fun j=>cellAt w b (p+(off+j))).toArray
  have z:vs.size=n:=by simp[vs]
  have J:∀j,j<n->vs.getD j undef=cellAt w b (p+(off+j)):=by
   intro j I;simp[vs,Array.getD,I]
  refine⟨.agg vs,?_,?_⟩
  ·simp only[Instr.loadAt,Instr.sureAddr,Fl,Gw,G8]
   have h:=agU (P:=P) w t b (p+off) vs (M.agg w) (by rw[z];exact M.size w) (fun j I=>by
    rw[z]at I;rw[J j I,Sl]
    exact q (off+j) AB)
   exact h
  simp only[QY,Jr];have hlen:((cs.drop off).take n).length=n:=EN
  have L:∀i,i<n->((cs.drop off).take n).getD i ES=cs.getD (off+i) ES:=by
   intro i hi;simp[List.getD,MX hi,Qg]
  refine .agg _ vs (by rw[hlen,z]) (fun i hi=>?_) (fun i hi=>?_)
  ·rw[hlen]at hi;rw[L i hi];exact Y _ AB
  rw[hlen]at hi;rw[L i hi,J i hi];exact O _ AB
def abV {x:CM} {t:CO} {agg:Ad} {n off:Nat} {cs:A8 D} (z:Ee P t agg n) (I:off+n<=cs.length) (J:agg=false->n=1) (L:o.op=.load t x):
 CS P o [(x,.d (.ref cs off))] es (.d (QY agg cs off n)) es:=
 .pure fun ok H a w _ _ q=>by
  have j:=LP q;simp only at j;generalize M:a.eval x=u at j;cases j with
  |d _ _ h=>
   cases h with
   |ref _ _ b p O U Y Z=>
    obtain⟨v,hr,hd⟩:=aCC z I J U Y Z;exact⟨v,by simp only[execOp,L,M,Fl,hr,G8,Gw],.d _ _ hd⟩
def tZ (l:A8 Ai):(JQ l).length=l.length:=by simp[JQ]
def aWr {l:A8 Ai} {i:Nat} (h:i<l.length):(JQ l).getD i ES=(fun | .d x=>x|_=>ES) (l.getD i .junk):=by
 simp[JQ,List.getD,h]
def aHA {ok:Nat->Prop} {w:Bc} {H:A8 CP} {h:CP} {cs:A8 Ai} (O:FZ ok w H h (.box cs)) (hd:cs.all Ai.BJ=true):
 ∃b,h.v=.pointer (some ⟨b,0,none⟩)/\(∀i,i<(JQ cs).length->((JQ cs).getD i ES).leaf=true)/\(∀j,j<(JQ cs).length->(w.cell? ⟨b,0+j,none⟩).isSome=true)/\(∀j,j<(JQ cs).length->EU ok w ((JQ cs).getD j ES) (cellAt w b (0+j))):=by
 obtain⟨b,vs,T,U,Y,Z,I⟩:=O;rw[EY]at hd
 have q:∀j,j<cs.length->w.cell? ⟨b,0+j,none⟩=some (vs.toList.getD j undef):=by
  intro j u;rw[J3];have z:j<vs.size:=by simpa using(by omega:j<vs.toList.length)
  simp[World.cell?,Y,z,List.getD]
 refine⟨b,U,fun i hi=>?_,fun j u=>?_,fun j u=>?_⟩
 ·rw[tZ]at hi;rw[aWr hi];have J:=(I i hi).1;have L:=hd (cs.getD i .junk) OC;cases M:cs.getD i .junk with
  |d x=>rw[M]at J;exact J
  |_=>rw[M]at L;simp[Ai.BJ]at L
 ·rw[tZ]at u;rw[q j u];rfl
 rw[tZ]at u;rw[aWr u];unfold cellAt;rw[q j u];exact(I j u).2.toD (hd (cs.getD j .junk) aKk)
def ak3 {x:CM} {t:CO} {agg:Ad} {k n off:Nat} {cs:A8 Ai} (O:es[k]? =some (.box cs)) (hd:cs.all Ai.BJ=true) (U:Ee P t agg n) (Y:off+n<=cs.length) (Z:agg=false->n=1) (ho:o.op=.load t x):
 CS P o [(x,.ptr k off)] es (.d (QY agg (JQ cs) off n)) es:=
 .pure fun ok H a w q hl z=>by
  have j:=LP z;simp only at j;generalize he:a.eval x=u at j;obtain⟨h,hh,I⟩:=H8 q hl O;obtain⟨b,J,hf,hx,hc⟩:=aHA I hd;cases j with
  |ptr _ _ b' s L=>
   rw[hh]at L;obtain rfl:=Dh L;simp at J;subst J;obtain⟨v,M,hD⟩:=aCC U (by rw[tZ];exact Y) Z hf hx hc;rw[J3]at M;exact⟨v,by simp only[execOp,ho,he,Fl,M,G8,Gw],.d _ _ hD⟩
def aTv {x:CM} {t:CO} {k off:Nat} {cs:A8 Ai} {v:Ai} (Y:es[k]? =some (.box cs)) (Z:cs[off]? =some v) (hT:Ee P t false 1) (ho:o.op=.load t x):CS P o [(x,.ptr k off)] es v es:=
 .pure fun ok H a w z hl J=>by
  have q:=LP J;simp only at q;generalize he:a.eval x=u at q;obtain⟨h,hh,b,vs,T,M,h2,h3,h4⟩:=H8 z hl Y;cases q with
  |ptr _ _ b' s O=>
   rw[hh]at O;obtain rfl:=Dh O;simp at M;subst M;obtain⟨I,L⟩:=Fv.1 Z;have U:=(h4 off I).2;have e1:cs.getD off .junk=v:=by simp[List.getD,I,L]
   have j:off<vs.size:=by simpa using(by omega:off<vs.toList.length)
   have e2:vs.toList.getD off undef=vs[off]:=by simp[List.getD,j]
   rw[e1,e2]at U;refine⟨vs[off],?_,U⟩;have hc:w.cell? ⟨b',off,none⟩=some vs[off]:=by simp[World.cell?,h2,j]
   simp[execOp,ho,he,Instr.loadAt,Instr.sureAddr,loadVar,hT.agg,hc]
end
def Dv.change {C:En} {ok ok':Nat->Prop} {H H':A8 CP} {es es':A8 Bf} {w w':Bc} (hm:Dv C ok H es w) (B:Nat->Prop)
 (hos:w'.os=w.os) (O:w'.tape=w.tape) (hout:w'.output=w.output) (q:w.heap.size<=w'.heap.size)
 (L:∀b,b<w.heap.size->¬B b->w'.heap[b]? =w.heap[b]?) (hB:∀b,B b->b<w.heap.size->¬ok b/\(C.w0.heap.size<=b\/b∈C.X))
 (hok:∀b,ok b->ok' b) (M:∀b,ok' b->ok b\/(w.heap.size<=b/\b<w'.heap.size)) (z:Names H H') (hlen:H'.length=es'.length)
 (I:∀(k:Nat) (e:Bf) (h:CP),es'[k]? =some e->H'[k]? =some h->
  (es[k]? =some e/\H[k]? =some h/\(e.live=true->∀b,EF h.v=some b->¬B b))\/
  (FZ ok' w' H' h e/\(e.live=true->∀b,EF h.v=some b->¬ok' b/\b<w'.heap.size/\(C.w0.heap.size<=b\/b∈C.X)/\
   ∀(k':Nat) (e':Bf) (h':CP),k'≠k->es'[k']? =some e'->e'.live=true->H'[k']? =some h'->EF h'.v≠some b))):
 Dv C ok' H' es' w'/\Ep ok w ok' w':=by
 have hg:Ep ok w ok' w':=fun b j=>⟨hok b j,L b (hm.kM b j) (fun u=>(hB b u (hm.kM b j)).1 j)⟩
 refine⟨⟨⟨hos.trans hm.fr.os,O.trans hm.fr.tape,hout.trans hm.fr.output,FC hm.fr.size q,fun k hk hx=>?_⟩,fun b j=>hok b (hm.yF b j),?_,?_,hm.names.trans z,hlen,?_,?_,?_⟩,hg⟩
 ·have hkw:k<w.heap.size:=VP hk hm.fr.size;rw[L k hkw (fun j=>(hB k j hkw).2.elim (fun h=>AB) hx)];exact hm.fr.block k hk hx
 ·intro b j;rcases M b j with h|⟨h,_⟩
  ·exact hm.yG b h
  exact .inr (.inl (FC hm.fr.size h))
 ·intro b j;rcases M b j with h|⟨_,h⟩
  ·exact VP (hm.kM b h) q
  exact h
 ·intro k e h he hh;rcases I k e h he hh with⟨J,h2,h3⟩|⟨J,_⟩
  ·exact(hm.ent k e h J h2).mono hg z (fun hl b j=>L b (hm.blk k e h b J hl h2 j).2.1 (h3 hl b j))
  exact J
 ·intro k e h b he hl hh j;rcases I k e h he hh with⟨J,h2,h3⟩|⟨_,J⟩
  ·have :=hm.blk k e h b J hl h2 j;refine⟨fun u=>?_,VP this.2.1 q,this.2.2⟩;rcases M b u with h4|⟨h4,_⟩
   ·exact this.1 h4
   omega
  exact⟨(J hl b j).1,(J hl b j).2.1,(J hl b j).2.2.1⟩
 intro k k' e e' h h' b he he' hl U hh hh' j u;apply ig;intro Y;rcases I k e h he hh with⟨J,h2,h3⟩|⟨_,J⟩
 ·rcases I k' e' h' he' hh' with⟨Z,h2',h3'⟩|⟨_,Z⟩
  ·exact Y (hm.Ef k k' e e' h h' b J Z hl U h2 h2' j u)
  exact(Z U b u).2.2.2 k e h Y he hl hh j
 exact(J hl b j).2.2.2 k' e' h' (fun e=>Y e.symm) he' U hh' u
def aAS {α:Type} {l:A8 α} {i:Nat} {z:α} (h:i<l.length):l.getD i z=l[i]:=by simp[List.getD,h]
def Wq {α:Type} {l:A8 α} {a x:α} {k:Nat} (h:(l++[a])[k]? =some x):l[k]? =some x\/(k=l.length/\x=a):=by
 by_cases q:k<l.length
 ·rw[Hf q]at h;exact .inl h
 have j:=(Fv.1 h).1;simp at j;have :k=l.length:=AB
 subst this;simp at h;exact .inr ⟨rfl,h.symm⟩
def Dv.push {C:En} {ok:Nat->Prop} {H:A8 CP} {es:A8 Bf} {w:Bc} (hm:Dv C ok H es w) (o:Obj) (h:CP) (e:Bf) (J:∀b,EF h.v=some b->b=w.heap.size)
 (he:FZ ok (w.alloc o) (H++[h]) h e):Dv C ok (H++[h]) (es++[e]) (w.alloc o)/\Ep ok w ok (w.alloc o):=by
 refine hm.change (fun _=>False) rfl rfl rfl Bj (fun b J _=>L8 _ _ _ J) (fun _ h=>h.elim) (fun _ h=>h) (fun _ h=>.inl h) (Ht _ _) dR ?_;intro k e' h' L q;rcases Wq L with I|⟨I,h2⟩
 ·left;refine⟨I,?_,fun _ _ _ h=>h⟩;have M:k<H.length:=by rw[hm.hlen];exact(Fv.1 I).1
  rwa [Hf M]at q
 subst h2;have M:k=H.length:=by rw[hm.hlen];exact I
 subst M;simp at q;subst q;refine .inr ⟨he,fun _ b O=>?_⟩;obtain rfl:=J b O;refine⟨fun u=>absurd (hm.kM _ u) AB,Bj,.inl hm.fr.size,fun k' U Y Z hk' hl j z=>?_⟩;rcases Wq hk' with u|⟨u,_⟩
 ·have hk2:k'<H.length:=by rw[hm.hlen];exact(Fv.1 u).1
  rw[Hf hk2]at j;exact absurd (hm.blk k' U Y _ u hl j z).2.1 AB
 rw[←hm.hlen]at u;exact Z u
def Dv.fresh {C:En} {ok:Nat->Prop} {H:A8 CP} {es:A8 Bf} {w:Bc} (hm:Dv C ok H es w) (o:Obj):
 Dv C (fun b=>ok b\/b=w.heap.size) H es (w.alloc o)/\Ep ok w (fun b=>ok b\/b=w.heap.size) (w.alloc o):=by
 refine hm.change (fun _=>False) rfl rfl rfl Bj (fun b j _=>L8 _ _ _ j) (fun _ h=>h.elim) (fun _ h=>.inl h) (fun b h=>?_) (.refl _) hm.hlen ?_
 ·rcases h with h|rfl
  ·exact .inl h
  exact .inr ⟨EX _,Bj⟩
 intro k e h q u;exact .inl ⟨q,u,fun _ _ _ h=>h⟩
def Dv.drew {C:En} {ok:Nat->Prop} {H:A8 CP} {es:A8 Bf} {w:Bc} (hm:Dv C ok H es w):Dv C ok H es w.drew/\Ep ok w ok w.drew:=
 hm.change (fun _=>False) rfl rfl rfl (EX _) (fun _ _ _=>rfl) (fun _ h=>h.elim) (fun _ h=>h) (fun _ h=>.inl h) (.refl _) hm.hlen fun _ _ _ j q=>.inl ⟨j,q,fun _ _ _ h=>h⟩
def FZ.dead {ok:Nat->Prop} {w:Bc} {H:A8 CP} {h:CP}:FZ ok w H h .dead:=trivial
def R.akn {ok:Nat->Prop} {w:Bc} {H:A8 CP} {x:Ai} {v:Aw} (h:R ok w H x v) (hl:x.cells.all Ai.leaf=true):Fg ok w H x.cells v.cells.toList:=by
 rw[EY]at hl;cases h with
 |d x v h=>
  cases h with
  |agg cs vs hs L O=>
   refine⟨by simp[Ai.cells,D.cells,Value.cells,hs],fun i hi=>?_⟩;simp only[Ai.cells,D.cells,DY]at hi;have U:(Ai.cells (.d (.agg cs))).getD i .junk=.d (cs.getD i ES):=by simp[Ai.cells,D.cells,List.getD,hi]
   have z:i<vs.size:=AB
   have M:(Value.cells (.agg vs)).toList.getD i undef=vs.getD i undef:=aQ6
   rw[U,M];exact⟨L i hi,.d _ _ (O i hi)⟩
  |lit v=>
   have q:=hl (.d (.lit v)) (by simp[Ai.cells,D.cells]);have e:v.cells= #[v]:=by cases v<;>first|rfl|(simp[Ai.leaf,D.leaf,Value.oneCell']at q)
   refine⟨by simp[Ai.cells,D.cells,e],fun i hi=>?_⟩;simp[Ai.cells,D.cells]at hi;subst hi;rw[e];exact⟨q,.d _ _ (.lit v)⟩
  |sl0 ad cap=>
   refine⟨rfl,fun i hi=>?_⟩;simp[Ai.cells,D.cells]at hi;subst hi;exact⟨rfl,.d _ _ (.sl0 ad cap)⟩
  |sl es b off cap size q u I J Y Z=>
   refine⟨rfl,fun i hi=>?_⟩;simp[Ai.cells,D.cells]at hi;subst hi;exact⟨rfl,.d _ _ (.sl es b off cap size q u I J Y Z)⟩
  |ref cs off b o q u I J=>
   refine⟨rfl,fun i hi=>?_⟩;simp[Ai.cells,D.cells]at hi;subst hi;exact⟨rfl,.d _ _ (.ref cs off b o q u I J)⟩
  |fn f first cap vs us q u I J=>
   refine⟨rfl,fun i hi=>?_⟩;simp[Ai.cells,D.cells]at hi;subst hi;exact⟨rfl,.d _ _ (.fn f first cap vs us q u I J)⟩
  |Qj t x v q=>
   refine⟨rfl,fun i hi=>?_⟩;simp[Ai.cells,D.cells]at hi;subst hi;exact⟨rfl,.d _ _ (.Qj t x v q)⟩
 |ptr k off b s h=>
  exact⟨rfl,fun i hi=>by simp[Ai.cells]at hi;subst hi;exact⟨rfl,.ptr k off b s h⟩⟩
 |aO k ad n cap s h=>
  exact⟨rfl,fun i hi=>by simp[Ai.cells]at hi;subst hi;exact⟨rfl,.aO k ad n cap s h⟩⟩
 |lC k i off b n cap s h=>
  exact⟨rfl,fun j hi=>by simp[Ai.cells]at hi;subst hi;exact⟨rfl,.lC k i off b n cap s h⟩⟩
 |fn f first cap vs us q u I J=>
  exact⟨rfl,fun i hi=>by simp[Ai.cells]at hi;subst hi;exact⟨rfl,.fn f first cap vs us q u I J⟩⟩
 |mp k v s hl h=>
  have e:v.cells= #[v]:=by cases v<;>first|rfl|(simp[Value.oneCell']at hl)
  exact⟨by simp[Ai.cells,e],fun j hi=>by simp[Ai.cells]at hi;subst hi;rw[e];exact⟨rfl,.mp k v s hl h⟩⟩
 |clip xs ad h=>exact⟨rfl,fun i hi=>by simp[Ai.cells]at hi;subst hi;exact⟨rfl,.clip xs ad h⟩⟩
 |xU k ad n cap s h=>exact⟨rfl,fun i hi=>by simp[Ai.cells]at hi;subst hi;exact⟨rfl,.xU k ad n cap s h⟩⟩
 |eX xs vs q u=>have :=hl (.eX xs) (by simp[Ai.cells]);simp[Ai.leaf]at this
 |ag xs vs q L u=>
  refine⟨by simp[Ai.cells,Value.cells,q],fun i hi=>?_⟩;have z:i<vs.size:=by rw[q];exact hi
  have M:(Value.cells (.agg vs)).toList.getD i undef=vs.getD i undef:=aQ6
  rw[M];exact⟨L i hi,u i hi⟩
 |junk v=>have :=hl .junk (by simp[Ai.cells]);simp[Ai.leaf]at this
section
variable {P:Cm} {o:Oper} {es:A8 Bf}
def aF1 (w:Bc):∀b,EF (CP.v ⟨.pointer (some ⟨w.heap.size,0,none⟩),0⟩)=some b->b=w.heap.size:=fun b j=>by simpa[EF]using j.symm
def CS.eff {ns:A8 (CM×Ai)} {x:Ai} {es':A8 Bf}
 (h:∀(C:En) (ok:Nat->Prop) (H:A8 CP) (a:Act) (w:Bc),Dv C ok H es w->(∀n∈ns,R ok w H n.2 (a.eval n.1))->
  ∃v w' ok' H',((execOp a.eval o).run P w=.ok (.value v) w'\/(v=undef/\(execOp a.eval o).run P w=.ok .skip w'))/\Ep ok w ok' w'/\Names H H'/\Dv C ok' H' es' w'/\R ok' w' H' x v):CS P o ns es x es':=by
 intro C ok H a w Q hm J;obtain⟨v,w',ok',H',j,q,u,z,I⟩:=h C ok H a w hm J;unfold Oper.wp;rcases j with j|⟨rfl,j⟩
 ·rw[j];exact⟨v,ok',H',rfl,q,u,z,I⟩
 rw[j];exact⟨undef,ok',H',rfl,q,u,z,I⟩
def akq {t:CO} {x:CM} {v:Ai} (hl:v.cells.all Ai.leaf=true) (u:o.op=.box t x):CS P o [(x,v)] es (.ptr es.length 0) (es++[.box v.cells]):=
 .eff fun C ok H a w hm z=>by
  have q:=LP z;simp only at q
  have j:FZ ok (w.alloc (.cells (a.eval x).cells t)) (H++[⟨.pointer (some ⟨w.heap.size,0,none⟩),0⟩]) ⟨.pointer (some ⟨w.heap.size,0,none⟩),0⟩ (.box v.cells):=
   ⟨w.heap.size,(a.eval x).cells,t,rfl,WY w _,(q.akn hl).mono (fun b j=>⟨j,L8 _ _ _ (hm.kM b j)⟩) (Ht _ _)⟩
  obtain⟨I,J⟩:=hm.push (.cells (a.eval x).cells t) ⟨.pointer (some ⟨w.heap.size,0,none⟩),0⟩ _ (aF1 w) j;refine⟨_,_,ok,_,.inl ?_,J,Ht _ _,I,.ptr _ _ w.heap.size 0 P7⟩;simp[execOp,u,Instr.box,newVar,newRow]
def P5 :Aw->D
 | .slice none 0 0=>.sl []
 |v=>.lit v
def lX {ok:Nat->Prop} {w:Bc} (v:Aw):EU ok w (P5 v) v:=by
 unfold P5;split
 ·exact .sl0 none 0
 exact .lit v
def tJ {v:Aw} (h:v.oneCell'=true):(P5 v).leaf=true:=by
 unfold P5;split
 ·rfl
 exact h
def GI (z:Aw):A8 Ai:=z.cells.toList.map fun v=>.d (P5 v)
def ao2 {t:CO} {z:Aw} (q:(P.info? t).bind (·.zero)=some z) (hl:z.cells.all (·.oneCell')=true) (u:o.op=.alloc t):CS P o [] es (.ptr es.length 0) (es++[.box (GI z)]):=
 .eff fun C ok H a w hm U=>by
  have I:FZ ok (w.alloc (.cells z.cells t)) (H++[⟨.pointer (some ⟨w.heap.size,0,none⟩),0⟩]) ⟨.pointer (some ⟨w.heap.size,0,none⟩),0⟩ (.box (GI z)):=by
   refine⟨w.heap.size,z.cells,t,rfl,WY w _,by simp[GI],fun i hi=>?_⟩;simp only[GI,DY,TN]at hi;have J:(GI z).getD i .junk=.d (P5 z.cells[i]):=by simp[GI,List.getD,hi]
   have L:z.cells.toList.getD i undef=z.cells[i]:=OC
   rw[J,L];exact⟨tJ ((QJ.1 hl) _ Bj),.d _ _ (lX _)⟩
  obtain⟨M,O⟩:=hm.push (.cells z.cells t) ⟨.pointer (some ⟨w.heap.size,0,none⟩),0⟩ _ (aF1 w) I;refine⟨_,_,ok,_,.inl ?_,O,Ht _ _,M,.ptr _ _ w.heap.size 0 P7⟩;obtain⟨i,hi,j⟩:=iQ.1 q;simp[execOp,u,Instr.alloc,zeroValue,typeInfo,hi,j,newVar,newRow]
def MI {l:A8 Bf} {k j:Nat} {a x:Bf} (q:k<l.length) (h:(l.set k a)[j]? =some x):(j=k/\x=a)\/(j≠k/\l[j]? =some x):=by
 by_cases e:k=j
 ·subst e;simp[q]at h;exact .inl ⟨rfl,h.symm⟩
 rw[Y8 e]at h;exact .inr ⟨fun h'=>e h'.symm,h⟩
def Dv.upd {C:En} {ok:Nat->Prop} {H:A8 CP} {w w':Bc} (hm:Dv C ok H es w) {k:Nat} {M e:Bf} {h:CP} {b:Nat} (hk:es[k]? =some M) (I:M.live=true) (hh:H[k]? =some h) (hb:EF h.v=some b)
 (hos:w'.os=w.os) (J:w'.tape=w.tape) (O:w'.output=w.output) (hsize:w'.heap.size=w.heap.size)
 (z:∀c,c≠b->w'.heap[c]? =w.heap[c]?) (he:Ep ok w ok w'->FZ ok w' H h e):Dv C ok H (es.set k e) w'/\Ep ok w ok w':=by
 have U:=hm.blk k M h b hk I hh hb;have hg:Ep ok w ok w':=fun c q=>⟨q,z c (fun e=>U.1 (e▸q))⟩
 refine hm.change (fun c=>c=b) hos J O AB (fun c _ q=>z c q) (fun c q _=>by subst q;exact⟨U.1,U.2.2⟩) (fun _ h=>h) (fun _ h=>.inl h) (.refl _) dR ?_;intro j e' h' hj u;have Y:k<es.length:=(Fv.1 hk).1;rcases MI Y hj with⟨rfl,rfl⟩|⟨L,Z⟩
 ·rw[hh]at u;obtain rfl:=Dh u;refine .inr ⟨he hg,fun _ c q=>?_⟩;rw[hb]at q;obtain rfl:=Dh q;refine⟨U.1,AB,U.2.2,fun k' e'' h'' L hk' hl' aHH aHI=>L ?_⟩;rcases MI Y hk' with⟨rfl,_⟩|⟨_,hk''⟩
  ·rfl
  exact hm.Ef k' j e'' M h'' h b hk'' hk hl' I aHH hh aHI hb
 refine .inl ⟨Z,u,fun hl c q hcb=>L ?_⟩;subst hcb;exact hm.Ef j k e' M h' h c Z hk hl I u hh q hb
def aND (w:Bc) (g:Nat) (cs:Bh Aw) (k:Nat) (h:k≠g):(w.setRow g cs).heap[k]? =w.heap[k]? :=setRow_other w g k cs h
def setAt {α:Type} (cs:A8 α) (off:Nat) (ys:A8 α):A8 α:=cs.take off++ys++cs.drop (off+ys.length)
def TD {α:Type} {cs ys:A8 α} {off:Nat} (h:off+ys.length<=cs.length):(setAt cs off ys).length=cs.length:=by simp[setAt];omega
def YB {α:Type} {cs ys:A8 α} {off:Nat} (h:off+ys.length<=cs.length) (i:Nat) (z:α):(setAt cs off ys).getD i z=if off<=i/\i<off+ys.length then ys.getD (i-off) z else cs.getD i z:=by
 unfold setAt;have j:(cs.take off).length=off:=EN
 by_cases hi:i<off
 ·rw[Dk AB];simp only[List.getD];rw[IU,Hf AB,MX hi]
 by_cases q:i<off+ys.length
 ·rw[DX AB];simp only[List.getD];rw[IU,KX AB,j,Hf AB]
 rw[Dk AB];simp only[List.getD];rw[KX EN,Qg];congr 2;simp;omega
def aYT {t:CO} {x y:CM} {k off n:Nat} {cs:A8 Ai} {v:Ai} (hk:es[k]? =some (.box cs)) (hl:v.cells.all Ai.leaf=true) (hs:∀w,(sizeOf t).run P w=.ok n w) (hn:v.cells.length=n) (hle:off+n<=cs.length) (ho:o.op=.store t x y):
 CS P o [(x,.ptr k off),(y,v)] es .junk (es.set k (.box (setAt cs off v.cells))):=
 .eff fun C ok H a w hm I=>by
  have U:=(FK I).1;have h2:=(FK I).2;simp only at U h2;generalize he:a.eval x=u at U;obtain⟨h,hh,Y⟩:=H8 hm.ent hm.hlen hk;obtain⟨b,vs,T,hb,q,J,L⟩:=Y;have j:=h2.akn hl;cases U with
  |ptr _ _ M s hH=>
   rw[hh]at hH;obtain rfl:=Dh hH;simp at hb;subst hb;have z:(a.eval y).cells.toList.length=n:=by rw[j.1,hn]
   have aNs:vs.size=cs.length:=TL
   have Z:(a.eval y).cells.size=n:=MW
   have hst:=aO8 (P:=P) M off T (a.eval y).cells.toList 0 vs w q (by rw[z];omega) (fun u hu=>by
    obtain⟨i,hi,rfl⟩:=IK hu;have O:=j.2 i (by rw[←j.1];exact hi);have :=O.2.leaf O.1
    rwa [aAS hi]at this)
   simp only[OT]at hst;have hlt:M<w.heap.size:=(Gl.1 q).1
   obtain⟨h3,h4⟩:=hm.upd (e:=.box (setAt cs off v.cells)) (w':=w.setRow M (vs.toList.take off++(a.eval y).cells.toList++vs.toList.drop (off+(a.eval y).cells.toList.length)).toArray) hk rfl hh rfl rfl rfl rfl aIC (fun c hc=>aND _ _ _ _ hc) (fun hg=>by
    refine⟨M,_,T,rfl,pS w M vs _ T (0,0) q,?_,fun i hi=>?_⟩
    ·have e1:(vs.toList.take off++(a.eval y).cells.toList++vs.toList.drop (off+(a.eval y).cells.toList.length))=setAt vs.toList off (a.eval y).cells.toList:=rfl;rw[e1,a0x,TD (by have :=vs.length_toList;omega),TD AB];simpa using J
    have e1:(vs.toList.take off++(a.eval y).cells.toList++vs.toList.drop (off+(a.eval y).cells.toList.length))=setAt vs.toList off (a.eval y).cells.toList:=rfl;rw[TD AB]at hi;rw[e1,a0x,YB (by have :=vs.length_toList;omega),YB AB,z,hn];split
    ·have O:=j.2 (i-off) AB;exact⟨O.1,O.2.mono hg (.refl _)⟩
    exact⟨(L i hi).1,(L i hi).2.mono hg (.refl _)⟩)
   refine⟨undef,_,ok,H,.inr ⟨rfl,?_⟩,h4,.refl _,h3,.junk _⟩;simp only[execOp,ho,he,Instr.storeAt,Instr.sureAddr,storeVar,Fl,Gw,G8,hs,Z,ne_eq,not_true_eq_false,KT,hst]
end
def UA (x:D) (es:A8 D):flat (x::es)=x.cells.map .d++flat es:=Td
def o8 (xs ys:A8 D):flat (xs++ys)=flat xs++flat ys:=Td
def SL {size:Nat}:∀{es:A8 D},(∀x∈es,x.cells.length=size)->(flat es).length=es.length*size
 | [],_=>Td
 |x::es,h=>by
  rw[UA,EZ,DY,h x Bj,SL (fun y j=>h y (Gv _ j)),GZ,QS,Ue]
def flat_get {size:Nat}:∀{es:A8 D},(∀x∈es,x.cells.length=size)->∀i j,i<es.length->j<size->(flat es).getD (i*size+j) .junk=.d ((es.getD i ES).cells.getD j ES)
 | [],_,i,j,hi,_=>PY
 |x::es,h,0,j,_,u=>by
  have q:=h x Bj;rw[UA,aDR,J3];simp only[List.getD];rw[Hf (by simp[q,u])];have z:j<x.cells.length:=AB
  simp[z]
 |x::es,h,i+1,j,hi,u=>by
  have q:=h x Bj;have I:=flat_get (fun y J=>h y (Gv _ J)) i j Gp u;rw[UA];simp only[List.getD]at I ⊢;rw[KX (by simp[q,QS];omega)];have e:(i+1)*size+j-(x.cells.map Ai.d).length=i*size+j:=by simp[q,QS];omega
  rw[e,I];simp
section
variable {P:Cm} {o:Oper} {es:A8 Bf}
structure XO (w:World) (v:Value) (m size:Nat) (news:List Value):Prop where
 len:news.length=m*size
 one:∀u∈news,u.oneCell'=true
 at_:(∃ad c,v=.slice (some ad) m c/\∀(j:Nat) (u:Value),news[j]? =some u->w.cell? (ad.add j)=some u)\/(∃c,v=.slice none 0 c/\m=0)
def dK {ok:Nat->Prop} {w:Bc} (H:A8 CP) {ys:A8 D} {v:Aw} {size:Nat} (h:EU ok w (.sl ys) v) (hs:∀x∈ys,x.cells.length=size):
 ∃z,XO w v ys.length size z/\Fg ok w H (flat ys) z:=by
 cases h with
 |sl0 ad cap=>
  refine⟨[],⟨Bj,Bj,?_⟩,Td,fun i hi=>aD7⟩;cases ad with
  |none=>exact .inr ⟨cap,rfl,rfl⟩
  |some ad=>exact .inl ⟨ad,cap,rfl,fun j u h=>J8⟩
 |sl _ b off cap q hcap hok hs' hf hx hc=>
  by_cases hy:ys=[]
  ·subst hy;refine⟨[],⟨Bj,Bj,.inl ⟨⟨b,off,none⟩,cap,rfl,fun j u h=>J8⟩⟩,Td,fun i hi=>aD7⟩
  have J:0<ys.length:=Ze.2 hy;have hsz:q=size:=by rw[←hs' 0 J];exact hs _ (by simp[List.getD,J])
  subst hsz;have hl:=SL hs
  have key:∀k,k<ys.length*q->∃i j,k=i*q+j/\i<ys.length/\j<q:=by
   intro k I
   have hp:0<q:=by
    rcases Z5 q with h0|h0
    ·rw[h0,Nat.mul_zero]at I;omega
    exact h0
   exact⟨k/q,k % q,by rw[Vj];exact(aEb k q).symm,sU (by rwa [Vj]at I),nN _ hp⟩
  let z:A8 Aw:=(List.range (ys.length*q)).map fun k=>cellAt w b (off+k)
  have L:z.length=ys.length*q:=by simp[z]
  have O:∀k,k<ys.length*q->z.getD k undef=cellAt w b (off+k):=by
   intro k I;simp[z,List.getD,I]
  have M:Fg ok w H (flat ys) z:=by
   refine⟨by rw[L,hl],fun k I=>?_⟩;rw[hl]at I;obtain⟨i,j,rfl,hi,U⟩:=key k I;rw[flat_get hs i j hi U,O _ I];exact⟨hf i hi j U,.d _ _ (hc i hi j U)⟩
  refine⟨z,⟨L,fun u hu=>?_,.inl ⟨⟨b,off,none⟩,cap,rfl,fun k u I=>?_⟩⟩,M⟩
  ·obtain⟨k,I,rfl⟩:=IK hu;have h5:=M.2 k (by rw[←M.1];exact I);have :=h5.2.leaf h5.1
   rwa [aAS I]at this
  obtain⟨Y,rfl⟩:=Fv.1 I;rw[addr_add];have Z:k<ys.length*q:=by rw[←L];exact Y
  obtain⟨i,j,e,hi,U⟩:=key k Z;have hxx:=hx i hi j U;rw[←e]at hxx;obtain⟨u',hu'⟩:=Rk.1 hxx;have :=O k Z;rw[aAS Y]at this;rw[this];simp[cellAt,hu']
structure Gu (P:Program) (t e:TypeId) (size bytes:Nat):Prop where
 und:P.underlying t=some (.slice e)
 info:∃i z,P.info? e=some i/\i.zero=some z/\i.size=size/\i.bytes=bytes/\z.cells.size=size
 pos:0<size
def aT7 (P:Cm) (t e size j:Nat):Ad:=
 (match P.underlying t with |some (.slice e')=>e'=e|_=>false)&&(match P.info? e with |some i=>i.size=size&&(i.bytes=j)&&(match i.zero with |some z=>z.cells.size=size|none=>false)|none=>false)&&(0<size)
def LX {P:Cm} {t e size j:Nat} (h:aT7 P t e size j=true):Gu P t e size j:=by
 unfold aT7 at h;simp only[Df,Hd]at h;obtain⟨⟨q,u⟩,J⟩:=h;refine⟨?_,?_,J⟩
 ·split at q
  ·rename_i e' L;rw[L];simp at q;rw[q]
  cases q
 split at u
 ·rename_i i hi;simp only[Df,Hd]at u;obtain⟨⟨M,O⟩,I⟩:=u;split at I
  ·rename_i z U;exact⟨i,z,hi,U,M,O,Ti⟩
  cases I
 cases u
def afQ {w:Bc} {t e:CO} {ty:CO} {size O:Nat} (hE:Gu P t e size O) {v:Aw} {n:Nat} {xs:A8 Aw} (L:w.ownsRow 0 e size v n xs) {x:Aw} {m:Nat} {I:A8 Aw} (q:XO w x m size I)
 (hb:(n+m)*O<=140737488355328) (hn:n+m<=maxLen):
 ∃v' w',(Builtin.append_ #[t,t] ty #[v,x]).run P w=.ok v' w'/\w'.ownsRow 0 e size v' (n+m) (xs++I)/\w.grownBy w' v.ownBlock/\(∀g,EF v'=some g->EF v=some g\/w.heap.size<=g):=by
 obtain⟨i,z,hi,hz,hs,Z,hzs⟩:=hE.info;rcases q.at_ with⟨ad,c,rfl,J⟩|⟨c,rfl,rfl⟩
 ·obtain⟨v',w',hr,ho',hg,hnil⟩:=run_append_own (P:=P) w 0 t ty e i z size O hE.und hi hz hs Z hzs hE.pos v n xs L ad m c I q.len J q.one hn hb (Du _);refine⟨v',w',hr,ho',hg,fun g U=>?_⟩;rcases L.2 with⟨rfl,rfl⟩|⟨g0,cap,cur,rfl,hbg,hg0,hnc,hcm,hcs,htake⟩
  ·have hx:xs=[]:=Hw (by simpa using L.1);subst hx;obtain⟨v2,w2,M,ho2,_,_⟩:=run_append_own (P:=P) w w.heap.size t ty e i z size O hE.und hi hz hs Z hzs hE.pos _ 0 [] (a1B w w.heap.size e size) ad m c I q.len J q.one hn hb (EX _);rw[hr]at M;simp only[Result.ok.injEq]at M;obtain⟨rfl,rfl⟩:=M;rcases ho2.2 with⟨rfl,_⟩|⟨g',_,_,rfl,hle,_⟩
   ·simp[EF]at U
   simp[EF]at U;subst U;exact .inr hle
  by_cases Y:n+m<=cap
  ·have hfit:n*i.size+I.length<=cur.size:=by rw[q.len,hcs,hs,←YG];exact Jz _ Y
   have M:=run_append_room (P:=P) w t ty e i hE.und hi g0 n cap cur hg0 ad m c I (by rw[hs];exact q.len) J q.one Y hfit;rw[hr]at M;simp only[Result.ok.injEq]at M;obtain⟨rfl,rfl⟩:=M;exact .inl U
  have holds:∀(j:Nat) (u:Aw),xs[j]? =some u->w.cell? ((⟨g0,0,none⟩:Addr).add j)=some u:=L.cells (g:=g0) rfl;have M:=run_append_grow (P:=P) w t ty e i z hE.und hi hz ⟨g0,0,none⟩ n cap xs (by rw[hs];exact L.1) holds ad m c I (by rw[hs];exact q.len) J AB (by unfold maxLen at hn;omega) (growslice_fits AB (by rw[Z];exact hb));rw[hr]at M;simp only[Result.ok.injEq]at M;obtain⟨rfl,rfl⟩:=M;simp[EF]at U;subst U;exact .inr (EX _)
 have hnews:I=[]:=Hw (by simpa using q.len);subst hnews;refine⟨v,w,?_,Y6,⟨rfl,rfl,rfl,EX _,fun _ _ _=>rfl⟩,fun g hg=>.inl hg⟩;rcases L.2 with⟨rfl,rfl⟩|⟨g,cap,cur,rfl,_,_,hnc,_⟩
 ·simp[Builtin.append_,a1q hE.und,sizeOf,typeInfo,hi,Builtin.lenOf,Builtin.firstCells]
 simp[Builtin.append_,a1q hE.und,sizeOf,typeInfo,hi,Builtin.lenOf,Builtin.firstCells,hnc,storeCells]
def aJw {w:Bc} {t e:CO} {ty:CO} {size I:Nat} (hE:Gu P t e size I) {v:Aw} {n:Nat} {xs:A8 Aw} (u:lG w e size v n xs) {x:Aw} {m:Nat} {q:A8 Aw} (j:XO w x m size q)
 (hb:(n+m)*I<=140737488355328) (hn:n+m<=maxLen):
 ∃v' w',(Builtin.append_ #[t,t] ty #[v,x]).run P w=.ok v' w'/\lG w' e size v' (n+m) (xs++q)/\w.grownBy w' v.ownBlock/\(∀g,EF v'=some g->EF v=some g\/w.heap.size<=g):=by
 rcases u.2 with h|⟨g,cap,cur,rfl,h0,hg0,hnc,hcm,hcs,U⟩
 ·obtain⟨v',w',h1,h2,Y,h4⟩:=afQ (ty:=ty) hE ⟨u.1,.inl h⟩ j hb hn;exact⟨v',w',h1,.of h2,Y,h4⟩
 obtain⟨i,z,hi,hz,hs,hby,hzs⟩:=hE.info;have hlen:(xs++q).length=(n+m)*size:=by rw[EZ,u.1,j.len,YG]
 rcases j.at_ with⟨ad,c,rfl,L⟩|⟨c,rfl,rfl⟩
 ·by_cases J:n+m<=cap
  ·have O:n*i.size+q.length<=cur.size:=by
    rw[j.len,hs,←YG];exact FC (Jz _ J) hcs
   have hr:=run_append_room (P:=P) w t ty e i hE.und hi g n cap cur hg0 ad m c q (by rw[hs];exact j.len) L j.one J O;rw[hs]at hr O;refine⟨_,_,hr,⟨hlen,.inr ⟨g,cap,_,rfl,Du _,pS w g cur _ e _ hg0,J,hcm,?_,?_⟩⟩,⟨rfl,rfl,rfl,Bj,fun k _ hk=>setRow_other w g k _ (fun e=>hk (by simp[Value.ownBlock,e]))⟩,fun g' M=>.inl M⟩
   ·simp only[lS,EZ,G6,JX,TN];omega
   rw[U,←hlen];exact aAX
  obtain⟨v',w',h1,h2,Y⟩:=run_append_arg_grows (P:=P) w t ty e i z size I hE.und hi hz hs hby hzs hE.pos ⟨g,0,none⟩ n cap xs u.1 (u.cells (g:=g) rfl) ad m c q j.len L AB hn hb;refine⟨v',w',h1,.of h2,⟨Y.os,Y.tape,Y.output,Y.size,fun k hk _=>Y.block k hk Bj⟩,fun g' M=>.inr ?_⟩;rcases h2.2 with⟨rfl,_⟩|⟨g2,_,_,rfl,hle2,_⟩
  ·simp[EF]at M
  simp[EF]at M;subst M;exact hle2
 have Z:q=[]:=Hw (by simpa using j.len);subst Z;refine⟨.slice (some ⟨g,0,none⟩) n cap,w,?_,Vh,⟨rfl,rfl,rfl,EX _,fun _ _ _=>rfl⟩,fun g hg=>.inl hg⟩;simp[Builtin.append_,a1q hE.und,sizeOf,typeInfo,hi,Builtin.lenOf,Builtin.firstCells,hnc,storeCells]
def Dv.turn {C:En} {ok:Nat->Prop} {H:A8 CP} {w w':Bc} (hm:Dv C ok H es w) {k:Nat} {e0 e:Bf} {h h':CP} (hk:es[k]? =some e0) (M:e0.live=true) (hh:H[k]? =some h)
 (hos:w'.os=w.os) (O:w'.tape=w.tape) (hout:w'.output=w.output) (U:w.heap.size<=w'.heap.size)
 (J:∀c,c<w.heap.size->EF h.v≠some c->w'.heap[c]? =w.heap[c]?) (hb':∀g,EF h'.v=some g->g<w'.heap.size/\(EF h.v=some g\/w.heap.size<=g))
 (he:Ep ok w ok w'->FZ ok w' (H++[h']) h' e):Dv C ok (H++[h']) (es.set k .dead++[e]) w'/\Ep ok w ok w':=by
 have h0:=fun b hb=>hm.blk k e0 h b hk M hh hb;have hkl:k<es.length:=(Fv.1 hk).1;have hg:Ep ok w ok w':=fun c I=>⟨I,J c (hm.kM c I) (fun e=>(h0 c e).1 I)⟩
 refine hm.change (fun c=>EF h.v=some c) hos O hout U J (fun c I _=>⟨(h0 c I).1,(h0 c I).2.2⟩) (fun _ h=>h) (fun _ h=>.inl h) (Ht _ _) dR ?_;intro j e' hj' hj u;rcases Wq hj with h1|⟨h1,h2⟩
 ·have hjl:j<H.length:=by rw[hm.hlen];simpa using(Fv.1 h1).1
  rw[Hf hjl]at u;rcases MI hkl h1 with⟨rfl,rfl⟩|⟨Y,h3⟩
  ·exact .inr ⟨trivial,fun h=>JD⟩
  refine .inl ⟨h3,u,fun hl c I hcb=>Y ?_⟩;exact hm.Ef j k e' e0 hj' h c h3 hk hl M u hh I hcb
 subst h2;have hk2:j=H.length:=by rw[hm.hlen];simpa using h1
 subst hk2;simp at u;subst u;refine .inr ⟨he hg,fun _ c I=>?_⟩;obtain⟨h3,q⟩:=hb' c I;refine⟨fun hok=>?_,h3,?_,fun k' e'' h'' Y hk' Z z L=>?_⟩
 ·rcases q with q|q
  ·exact(h0 c q).1 hok
  have :=hm.kM c hok;omega
 ·rcases q with q|q
  ·exact(h0 c q).2.2
  exact .inl (FC hm.fr.size q)
 rcases Wq hk' with h5|⟨h5,_⟩
 ·have hkl':k'<H.length:=by rw[hm.hlen];simpa using(Fv.1 h5).1
  rw[Hf hkl']at z;rcases MI hkl h5 with⟨rfl,rfl⟩|⟨hne',h6⟩
  ·cases Z
  rcases q with q|q
  ·exact hne' (hm.Ef k' k e'' e0 h'' h c h6 hk Z M z hh L q)
  have :=(hm.blk k' e'' h'' c h6 Z z L).2.1;omega
 simp at h5;exact Y (by rw[h5,hm.hlen])
def yA {w:Bc} {e size n:Nat} {v:Aw} {xs:A8 Aw} (h:lG w e size v n xs) {g:Nat} (j:EF v=some g):g<w.heap.size:=by
 rcases h.2 with⟨rfl,_⟩|⟨u,_,_,rfl,_,q,_⟩
 ·simp[EF]at j
 simp[EF]at j;subst j;exact(Gl.1 q).1
def aIY {w:Bc} {e size n:Nat} {v:Aw} {xs:A8 Aw} (h:lG w e size v n xs):v.ownBlock=EF v:=by
 rcases h.2 with⟨rfl,_⟩|⟨j,_,_,rfl,_⟩<;>rfl
def Oe {ok:Nat->Prop} {w:Bc} {H:A8 CP} {k:Nat} {v:Aw} {h:CP} (q:R ok w H (.aO k) v) (u:H[k]? =some h):v=h.v:=by
 cases q with
 |aO _ ad n cap s j=>rw[u]at j;rw[Dh j]
def afq {C:En} {ok:Nat->Prop} {H:A8 CP} {w:Bc} (hm:Dv C ok H es w) {t ty e:CO} {size q k:Nat} {xs ys:A8 D} (hE:Gu P t e size q) (hk:es[k]? =some (.arr e size xs))
 {v x:Aw} (hv:R ok w H (.aO k) v) {j:A8 Aw} (L:XO w x ys.length size j) (I:Fg ok w H (flat ys) j) (hys:∀y∈ys,y.cells.length=size) (hb:(xs.length+ys.length)*q<=140737488355328) (hn:xs.length+ys.length<=maxLen):
 ∃v' w' H',(Builtin.append_ #[t,t] ty #[v,x]).run P w=.ok v' w'/\Ep ok w ok w'/\Names H H'/\Dv C ok H' (es.set k .dead++[.arr e size (xs++ys)]) w'/\R ok w' H' (.aO es.length) v':=by
 obtain⟨h,hh,hok⟩:=H8 hm.ent hm.hlen hk;obtain rfl:=Oe hv hh;obtain⟨h1,h2,Dn,z,hrs⟩:=hok;obtain⟨v',w',hr,J,M,O⟩:=aJw (P:=P) (ty:=ty) hE z L hb hn
 obtain⟨h3,h4⟩:=hm.turn (h':=⟨v',size⟩) (e:=.arr e size (xs++ys)) hk rfl hh M.os M.tape M.output M.size (fun c hc hne=>M.block c hc (by rw[aIY z];exact fun e=>hne e.symm)) (fun g U=>⟨yA J U,O g U⟩) (fun Y=>by
  refine⟨rfl,fun y hy=>?_,Dn++j,TL,?_⟩
  ·rcases Il.1 hy with h|h
   ·exact h2 y h
   exact hys y h
  have Z:=hrs.mono Y (Ht H [⟨v',size⟩]);have a2:=I.mono Y (Ht H [⟨v',size⟩]);rw[o8];refine⟨by rw[EZ,EZ,Z.1,a2.1],fun i hi=>?_⟩;by_cases u:i<(flat xs).length
  ·have e1:(flat xs++flat ys).getD i .junk=(flat xs).getD i .junk:=by simp[List.getD,Hf u]
   have e2:(Dn++j).getD i undef=Dn.getD i undef:=by simp[List.getD,Hf (by rw[Z.1];exact u:i<Dn.length)]
   rw[e1,e2];exact Z.2 i u
  have hi3:i-(flat xs).length<(flat ys).length:=aKi
  have e1:(flat xs++flat ys).getD i .junk=(flat ys).getD (i-(flat xs).length) .junk:=by simp[List.getD,KX (X7 u)]
  have e2:(Dn++j).getD i undef=j.getD (i-(flat xs).length) undef:=by simp[List.getD,KX (by rw[Z.1];omega:Dn.length<=i),Z.1]
  rw[e1,e2];exact a2.2 _ hi3)
 refine⟨v',w',_,hr,h4,Ht _ _,h3,?_⟩;have hH:(H++[(⟨v',size⟩:CP)])[es.length]? =some ⟨v',size⟩:=P7
 rcases J.2 with⟨rfl,_⟩|⟨g',c',_,rfl,_⟩
 ·exact .aO _ _ _ _ size hH
 exact .aO _ _ _ _ size hH
def ag9 {s x:CM} {t e:CO} {size j k:Nat} {xs ys:A8 D} (hE:Gu P t e size j) (U:es[k]? =some (.arr e size xs)) (q:∀y∈ys,y.cells.length=size)
 (Y:(xs.length+ys.length)*j<=140737488355328) (Z:xs.length+ys.length<=maxLen) (ho:o.op=.call { callee:=.builtin .append,args:= #[s,x],argTypes:= #[t,t] }):
 CS P o [(s,.aO k),(x,.d (.sl ys))] es (.aO es.length) (es.set k .dead++[.arr e size (xs++ys)]):=
 .eff fun C ok H a w hm u=>by
  have L:=(FK u).1;have M:=(FK u).2;simp only at L M;have I:EU ok w (.sl ys) (a.eval x):=by cases M with |d _ _ h=>exact h
  obtain⟨O,z,J⟩:=dK H I q;obtain⟨v',w',H',hr,r1,r2,r3,r4⟩:=afq (ty:=o.type) hm hE U L z J q Y Z;refine⟨v',w',ok,H',.inl ?_,r1,r2,r3,r4⟩;simp[execOp,ho,resolve,invoke,builtin,hr]
def aIX {C:En} {ok:Nat->Prop} {H:A8 CP} {w:Bc} (hm:Dv C ok H es w) (e:CO) (size:Nat):
 Dv C ok (H++[⟨.slice none 0 0,size⟩]) (es++[.arr e size []]) w/\R ok w (H++[⟨.slice none 0 0,size⟩]) (.aO es.length) (.slice none 0 0):=by
 obtain⟨h,_⟩:=hm.change (ok':=ok) (w':=w) (H':=H++[⟨.slice none 0 0,size⟩]) (es':=es++[.arr e size []]) (fun _=>False) rfl rfl rfl (EX _) (fun _ _ _=>rfl) (fun _ h=>h.elim) (fun _ h=>h) (fun _ h=>.inl h) (Ht _ _) dR (by
  intro k e' h' u j;rcases Wq u with q|⟨q,I⟩
  ·have z:k<H.length:=by rw[hm.hlen];exact(Fv.1 q).1
   rw[Hf z]at j;exact .inl ⟨q,j,fun _ _ _ h=>h⟩
  subst I;have z:k=H.length:=by rw[hm.hlen];exact q
  subst z;simp at j;subst j
  exact .inr ⟨⟨rfl,Bj,[],⟨Bj,.inl ⟨rfl,rfl⟩⟩,Td,fun i hi=>aD7⟩,fun _ b J=>by simp[EF]at J⟩)
 exact⟨h,.aO _ _ _ _ size P7⟩
def CX (e:CO) (size:Nat) (j:o.op=.assign (.const (.slice none 0 0))):CS P o [] es (.aO es.length) (es++[.arr e size []]):=
 .eff fun C ok H a w hm _=>by
  obtain⟨q,u⟩:=aIX hm e size;exact⟨.slice none 0 0,w,ok,_,.inl aFa,.refl _ _,Ht _ _,q,u⟩
def agP (j:o.op=.assign (.const (.slice none 0 0))):CS P o [] es (.d (.sl [])) es:=
 .pure fun _ _ a w _ _ _=>⟨.slice none 0 0,aFa,.d _ _ (.sl0 none 0)⟩
def aZx (j:o.op=.move (.const (.slice none 0 0))):CS P o [] es (.d (.sl [])) es:=
 .pure fun _ _ a w _ _ _=>⟨.slice none 0 0,aFa,.d _ _ (.sl0 none 0)⟩
end
def aPC (off:Nat):∀(vs:A8 Aw) (i:Nat) (cells:Bh Aw),off+i+vs.length<=cells.size->
 ((vs.zipIdx i).foldl (fun cs (p:Aw×Nat)=>cs.setIfInBounds (off+p.2) p.1) cells).toList=setAt cells.toList (off+i) vs
 | [],i,cells,h=>by simp[setAt]
 |v::vs,i,cells,h=>by
  simp only[GZ]at h;rw[List.zipIdx_cons,Gm];rw[aPC off vs (i+1) _ EN];simp only[aI1];have j:off+i<cells.toList.length:=EN
  unfold setAt;rw[aJI,DX j];have q:(cells.toList.take (off+i)).length=off+i:=EN
  have u:(List.take (off+i) cells.toList++v::List.drop (off+i+1) cells.toList).take (off+(i+1))=cells.toList.take (off+i)++[v]:=by
   rw[aF6,q,QL AB];have :off+(i+1)-(off+i)=1:=AB
   rw[this];simp
  have z:(List.take (off+i) cells.toList++v::List.drop (off+i+1) cells.toList).drop (off+(i+1)+vs.length)=cells.toList.drop (off+i+(vs.length+1)):=by
   rw[aJ9,q,qK AB];have :off+(i+1)+vs.length-(off+i)=vs.length+1:=AB
   rw[this];simp[aIL];congr 1;omega
  rw[u,z];simp
def Nw :A8 (Nat×CM)->A8 Ai->A8 (CM×Ai)
 |(_,x)::j,v::vs=>(x,v)::Nw j vs
 |_,_=>[]
def O6 (place:Nat->AO (Nat×Nat)) (n:Nat):A8 (Nat×CM)->A8 Ai->Ad
 |(i,_)::j,v::vs=>(match place i with |some (off,s)=>v.cells.length=s&&(off+s<=n)&&v.cells.all Ai.leaf|none=>false)&&O6 place n j vs
 | [],[]=>true
 |_,_=>false
def LG (place:Nat->AO (Nat×Nat)):A8 Ai->A8 (Nat×CM)->A8 Ai->A8 Ai
 |cs,(i,_)::j,v::vs=>LG place (setAt cs ((place i).getD (0,0)).1 v.cells) j vs
 |cs,_,_=>cs
def Fg.setAt {ok:Nat->Prop} {w:Bc} {H:A8 CP} {cs ys:A8 Ai} {vs us:A8 Aw} {off:Nat} (h:Fg ok w H cs vs) (k:Fg ok w H ys us) (j:off+ys.length<=cs.length):Fg ok w H (setAt cs off ys) (setAt vs off us):=by
 refine⟨by rw[TD (by rw[h.1,k.1];exact j),TD j,h.1],fun i hi=>?_⟩;rw[TD j]at hi;rw[YB j,YB (by rw[h.1,k.1];exact j),k.1];split
 ·exact k.2 _ AB
 exact h.2 i hi
def sB {ok:Nat->Prop} {w:Bc} {H:A8 CP} {place:Nat->AO (Nat×Nat)} {a:Act}:∀(q:A8 (Nat×CM)) (vs:A8 Ai) (cs:A8 Ai) (cells:Bh Aw),Fg ok w H cs cells.toList->O6 place cs.length q vs=true->
 (∀n∈Nw q vs,R ok w H n.2 (a.eval n.1))->∃j,Instr.fill place cells (q.map fun p=>(p.1,a.eval p.2))=some j/\Fg ok w H (LG place cs q vs) j.toList
 | [],[],cs,cells,J,_,_=>⟨cells,rfl,J⟩
 | [],_::_,_,_,_,h,_=>by simp[O6]at h
 |_::_,[],_,_,_,h,_=>by simp[O6]at h
 |(i,x)::q,v::vs,cs,cells,J,h,M=>by
  simp only[O6,Df]at h;obtain⟨u,Y⟩:=h;cases hp:place i with
  |none=>rw[hp]at u;cases u
  |some os=>
   obtain⟨off,s⟩:=os;rw[hp]at u;simp only[Df,Hd]at u;obtain⟨⟨h3,h4⟩,Z⟩:=u;have O:Fg ok w H v.cells (a.eval x).cells.toList:=(M (x,v) (by simp[Nw])).akn Z;have hsz:(a.eval x).cells.size=s:=by have :=O.1;simp at this;omega
   have U:cells.size=cs.length:=by simpa using J.1
   have z:((a.eval x).cells.zipIdx.foldl (fun cs (p:Aw×Nat)=>cs.setIfInBounds (off+p.2) p.1) cells).toList=setAt cells.toList off (a.eval x).cells.toList:=by
    rw[←Array.foldl_toList,Array.toList_zipIdx];exact aPC off (a.eval x).cells.toList 0 cells EN
   have I:=J.setAt O (off:=off) AB;rw[←z]at I;obtain⟨j,hc,hR⟩:=sB q vs (setAt cs off v.cells) _ I (by rw[TD AB];exact Y) (fun n L=>M n (by simp[Nw,L]));refine⟨j,?_,?_⟩
   ·simp only[JJ,Instr.fill,hp];rw[Dk EN];exact hc
   simp only[LG,hp,ML];exact hR
def Qu (z:Aw) (n:Nat):A8 Ai:=(List.range n).map fun k=>(GI z).getD (k % z.cells.size) .junk
def amU {ok:Nat->Prop} {w:Bc} {H:A8 CP} {z:Aw} {n:Nat} (hl:z.cells.all (·.oneCell')=true) (q:0<z.cells.size):Fg ok w H (Qu z n) (((Array.range n).map (z.cells[· % z.cells.size]!)).toList):=by
 refine⟨by simp[Qu],fun i hi=>?_⟩;have j:i<n:=by simpa[Qu]using hi
 have hm:i % z.cells.size<z.cells.size:=nN _ q;have u:(Qu z n).getD i .junk=.d (P5 z.cells[i % z.cells.size]):=by simp[Qu,GI,List.getD,j,hm]
 have I:(((Array.range n).map (z.cells[· % z.cells.size]!)).toList).getD i undef=z.cells[i % z.cells.size]:=by simp[List.getD,j,hm]
 rw[u,I];exact⟨tJ ((QJ.1 hl) _ Bj),.d _ _ (lX _)⟩
def aJV {ok:Nat->Prop} {w:Bc} {H:A8 CP} {z:Aw} (hl:z.cells.all (·.oneCell')=true):Fg ok w H (GI z) z.cells.toList:=by
 refine⟨by simp[GI],fun i hi=>?_⟩;simp only[GI,DY,TN]at hi;have j:(GI z).getD i .junk=.d (P5 z.cells[i]):=by simp[GI,List.getD,hi]
 have q:z.cells.toList.getD i undef=z.cells[i]:=OC
 rw[j,q];exact⟨tJ ((QJ.1 hl) _ Bj),.d _ _ (lX _)⟩
def aJP {P:Cm} {w:Bc}:∀(l:A8 Field),(∀f∈l,(P.info? f.type).isSome=true)->
 (l.mapM fun f=>(do pure (f.offset,←sizeOf f.type):Sem (Nat×Nat))).run P w=.ok (l.map fun f=>(f.offset,P.cellsOf f.type)) w
 | [],_=>rfl
 |f::l,h=>by
  obtain⟨i,hi⟩:=Rk.1 (h f Bj);have j:=aJP (P:=P) (w:=w) l (fun g q=>h g Zg);have hs:(sizeOf f.type).run P w=.ok i.size w:=by simp[sizeOf,typeInfo,hi]
  have u:P.cellsOf f.type=i.size:=by simp[Program.cellsOf,hi]
  simp only[List.mapM_cons,Fl,hs,G8,Gw,j,JJ,u]
structure Jj (P:Program) (t:TypeId) (places:List (Nat×Nat)) (z:Value):Prop where
 fields:∃fs,P.underlying t=some (.struct fs)/\(∀f∈fs.toList,(P.info? f.type).isSome=true)/\(fs.toList.map fun f=>(f.offset,P.cellsOf f.type))=places
 zero:(P.info? t).bind (·.zero)=some z
 one:z.cells.all (·.oneCell')=true
def aQZ (P:Cm) (t:CO) (j:A8 (Nat×Nat)):Ad:=
 match P.underlying t with
 |some (.struct q)=>q.toList.all (fun f=>(P.info? f.type).isSome)&&decide ((q.toList.map fun f=>(f.offset,P.cellsOf f.type))=j)
 |_=>false
def NG {P:Cm} {t:CO} {j:A8 (Nat×Nat)} {z:Aw} (h:aQZ P t j=true) (q:(P.info? t).bind (·.zero)=some z) (u:z.cells.all (·.oneCell')=true):Jj P t j z:=by
 unfold aQZ at h;split at h
 ·rename_i I J;simp only[Df,EY,Hd]at h;exact⟨⟨I,J,h.1,h.2⟩,q,u⟩
 cases h
section
variable {P:Cm} {o:Oper} {es:A8 Bf}
def aDq {t:CO} {z:Aw} (q:(P.info? t).bind (·.zero)=some z) (w:Bc):(zeroValue t).run P w=.ok z w:=by
 obtain⟨i,hi,j⟩:=iQ.1 q;simp[zeroValue,typeInfo,hi,j]
def aOx {l:A8 Ai} (h:l.all Ai.BJ=true):l=(JQ l).map .d:=by
 rw[EY]at h;unfold JQ;rw[YI]
 conv=>lhs;rw[←List.map_id l]
 refine aO4 fun x j=>?_;have :=h x j;cases x<;>first|rfl|(simp[Ai.BJ]at this)
def ahR {t:CO} {q:Bh (Nat×CM)} {j:A8 (Nat×Nat)} {z:Aw} (hS:Jj P t j z) (vs:A8 Ai) (hp:O6 (fun(i:Nat)=>j[i]?) (GI z).length q.toList vs=true) (ho:o.op=.build t q):
 CS P o (Nw q.toList vs) es (.ag (LG (fun(i:Nat)=>j[i]?) (GI z) q.toList vs)) es:=
 .pure fun ok H a w _ _ hn=>by
  obtain⟨⟨Y,hu,hf,J⟩,hz,h1⟩:=hS;have L:=aDq (P:=P) hz w;have M:(underlying t).run P w=.ok (.struct Y) w:=aEd
  have hm:(Y.mapM fun f=>(do pure (f.offset,←sizeOf f.type):Sem (Nat×Nat))).run P w=.ok j.toArray w:=by
   rw[aHt];rw[a00,aJP _ hf,J];rfl
  obtain⟨u,hc,I⟩:=sB (place:=fun(i:Nat)=>j[i]?) q.toList vs (GI z) z.cells (aJV (ok:=ok) (w:=w) (H:=H) h1) hp hn;refine⟨.agg u,?_,.ag _ _ (by simpa using I.1) (fun i hi=>(I.2 i hi).1) (fun i hi=>?_)⟩
  rotate_left
  ·have Z:=(I.2 i hi).2;have O:i<u.size:=by have :=I.1;simp at this;omega
   have U:u.toList.getD i undef=u.getD i undef:=by simp[List.getD,Array.getD,O]
   rw[U]at Z;exact Z
  have e:(q.map fun(i,x)=>(i,a.eval x)).toList=q.toList.map fun p=>(p.1,a.eval p.2):=Bj
  have U:(fun(i:Nat)=>j.toArray[i]?)=(fun(i:Nat)=>j[i]?):=by funext i;simp
  simp only[execOp,ho,Instr.build,Fl,L,M,hm,G8];rw[e,U,hc];rfl
def acT {t:CO} {q:Bh (Nat×CM)} {j:A8 (Nat×Nat)} {z:Aw} (hS:Jj P t j z) (vs:A8 Ai) (hp:O6 (fun(i:Nat)=>j[i]?) (GI z).length q.toList vs=true)
 (hd:(LG (fun(i:Nat)=>j[i]?) (GI z) q.toList vs).all Ai.BJ=true) (ho:o.op=.build t q):
 CS P o (Nw q.toList vs) es (.d (.agg (JQ (LG (fun(i:Nat)=>j[i]?) (GI z) q.toList vs)))) es:=
 .pure fun ok H a w _ _ hn=>by
  obtain⟨⟨fs,hu,hf,I⟩,hz,h1⟩:=hS;have J:=aDq (P:=P) hz w;have L:(underlying t).run P w=.ok (.struct fs) w:=aEd
  have hm:(fs.mapM fun f=>(do pure (f.offset,←sizeOf f.type):Sem (Nat×Nat))).run P w=.ok j.toArray w:=by
   rw[aHt];rw[a00,aJP _ hf,I];rfl
  obtain⟨u,hc,M⟩:=sB (place:=fun(i:Nat)=>j[i]?) q.toList vs (GI z) z.cells (aJV (ok:=ok) (w:=w) (H:=H) h1) hp hn;refine⟨.agg u,?_,.d _ _ ?_⟩
  ·have e:(q.map fun(i,x)=>(i,a.eval x)).toList=q.toList.map fun p=>(p.1,a.eval p.2):=Bj
   have e2:(fun(i:Nat)=>j.toArray[i]?)=(fun(i:Nat)=>j[i]?):=by funext i;simp
   simp only[execOp,ho,Instr.build,Fl,J,L,hm,G8];rw[e,e2,hc];rfl
  rw[aOx hd]at M;generalize JQ (LG (fun(i:Nat)=>j[i]?) (GI z) q.toList vs)=xs at M ⊢;obtain⟨h2,O⟩:=M;simp only[DY]at h2 O
  have hg:∀i,i<xs.length->(xs.map Ai.d).getD i .junk=.d (xs.getD i ES):=by
   intro i hi;simp[List.getD,hi]
  have U:u.size=xs.length:=pF
  refine .agg xs u U ?_ ?_<;>intro i hi
  ·have :=(O i hi).1;rw[hg i hi]at this;exact this
  have Y:=(O i hi).2;rw[hg i hi]at Y;have Z:i<u.size:=AB
  have e:u.toList.getD i undef=u.getD i undef:=by simp[List.getD,Array.getD,Z]
  rw[e]at Y;cases Y with |d _ _ h=>exact h
def ab4 {ok:Nat->Prop} {w:Bc} {H:A8 CP} {ys:A8 D} {size b:Nat} {cells:Bh Aw} {e:CO} {fr:Nat×Nat} (u:∀y∈ys,y.cells.length=size) (O:w.heap[b]? =some (.cells cells e fr)) (z:ok b) (I:Fg ok w H (flat ys) cells.toList):
 EU ok w (.sl ys) (.slice (some ⟨b,0,none⟩) ys.length ys.length):=by
 have hl:=SL u;have J:cells.size=ys.length*size:=by have :=I.1;simp at this;omega
 have U:∀i,i<ys.length->ys.getD i ES∈ys:=fun i hi=>OC
 have L:∀i j,i<ys.length->j<size->i*size+j<ys.length*size:=by
  intro i j hi q
  calc i*size+j<i*size+size:=AB
   _=(i+1)*size:=by rw[QS]
   _<=ys.length*size:=Jz _ hi
 have M:∀i j,i<ys.length->j<size->w.cell? ⟨b,0+(i*size+j),none⟩=some (cells.toList.getD (i*size+j) undef):=by
  intro i j hi q;have :=L i j hi q;rw[J3];simp[World.cell?,O,J,this,List.getD]
 refine .sl ys b 0 ys.length size (EX _) (fun _ _=>z) (fun i hi=>u _ (U i hi)) (fun i hi j q=>?_) (fun i hi j q=>?_) (fun i hi j q=>?_)
 ·have :=(I.2 (i*size+j) (by rw[hl];exact L i j hi q)).1;rw[flat_get u i j hi q]at this;exact this
 ·rw[M i j hi q];rfl
 have :=(I.2 (i*size+j) (by rw[hl];exact L i j hi q)).2;rw[flat_get u i j hi q]at this;unfold cellAt;rw[M i j hi q];cases this with |d _ _ h=>exact h
def aYF {t e:CO} {size u len:Nat} {z:Aw} (hE:Gu P t e size u) (hz:(P.info? e).bind (·.zero)=some z) (h1:z.cells.all (·.oneCell')=true) (Y:z.cells.size=size) (hlen:len*size<=16777216) {j:Bh (Nat×CM)} {vs:A8 Ai}
 (hp:O6 (fun i=>some (i*size,size)) (len*size) j.toList vs=true) {ok:Nat->Prop} {w:Bc} {H:A8 CP} {a:Act} (hn:∀n∈Nw j.toList vs,R ok w H n.2 (a.eval n.1)):
 ∃cells,(Instr.buildSlice t len (j.map fun(i,x)=>(i,a.eval x))).run P w=.ok (.slice (some ⟨w.heap.size,0,none⟩) len len) (w.alloc (.cells cells e))/\Fg ok w H (LG (fun i=>some (i*size,size)) (Qu z (len*size)) j.toList vs) cells.toList:=by
 obtain⟨i,z',hi,_,hs,_,_⟩:=hE.info;have Z:=aDq (P:=P) hz w;have I:(sizeOf e).run P w=.ok size w:=aFw
 have J:(underlying t).run P w=.ok (.slice e) w:=aJN
 have e0:(j.map fun(i,x)=>(i,a.eval x)).toList=j.toList.map fun p=>(p.1,a.eval p.2):=Bj
 have hzl:(Qu z (len*size)).length=len*size:=by simp[Qu]
 have L:0<z.cells.size:=by rw[Y];exact hE.pos
 obtain⟨q,hc,hR⟩:=sB (place:=fun i=>some (i*size,size)) j.toList vs (Qu z (len*size)) _ (amU (ok:=ok) (w:=w) (H:=H) (n:=len*size) h1 L) (by rw[hzl];exact hp) hn;refine⟨q,?_,hR⟩;have M:¬(len*size>2^24):=AB
 by_cases O:len*size=0
 ·have hr0:(Array.range (len*size)).map (fun k=>(z.cells[k % z.cells.size]! :Aw))= #[]:=by rw[O];simp
  rw[hr0]at hc;have U:(Array.range (len*size)).map (fun k=>((#[]:Bh Aw)[k % (#[]:Bh Aw).size]! :Aw))= #[]:=by rw[O];simp
  simp only[Instr.buildSlice,Fl,J,G8,I,M,KT,Sem.run_ite,O,Jr,Gw];simp only[O]at U;rw[U,e0,hc];rfl
 simp only[Instr.buildSlice,Fl,J,G8,I,M,KT,Sem.run_ite,O,Z,Gw];rw[e0,hc];rfl
def aHE {t e:CO} {size q len:Nat} {z:Aw} (hE:Gu P t e size q) (O:(P.info? e).bind (·.zero)=some z) (U:z.cells.all (·.oneCell')=true) (J:z.cells.size=size) (hlen:len*size<=16777216) {j:Bh (Nat×CM)} (vs:A8 Ai) (ys:A8 D)
 (hp:O6 (fun i=>some (i*size,size)) (len*size) j.toList vs=true) (L:LG (fun i=>some (i*size,size)) (Qu z (len*size)) j.toList vs=flat ys) (hl:ys.length=len) (u:ys.all (fun y=>y.cells.length=size)=true) (Y:o.op=.buildSlice t len j):
 CS P o (Nw j.toList vs) es (.d (.sl ys)) es:=
 .eff fun C ok H a w hm Z=>by
  obtain⟨cells,hr,I⟩:=aYF hE O U J hlen hp Z;rw[L]at I;obtain⟨h2,M⟩:=hm.fresh (.cells cells e);refine⟨.slice (some ⟨w.heap.size,0,none⟩) len len,_,_,H,.inl ?_,M,.refl _,h2,.d _ _ ?_⟩
  ·simp only[execOp,Y,Fl,hr,G8,Gw]
  rw[←hl];exact ab4 (H:=H) (fun y L=>by rw[EY]at u;simpa using u y L) (WY w _) (.inr rfl) (I.mono M (.refl _))
def a0a {t e:CO} {size q len:Nat} {z:Aw} (hE:Gu P t e size q) (hz:(P.info? e).bind (·.zero)=some z) (h1:z.cells.all (·.oneCell')=true) (U:z.cells.size=size) (hlen:len*size<=16777216) {j:Bh (Nat×CM)} (vs:A8 Ai) (ys:A8 D)
 (hp:O6 (fun i=>some (i*size,size)) (len*size) j.toList vs=true) (Y:LG (fun i=>some (i*size,size)) (Qu z (len*size)) j.toList vs=flat ys) (hl:ys.length=len) (I:ys.all (fun y=>y.cells.length=size)=true) (ho:o.op=.buildSlice t len j):
 CS P o (Nw j.toList vs) es (.aO es.length) (es++[.arr e size ys]):=
 .eff fun C ok H a w hm hn=>by
  obtain⟨cells,hr,u⟩:=aYF hE hz h1 U hlen hp hn;rw[Y]at u;have J:∀y∈ys,y.cells.length=size:=fun y Y=>by rw[EY]at I;simpa using I y Y
  have hfl:=SL J;have L:cells.size=ys.length*size:=by have :=u.1;simp at this;omega
  have M:=hE.pos
  have Z:ys.length<=16777216:=by
   have :ys.length*1<=ys.length*size:=Nat.mul_le_mul_left _ M;rw[hl]at this ⊢;omega
  obtain⟨h2,h3⟩:=hm.push (.cells cells e) ⟨.slice (some ⟨w.heap.size,0,none⟩) len len,size⟩ (.arr e size ys) (fun b O=>by simpa[EF]using O.symm) (by
   refine⟨rfl,J,cells.toList,⟨Y6,.inr ⟨w.heap.size,len,cells,by rw[hl],Du _,WY w _,AB,a1b,ZF (by rw[L,hl]),?_⟩⟩,?_⟩
   ·rw[QL EN]
   exact u.mono (fun b O=>⟨O,L8 _ _ _ (hm.kM b O)⟩) (Ht _ _))
  refine⟨.slice (some ⟨w.heap.size,0,none⟩) len len,_,ok,_,.inl ?_,h3,Ht _ _,h2,.aO _ _ _ _ size P7⟩;simp only[execOp,ho,Fl,hr,G8,Gw]
end
section
variable {P:Cm} {ops:Bh Oper} {Q:Exit->Act->Bc->Prop} {φ:Nat->Aw->Bc->Prop} {W:Bc} {a0:Act} {i:Nat}
variable {d:AO Tmp} {t:CO} {p:String} {af:Bh Edge} {g:AO (Nat×Ad)}
def Enters (P:Cm) (f:FuncId):Prop:=∀args w,(callFunc f args).run P w=.ok (.enter f args) w
def enters_of {f:FuncId} {fn:Func} {c:Code} (q:P.funcs[f]? =some fn) (j:(fn.name== "runtime.NumGoroutine")=false) (u:fn.body=some c):Enters P f:=by
 intro args w;have z:fn.name≠ "runtime.NumGoroutine" :=Vq
 simp[callFunc,q,z,u]
def Hg (P:Cm) (f:FuncId):Ad:=match P.funcs[f]? with
 |some fn=> !(fn.name== "runtime.NumGoroutine")&&fn.body.isSome
 |none=>false
def U2 {f:FuncId} (h:Hg P f=true):Enters P f:=by
 unfold Hg at h;cases j:P.funcs[f]? with
 |none=>rw[j]at h;cases h
 |some fn=>
  rw[j]at h;simp only[Df,Ls]at h;obtain⟨c,q⟩:=Rk.1 h.2;exact enters_of j h.1 q
def zA {o:Oper} {a:Act} {f:FuncId} {ats:Bh CO} {aNB:Bh CM} (j:o.op=.call { callee:=.value (.func f),args:=aNB,argTypes:=ats }):execOp a.eval o=callFunc f (aNB.map a.eval):=by
 have q:a.eval (.func f)=.func (.func f) #[] #[]:=rfl;unfold execOp;simp[j,resolve,Deferred.ofValue,invoke,q]
end
inductive ET where
 |ent (k:Nat)
 |nil (size:Nat)
def ET.hd (H:A8 CP):ET->CP
 | .ent k=>H.getD k ⟨undef,0⟩
 | .nil s=>⟨.slice none 0 0,s⟩
def Ai.VQ (srcs:A8 ET) (n:Nat):Ai->Ai
 | .d x=>.d x
 | .ptr k off=>match srcs[k]? with |some (.ent j)=>.ptr j off|some (.nil _)=>.junk|none=>.ptr (n+(k-srcs.length)) off
 | .aO k=>match srcs[k]? with |some (.ent j)=>.aO j|some (.nil _)=>.junk|none=>.aO (n+(k-srcs.length))
 | .lC k i off=>match srcs[k]? with |some (.ent j)=>.lC j i off|some (.nil _)=>.junk|none=>.lC (n+(k-srcs.length)) i off
 | .mp k=>match srcs[k]? with |some (.ent j)=>.mp j|some (.nil _)=>.junk|none=>.mp (n+(k-srcs.length))
 | .xU k=>match srcs[k]? with |some (.ent j)=>.xU j|some (.nil _)=>.junk|none=>.xU (n+(k-srcs.length))
 | .clip xs=>.clip xs
 |_=>.junk
def Ai.up (srcs:A8 ET) (n:Nat):Ai->Ai
 | .eX xs=>.eX (xs.map (Ai.VQ srcs n))
 | .fn f fi ca=>.fn f (fi.map (Ai.VQ srcs n)) (ca.map (Ai.VQ srcs n))
 |x=>x.VQ srcs n
def aNK (srcs:A8 ET):Ai->Ai->Prop
 | .d x,y=>y=.d x
 | .ptr k off,y=>∃i,y=.ptr i off/\srcs[i]? =some (.ent k)
 | .mp k,y=>∃i,y=.mp i/\srcs[i]? =some (.ent k)
 |_,_=>False
def yY (srcs:A8 ET):A8 Ai->A8 Ai->Prop
 |x::xs,y::ys=>aNK srcs x y/\yY srcs xs ys
 | [],[]=>True
 |_,_=>False
def y8 {srcs:A8 ET}:∀{xs ys:A8 Ai},yY srcs xs ys->xs.length=ys.length
 | [],[],_=>rfl
 |_::xs,_::ys,h=>by simp[y8 h.2]
 | [],_::_,h=>h.elim
 |_::_,[],h=>h.elim
def aM6 {srcs:A8 ET}:∀{xs ys:A8 Ai},yY srcs xs ys->∀i,i<ys.length->aNK srcs (xs.getD i .junk) (ys.getD i .junk)
 | [],[],_,i,hi=>PY
 |_::xs,_::ys,h,0,_=>by simpa using h.1
 |_::xs,_::ys,h,i+1,hi=>by simpa using aM6 h.2 i Gp
 | [],_::_,h,_,_=>h.elim
 |_::_,[],h,_,_=>h.elim
def aW3 (srcs:A8 ET):Ai->Ai->Prop
 | .fn f fi ca,y=>∃j q,y=.fn f j q/\yY srcs fi j/\yY srcs ca q
 | .d x,y=>y=.d x\/(∃i s,x=.lit (.slice none 0 0)/\y=.aO i/\srcs[i]? =some (.nil s))\/(x=.lit (.slice none 0 0)/\y=.d (.sl []))
 | .aO k,y=>∃i,y=.aO i/\srcs[i]? =some (.ent k)
 | .ptr k off,y=>∃i,y=.ptr i off/\srcs[i]? =some (.ent k)
 | .mp k,y=>∃i,y=.mp i/\srcs[i]? =some (.ent k)
 |_,_=>False
def Bf.closed:Bf->Ad
 | .box cs=>cs.all Ai.BJ
 | .loop .. =>false
 |_=>true
def FZ.any {ok:Nat->Prop} {w:Bc} {H H2:A8 CP} {h:CP} {e:Bf} (q:FZ ok w H h e) (I:e.closed=true):FZ ok w H2 h e:=by
 cases e with
 |dead=>trivial
 |box cs=>
  obtain⟨b,vs,T,J,L,M,z⟩:=q;refine⟨b,vs,T,J,L,M,fun i hi=>⟨(z i hi).1,?_⟩⟩;have u:=(z i hi).2;simp only[Bf.closed,EY]at I;have j:=I (cs.getD i .junk) OC;cases O:cs.getD i .junk with
  |d x=>rw[O]at u;cases u with |d _ _ h=>exact .d _ _ h
  |_=>rw[O]at j;simp[Ai.BJ]at j
 |arr e s es=>
  obtain⟨J,L,xs,M,z,u⟩:=q;refine⟨J,L,xs,M,z,fun i hi=>⟨(u i hi).1,?_⟩⟩;have j:=(u i hi).2;have hm:(flat es).getD i .junk∈flat es:=OC
  unfold flat at hm ⊢;simp only[XA,FY]at hm;obtain⟨x,_,y,_,U⟩:=hm;unfold flat at j;rw[←U]at j ⊢;cases j with |d _ _ h=>exact .d _ _ h
 |map es=>exact q
 |iL es=>exact q
 |iter es vis=>exact q
 |loop=>cases I
def Bf.up (srcs:A8 ET) (n:Nat):Bf->Bf
 | .box cs=>.box (cs.map (Ai.VQ srcs n))
 |e=>e
def Ai.asv (srcs:A8 ET):Ai->Ad
 | .d _=>true
 | .mp k=>match srcs[k]? with |some (.ent _)=>true|_=>false
 | .ptr k _=>match srcs[k]? with |some (.ent _)=>true|_=>false
 |_=>false
def Bf.anz (srcs:A8 ET):Bf->Ad
 | .box cs=>cs.all (Ai.asv srcs)
 | .loop .. =>false
 |_=>true
def Bf.apk (srcs:A8 ET) (n:Nat):Bf->Ad
 | .box cs=>cs.all fun x=>x.BJ||(x.VQ srcs n).leaf
 | .loop .. =>false
 |_=>true
def Bf.aer (srcs:A8 ET) (n:Nat) (e:Bf):(e.up srcs n).live=e.live:=by cases e<;>rfl
def aSC {srcs:A8 ET} {n:Nat} {x:Ai} (h:x.BJ=true):x.VQ srcs n=x:=by cases x<;>first|rfl|cases h
def Bf.azW {srcs:A8 ET} {n:Nat} {e:Bf} (h:e.closed=true):e.up srcs n=e:=by
 cases e with
 |box cs=>
  simp only[Bf.closed,EY]at h;show Bf.box (cs.map (Ai.VQ srcs n))=Bf.box cs
  rw[show cs.map (Ai.VQ srcs n)=cs from by
   conv=>rhs;rw[←List.map_id cs]
   exact aO4 fun x j=>aSC (h x j)]
 |_=>rfl
def aS1 {srcs:A8 ET} {n:Nat}:∀{E:A8 Bf},E.all Bf.closed=true->E.map (Bf.up srcs n)=E
 | [],_=>rfl
 |e::E,h=>by
  simp only[pX,Df]at h;rw[JJ,Bf.azW h.1,aS1 h.2]
def aip {srcs:A8 ET} {n:Nat} {e:Bf} (h:e.closed=true):e.apk srcs n=true:=by
 cases e with
 |box cs=>
  simp only[Bf.closed,Bf.apk,EY]at h ⊢;intro x j;rw[h x j];rfl
 |loop=>cases h
 |_=>rfl
def FZ.down {ok:Nat->Prop} {w:Bc} {H Hc:A8 CP} {h:CP} {srcs:A8 ET} {n:Nat} {e:Bf} (L:∀(j:Nat) (s:ET),srcs[j]? =some s->Hc[j]? =some (ET.hd H s)) (hd:e.anz srcs=true) (z:FZ ok w H h (e.up srcs n)):FZ ok w Hc h e:=by
 cases e with
 |dead=>trivial
 |arr=>exact z.any rfl
 |map=>exact z
 |iL=>exact z
 |iter=>exact z
 |loop=>cases hd
 |box cs=>
  obtain⟨b,vs,T,M,O,U,Y⟩:=z;refine⟨b,vs,T,M,O,by rw[U,DY],fun i hi=>?_⟩;obtain⟨I,u⟩:=Y i aLq;rw[S9 _ _ _ hi]at u I;simp only[Bf.anz,EY]at hd;have q:=hd (cs.getD i .junk) OC;generalize cs.getD i .junk=x at u q I ⊢;generalize vs.toList.getD i undef=v at u ⊢;cases x with
  |d x=>exact⟨I,by cases u with |d _ _ h=>exact .d _ _ h⟩
  |mp k=>
   refine⟨rfl,?_⟩;simp only[Ai.asv]at q;simp only[Ai.VQ]at u;cases hs:srcs[k]? with
   |none=>rw[hs]at q;cases q
   |some s=>
    cases s with
    |nil _=>rw[hs]at q;cases q
    |ent j=>
     rw[hs]at u;cases u with
     |mp _ _ s hl J=>
      refine .mp k _ s hl ?_;rw[L k _ hs];simp[ET.hd,List.getD,J]
  |ptr k off=>
   refine⟨rfl,?_⟩;simp only[Ai.asv]at q;simp only[Ai.VQ]at u;cases hs:srcs[k]? with
   |none=>rw[hs]at q;cases q
   |some s=>
    cases s with
    |nil _=>rw[hs]at q;cases q
    |ent j=>
     rw[hs]at u;cases u with
     |ptr _ _ b s J=>
      refine .ptr k off b s ?_;rw[L k _ hs];simp[ET.hd,List.getD,J]
  |_=>simp[Ai.asv]at q
def MZ (srcs:A8 ET) (es E':A8 Bf):A8 Bf:=
 (es.zipIdx.map fun(e,j)=>match srcs.findIdx? (fun s=>match s with | .ent k=>k==j| .nil _=>false)with |some i=>(E'.getD i .dead).up srcs es.length|none=>e)++(E'.drop srcs.length).map (Bf.up srcs es.length)
def SA (srcs:A8 ET) (es E E':A8 Bf):Ad:=
 decide (srcs.length=E.length)&&(srcs.length<=E'.length)&&E.all (Bf.anz srcs)&&E'.all (Bf.apk srcs es.length)&&
 decide ((srcs.filterMap fun s=>match s with | .ent k=>some k| .nil _=>none).Nodup)&&
 ((srcs.zip E').all fun p=>match p.1 with | .ent _=>true| .nil _=> !p.2.live)&&(srcs.all fun s=>match s with | .ent k=>k<es.length&&(es.getD k .dead).live| .nil _=>true)
def a0D (srcs:A8 ET) (es:A8 Bf):A8 Bf->Prop
 |E=>∀(i:Nat) (s:ET),srcs[i]? =some s->match s with | .ent k=>(E[i]?).map (Bf.up srcs es.length)=es[k]? | .nil j=>∃e,E[i]? =some (.arr e j [])
def V7 {ok:Nat->Prop} {w:Bc} {H Hc H':A8 CP} {srcs:A8 ET} {x:Ai} {v:Aw} (O:Hc=srcs.map (ET.hd H)) (I:∀(i k:Nat),srcs[i]? =some (.ent k)->k<H.length) (U:Names Hc H') (h:R ok w H' x v):R ok w (H++H'.drop srcs.length) (x.VQ srcs H.length) v:=by
 have key:∀(k:Nat) (hd:CP),H'[k]? =some hd->(∀(j:Nat),srcs[k]? =some (.ent j)->(H++H'.drop srcs.length)[j]? =some hd)/\(srcs[k]? =none->(H++H'.drop srcs.length)[H.length+(k-srcs.length)]? =some hd):=by
  intro k hd L;refine⟨fun j M=>?_,fun J=>?_⟩
  ·have z:=I k j M;have u:Hc[k]? =some (H.getD j ⟨undef,0⟩):=by rw[O,Ji,M];rfl
   have q:=U _ _ u;rw[L]at q;rw[Hf z];simp[List.getD,z]at q;simp[z,q]
  have Y:srcs.length<=k:=TL
  rw[KX AB,Qg];have :srcs.length+(H.length+(k-srcs.length)-H.length)=k:=AB
  rw[this,L]
 cases h with
 |d x v h=>exact .d x v h
 |ptr k off b s h=>
  obtain⟨u,q⟩:=key k _ h;simp only[Ai.VQ];split<;>rename_i hs
  ·exact .ptr _ off b s (u _ hs)
  ·exact .junk _
  exact .ptr _ off b s (q hs)
 |aO k ad n cap s h=>
  obtain⟨u,q⟩:=key k _ h;simp only[Ai.VQ];split<;>rename_i hs
  ·exact .aO _ ad n cap s (u _ hs)
  ·exact .junk _
  exact .aO _ ad n cap s (q hs)
 |lC k i off b n cap s h=>
  obtain⟨u,q⟩:=key k _ h;simp only[Ai.VQ];split<;>rename_i hs
  ·exact .lC _ i off b n cap s (u _ hs)
  ·exact .junk _
  exact .lC _ i off b n cap s (q hs)
 |mp k v s hl h=>
  obtain⟨u,q⟩:=key k _ h;simp only[Ai.VQ];split<;>rename_i hs
  ·exact .mp _ v s hl (u _ hs)
  ·exact .junk _
  exact .mp _ v s hl (q hs)
 |clip xs ad h=>exact .clip xs ad h
 |xU k ad n cap s h=>
  obtain⟨u,q⟩:=key k _ h;simp only[Ai.VQ];split<;>rename_i hs
  ·exact .xU _ ad n cap s (u _ hs)
  ·exact .junk _
  exact .xU _ ad n cap s (q hs)
 |fn f first cap vs us hl hm h h'=>exact .junk _
 |eX xs vs hl h=>exact .junk _
 |ag xs vs hl Z h=>exact .junk _
 |junk v=>exact .junk _
def aTs {ok:Nat->Prop} {w:Bc} {H Hc H':A8 CP} {srcs:A8 ET} {x:Ai} {v:Aw} (q:Hc=srcs.map (ET.hd H)) (j:∀(i k:Nat),srcs[i]? =some (.ent k)->k<H.length) (u:Names Hc H') (h:R ok w H' x v):R ok w (H++H'.drop srcs.length) (x.up srcs H.length) v:=by
 cases h with
 |eX xs vs hl h=>exact .eX _ vs aC (fun i hi=>aYN)
 |ag xs vs hl z h=>exact .junk _
 |d x v h=>exact V7 q j u (.d x v h)
 |ptr k off b s h=>exact V7 q j u (.ptr k off b s h)
 |aO k ad n cap s h=>exact V7 q j u (.aO k ad n cap s h)
 |lC k i off b n cap s h=>exact V7 q j u (.lC k i off b n cap s h)
 |mp k v s hl h=>exact V7 q j u (.mp k v s hl h)
 |clip xs ad h=>exact V7 q j u (.clip xs ad h)
 |xU k ad n cap s h=>exact V7 q j u (.xU k ad n cap s h)
 |fn f first cap vs us hl hm h h'=>exact .fn f _ _ vs us aC (by simp[hm]) (fun i hi=>aYN) (fun i hi=>by rw[DY]at hi;rw[S9 _ _ _ hi];exact V7 q j u (h' i hi))
 |junk v=>exact .junk _
def FZ.upw {ok:Nat->Prop} {w:Bc} {H Hc H':A8 CP} {h:CP} {srcs:A8 ET} {n:Nat} {e:Bf} (I:Hc=srcs.map (ET.hd H)) (u:∀(i k:Nat),srcs[i]? =some (.ent k)->k<H.length) (J:Names Hc H') (hl:H.length=n) (z:e.apk srcs n=true) (j:FZ ok w H' h e):
 FZ ok w (H++H'.drop srcs.length) h (e.up srcs n):=by
 cases e with
 |dead=>trivial
 |arr=>exact j.any rfl
 |map=>exact j
 |iL=>exact j
 |iter=>exact j
 |loop=>cases z
 |box cs=>
  obtain⟨b,vs,T,L,M,O,U⟩:=j;refine⟨b,vs,T,L,M,by rw[O,DY],fun i hi=>?_⟩;rw[DY]at hi;obtain⟨Y,Z⟩:=U i hi;simp only[Bf.apk,EY]at z;have q:=z (cs.getD i .junk) OC;rw[S9 _ _ _ hi];refine⟨?_,by have :=V7 I u J Z;rwa [hl]at this⟩;rcases Bool.or_eq_true_iff.1 q with q|q
  ·rw[aSC q];exact Y
  exact q
def Fq :A8 CM->A8 Ai->A8 (CM×Ai)
 |x::xs,v::vs=>(x,v)::Fq xs vs
 |_,_=>[]
def NW (srcs:A8 ET):A8 Ai->A8 Ai->Prop
 |x::xs,y::ys=>aW3 srcs x y/\NW srcs xs ys
 | [],[]=>True
 |_,_=>False
def aOP {srcs:A8 ET}:∀{xs ys:A8 Ai},NW srcs xs ys->xs.length=ys.length
 | [],[],_=>rfl
 |_::xs,_::ys,h=>by simp[aOP h.2]
 | [],_::_,h=>h.elim
 |_::_,[],h=>h.elim
def am8 {srcs:A8 ET} {ops:A8 CM}:∀{xs ys:A8 Ai},ops.length=xs.length->NW srcs xs ys->∀i,i<ys.length->∃o x,ops[i]? =some o/\(o,x)∈Fq ops xs/\aW3 srcs x (ys.getD i .junk):=by
 induction ops with
 |nil=>
  intro xs ys hl h i hi;cases xs with
  |nil=>cases ys with |nil=>simp at hi|cons _ _=>exact h.elim
  |cons _ _=>simp at hl
 |cons o ops j=>
  intro xs ys hl h i hi;cases xs with
  |nil=>simp at hl
  |cons x xs=>
   cases ys with
   |nil=>exact h.elim
   |cons y ys=>
    cases i with
    |zero=>exact⟨o,x,rfl,by simp[Fq],h.1⟩
    |succ i=>
     obtain⟨q,u,z,I,J⟩:=j NJ h.2 i Gp;exact⟨q,u,MW,by simp[Fq,I],TL⟩
def aej {srcs:A8 ET} {H:A8 CP} {b:Nat}:b∈(srcs.filterMap fun s=>match s with | .ent k=>EF (H.getD k ⟨undef,0⟩).v| .nil _=>none)↔∃k,.ent k∈srcs/\EF (H.getD k ⟨undef,0⟩).v=some b:=by
 rw[TR];constructor
 ·rintro⟨s,hs,h⟩;cases s with
  |ent k=>exact⟨k,hs,h⟩
  |nil _=>cases h
 rintro⟨k,hs,h⟩;exact⟨_,hs,h⟩
section
variable {P:Cm} {o:Oper} {es:A8 Bf}
def aQE :∀{srcs:A8 ET},(srcs.filterMap fun s=>match s with | .ent k=>some k| .nil _=>none).Nodup->∀(i j k:Nat),srcs[i]? =some (.ent k)->srcs[j]? =some (.ent k)->i=j
 | [],_,i,j,k,h,_=>J8
 |s::srcs,u,i,j,k,hi,z=>by
  have q:∀(n:Nat),srcs[n]? =some (.ent k)->k∈srcs.filterMap fun s=>match s with | .ent k=>some k| .nil _=>none:=fun n h=>by
   rw[TR];exact⟨_,XL h,rfl⟩
  have I:(srcs.filterMap fun s=>match s with | .ent k=>some k| .nil _=>none).Nodup:=by
   cases s with
   |ent k'=>simp only[QC]at u;exact(Nh.1 u).2
   |nil _=>simpa only[QC]using u
  match i,j with
  |0,0=>rfl
  |0,j+1=>
   simp at hi z;subst hi;simp only[QC]at u;exact absurd (q j z) (Nh.1 u).1
  |i+1,0=>
   simp at hi z;subst z;simp only[QC]at u;exact absurd (q i hi) (Nh.1 u).1
  |i+1,j+1=>rw[aQE I i j k Gp MW]
def aQt {f:FuncId} {C:En} {ok:Nat->Prop} {H:A8 CP} {w:Bc} (hm:Dv C ok H es w) (srcs:A8 ET) {eG fH:A8 Ai} {E E':A8 Bf} {res:Ai} (hr:El P f fH E res E')
 (hb:SA srcs es E E'=true) (hE:a0D srcs es E) (ha:NW srcs eG fH) {ops:A8 CM} (hl:ops.length=eG.length) {a:Act} (hn:∀n∈Fq ops eG,R ok w H n.2 (a.eval n.1)):
 Calls P f (ops.map a.eval).toArray w fun e w'=>∃v ok' H',e=.returned v/\Ep ok w ok' w'/\Names H H'/\Dv C ok' H' (MZ srcs es E') w'/\R ok' w' H' (res.up srcs es.length) v:=by
 unfold SA at hb;simp only[Df,Hd,EY]at hb;obtain⟨⟨⟨⟨⟨⟨hb1,hb2⟩,hb3⟩,hb4⟩,hb5⟩,hb6⟩,hb7⟩:=hb;have hidx:=aQE hb5
 let Hc:=srcs.map (ET.hd H)
 let X:=srcs.filterMap fun s=>match s with | .ent k=>EF (H.getD k ⟨undef,0⟩).v| .nil _=>none
 have hX:∀b,b∈X↔∃k,.ent k∈srcs/\EF (H.getD k ⟨undef,0⟩).v=some b:=fun b=>aej
 have U:∀(i k:Nat),srcs[i]? =some (.ent k)->k<es.length/\(es.getD k .dead).live=true:=by
  intro i k hi;have :=hb7 _ (XL hi);simpa using this
 have hlt:∀(i k:Nat),srcs[i]? =some (.ent k)->k<H.length:=fun i k hi=>by rw[hm.hlen];exact(U i k hi).1
 have hHk:∀(k:Nat),k<H.length->H[k]? =some (H.getD k ⟨undef,0⟩):=fun k hk=>by simp[List.getD,hk]
 have apl:∀(k:Nat),k<es.length->es[k]? =some (es.getD k .dead):=fun k hk=>by simp[List.getD,hk]
 have L:∀b,b∈X->∃(i k:Nat),srcs[i]? =some (.ent k)/\EF (H.getD k ⟨undef,0⟩).v=some b/\¬ok b/\b<w.heap.size/\(C.w0.heap.size<=b\/b∈C.X):=by
  intro b hb;obtain⟨k,hk,hbk⟩:=(hX b).1 hb;obtain⟨i,hi,M⟩:=IK hk;have hi':srcs[i]? =some (.ent k):=by simp[hi,M]
  have :=hm.blk k _ _ b (apl k (U i k hi').1) (U i k hi').2 (hHk k (hlt i k hi')) hbk;exact⟨i,k,hi',hbk,this⟩
 have hmc:Dv ⟨w,ok,X,Hc⟩ ok Hc E w:=by
  refine⟨.refl _ _,fun _ h=>h,fun _ h=>.inl h,hm.kM,.refl _,by simp[Hc,hb1],?_,?_,?_⟩
  ·intro i e h M I;have hi:i<srcs.length:=aHQ
   have hcl:e.anz srcs=true:=hb3 e (XL M);have aHJ:∀(j:Nat) (s:ET),srcs[j]? =some s->Hc[j]? =some (ET.hd H s):=fun j s hs=>by simp[Hc,hs]
   have hs:srcs[i]? =some srcs[i]:=SC
   have hd:=hE i _ hs;simp only[Hc,Ji,hs,Ij,Jh]at I;cases hsi:srcs[i]with
   |ent k=>
    rw[hsi]at hd I hs;simp only[ET.hd]at I;subst I;simp only at hd;rw[M,Ij]at hd;exact FZ.down aHJ hcl (hm.ent k _ _ hd.symm (hHk k (hlt i k hs)))
   |nil sz=>
    rw[hsi]at hd I;simp only[ET.hd]at I;subst I;obtain⟨e',he'⟩:=hd;rw[M]at he';obtain rfl:=Dh he';exact⟨rfl,Bj,[],⟨Bj,.inl ⟨rfl,rfl⟩⟩,Td,fun i hi=>aD7⟩
  ·intro i e h b M J I z;have hi:i<srcs.length:=aHQ
   have hs:srcs[i]? =some srcs[i]:=SC
   simp only[Hc,Ji,hs,Ij,Jh]at I;cases hsi:srcs[i]with
   |ent k=>
    rw[hsi]at I hs;simp only[ET.hd]at I;subst I;have hbX:b∈X:=(hX b).2 ⟨k,XL hs,z⟩;obtain⟨_,_,_,_,O,Y,_⟩:=L b hbX;exact⟨O,Y,.inr hbX⟩
   |nil sz=>
    rw[hsi]at I;simp only[ET.hd]at I;subst I;simp[EF]at z
  intro i j e e' h h' b M he' J Z I hh' z aml;have hi:i<srcs.length:=aHQ
  have hj:j<srcs.length:=by rw[hb1];exact(Fv.1 he').1
  have hs:srcs[i]? =some srcs[i]:=SC
  have hs':srcs[j]? =some srcs[j]:=by simp[hj]
  simp only[Hc,Ji,hs,Ij,Jh]at I;simp only[Hc,Ji,hs',Ij,Jh]at hh';cases hsi:srcs[i]with
  |nil sz=>rw[hsi]at I;simp only[ET.hd]at I;subst I;simp[EF]at z
  |ent k=>
   cases hsj:srcs[j]with
   |nil sz=>rw[hsj]at hh';simp only[ET.hd]at hh';subst hh';simp[EF]at aml
   |ent k'=>
    rw[hsi]at I hs;rw[hsj]at hh' hs';simp only[ET.hd]at I hh';subst I;subst hh';have hkk:=hm.Ef k k' _ _ _ _ b (apl k (U i k hs).1) (apl k' (U j k' hs').1) (U i k hs).2 (U j k' hs').2 (hHk k (hlt i k hs)) (hHk k' (hlt j k' hs')) z aml;subst hkk;exact hidx i j k hs hs'
 have hargs:∀i,i<fH.length->R ok w Hc (fH.getD i .junk) ((ops.map a.eval).toArray.getD i undef):=by
  intro i hi;obtain⟨op,x,ho,hmem,harg⟩:=am8 hl ha i hi;have hR:=hn _ hmem
  have e:(ops.map a.eval).toArray.getD i undef=a.eval op:=by
   obtain⟨O,Y⟩:=Fv.1 ho;simp[Array.getD,O,Y]
  rw[e];simp only at hR;generalize fH.getD i .junk=y at harg ⊢;generalize a.eval op=u at hR ⊢;have hHc:∀(j:Nat) (s:ET),srcs[j]? =some s->Hc[j]? =some (ET.hd H s):=fun j s hs=>by simp[Hc,hs]
  cases x with
  |d x=>
   rcases harg with rfl|⟨j,s,rfl,rfl,hs⟩|⟨rfl,rfl⟩
   ·cases hR with |d _ _ h=>exact .d _ _ h
   ·have :=hR.lit;rw[this];exact .aO j none 0 0 s (hHc j _ hs)
   have :=hR.lit;rw[this];exact .d _ _ (.sl0 none 0)
  |aO k=>
   obtain⟨j,rfl,hs⟩:=harg;cases hR with
   |aO _ ad n cap s hH=>
    refine .aO j ad n cap s ?_;rw[hHc j _ hs];simp[ET.hd,List.getD,hH]
  |ptr k off=>
   obtain⟨j,rfl,hs⟩:=harg;cases hR with
   |ptr _ _ b s hH=>
    refine .ptr j off b s ?_;rw[hHc j _ hs];simp[ET.hd,List.getD,hH]
  |mp k=>
   obtain⟨j,rfl,hs⟩:=harg;cases hR with
   |mp _ _ s hl hH=>
    refine .mp j _ s hl ?_;rw[hHc j _ hs];simp[ET.hd,List.getD,hH]
  |fn f fi ca=>
   obtain⟨fi',ca',rfl,O,Y⟩:=harg
   have one:∀(x y:Ai) (v:Aw),aNK srcs x y->R ok w H x v->R ok w Hc y v:=by
    intro x y v hxy hx;cases x with
    |d x=>obtain rfl:=hxy;cases hx with |d _ _ h=>exact .d _ _ h
    |mp k=>
     obtain⟨j,rfl,hs⟩:=hxy;cases hx with
     |mp _ _ s hl hH=>
      refine .mp j _ s hl ?_;rw[hHc j _ hs];simp[ET.hd,List.getD,hH]
    |ptr k off=>
     obtain⟨j,rfl,hs⟩:=hxy;cases hx with
     |ptr _ _ b s hH=>
      refine .ptr j off b s ?_;rw[hHc j _ hs];simp[ET.hd,List.getD,hH]
    |_=>exact hxy.elim
   cases hR with
   |fn _ _ _ vs us hl1 hl2 h3 h4=>
    refine .fn f fi' ca' vs us (by rw[hl1,y8 O]) (by rw[hl2,y8 Y]) (fun i hi=>?_) (fun i hi=>?_)
    ·exact one _ _ _ (aM6 O i hi) (h3 i (by rw[y8 O];exact hi))
    exact one _ _ _ (aM6 Y i hi) (h4 i (by rw[y8 Y];exact hi))
  |_=>exact harg.elim
 refine(hr ok X Hc w _ hmc (by simp[hl,aOP ha]) hargs).mono ?_;rintro e w' ⟨v,ok',H',rfl,q,hR⟩;have hgr:Ep ok w ok' w':=fun b hb=>⟨q.yF b hb,q.fr.block b (hm.kM b hb) (fun hbX=>by obtain⟨_,_,_,_,O,_⟩:=L b hbX;exact O hb)⟩
 have aMp:srcs.length<=H'.length:=by rw[q.hlen];exact hb2
 refine⟨v,ok',H++H'.drop srcs.length,rfl,hgr,Ht _ _,?_,by have :=aTs rfl hlt q.names hR;rwa [hm.hlen]at this⟩
 let idx:Nat->AO Nat:=fun j=>srcs.findIdx? (fun s=>match s with | .ent k=>k==j| .nil _=>false)
 have aGJ:∀(j i:Nat),idx j=some i->srcs[i]? =some (.ent j):=by
  intro j i h;simp only[idx,aTG]at h;obtain⟨O,Y,_⟩:=h;have :srcs[i]? =some srcs[i]:=by simp[O]
  cases hs:srcs[i]with
  |ent k=>rw[hs]at Y this;simp at Y;rw[this,Y]
  |nil _=>rw[hs]at Y;simp at Y
 have aGK:∀(j:Nat),idx j=none->∀(i:Nat),srcs[i]? ≠some (.ent j):=by
  intro j h i hi;simp only[idx,List.findIdx?_eq_none_iff]at h;have :=h _ (XL hi);simp at this
 have hlow:∀(j:Nat),j<es.length->(MZ srcs es E')[j]? =some (match idx j with |some i=>(E'.getD i .dead).up srcs es.length|none=>es.getD j .dead):=by
  intro j hj;unfold MZ;rw[Hf aE7];simp only[Ji,List.getElem?_zipIdx,apl j hj,Ij,J3];rfl
 have aFq:(MZ srcs es E').length=es.length+(E'.length-srcs.length):=by simp[MZ]
 have hhigh:∀(j:Nat),es.length<=j->(MZ srcs es E')[j]? =(E'[srcs.length+(j-es.length)]?).map (Bf.up srcs es.length):=by
  intro j hj;unfold MZ;rw[KX aE7,Ji,Qg];simp
 have aGL:∀(j:Nat),j<es.length->(H++H'.drop srcs.length)[j]? =H[j]? :=fun j hj=>Hf (by rw[hm.hlen];exact hj)
 have aFr:∀(j:Nat),es.length<=j->(H++H'.drop srcs.length)[j]? =H'[srcs.length+(j-es.length)]? :=by
  intro j hj;rw[KX (by rw[hm.hlen];exact hj),Qg,hm.hlen]
 have hcls:∀(j:Nat) (e:Bf) (h:CP),(MZ srcs es E')[j]? =some e->e.live=true\/True->(H++H'.drop srcs.length)[j]? =some h->
  (∃(i:Nat) (e0:Bf),e=e0.up srcs es.length/\E'[i]? =some e0/\H'[i]? =some h/\((j<es.length/\srcs[i]? =some (.ent j))\/(es.length<=j/\i=srcs.length+(j-es.length))))\/(j<es.length/\es[j]? =some e/\H[j]? =some h/\∀(i:Nat),srcs[i]? ≠some (.ent j)):=by
  intro j e h M _ I;by_cases hj:j<es.length
  ·rw[hlow j hj]at M;rw[aGL j hj]at I;cases hi:idx j with
   |none=>
    rw[hi]at M;simp only[Jh]at M;exact .inr ⟨hj,by rw[apl j hj,M],I,aGK j hi⟩
   |some i=>
    rw[hi]at M;simp only[Jh]at M;have hs:=aGJ j i hi;have hil:i<srcs.length:=(Fv.1 hs).1;have hiE:i<E'.length:=AB
    refine .inl ⟨i,_,M.symm,by simp[List.getD,hiE],?_,.inl ⟨hj,hs⟩⟩;refine q.names i h ?_;simp only[Hc,Ji,hs,Ij,ET.hd];simp[List.getD,I]
  rw[hhigh j AB]at M;rw[aFr j AB]at I;rw[Ul]at M;obtain⟨e0,M,rfl⟩:=M;exact .inl ⟨_,_,rfl,M,I,.inr ⟨AB,rfl⟩⟩
 have hold:∀(j:Nat) (e:Bf) (h:CP) (b:Nat),es[j]? =some e->H[j]? =some h->(∀(i:Nat),srcs[i]? ≠some (.ent j))->e.live=true->EF h.v=some b->b<w.heap.size/\b∉X/\¬ok b/\(C.w0.heap.size<=b\/b∈C.X):=by
  intro j e h b M I hno J z;have O:=hm.blk j e h b M J I z;refine⟨O.2.1,fun hbX=>?_,O.1,O.2.2⟩;obtain⟨i,k,hs,hbk,_⟩:=L b hbX;have :=hm.Ef j k e _ h _ b M (apl k (U i k hs).1) J (U i k hs).2 I (hHk k (hlt i k hs)) z hbk;subst this;exact hno i hs
 have apm:∀(i:Nat) (e:Bf) (h:CP) (b:Nat),E'[i]? =some e->H'[i]? =some h->e.live=true->EF h.v=some b->¬ok' b/\b<w'.heap.size/\(w.heap.size<=b\/b∈X):=fun i e h b M I J z=>q.blk i e h b M J I z;refine⟨⟨q.fr.os.trans hm.fr.os,q.fr.tape.trans hm.fr.tape,q.fr.output.trans hm.fr.output,FC hm.fr.size q.fr.size,fun k hk hx=>?_⟩,fun b hb=>q.yF b (hm.yF b hb),?_,q.kM,hm.names.trans (Ht _ _),?_,?_,?_,?_⟩
 ·have hkw:k<w.heap.size:=VP hk hm.fr.size
  rw[q.fr.block k hkw (fun hkX=>by
   obtain⟨_,_,_,_,_,_,h⟩:=L k hkX;rcases h with h|h
   ·omega
   exact hx h)]
  exact hm.fr.block k hk hx
 ·intro b hb;rcases q.yG b hb with h|h|h
  ·exact hm.yG b h
  ·exact .inr (.inl (FC hm.fr.size h))
  obtain⟨_,_,_,_,_,_,h⟩:=L b h;exact .inr h
 ·rw[aFq,EZ,JX,hm.hlen,q.hlen]
 ·intro j e h M I;rcases hcls j e h M (.inr trivial) I with⟨i,e0,rfl,O,Y,_⟩|⟨_,O,Y,h3⟩
  ·exact FZ.upw rfl hlt q.names hm.hlen (hb4 e0 (XL O)) (q.ent i e0 h O Y)
  refine(hm.ent j e h O Y).mono hgr (Ht _ _) (fun J b z=>?_);have h4:=hold j e h b O Y h3 J z;exact q.fr.block b h4.1 h4.2.1
 ·intro j e h b M J I z;rcases hcls j e h M (.inr trivial) I with⟨i,e0,rfl,O,Y,_⟩|⟨_,O,Y,h3⟩
  ·have h4:=apm i e0 h b O Y aNe z;refine⟨h4.1,h4.2.1,?_⟩;rcases h4.2.2 with h5|h5
   ·exact .inl (FC hm.fr.size h5)
   obtain⟨_,_,_,_,_,_,h⟩:=L b h5;exact h
  have h4:=hold j e h b O Y h3 J z;refine⟨fun hok'=>?_,VP h4.1 q.fr.size,h4.2.2.2⟩;rcases q.yG b hok' with h5|h5|h5
  ·exact h4.2.2.1 h5
  ·have :w.heap.size<=b:=h5;omega
  exact h4.2.1 h5
 intro j j' e e' h h' b M he' J Z I hh' z aml;rcases hcls j e h M (.inr trivial) I with⟨i,e0,rfl,O,Y,h3⟩|⟨_,O,Y,h3⟩
 ·rcases hcls j' e' h' he' (.inr trivial) hh' with⟨i',e0',rfl,h1',h2',h3'⟩|⟨_,h1',h2',h3'⟩
  ·have hii:=q.Ef i i' e0 e0' h h' b O h1' aNe (by rw[Bf.aer]at Z;exact Z) Y h2' z aml;subst hii;rcases h3 with⟨_,h4⟩|⟨h4,h5⟩
   ·rcases h3' with⟨_,h4'⟩|⟨h4',h5'⟩
    ·rw[h4]at h4';simpa using h4'
    have :=(Fv.1 h4).1;omega
   rcases h3' with⟨_,h4'⟩|⟨h4',h5'⟩
   ·have :=(Fv.1 h4').1;omega
   omega
  have h4:=hold j' e' h' b h1' h2' h3' Z aml;rcases(apm i e0 h b O Y aNe z).2.2 with h5|h5
  ·omega
  exact absurd h5 h4.2.1
 rcases hcls j' e' h' he' (.inr trivial) hh' with⟨i',e0',rfl,h1',h2',h3'⟩|⟨_,h1',h2',h3'⟩
 ·have h4:=hold j e h b O Y h3 J z;rcases(apm i' e0' h' b h1' h2' (by rw[Bf.aer]at Z;exact Z) aml).2.2 with h5|h5
  ·omega
  exact absurd h5 h4.2.1
 exact hm.Ef j j' e e' h h' b O h1' J Z Y h2' z aml
def aQQ {f:FuncId} {ops:Bh CM} {ats:Bh CO} (srcs:A8 ET) {eG fH:A8 Ai} {E E':A8 Bf} {j:Ai} (q:El P f fH E j E') (u:Hg P f=true) (z:SA srcs es E E'=true) (hE:a0D srcs es E) (ha:NW srcs eG fH) (hl:ops.toList.length=eG.length)
 (I:o.op=.call { callee:=.value (.func f),args:=ops,argTypes:=ats }):CS P o (Fq ops.toList eG) es (j.up srcs es.length) (MZ srcs es E'):=by
 intro C ok H a w Q hm J;unfold Oper.wp;rw[zA I,U2 u,Zt];have e:ops.map a.eval=(ops.toList.map a.eval).toArray:=aCa
 rw[e];refine(aQt hm srcs q z hE ha hl J).mono ?_;rintro e w' ⟨v,ok',H',rfl,L,M,O,U⟩;exact⟨v,ok',H',rfl,L,M,O,U⟩
end
def Ag (n:Int):D:=.lit (.int .i64 n)
def Dp (n:Int):D:=.lit (.int .u8 n)
def Ea (b:Ad):D:=.lit (.bool b)
def DW (s:BA):D:=.lit (.string s)
def C9 {α:Type} (e:α->D) (l:A8 α):D:=.sl (l.map e)
def BU (x:D):A8 Ai:=x.cells.map .d
def Am {α:Type} (l:A8 α) (i:Int):AO α:=if 0<=i then l[i.toNat]? else none
def DL {α:Type} (j:Nat) (l m:A8 α):AO (A8 α):=if(l.length+m.length)*j<=140737488355328 then some (l++m)else none
def IJ (s:BA) (i:Int):AO Int:=if 0<=i then(s[i.toNat]?).map fun c=>(c.toNat:Int)else none
def IE {α:Type} (l:A8 α) (lo hi:Int):AO (A8 α):=if 0<=lo/\lo<=hi/\hi<=l.length then some ((l.drop lo.toNat).take (hi.toNat-lo.toNat))else none
def O9 (s:BA) (lo hi:Int):AO BA:=if 0<=lo/\lo<=hi/\hi<=s.size then some (s.extract lo.toNat hi.toNat)else none
def Iy {α:Type} (j:Nat) (z:α) (n c:Int):AO (A8 α):=if 0<=n/\n<=c/\(j:Int)*c<=140737488355328 then some (List.replicate n.toNat z)else none
def GH {α:Type} {l:A8 α} {i:Int} {x:α} (h:Am l i=some x):0<=i/\l[i.toNat]? =some x:=by
 unfold Am at h;split at h
 ·exact⟨‹_›,h⟩
 cases h
def aeU {α β:Type} {l:A8 α} {i:Nat} {x:α} (f:α->β) (h:l[i]? =some x):(l.map f)[i]? =some (f x):=by simp[h]
def U0 {α:Type} {b:Ad} {x y z:α} (j:b=true) (h:(bif b then x else y)=z):x=z:=by subst j;exact h
def UM {α:Type} {b:Ad} {x y z:α} (j:b=false) (h:(bif b then x else y)=z):y=z:=by subst j;exact h
def EM {α β:Type} {x:AO α} {f:α->AO β} {z:β} (h:x.bind f=some z):∃a,x=some a/\f a=some z:=iQ.1 h
def Az :Nat:=9223372036854775808
section
variable {P:Cm} {o:Oper} {es:A8 Bf} {α:Type}
def Ba {x:CM} {t e:CO} (enc:α->D) (l:A8 α) (ht:P.underlying t=some (.slice e)) (j:o.op=.call { callee:=.builtin .len,args:= #[x],argTypes:= #[t] }):
 CS P o [(x,.d (C9 enc l))] es (.d (Ag l.length)) es:=by
 have :=ajh (es:=es) (xs:=l.map enc) ht j;rw[DY]at this;exact this
def JG {x:CM} {t e e':CO} {k s:Nat} (enc:α->D) (l:A8 α) (j:es[k]? =some (.arr e' s (l.map enc))) (ht:P.underlying t=some (.slice e)) (q:o.op=.call { callee:=.builtin .len,args:= #[x],argTypes:= #[t] }):
 CS P o [(x,.aO k)] es (.d (Ag l.length)) es:=by
 have :=aZb j ht q;rw[DY]at this;exact this
def afM {x:CM} {t:CO} (s:BA) (ht:P.underlying t=some .string) (j:o.op=.call { callee:=.builtin .len,args:= #[x],argTypes:= #[t] }):
 CS P o [(x,.d (DW s))] es (.d (Ag s.size)) es:=ahD ht j
def WX {x y:CM} {t e:CO} {k:IntKind} {i:Int} {agg:Ad} {size:Nat} (enc:α->D) {l:A8 α} {a:α} (h:Am l i=some a) (ht:P.underlying t=some (.slice e)) (j:Ee P e agg size) (hs:(enc a).cells.length=size) (q:o.op=.indexAddr t x y):
 CS P o [(x,.d (C9 enc l)),(y,.d (.lit (.int k i)))] es (.d (.ref (enc a).cells 0)) es:=
 anV ht j (GH h).1 (aeU enc (GH h).2) hs q
def He {x y:CM} {t e e':CO} {kd:IntKind} {i:Int} {k size:Nat} {agg:Ad} (enc:α->D) {l:A8 α} {a:α} (h:Am l i=some a) (j:es[k]? =some (.arr e' size (l.map enc))) (ht:P.underlying t=some (.slice e)) (q:Ee P e agg size) (u:o.op=.indexAddr t x y):
 CS P o [(x,.aO k),(y,.d (.lit (.int kd i)))] es (.lC k i.toNat 0) es:=
 aZG j ht q (GH h).1 (by have :=(Fv.1 (GH h).2).1;simpa using this) u
def af5 {s:BA} {i n:Int} (h:IJ s i=some n):∃c,0<=i/\s[i.toNat]? =some c/\n=c.toNat:=by
 unfold IJ at h;split at h
 ·rename_i j;rw[Ul]at h;obtain⟨c,q,u⟩:=h;exact⟨c,j,q,u.symm⟩
 cases h
def Jl {x y:CM} {t:CO} {k:IntKind} {i n:Int} {s:BA} (h:IJ s i=some n) (ht:P.underlying t=some .string) (j:o.op=.index t x y):
 CS P o [(x,.d (DW s)),(y,.d (.lit (.int k i)))] es (.d (Dp n)) es:=by
 obtain⟨c,q,u,rfl⟩:=af5 h;exact aiI ht q u j
def a0B {b:Nat} {l m r:A8 α} (h:DL b l m=some r):r=l++m/\(l.length+m.length)*b<=140737488355328:=by
 unfold DL at h;split at h
 ·exact⟨(Dh h).symm, ‹_›⟩
 cases h
def aEe {n b:Nat} (j:0<b) (h:n*b<=140737488355328):n<=maxLen:=by
 have :n*1<=n*b:=Nat.mul_le_mul_left _ j;unfold maxLen;omega
def Dx {s x:CM} {t e:CO} {size j k:Nat} (enc:α->D) {l m r:A8 α} (h:DL j l m=some r) (hE:Gu P t e size j) (u:es[k]? =some (.arr e size (l.map enc))) (z:∀a,(enc a).cells.length=size) (I:0<j)
 (J:o.op=.call { callee:=.builtin .append,args:= #[s,x],argTypes:= #[t,t] }):
 CS P o [(s,.aO k),(x,.d (C9 enc m))] es (.aO es.length) (es.set k .dead++[.arr e size (r.map enc)]):=by
 obtain⟨rfl,q⟩:=a0B h;have :=ag9 (ys:=m.map enc) hE u (fun y L=>by obtain⟨a,_,rfl⟩:=FY.1 L;exact z a) Np (by simpa using aEe I q) J;rw[←Kw]at this;exact this
def acM {s r:BA} {lo hi:Int} (h:O9 s lo hi=some r):(0<=lo/\lo<=hi/\hi<=s.size)/\r=s.extract lo.toNat hi.toNat:=by
 unfold O9 at h;split at h
 ·exact⟨‹_›,(Dh h).symm⟩
 cases h
def vX (x:AO CM) (n:Int):A8 (CM×Ai):=match x with |some y=>[(y,.d (Ag n))]|none=>[]
def ku {t:CO} {x:CM} {lo hi:AO CM} {l h:Int} {s r:BA} (hr:O9 s l h=some r) (hl:lo=none->l=0) (Z:hi=none->h=s.size) (ht:P.underlying t=some .string) (J:o.op=.slice t x lo hi none):
 CS P o ((x,.d (DW s))::(vX lo l++vX hi h)) es (.d (DW r)) es:=
 .pure fun ok H a w _ _ M=>by
  obtain⟨⟨O,h1,h2⟩,rfl⟩:=acM hr;have q:=(M (x,.d (DW s)) Bj).lit;simp only at q;have L:(underlying t).run P w=.ok .string w:=O4
  refine⟨.string (s.extract l.toNat h.toNat),?_,.d _ _ (.lit _)⟩;have u:∀y,lo=some y->a.eval y=.int .i64 l:=fun y e=>(M (y,.d (Ag l)) a1G).lit;have I:∀y,hi=some y->a.eval y=.int .i64 h:=fun y e=>(M (y,.d (Ag h)) a1G).lit;have e1:((0:Int)<=h/\h<=(s.size:Int)):=⟨AB,h2⟩
  have e2:((0:Int)<=l/\l<=(h.toNat:Int)):=⟨O,AB⟩
  cases lo with
  |none=>
   have U:=hl rfl;subst U;cases hi with
   |none=>
    have j:=Z rfl;subst j;simp[execOp,J,q,Instr.sliceAt,Instr.slice,L,Instr.sliceBounds]
   |some y=>
    simp[execOp,J,q,Instr.sliceAt,Instr.slice,L,Instr.sliceBounds,Instr.sliceBound,I y rfl,asIntOf,e1]
  |some z=>
   cases hi with
   |none=>
    have j:=Z rfl;subst j;have Y:((0:Int)<=l/\l<=(s.size:Int)):=⟨O,AB⟩
    simp[execOp,J,q,Instr.sliceAt,Instr.slice,L,Instr.sliceBounds,Instr.sliceBound,u z rfl,asIntOf,Y]
   |some y=>
    simp[execOp,J,q,Instr.sliceAt,Instr.slice,L,Instr.sliceBounds,Instr.sliceBound,u z rfl,I y rfl,asIntOf,e1];intro hc;have :=hc O;omega
def aSe {l r:A8 α} {lo hi:Int} (h:IE l lo hi=some r):(0<=lo/\lo<=hi/\hi<=l.length)/\r=(l.drop lo.toNat).take (hi.toNat-lo.toNat):=by
 unfold IE at h;split at h
 ·exact⟨‹_›,(Dh h).symm⟩
 cases h
def aX7 {ok:Nat->Prop} {w:Bc} {xs:A8 D} {ad:AO Addr} {cap size l h:Nat} (Y:EU ok w (.sl xs) (.slice ad xs.length cap)) (hs:∀x∈xs,x.cells.length=size) (Z:l<=h) (h2:h<=xs.length):
 EU ok w (.sl ((xs.drop l).take (h-l))) (.slice (if cap=l then ad else ad.map (·.add (l*size))) (h-l) (cap-l)):=by
 have hlen:((xs.drop l).take (h-l)).length=h-l:=EN
 by_cases hz:h-l=0
 ·have :(xs.drop l).take (h-l)=[]:=by rw[hz];rfl
  rw[this,hz];exact .sl0 _ _
 have z:0<xs.length:=AB
 generalize hn:xs.length=n at Y;cases Y with
 |sl0=>simp at z
 |sl _ b off _ q hcap L I hf hx hc=>
  have M:q=size:=by
   rw[←I 0 z];exact hs _ (by simp[List.getD,z])
  subst M;have O:cap≠l:=AB
  rw[Dk O];simp only[Ij,addr_add]
  have U:∀i,i<h-l->((xs.drop l).take (h-l)).getD i ES=xs.getD (l+i) ES:=by
   intro i hi;simp[List.getD,MX hi,Qg]
  have u:∀i j,off+l*q+(i*q+j)=off+((l+i)*q+j):=by
   intro i j;rw[YG];omega
  have :=EU.sl ((xs.drop l).take (h-l)) b (off+l*q) (cap-l) q (ok:=ok) (w:=w) (by rw[hlen];omega) (fun Z h2=>L (by rw[hlen]at Z;omega) h2) (fun i hi=>by rw[hlen]at hi;rw[U i hi];exact I _ AB)
   (fun i hi j J=>by rw[hlen]at hi;rw[U i hi];exact hf _ AB j J) (fun i hi j J=>by rw[hlen]at hi;rw[u];exact hx _ AB j J)
   (fun i hi j J=>by rw[hlen]at hi;rw[U i hi,u];exact hc _ AB j J)
  rw[hlen]at this;exact this
def Rw {t e:CO} {agg:Ad} {size:Nat} {x:CM} {lo hi:AO CM} {l h:Int} (enc:α->D) {xs r:A8 α} (hr:IE xs l h=some r) (hl:lo=none->l=0) (hh:hi=none->h=xs.length) (ht:P.underlying t=some (.slice e)) (O:Ee P e agg size)
 (hc:∀a,(enc a).cells.length=size) (U:o.op=.slice t x lo hi none):CS P o ((x,.d (C9 enc xs))::(vX lo l++vX hi h)) es (.d (C9 enc r)) es:=
 .pure fun ok H a w _ _ hn=>by
  obtain⟨⟨h0,h1,h2⟩,rfl⟩:=aSe hr;have hx:=hn (x,.d (C9 enc xs)) Bj;simp only at hx;generalize Y:a.eval x=v at hx;have Z:(underlying t).run P w=.ok (.slice e) w:=O4
  have L:∀y,lo=some y->a.eval y=.int .i64 l:=fun y e=>(hn (y,.d (Ag l)) a1G).lit;have M:∀y,hi=some y->a.eval y=.int .i64 h:=fun y e=>(hn (y,.d (Ag h)) a1G).lit;have u:EU ok w (.sl (xs.map enc)) v:=by cases hx with |d _ _ h=>exact h
  have I:∃ad cap,v=.slice ad (xs.map enc).length cap/\(xs.map enc).length<=cap:=by
   generalize hys:xs.map enc=ys at u;cases u with
   |sl0 ad cap=>exact⟨ad,cap,rfl,Du _⟩
   |sl _ b off cap size j=>exact⟨_,cap,rfl,j⟩
  obtain⟨ad,cap,rfl,j⟩:=I;have q:=aX7 (l:=l.toNat) (h:=h.toNat) u (size:=size) (fun y hy=>aLG) AB EN;rw[←aG,←YK]at q;rw[DY]at j;refine⟨_,?_,.d _ _ q⟩;have e1:((0:Int)<=h/\h<=(cap:Int)):=⟨AB,AB⟩
  cases lo with
  |none=>
   have hl0:=hl rfl;subst hl0;cases hi with
   |none=>
    have J:=hh rfl;subst J;simp[execOp,U,Y,Instr.sliceAt,Instr.slice,Z,Instr.sliceBounds,O.size]
   |some y=>
    simp[execOp,U,Y,Instr.sliceAt,Instr.slice,Z,Instr.sliceBounds,Instr.sliceBound,M y rfl,asIntOf,e1,O.size]
  |some z=>
   cases hi with
   |none=>
    have J:=hh rfl;subst J;have e2':((0:Int)<=l/\l<=(xs.length:Int)):=⟨h0,AB⟩
    simp[execOp,U,Y,Instr.sliceAt,Instr.slice,Z,Instr.sliceBounds,Instr.sliceBound,L z rfl,asIntOf,e2',O.size]
   |some y=>
    simp[execOp,U,Y,Instr.sliceAt,Instr.slice,Z,Instr.sliceBounds,Instr.sliceBound,L z rfl,M y rfl,asIntOf,e1,O.size];intro hc';have :=hc' h0;omega
def nS (P:Cm) (t:CO) (f off:Nat) (agg:Ad) (n:Nat):Ad:=
 match P.underlying t with
 |some (.struct q)=>match q[f]? with
  |some j=>j.offset=off&&aH5 P j.type agg n
  |none=>false
 |_=>false
def aYr {x:CM} {t:CO} {f off n:Nat} {agg:Ad} {cs:A8 D} (hp:nS P t f off agg n=true) (hn:off+n<=cs.length) (Z:agg=false->n=1) (M:o.op=.field t x f):CS P o [(x,.d (.agg cs))] es (.d (QY agg cs off n)) es:=
 .pure fun ok H a w _ _ I=>by
  have J:=LP I;simp only at J;generalize O:a.eval x=v at J;unfold nS at hp;split at hp
  ·rename_i fs hu;split at hp
   ·rename_i j U;simp only[Df,Hd]at hp;obtain⟨rfl,q⟩:=hp;have q:=Gt q;have u:(underlying t).run P w=.ok (.struct fs) w:=aEd
    cases J with
    |d _ _ h=>
     cases h with
     |agg _ vs hl L Y=>
      cases agg with
      |false=>
       have :=Z rfl;subst this;have z:j.offset<vs.size:=AB
       refine⟨vs[j.offset],?_,?_⟩
       ·simp[execOp,M,O,Instr.field,u,U,asAgg,part,q.agg,z]
       have :=Y j.offset AB;simp[Array.getD,z]at this;exact .d _ _ this
      |true=>
       refine⟨.agg (vs.extract j.offset (j.offset+n)),?_,?_⟩
       ·simp[execOp,M,O,Instr.field,u,U,asAgg,part,q.agg,q.size]
       simp only[QY,Jr];have hlen:((cs.drop j.offset).take n).length=n:=EN
       have hg:∀i,i<n->((cs.drop j.offset).take n).getD i ES=cs.getD (j.offset+i) ES:=by
        intro i hi;simp[List.getD,MX hi,Qg]
       refine .d _ _ (.agg _ _ (by rw[hlen];simp;omega) ?_ ?_)<;>intro i hi<;>rw[hlen]at hi<;>rw[hg i hi]
       ·exact L _ AB
       have :=Y (j.offset+i) AB
       have e:(vs.extract j.offset (j.offset+n)).getD i undef=vs.getD (j.offset+i) undef:=by
        have h3:j.offset+i<vs.size:=AB
        have h4:i<(vs.extract j.offset (j.offset+n)).size:=EN
        have h5:i<min (j.offset+n) vs.size-j.offset:=AB
        simp[Array.getD,h3,h5]
       rw[e];exact this
   cases hp
  cases hp
def Ai.flat:Ai->Ad
 | .d (.lit _)=>true
 | .eX xs=>xs.all fun x=>match x with | .d (.lit _)=>true|_=>false
 |_=>false
def aS0 (es:A8 Bf):Ai->Ai->Prop
 | .d x,y=>y=.d x
 | .aO k,y=>∃e s xs,es[k]? =some (.arr e s xs)/\y=.d (.sl xs)
 |_,_=>False
def gQ (es:A8 Bf):A8 Ai->A8 Ai->Prop
 |x::xs,y::ys=>aS0 es x y/\gQ es xs ys
 | [],[]=>True
 |_,_=>False
def aME :∀{xs ys:A8 Ai},gQ es xs ys->xs.length=ys.length
 | [],[],_=>rfl
 |_::xs,_::ys,h=>by simp[aME h.2]
 | [],_::_,h=>h.elim
 |_::_,[],h=>h.elim
def aYP {ops:A8 CM}:∀{xs ys:A8 Ai},ops.length=xs.length->gQ es xs ys->∀i,i<ys.length->∃o x,ops[i]? =some o/\(o,x)∈Fq ops xs/\aS0 es x (ys.getD i .junk):=by
 induction ops with
 |nil=>
  intro xs ys hl h i hi;cases xs with
  |nil=>cases ys with |nil=>simp at hi|cons _ _=>exact h.elim
  |cons _ _=>simp at hl
 |cons o ops j=>
  intro xs ys hl h i hi;cases xs with
  |nil=>simp at hl
  |cons x xs=>
   cases ys with
   |nil=>exact h.elim
   |cons y ys=>
    cases i with
    |zero=>exact⟨o,x,rfl,by simp[Fq],h.1⟩
    |succ i=>
     obtain⟨q,u,z,I,J⟩:=j NJ h.2 i Gp;exact⟨q,u,MW,by simp[Fq,I],TL⟩
def dY {ok ok':Nat->Prop} {w:Bc} {H:A8 CP} {h:CP} {e s:Nat} {xs:A8 D} (he:FZ ok w H h (.arr e s xs)) (u:∀b,ok b->ok' b) (M:∀b,EF h.v=some b->ok' b):EU ok' w (.sl xs) h.v:=by
 obtain⟨h1,J,ys,⟨h3,h4⟩,h5⟩:=he;rcases h4 with⟨L,h7⟩|⟨g,cap,cur,L,h7,h8,h9,h10,O,U⟩
 ·rw[Hw h7,L];exact .sl0 none 0
 rw[L];have z:=M g (by rw[L];rfl);have I:=SL J
 have Y:∀i j,i<xs.length->j<s->i*s+j<xs.length*s:=by
  intro i j hi q
  calc i*s+j<i*s+s:=AB
   _=(i+1)*s:=by rw[QS]
   _<=xs.length*s:=Jz _ hi
 have hcur:xs.length*s<=cur.size:=by
  exact FC (Jz _ h9) O
 have hc:∀i j,i<xs.length->j<s->w.cell? ⟨g,0+(i*s+j),none⟩=some (ys.getD (i*s+j) undef):=by
  intro i j hi q;have Z:=Y i j hi q;rw[J3]
  have e1:ys.getD (i*s+j) undef=cur[i*s+j]' AB:=by
   rw[←U];simp[List.getD,MX Z,show i*s+j<cur.size by omega]
  rw[e1];simp[World.cell?,h8,show i*s+j<cur.size by omega]
 have hg:∀i,i<xs.length->xs.getD i ES∈xs:=fun i hi=>OC
 refine .sl xs g 0 cap s h9 (fun _ _=>z) (fun i hi=>J _ (hg i hi)) (fun i hi j q=>?_) (fun i hi j q=>?_) (fun i hi j q=>?_)
 ·have :=(h5.2 (i*s+j) (by rw[I];exact Y i j hi q)).1;rw[flat_get J i j hi q]at this;exact this
 ·rw[hc i j hi q];rfl
 have :=(h5.2 (i*s+j) (by rw[I];exact Y i j hi q)).2;rw[flat_get J i j hi q]at this;unfold cellAt;rw[hc i j hi q];cases this with |d _ _ h=>exact h.mono (fun b M=>⟨u b M,rfl⟩)
def fG {f:FuncId} {ops:Bh CM} {ats:Bh CO} {eG fH:A8 Ai} {I:Ai} (hr:El P f fH [] I []) (hf:Hg P f=true) (z:I.flat=true) (ha:gQ es eG fH) (hl:ops.toList.length=eG.length)
 (ho:o.op=.call { callee:=.value (.func f),args:=ops,argTypes:=ats }):CS P o (Fq ops.toList eG) es I es:=by
 intro C ok H a w Q hm hn;unfold Oper.wp;rw[zA ho,U2 hf,Zt];have e:ops.map a.eval=(ops.toList.map a.eval).toArray:=aCa
 rw[e]
 let J:Nat->Prop:=fun b=>b<w.heap.size
 have hmc:Dv ⟨w,J,[],[]⟩ J [] [] w:=
  ⟨.refl _ _,fun _ h=>h,fun _ h=>.inl h,fun _ h=>h,.refl _,rfl,fun k e h L _=>by simp at L,fun k e h b L=>by simp at L,fun k k' e e' h h' b L=>by simp at L⟩
 refine(hr J [] [] w _ hmc (by simp[hl,aME ha]) (fun i hi=>?_)).mono ?_
 ·obtain⟨op,x,ho',U,j⟩:=aYP hl ha i hi;have O:=hn _ U
  have e:(ops.toList.map a.eval).toArray.getD i undef=a.eval op:=by
   obtain⟨h1,h2⟩:=Fv.1 ho';have Y:i<ops.size:=by simpa using h1
   have Z:ops[i]=op:=pF
   simp[Array.getD,Y,Z]
  rw[e];simp only at O;generalize fH.getD i .junk=y at j;generalize a.eval op=u at O;cases x with
  |d x=>
   obtain rfl:=j;cases O with |d _ _ h=>exact .d _ _ (h.mono (fun b M=>⟨hm.kM b M,rfl⟩))
  |aO k=>
   obtain⟨e',s,xs,hk,rfl⟩:=j;obtain⟨h,hh,hok⟩:=H8 hm.ent hm.hlen hk;obtain rfl:=Oe O hh;exact .d _ _ (dY hok (fun b M=>hm.kM b M) (fun b M=>(hm.blk k _ h b hk rfl hh M).2.1))
  |_=>exact j.elim
 rintro e w' ⟨v,ok',H',rfl,q,O⟩;have hblk:∀b,b<w.heap.size->¬False->w'.heap[b]? =w.heap[b]? :=fun b M _=>q.fr.block b M Bj;obtain⟨h1,h2⟩:=hm.change (ok':=ok) (H':=H) (es':=es) (w':=w') (fun _=>False) q.fr.os q.fr.tape q.fr.output q.fr.size hblk (fun _ h=>h.elim) (fun _ h=>h) (fun _ h=>.inl h) (.refl _) hm.hlen (fun k e h L hh=>.inl ⟨L,hh,fun _ _ _ h=>h⟩);refine⟨v,ok,H,rfl,h2,.refl _,h1,?_⟩;cases O with
 |d x v h=>
  cases x with
  |lit u=>cases h;exact .d _ _ (.lit _)
  |_=>simp[Ai.flat]at z
 |eX xs vs hl' h=>
  refine .eX xs vs hl' (fun i hi=>?_);simp only[Ai.flat,EY]at z;have Y:=z (xs.getD i .junk) OC;have Z:=h i hi;generalize xs.getD i .junk=x at Y Z;generalize vs.getD i undef=u at Z;cases Z with
  |d y _ h5=>
   cases y with
   |lit u=>cases h5;exact .d _ _ (.lit _)
   |_=>simp at Y
  |_=>simp at Y
 |_=>simp[Ai.flat]at z
end
def Ai.thaw (k:Nat) (xs:A8 D):Ai->Ai
 | .aO j=>if j=k then .d (.sl xs)else .aO j
 | .lC j i off=>if j=k then .junk else .lC j i off
 |x=>x
def BR.thaw (σ:BR) (k:Nat) (xs:A8 D):BR:=⟨σ.slots.map (Ai.thaw k xs),σ.ents.set k .dead,σ.base⟩
def Iz {σ:BR} (k:Nat) {e s:Nat} {xs:A8 D} (hk:σ.ents[k]? =some (.arr e s xs)):∀C ok H a w,Holds C ok H σ a w->∃ok',Holds C ok' H (σ.thaw k xs) a w:=by
 intro C ok H a w u;obtain⟨hd,O,hok⟩:=H8 u.mem.ent u.mem.hlen hk;have I:k<σ.ents.length:=(Fv.1 hk).1
 let ok':Nat->Prop:=fun b=>ok b\/EF hd.v=some b
 have M:=fun b q=>u.mem.blk k _ hd b hk rfl O q;have hg:Ep ok w ok' w:=fun b q=>⟨.inl q,rfl⟩
 refine⟨ok',⟨u.mem.fr,fun b q=>.inl (u.mem.yF b q),?_,?_,u.mem.names,by simp[BR.thaw,u.mem.hlen],?_,?_,?_⟩,by simp[BR.thaw,u.size],u.defers.mono hg,u.base,?_⟩
 ·rintro b (q|q)
  ·exact u.mem.yG b q
  exact .inr (M b q).2.2
 ·rintro b (q|q)
  ·exact u.mem.kM b q
  exact(M b q).2.1
 ·intro j e' h' he J;rcases MI I he with⟨rfl,rfl⟩|⟨_,L⟩
  ·trivial
  exact(u.mem.ent j e' h' L J).mono hg (.refl _) (fun _ _ _=>rfl)
 ·intro j e' h' b he hl J q;rcases MI I he with⟨rfl,rfl⟩|⟨hne,L⟩
  ·cases hl
  have h3:=u.mem.blk j e' h' b L hl J q;refine⟨fun z=>?_,h3.2⟩;rcases z with z|z
  ·exact h3.1 z
  exact hne (u.mem.Ef j k e' _ h' hd b L hk hl rfl J O q z)
 ·intro i j e1 e2 h1 h2 b he1 he2 Y Z hh1 hh2 hb1 hb2;rcases MI I he1 with⟨rfl,rfl⟩|⟨_,as8⟩
  ·cases Y
  rcases MI I he2 with⟨rfl,rfl⟩|⟨_,amn⟩
  ·cases Z
  exact u.mem.Ef i j e1 e2 h1 h2 b as8 amn Y Z hh1 hh2 hb1 hb2
 intro t ht;simp only[BR.thaw,DY]at ht
 have e1:(σ.thaw k xs).slots.getD t .junk=(σ.slots.getD t .junk).thaw k xs:=by
  simp only[BR.thaw];exact S9 _ _ _ ht
 rw[e1];have U:=(u.slot t ht).mono hg (bD H);generalize σ.slots.getD t .junk=x at U ⊢;generalize a.tmps.getD t undef=v at U ⊢;cases x with
 |aO j=>
  simp only[Ai.thaw];split
  ·rename_i hj;subst hj;obtain rfl:=Oe U O;exact .d _ _ (dY hok (fun b q=>.inl q) (fun b q=>.inr q))
  exact U
 |lC j i off=>
  simp only[Ai.thaw];split
  ·exact .junk _
  exact U
 |_=>exact U
def Bz.thaw {P:Cm} {c:Code} {σ:BR} {Q:Exit->BR->Prop} (k:Nat) {e s:Nat} {xs:A8 D} (q:σ.ents[k]? =some (.arr e s xs)) (h:Bz P c (σ.thaw k xs) Q):Bz P c σ Q:=by
 refine⟨fun ro u C ok H a w z=>?_⟩;obtain⟨ok',j⟩:=Iz k q C ok H a w z;exact h.run ro u C ok' H a w j
def El.view {P:Cm} {f:FuncId} {args:A8 Ai} {e s:Nat} {xs:A8 D} (h:El P f args [] (.aO 0) [.arr e s xs]):El P f args [] (.d (.sl xs)) []:=by
 intro ok X H w q hm hs ha;refine(h ok X H w q hm hs ha).mono ?_;rintro e' w' ⟨v,ok',H',rfl,j,L⟩;have M:H=[]:=Hw hm.hlen;have hl:H'.length=1:=j.hlen
 match H',hl with
 | [hd],_=>
   obtain rfl:=Oe L (h:=hd) rfl;have I:=j.ent 0 _ hd rfl rfl;have z:=fun b z=>j.blk 0 _ hd b rfl rfl rfl z
   let J:Nat->Prop:=fun b=>ok' b\/EF hd.v=some b
   refine⟨hd.v,J,[],rfl,⟨j.fr,fun b h=>.inl (j.yF b h),?_,?_,by intro k v O;subst M;simp at O,rfl,fun k e h u=>by simp at u,fun k e h b u=>by simp at u,fun k k' e e' h h' b u=>by simp at u⟩,.d _ _ (dY I (fun b h=>.inl h) (fun b h=>.inr h))⟩
   ·rintro b (h|h)
    ·exact j.yG b h
    exact .inr (z b h).2.2
   rintro b (h|h)
   ·exact j.kM b h
   exact(z b h).2.1
def acS (es E':A8 Bf) (j:E'.all Bf.closed=true):MZ [] es E'=es++E':=by
 unfold MZ;simp only[List.findIdx?_nil,N8,jF];rw[aS1 j];congr 1;apply bV;intro i;simp only[Ji,List.getElem?_zipIdx];cases es[i]? <;>rfl
def aRQ {P:Cm} {o:Oper} {es:A8 Bf} {f:FuncId} {ops:Bh CM} {ats:Bh CO} {eG fH:A8 Ai} {j res':Ai} {E':A8 Bf} (z:El P f fH [] j E') (I:Hg P f=true) (q:E'.all Bf.closed=true)
 (ha:NW [] eG fH) (hl:ops.toList.length=eG.length) (J:j.up [] es.length=res') (L:o.op=.call { callee:=.value (.func f),args:=ops,argTypes:=ats }):CS P o (Fq ops.toList eG) es res' (es++E'):=by
 have :=aQQ (es:=es) [] z I (by
  have u:E'.all (Bf.apk [] es.length)=true:=by
   rw[EY]at q ⊢;exact fun e M=>aip (q e M)
  simp[SA,u]) (fun i s h=>J8) ha hl L
 rw[acS _ _ q,J]at this;exact this
def aQC {P:Cm} {o:Oper} {es:A8 Bf} {f:FuncId} {ops:Bh CM} {ats:Bh CO} {eG fH:A8 Ai} {j res':Ai} (q:El P f fH [] j []) (u:Hg P f=true)
 (ha:NW [] eG fH) (hl:ops.toList.length=eG.length) (z:j.up [] es.length=res') (I:o.op=.call { callee:=.value (.func f),args:=ops,argTypes:=ats }):CS P o (Fq ops.toList eG) es res' es:=by
 have :=aRQ (es:=es) q u rfl ha hl z I;rw[P8]at this;exact this
section
variable {P:Cm} {σ:BR} {Q:Exit->BR->Prop}
def aIu (P:Cm) (σ:BR):ResultVar->Ai->Prop
 | .tmp t,x=>x=σ.slots.getD t .junk
 | .cell t T,x=>∃k cs agg n,σ.slots.getD t .junk=.ptr k 0/\σ.ents[k]? =some (.box cs)/\cs.all Ai.BJ=true/\Ee P T agg n/\n<=cs.length/\(agg=false->n=1)/\x=.d (QY agg (JQ cs) 0 n)
def Gj {P:Cm} {σ:BR} {t:Tmp} {x:Ai} (h:x=σ.slots.getD t .junk):aIu P σ (.tmp t) x:=h
def YW (P:Cm) (σ:BR):A8 ResultVar->A8 Ai->Prop
 |r::rs,x::xs=>aIu P σ r x/\YW P σ rs xs
 | [],[]=>True
 |_,_=>False
def lT :A8 Ai->Ai
 | [x]=>x
 |xs=>.eX xs
def aTr (P:Cm) (fn:Func) (j:Ai) (E':A8 Bf):Exit->BR->Prop
 | .ret,σ=>∃xs π,YW P σ fn.results.toList xs/\Uj σ.base σ.ents π=true/\j=(lT xs).back π/\E'=SY σ.ents π
 | .normal,σ=>∃xs π,YW P σ fn.results.toList xs/\Uj σ.base σ.ents π=true/\j=(lT xs).back π/\E'=SY σ.ents π
 |_,_=>False
def aIN (tmps:Bh Aw):ResultVar->Sem Aw
 | .tmp t=>pure (tmps.getD t undef)
 | .cell t T=>do loadVar T (←asAddr (tmps.getD t undef))
def ahI {C:En} {ok:Nat->Prop} {H:A8 CP} {a:Act} {w:Bc} (h:Holds C ok H σ a w) {r:ResultVar} {x:Ai} (j:aIu P σ r x):
 ∃v,(aIN a.tmps r).run P w=.ok v w/\R ok w H x v:=by
 cases r with
 |tmp t=>
  obtain rfl:=j;exact⟨_,rfl,h.axr t⟩
 |cell t T=>
  obtain⟨k,cs,agg,n,hs,J,hd,L,hn,M,rfl⟩:=j;have hp:=hs▸h.axr t;obtain⟨O,U,q⟩:=H8 h.mem.ent h.mem.hlen J;obtain⟨b,z,Y,Z,hc⟩:=aHA q hd;generalize hu:a.tmps.getD t undef=u at hp;cases hp with
  |ptr _ _ b' s I=>
   rw[U]at I;obtain rfl:=Dh I;simp at z;subst z;show ∃v,((do loadVar T (←asAddr (a.tmps.getD t undef)):Sem Aw)).run P w=.ok v w/\_;rw[hu];obtain⟨v,j,hD⟩:=aCC L (off:=0) (by rw[tZ];omega) M Y Z hc;refine⟨v,?_,.d _ _ hD⟩;simp only[Instr.loadAt,Instr.sureAddr,Fl,Gw,G8,J3]at j;simp only[asAddr,Fl,Gw,G8];exact j
def aP2 {C:En} {ok:Nat->Prop} {H:A8 CP} {a:Act} {w:Bc} (h:Holds C ok H σ a w):∀(rs:A8 ResultVar) (xs:A8 Ai),YW P σ rs xs->
 ∃vs:A8 Aw,(rs.mapM (aIN a.tmps)).run P w=.ok vs w/\vs.length=xs.length/\∀i,i<xs.length->R ok w H (xs.getD i .junk) (vs.getD i undef)
 | [],[],_=>⟨[],rfl,rfl,fun i hi=>PY⟩
 | [],_::_,h'=>h'.elim
 |_::_,[],h'=>h'.elim
 |r::rs,x::xs,h'=>by
  obtain⟨v,u,z⟩:=ahI (P:=P) h h'.1;obtain⟨vs,j,hl,q⟩:=aP2 h rs xs h'.2;refine⟨v::vs,?_,aC,fun i hi=>?_⟩
  ·simp only[List.mapM_cons,Fl,u,j,G8,Gw]
  cases i with
  |zero=>exact z
  |succ i=>simpa using q i Gp
def abY {C:En} {ok:Nat->Prop} {H:A8 CP} {a:Act} {w:Bc} (h:Holds C ok H σ a w) {fn:Func} {xs:A8 Ai} (I:YW P σ fn.results.toList xs):
 ∃v,(results fn a.tmps).run P w=.ok v w/\R ok w H (lT xs) v:=by
 obtain⟨vs,u,hl,j⟩:=aP2 (P:=P) h _ _ I
 have hm:(results fn a.tmps).run P w=.ok (if h:vs.toArray.size=1 then vs.toArray[0]else .tuple vs.toArray) w:=by
  have e:results fn a.tmps=(do let vs ←fn.results.mapM (aIN a.tmps);pure (if h:vs.size=1 then vs[0]else .tuple vs)):=rfl;rw[e,aHt];simp only[Fl,a00,u,G8,Gw]
 refine⟨_,hm,?_⟩
 match xs,hl,j with
 | [x],hl,j=>
   have q:vs.toArray.size=1:=NJ
   rw[dif_pos q];have :=j 0 Bj
   have e:vs.getD 0 undef=vs.toArray[0]:=by
    have :0<vs.length:=aC
    simp[List.getD,this]
   rw[e]at this;exact this
 | [],hl,j=>
   have q:¬vs.toArray.size=1:=by simp at hl;simp[hl]
   rw[dif_neg q];exact .eX [] _ NJ (fun i hi=>PY)
 |x::y::xs,hl,j=>
  have q:¬vs.toArray.size=1:=by simp at hl;simp[hl]
  rw[dif_neg q];refine .eX _ _ NJ (fun i hi=>?_);have :=j i hi;have z:i<vs.length:=AB
  have e:vs.toArray.getD i undef=vs.getD i undef:=by simp[Array.getD,List.getD,z]
  rw[e];exact this
def aeo {w:Bc} {D:Nat} {x:AO (A8 Deferred)} (h:w.heap[D]? =some (.deferred x)) (o:Nat):w.cell? ⟨D,o,none⟩=none:=by
 unfold World.cell?;rw[h]
def Holds.take {C:En} {ok:Nat->Prop} {H:A8 CP} {σ:BR} {a:Act} {w:Bc} (hC:∀b,C.ok0 b->b<C.w0.heap.size) (h:Holds C ok H σ a w) {D:Nat} {Ds:A8 Nat} (hd:∀d∈Ds,ok d/\C.w0.heap.size<=d/\w.heap[d]? =some (.deferred (some [])))
 (hD:ok D/\C.w0.heap.size<=D/\w.heap[D]? =some (.deferred (some []))) (J:(D::Ds).Nodup):
 ∃ok',Holds C ok' H σ { a with defers:=Ds.map fun D=>{ target:=.collected D,args:= #[] } } (w.putObj D (.deferred none))/\∀d∈Ds,ok' d/\C.w0.heap.size<=d/\(w.putObj D (.deferred none)).heap[d]? =some (.deferred (some [])):=by
 obtain⟨h1,h2,h3⟩:=hD;have q:∀b,b≠D->(w.putObj D (.deferred none)).heap[b]? =w.heap[b]? :=fun b j=>YJ j;have L:∀b o,ok b->(w.cell? ⟨b,o,none⟩).isSome=true->ok b/\b≠D:=fun b o j M=>⟨j,fun e=>by subst e;rw[aeo h3]at M;cases M⟩
 have hg:Ep (fun b=>ok b/\b≠D) w (fun b=>ok b/\b≠D) (w.putObj D (.deferred none)):=fun b j=>⟨j,q b j.2⟩
 have Y:∀(k:Nat) (e:Bf) (hd:CP) (b:Nat),σ.ents[k]? =some e->e.live=true->H[k]? =some hd->EF hd.v=some b->b≠D:=fun k e hd b z hl I j Z=>(h.mem.blk k e hd b z hl I j).1 (Z▸h1)
 have O:∀d∈Ds,(ok d/\d≠D)/\C.w0.heap.size<=d/\(w.putObj D (.deferred none)).heap[d]? =some (.deferred (some [])):=fun d u=>by
  have U:d≠D:=fun e=>(Nh.1 J).1 (e▸u);exact⟨⟨(hd d u).1,U⟩,(hd d u).2.1,by rw[q d U];exact(hd d u).2.2⟩
 refine⟨fun b=>ok b/\b≠D,⟨⟨⟨h.mem.fr.os,h.mem.fr.tape,h.mem.fr.output,by simpa[World.putObj]using h.mem.fr.size,fun k hk hX=>by rw[q k AB];exact h.mem.fr.block k hk hX⟩,fun b j=>⟨h.mem.yF b j,fun e=>by have :=hC b j;omega⟩,fun b j=>h.mem.yG b j.1,fun b j=>by simpa[World.putObj]using h.mem.kM b j.1,h.mem.names,h.mem.hlen,?_,?_,?_⟩,h.size,⟨Ds,rfl,(Nh.1 J).2,O⟩,h.base,fun t ht=>((h.slot t ht).shrink L).mono hg (.refl _)⟩,O⟩
 ·intro k e hd z I;exact((h.mem.ent k e hd z I).shrink L (fun b ms c j M=>⟨j,fun e=>by subst e;rw[h3]at M;cases M⟩)).mono hg (.refl _) fun hl b j=>q b (Y k e hd b z hl I j)
 ·intro k e hd b z hl I j;obtain⟨h4,h5,h6⟩:=h.mem.blk k e hd b z hl I j;exact⟨fun hx=>h4 hx.1,by simpa[World.putObj]using h5,h6⟩
 exact h.mem.Ef
def aO1 {fn:Func} {Rr:Ending->Bc->Prop} {C:En} (u:∀b,C.ok0 b->b<C.w0.heap.size) {H:A8 CP} {σ:BR}
 (z:∀ok a w,Holds C ok H σ a w->∃v,(results fn a.tmps).run P w=.ok v w/\Rr (.returned v) w):∀(Ds:A8 Nat) {ok:Nat->Prop} {a:Act} {w:Bc},Holds C ok H σ a w->(∀d∈Ds,ok d/\C.w0.heap.size<=d/\w.heap[d]? =some (.deferred (some [])))->Ds.Nodup->
  LeavesInM (JF none) 0 P fn a.tmps Rr (Ds.map fun D=>{ target:=.collected D,args:= #[] }) .returning w
 | [],ok,a,w,h,_,_=>z ok a w h
 |D::Ds,ok,a,w,h,hd,I=>by
  obtain⟨ok',h',j⟩:=h.take u (fun d q=>hd d (Gv _ q)) (hd D (GU ..)) I;have J:=aO1 u z Ds h' j (Nh.1 I).2;exact⟨Bj,.inl ⟨D,_,rfl,run_takeDeferred (hd D (GU ..)).2.2,J⟩⟩
def El.aJ {f:FuncId} {fn:Func} {c:Code} {args:A8 Ai} {E E':A8 Bf} {u:Ai} (hf:P.funcs[f]? =some fn) (hb:fn.body=some c)
 (h:Bz P c (.enter args fn.ntmps E) (aTr P fn u E')):El P f args E u E':=by
 intro ok X H w j hm hs ha;refine(aCG (ro:=none) (n:=0)).1 (aKe hf hb trivial (VX (h.run none (.inl rfl) ⟨w,ok,X,H⟩ ok H _ w ?_) ?_) rfl)
 ·refine⟨hm,?_,.nil _ _ _,hm.hlen,fun t ht=>?_⟩
  ·simp[BR.enter,hs]
  simp only[BR.enter];by_cases e:t<args.length
  ·have J:(args++List.replicate (fn.ntmps-args.length) Ai.junk).getD t .junk=args.getD t .junk:=aH9
   have e2:(j++Array.replicate (fn.ntmps-j.size) undef).getD t undef=j.getD t undef:=by
    simp[Io,Yu (show t<j.size by omega)]
   rw[J,e2];exact ha t e
  have J:(args++List.replicate (fn.ntmps-args.length) Ai.junk).getD t .junk=.junk:=by
   simp only[List.getD,KX (X7 e),aGV];split<;>rfl
  rw[J];exact .junk _
 rintro e a' w' ⟨ok',H',σ',h1,L⟩;obtain⟨Ds,M,O,U⟩:=h1.defers
 have key:∀(x:A8 Ai) (π:A8 (Nat×Ad)),YW P σ' fn.results.toList x->Uj σ'.base σ'.ents π=true->u=(lT x).back π->E'=SY σ'.ents π->
  LeavesInM (JF none) 0 P fn a'.tmps (fun e w'=>∃v ok' H',e=.returned v/\Dv ⟨w,ok,X,H⟩ ok' H' E' w'/\R ok' w' H' u v) a'.defers .returning w':=by
  rintro x π I q rfl rfl;rw[M];refine aO1 (P:=P) (C:=⟨w,ok,X,H⟩) hm.kM (fun Y a2 w2 z=>?_) Ds h1 U O;obtain⟨v,hv,hR⟩:=abY (P:=P) z I;exact⟨v,hv,v,Y,_,rfl,z.mem.norm π (z.base▸q),hR.back π⟩
 cases e with
 |ret=>obtain⟨x,π,I,q,z,Z⟩:=L;exact key x π I q z Z
 |normal=>obtain⟨x,π,I,q,z,Z⟩:=L;exact key x π I q z Z
 |_=>exact L.elim
def BK:=@El.aJ
def Ac {x y:Code} (j:Bz P x σ (KH (fun s=>Bz P y s Q) Q)):Bz P (.seq x y) σ Q:=Bz.seq _ j (fun _ h=>h)
def Bz.join {x y:Code} (K:BR->Prop) (j:∀s,K s->Bz P y s Q) (q:(∀s,K s->Bz P y s Q)->Bz P x σ (KH (fun s=>Bz P y s Q) Q)):Bz P (.seq x y) σ Q:=Bz.seq _ (q j) (fun _ h=>h)
def DR:=@Bz.join
def VB {c:CM} {x y:Code} (j:σ.get c=.d (.lit (.bool true))) (h:Bz P x σ Q):Bz P (.cond c x y) σ Q:=Bz.cond true j (fun _=>h) (fun h=>JD)
def Qc {c:CM} {x y:Code} (j:σ.get c=.d (.lit (.bool false))) (h:Bz P y σ Q):Bz P (.cond c x y) σ Q:=Bz.cond false j (fun h=>JD) (fun _=>h)
def FH {id:Nat} {ops:Bh Oper} {y:Code} {σ':BR} {rs:A8 Ai} {ess:A8 (A8 Bf)} {bs:A8 Ad} (hm:P.follows .mixedOrders=true) (j:(U4 ops&&Xj ops&&Wn ops σ.slots.length&&Wj ops)=true) (q:VY ops bs=true)
 (h:Fe P ops ops.toList σ rs ess bs σ') (u:Bz P y σ' Q):Bz P (.seq (.region id ops true) y) σ Q:=
 Bz.seq (fun s=>s=σ') (.draw hm j q h rfl) (fun _ e=>e▸u)
end
section
variable {P:Cm} {o:Oper} {es:A8 Bf}
def ajF {x:CM} {t:CO} {agg:Ad} {n off:Nat} {cs:A8 D} {y:D} (j:y=QY agg cs off n) (q:Ee P t agg n) (u:off+n<=cs.length) (z:agg=false->n=1) (I:o.op=.load t x):CS P o [(x,.d (.ref cs off))] es (.d y) es:=j▸abV q u z I
def agi {x:CM} {t:CO} {agg:Ad} {k n off:Nat} {cs:A8 Ai} {y:D} (j:y=QY agg (JQ cs) off n) (q:es[k]? =some (.box cs)) (hd:cs.all Ai.BJ=true) (u:Ee P t agg n) (z:off+n<=cs.length) (I:agg=false->n=1) (J:o.op=.load t x):
 CS P o [(x,.ptr k off)] es (.d y) es:=j▸ak3 q hd u z I J
def abC {x:CM} {t:CO} {f off n:Nat} {agg:Ad} {cs:A8 D} {y:D} (j:y=QY agg cs off n) (hp:nS P t f off agg n=true) (q:off+n<=cs.length) (u:agg=false->n=1) (z:o.op=.field t x f):CS P o [(x,.d (.agg cs))] es (.d y) es:=j▸aYr hp q u z
def al4 {t:CO} {q:Bh (Nat×CM)} {j:A8 (Nat×Nat)} {z:Aw} {y:D} (u:Jj P t j z) (vs:A8 Ai) (I:o.op=.build t q) (J:y=.agg (JQ (LG (fun(i:Nat)=>j[i]?) (GI z) q.toList vs))) (hp:O6 (fun(i:Nat)=>j[i]?) (GI z).length q.toList vs=true)
 (hd:(LG (fun(i:Nat)=>j[i]?) (GI z) q.toList vs).all Ai.BJ=true):CS P o (Nw q.toList vs) es (.d y) es:=J▸acT u vs hp hd I
def aeA {s t:CO} {x:CM} {j k:IntKind} {n:Int} (hs:P.underlying s=some (.int j)) (ht:P.underlying t=some (.int k)) (q:o.op=.convert s t x):CS P o [(x,.d (.lit (.int j n)))] es (.d (.lit (.int k (k.wrap n)))) es:=
 aVn q fun w=>by simp[convert,underlying,hs,ht,Conv.intToInt]
def ajN {s t:CO} {x:CM} {u:BA} (hs:P.underlying s=some .string) (ht:P.underlying t=some .string) (j:o.op=.convert s t x):CS P o [(x,.d (DW u))] es (.d (DW u)) es:=
 aVn j fun w=>by simp[convert,underlying,hs,ht]
def alE {t t':CO} {x y:CM} {a b:Ad} (ht:P.underlying t=some .bool) (j:o.op=.binOp .eql t x y t'):CS P o [(x,.d (Ea a)),(y,.d (Ea b))] es (.d (Ea (a==b))) es:=
 Ho (u:=.bool a) (v:=.bool b) (r:=.bool (a==b)) j (fun w=>by
  show((do pure (.bool (←Op.equal t (.bool a) (.bool b))):Sem Aw)).run P w=_
  simp only[Fl,run_equal_bool w t a b ht,G8,Gw]) ⟨rfl,rfl⟩
def ahS {t t':CO} {x y:CM} {a b:Ad} (ht:P.underlying t=some .bool) (j:o.op=.binOp .neq t x y t'):CS P o [(x,.d (Ea a)),(y,.d (Ea b))] es (.d (Ea (!(a==b)))) es:=
 Ho (u:=.bool a) (v:=.bool b) (r:=.bool (!(a==b))) j (fun w=>by
  show((do pure (.bool (!(←Op.equal t (.bool a) (.bool b)))):Sem Aw)).run P w=_
  simp only[Fl,run_equal_bool w t a b ht,G8,Gw]) ⟨rfl,rfl⟩
end
def bJ {A Rr:Type} (body:(A->AO Rr)->A->AO Rr):Nat->A->AO Rr
 |0,_=>none
 |n+1,a=>body (bJ body n) a
def EJ {P:Cm} {σ:BR} {Q:Exit->BR->Prop} {q:Code} {A Rr:Type} (S:A->BR) (body:(A->AO Rr)->A->AO Rr) (r:Rr) (a0:A) (hs:Cb σ (S a0)) (h:Go.Proofs.YtkkdimcnpacjhaaGreat.bJ body Az a0=some r)
 (round:∀(J:BR->Prop) (k:A->AO Rr),(∀σ' a,Cb σ' (S a)->k a=some r->J σ')->∀a,body k a=some r->Bz P q (S a) (KH J Q)):Bz P (.loop q) σ Q:=by
 refine Bz.loop (fun n s=>∃a,Cb s (S a)/\Go.Proofs.YtkkdimcnpacjhaaGreat.bJ body n a=some r) Az ⟨a0,hs,h⟩ ?_;rintro n s ⟨a,j,u⟩;refine DJ j ?_;cases n with
 |zero=>cases u
 |succ n=>exact round _ (Go.Proofs.YtkkdimcnpacjhaaGreat.bJ body n) (fun σ' a z I=>⟨n,WH n,a,z,I⟩) a u
def aU {A B Rr:Type} (body:(A->B->AO Rr)->A->B->AO Rr):Nat->A->B->AO Rr
 |0,_,_=>none
 |n+1,a,b=>body (aU body n) a b
def Dl {P:Cm} {σ:BR} {Q:Exit->BR->Prop} {u:Code} {A B Rr:Type} (S:A->B->BR) (body:(A->B->AO Rr)->A->B->AO Rr) (r:Rr) (a0:A) (q:B) (hs:Cb σ (S a0 q)) (h:Go.Proofs.YtkkdimcnpacjhaaGreat.aU body Az a0 q=some r)
 (round:∀(J:BR->Prop) (k:A->B->AO Rr),(∀σ' a b,Cb σ' (S a b)->k a b=some r->J σ')->∀a b,body k a b=some r->Bz P u (S a b) (KH J Q)):Bz P (.loop u) σ Q:=by
 refine Bz.loop (fun n s=>∃a b,Cb s (S a b)/\Go.Proofs.YtkkdimcnpacjhaaGreat.aU body n a b=some r) Az ⟨a0,q,hs,h⟩ ?_;rintro n s ⟨a,b,j,z⟩;refine DJ j ?_;cases n with
 |zero=>cases z
 |succ n=>exact round _ (Go.Proofs.YtkkdimcnpacjhaaGreat.aU body n) (fun σ' a b I L=>⟨n,WH n,a,b,I,L⟩) a b z
def gZ {A B C Rr:Type} (body:(A->B->C->AO Rr)->A->B->C->AO Rr):Nat->A->B->C->AO Rr
 |0,_,_,_=>none
 |n+1,a,b,c=>body (gZ body n) a b c
def O7 {P:Cm} {σ:BR} {Q:Exit->BR->Prop} {z:Code} {A B C Rr:Type} (S:A->B->C->BR) (body:(A->B->C->AO Rr)->A->B->C->AO Rr) (r:Rr) (a0:A) (q:B) (u:C) (hs:Cb σ (S a0 q u)) (h:Go.Proofs.YtkkdimcnpacjhaaGreat.gZ body Az a0 q u=some r)
 (round:∀(J:BR->Prop) (k:A->B->C->AO Rr),(∀σ' a b c,Cb σ' (S a b c)->k a b c=some r->J σ')->∀a b c,body k a b c=some r->Bz P z (S a b c) (KH J Q)):Bz P (.loop z) σ Q:=by
 refine Bz.loop (fun n s=>∃a b c,Cb s (S a b c)/\Go.Proofs.YtkkdimcnpacjhaaGreat.gZ body n a b c=some r) Az ⟨a0,q,u,hs,h⟩ ?_;rintro n s ⟨a,b,c,j,I⟩;refine DJ j ?_;cases n with
 |zero=>cases I
 |succ n=>exact round _ (Go.Proofs.YtkkdimcnpacjhaaGreat.gZ body n) (fun σ' a b c L M=>⟨n,WH n,a,b,c,L,M⟩) a b c I
def UO {A B C D Rr:Type} (body:(A->B->C->D->AO Rr)->A->B->C->D->AO Rr):Nat->A->B->C->D->AO Rr
 |0,_,_,_,_=>none
 |n+1,a,b,c,d=>body (UO body n) a b c d
def Bz.UO {P:Cm} {σ:BR} {Q:Exit->BR->Prop} {I:Code} {A B C D Rr:Type} (S:A->B->C->D->BR) (body:(A->B->C->D->AO Rr)->A->B->C->D->AO Rr) (r:Rr) (a0:A) (q:B) (u:C) (z:D) (hs:Cb σ (S a0 q u z)) (h:Go.Proofs.YtkkdimcnpacjhaaGreat.UO body Az a0 q u z=some r)
 (round:∀(J:BR->Prop) (k:A->B->C->D->AO Rr),(∀σ' a b c d,Cb σ' (S a b c d)->k a b c d=some r->J σ')->∀a b c d,body k a b c d=some r->Bz P I (S a b c d) (KH J Q)):Bz P (.loop I) σ Q:=by
 refine Bz.loop (fun n s=>∃a b c d,Cb s (S a b c d)/\Go.Proofs.YtkkdimcnpacjhaaGreat.UO body n a b c d=some r) Az ⟨a0,q,u,z,hs,h⟩ ?_;rintro n s ⟨a,b,c,d,j,L⟩;refine DJ j ?_;cases n with
 |zero=>cases L
 |succ n=>exact round _ (Go.Proofs.YtkkdimcnpacjhaaGreat.UO body n) (fun σ' a b c d M O=>⟨n,WH n,a,b,c,d,M,O⟩) a b c d L
def F8 {A B C D E Rr:Type} (body:(A->B->C->D->E->AO Rr)->A->B->C->D->E->AO Rr):Nat->A->B->C->D->E->AO Rr
 |0,_,_,_,_,_=>none
 |n+1,a,b,c,d,e=>body (F8 body n) a b c d e
def Bz.F8 {P:Cm} {σ:BR} {Q:Exit->BR->Prop} {L:Code} {A B C D E Rr:Type} (S:A->B->C->D->E->BR) (body:(A->B->C->D->E->AO Rr)->A->B->C->D->E->AO Rr) (r:Rr) (a0:A) (q:B) (u:C) (z:D) (I:E) (hs:Cb σ (S a0 q u z I)) (h:Go.Proofs.YtkkdimcnpacjhaaGreat.F8 body Az a0 q u z I=some r)
 (round:∀(J:BR->Prop) (k:A->B->C->D->E->AO Rr),(∀σ' a b c d e,Cb σ' (S a b c d e)->k a b c d e=some r->J σ')->∀a b c d e,body k a b c d e=some r->Bz P L (S a b c d e) (KH J Q)):Bz P (.loop L) σ Q:=by
 refine Bz.loop (fun n s=>∃a b c d e,Cb s (S a b c d e)/\Go.Proofs.YtkkdimcnpacjhaaGreat.F8 body n a b c d e=some r) Az ⟨a0,q,u,z,I,hs,h⟩ ?_;rintro n s ⟨a,b,c,d,e,j,M⟩;refine DJ j ?_;cases n with
 |zero=>cases M
 |succ n=>exact round _ (Go.Proofs.YtkkdimcnpacjhaaGreat.F8 body n) (fun σ' a b c d e O U=>⟨n,WH n,a,b,c,d,e,O,U⟩) a b c d e M
def F9 {A B C D E F Rr:Type} (body:(A->B->C->D->E->F->AO Rr)->A->B->C->D->E->F->AO Rr):Nat->A->B->C->D->E->F->AO Rr
 |0,_,_,_,_,_,_=>none
 |n+1,a,b,c,d,e,f=>body (F9 body n) a b c d e f
def Bz.F9 {P:Cm} {σ:BR} {Q:Exit->BR->Prop} {M:Code} {A B C D E F Rr:Type} (S:A->B->C->D->E->F->BR) (body:(A->B->C->D->E->F->AO Rr)->A->B->C->D->E->F->AO Rr) (r:Rr) (a0:A) (q:B) (u:C) (z:D) (I:E) (L:F) (hs:Cb σ (S a0 q u z I L)) (h:Go.Proofs.YtkkdimcnpacjhaaGreat.F9 body Az a0 q u z I L=some r)
 (round:∀(J:BR->Prop) (k:A->B->C->D->E->F->AO Rr),(∀σ' a b c d e f,Cb σ' (S a b c d e f)->k a b c d e f=some r->J σ')->∀a b c d e f,body k a b c d e f=some r->Bz P M (S a b c d e f) (KH J Q)):Bz P (.loop M) σ Q:=by
 refine Bz.loop (fun n s=>∃a b c d e f,Cb s (S a b c d e f)/\Go.Proofs.YtkkdimcnpacjhaaGreat.F9 body n a b c d e f=some r) Az ⟨a0,q,u,z,I,L,hs,h⟩ ?_;rintro n s ⟨a,b,c,d,e,f,j,O⟩;refine DJ j ?_;cases n with
 |zero=>cases O
 |succ n=>exact round _ (Go.Proofs.YtkkdimcnpacjhaaGreat.F9 body n) (fun σ' a b c d e f U Y=>⟨n,WH n,a,b,c,d,e,f,U,Y⟩) a b c d e f O
def abL {A B C D E F G Rr:Type} (body:(A->B->C->D->E->F->G->AO Rr)->A->B->C->D->E->F->G->AO Rr):Nat->A->B->C->D->E->F->G->AO Rr
 |0,_,_,_,_,_,_,_=>none
 |n+1,a,b,c,d,e,f,g=>body (abL body n) a b c d e f g
def Bz.abL {P:Cm} {σ:BR} {Q:Exit->BR->Prop} {O:Code} {A B C D E F G Rr:Type} (S:A->B->C->D->E->F->G->BR) (body:(A->B->C->D->E->F->G->AO Rr)->A->B->C->D->E->F->G->AO Rr) (r:Rr) (a0:A) (q:B) (u:C) (z:D) (I:E) (L:F) (M:G) (hs:Cb σ (S a0 q u z I L M)) (h:Go.Proofs.YtkkdimcnpacjhaaGreat.abL body Az a0 q u z I L M=some r)
 (round:∀(J:BR->Prop) (k:A->B->C->D->E->F->G->AO Rr),(∀σ' a b c d e f g,Cb σ' (S a b c d e f g)->k a b c d e f g=some r->J σ')->∀a b c d e f g,body k a b c d e f g=some r->Bz P O (S a b c d e f g) (KH J Q)):Bz P (.loop O) σ Q:=by
 refine Bz.loop (fun n s=>∃a b c d e f g,Cb s (S a b c d e f g)/\Go.Proofs.YtkkdimcnpacjhaaGreat.abL body n a b c d e f g=some r) Az ⟨a0,q,u,z,I,L,M,hs,h⟩ ?_;rintro n s ⟨a,b,c,d,e,f,g,j,U⟩;refine DJ j ?_;cases n with
 |zero=>cases U
 |succ n=>exact round _ (Go.Proofs.YtkkdimcnpacjhaaGreat.abL body n) (fun σ' a b c d e f g Y Z=>⟨n,WH n,a,b,c,d,e,f,g,Y,Z⟩) a b c d e f g U
section
variable {P:Cm} {o:Oper} {es:A8 Bf} {α:Type}
def ajJ {b:Nat} {z:α} {n c:Int} {r:A8 α} (h:Iy b z n c=some r):(0<=n/\n<=c/\(b:Int)*c<=140737488355328)/\r=List.replicate n.toNat z:=by
 unfold Iy at h;split at h
 ·exact⟨‹_›,(Dh h).symm⟩
 cases h
def WV {x y:CM} {t e:CO} {size j:Nat} {q:Aw} {n c:Int} {r:A8 α} (enc:α->D) (z:α) (h:Iy j z n c=some r) (hE:Gu P t e size j) (hz:(P.info? e).bind (·.zero)=some q) (h1:q.cells.all (·.oneCell')=true) (M:q.cells.size=size)
 (u:GI q=(enc z).cells.map .d) (hb:0<j) (ho:o.op=.makeSlice t x y):CS P o [(x,.d (Ag n)),(y,.d (Ag c))] es (.aO es.length) (es++[.arr e size (List.map enc r)]):=
 .eff fun C ok H a w hm hn=>by
  obtain⟨⟨h0,hnc,hbc⟩,rfl⟩:=ajJ h;have hx:=(FK hn).1.lit;have O:=(FK hn).2.lit;simp only at hx O;obtain⟨i,z',hi,hz',hs,hby,_⟩:=hE.info;have hzv:i.zero=some q:=by rw[hi]at hz;simpa using hz
  have U:c<=9223372036854775807:=by
   have h2:(1:Int)*c<=(j:Int)*c:=Int.mul_le_mul_of_nonneg_right AB AB;omega
  have hr:=run_make (P:=P) w t e i q hE.und hi hzv .i64 .i64 n c h0 hnc (by rw[hby];omega) U;rw[hs]at hr
  let cells:=madeCells q.cells (c.toNat*size)
  have Y:=hE.pos;have I:cells.size=c.toNat*size:=size_madeCells _ _;have Z:(GI q).length=size:=by simp[GI,M]
  have J:∀y∈List.map enc (List.replicate n.toNat z),y.cells.length=size:=by
   intro y O;simp only[List.map_replicate,List.mem_replicate]at O;rw[O.2,←Z,u];simp
  have L:=SL J;have hlen:(List.map enc (List.replicate n.toNat z)).length=n.toNat:=Bj
  rw[hlen]at L;have aNt:n.toNat*size<=c.toNat*size:=Jz _ AB
  have hrs:∀{ok:Nat->Prop} {w:Bc} {H:A8 CP},Fg ok w H (flat (List.map enc (List.replicate n.toNat z))) (cells.toList.take (n.toNat*size)):=by
   intro ok w H;refine⟨by rw[L,G6,TN,I];omega,fun k hk=>?_⟩;rw[L]at hk;have hd:=aEb k size;have hq:k/size<n.toNat:=sU (by rwa [Vj]at hk);have hm':k % size<size:=nN _ Y;have e0:k=k/size*size+k % size:=by rw[Vj];exact hd.symm
   have e1:(flat (List.map enc (List.replicate n.toNat z))).getD k .junk=.d ((enc z).cells.getD (k % size) ES):=by
    have hg:=flat_get J (k/size) (k % size) (by rw[hlen];exact hq) hm';rw[←e0]at hg;rw[hg];congr 3;simp[List.getD,hq]
   have hcl:(enc z).cells.length=size:=by rw[←Z,u];simp
   have e2:(Ai.d ((enc z).cells.getD (k % size) ES))=(GI q).getD (k % size) .junk:=by
    rw[u];have :k % size<(enc z).cells.length:=AB
    simp[List.getD,this]
   have hmz:k % size<q.cells.size:=AB
   have e3:(cells.toList.take (n.toNat*size)).getD k undef=q.cells[k % size]:=by
    have hk2:k<c.toNat*size:=AB
    have e:cells.toList=(List.range (c.toNat*size)).map fun i=>q.cells[i % q.cells.size]! :=by
     show(madeCells q.cells (c.toNat*size)).toList=_;simp[madeCells]
    rw[e];simp only[List.getD,MX hk];simp[hk2,M];rw[ZG q.cells (k % size) hmz]
   rw[e1,e2,e3];have e4:(GI q).getD (k % size) .junk=.d (P5 q.cells[k % size]):=by simp[GI,List.getD,hmz]
   rw[e4];exact⟨tJ ((QJ.1 h1) _ Bj),.d _ _ (lX _)⟩
  obtain⟨h2,h3⟩:=hm.push (.cells cells e) ⟨.slice (some ⟨w.heap.size,0,none⟩) n.toNat c.toNat,size⟩ (.arr e size (List.map enc (List.replicate n.toNat z))) (fun b hb=>by simpa[EF]using hb.symm) (by
   refine⟨rfl,J,cells.toList.take (n.toNat*size),⟨?_,.inr ⟨w.heap.size,c.toNat,cells,by rw[hlen],Du _,WY w _,by rw[hlen];omega,a1b,ZF I.symm,by rw[hlen]⟩⟩,hrs⟩
   rw[hlen,G6,TN,I];omega)
  refine⟨.slice (some ⟨w.heap.size,0,none⟩) n.toNat c.toNat,_,ok,_,.inl ?_,h3,Ht _ _,h2,.aO _ _ _ _ size P7⟩;simp only[execOp,ho,hx,O,Fl,hr,G8,Gw];rfl
def gCopy (l m:A8 α):A8 α:=m.take l.length++l.drop m.length
def aSL {x y:CM} {t e:CO} {size bytes k:Nat} (enc:α->D) (l m:A8 α) (hE:Gu P t e size bytes) (hk:es[k]? =some (.arr e size (List.map enc l))) (hc:∀a,(enc a).cells.length=size) (ho:o.op=.call { callee:=.builtin .copy,args:= #[x,y],argTypes:= #[t,t] }):
 CS P o [(x,.aO k),(y,.d (C9 enc m))] es .junk (es.set k (.arr e size (List.map enc (gCopy l m)))):=
 .eff fun C ok H a w hm hn=>by
  have hx:=(FK hn).1;have hy:=(FK hn).2;simp only at hx hy;obtain⟨h,hh,hok⟩:=H8 hm.ent hm.hlen hk;have hxv:=Oe hx hh;obtain⟨i,z',hi,hz',hs,hby,_⟩:=hE.info;have hu:(underlying t).run P w=.ok (.slice e) w:=aJN
  have hsz:(sizeOf e).run P w=.ok size w:=aFw
  have U:∀(q:A8 α),∀y∈q.map enc,y.cells.length=size:=fun q y hy=>aLG
  have hyR:EU ok w (.sl (m.map enc)) (a.eval y):=by cases hy with |d _ _ h=>exact h
  obtain⟨z,O,aHK⟩:=dK H hyR (U m);obtain⟨h1,h2,ys,Y,hrs⟩:=hok;have Z:(m.map enc).length=m.length:=Bj
  have hll:(l.map enc).length=l.length:=Bj
  have hnl:z.length=m.length*size:=by rw[O.len,Z]
  let n:=Nat.min m.length l.length
  have hlenx:(Builtin.lenOf (a.eval y)).run P w=.ok m.length w:=by
   rcases O.at_ with⟨ad,c,e1,_⟩|⟨c,e1,e2⟩
   ·rw[e1];simp[Builtin.lenOf]
   rw[e1];rw[Z]at e2;simp[Builtin.lenOf,e2]
  have J:(Builtin.firstCells size n (a.eval y)).run P w=.ok (z.take (n*size)).toArray w:=by
   rcases O.at_ with⟨ad,c,e1,hcells⟩|⟨c,e1,e2⟩
   ·rw[e1];refine run_firstCells_some (P:=P) w size n ad _ c (z.take (n*size)) ?_ ?_
    ·rw[G6,hnl];have :n*size<=m.length*size:=Jz _ (aIz _ _);omega
    intro j v hj;rw[xW]at hj;split at hj
    ·exact hcells j v hj
    cases hj
   rw[e1];rw[Z]at e2;have :z=[]:=Hw (by rw[hnl,e2];simp);simp[Builtin.firstCells,this]
  have hone:∀u∈z.take (n*size),u.oneCell'=true:=fun u hu=>O.one u (mG hu);have hn1:n<=m.length:=aIz _ _;have hn2:n<=l.length:=Nat.min_le_right _ _
  have I:(z.take (n*size)).length=n*size:=by
   rw[G6,hnl];have :n*size<=m.length*size:=Jz _ hn1;omega
  have hgc:gCopy l m=m.take n++l.drop n:=by
   unfold gCopy;by_cases hle:m.length<=l.length
   ·have e1:n=m.length:=jK hle;rw[e1,QL hle,GX]
   have e1:n=l.length:=Nat.min_eq_right AB;rw[e1,qK AB,PE]
  have L:(gCopy l m).length=l.length:=by rw[hgc];simp;omega
  rcases Y.2 with⟨hv,hl0⟩|⟨g,cap,cur,hv,_,hg,hncap,hcm,hcs,htake⟩
  ·
   rw[hll]at hl0;have hn0:n=0:=AB
   have hl:l=[]:=Hw hl0;have hge:gCopy l m=l:=by rw[hgc,hn0];simp
   rw[hge]
   have hset:es.set k (.arr e size (List.map enc l))=es:=by
    apply bV;intro j;by_cases hj:k=j
    ·subst hj;have hkl:=(Fv.1 hk).1;rw[List.getElem?_set_self hkl,hk]
    rw[Y8 hj]
   rw[hset];refine⟨goInt n,w,ok,H,.inl ?_,.refl _ _,.refl _,hm,.junk _⟩;have e0:Nat.min m.length 0=n:=by rw[hn0];simp
   have hf0:(Builtin.firstCells size 0 (a.eval y)).run P w=.ok #[] w:=by rw[hn0]at J;simpa using J
   simp[execOp,ho,resolve,invoke,builtin,Builtin.copy_,hxv,hv,hu,hlenx,hsz,hf0,hn0]
  ·rw[hll]at hv hncap htake;have hlt:g<w.heap.size:=(Gl.1 hg).1
   have hfit:n*size<=cur.size:=by
    exact FC (Jz _ AB) hcs
   have hst:=aO8 (P:=P) g 0 e (z.take (n*size)) 0 cur w hg (by rw[I];omega) hone;have aBU:∀y∈(gCopy l m).map enc,y.cells.length=size:=U _
   obtain⟨h3,h4⟩:=hm.upd (e:=.arr e size (List.map enc (gCopy l m))) (w':=w.setRow g (cur.toList.take (0+0)++z.take (n*size)++cur.toList.drop (0+0+(z.take (n*size)).length)).toArray) hk rfl hh (by rw[hv];rfl) rfl rfl rfl aIC (fun c hc=>aND _ _ _ _ hc) (fun hg'=>by
    refine⟨h1,aBU,z.take (n*size)++ys.drop (n*size),?_,?_⟩
    ·refine⟨?_,.inr ⟨g,cap,_,by rw[DY,L];exact hv,Du _,pS w g cur _ e (0,0) hg,by rw[DY,L];exact hncap,hcm,?_,?_⟩⟩
     ·simp only[EZ,I,JX,Y.1,DY,L];have :n*size<=l.length*size:=Jz _ hn2;omega
     ·simp only[OT,sF,Ik,J3,I];simp only[lS,EZ,I,JX,TN];rw[show n*size+(cur.size-n*size)=cur.size by omega];exact hcs
     simp only[OT,sF,Ik,J3,I,a0x];rw[DY,L,←htake];rw[aF6,I,QL (by rw[I];exact Jz _ hn2)];congr 1;rw[List.drop_take]
    have ha:=aHK.mono hg' (bD H);have hb:=hrs.mono hg' (bD H);have aHL:=SL (U l);have aHM:=SL (U m);have aFv:=SL aBU;have aNu:n*size<=l.length*size:=Jz _ hn2;have aNv:n*size<=m.length*size:=Jz _ hn1;refine⟨by simp only[aFv,EZ,I,JX,Y.1,DY,L];omega,fun j hj=>?_⟩;rw[aFv,DY,L]at hj;have hpos:=hE.pos;have e0:j=j/size*size+j % size:=by rw[Vj];exact(aEb j size).symm
    have hq:j/size<l.length:=sU (by rwa [Vj]at hj);have hr:j % size<size:=nN _ hpos;have hg3:=flat_get aBU (j/size) (j % size) (by rw[DY,L];exact hq) hr;rw[←e0]at hg3;by_cases hjn:j<n*size
    ·have hqn:j/size<n:=sU (by rwa [Vj]at hjn);have hg2:=flat_get (U m) (j/size) (j % size) (by rw[Z];omega) hr;rw[←e0]at hg2
     have M:((gCopy l m).map enc).getD (j/size) ES=(m.map enc).getD (j/size) ES:=by
      rw[hgc];simp only[List.getD,Kw];rw[Hf EN,YK,MX hqn]
     rw[hg3,M,←hg2]
     have e5:(z.take (n*size)++ys.drop (n*size)).getD j undef=z.getD j undef:=by
      simp only[List.getD];rw[Hf (by rw[I];exact hjn),MX hjn]
     rw[e5];exact ha.2 j (by rw[aHM,Z];omega)
    have hqn:n<=j/size:=(Nat.le_div_iff_mul_le hpos).2 AB;have hg1:=flat_get (U l) (j/size) (j % size) (by rw[hll];exact hq) hr;rw[←e0]at hg1
    have M:((gCopy l m).map enc).getD (j/size) ES=(l.map enc).getD (j/size) ES:=by
     rw[hgc];have hlt':(m.take n).length=n:=EN
     simp only[List.getD,Kw];rw[KX (by rw[DY,hlt'];exact hqn),DY,hlt',aG,Qg];congr 2;omega
    rw[hg3,M,←hg1]
    have e5:(z.take (n*size)++ys.drop (n*size)).getD j undef=ys.getD j undef:=by
     simp only[List.getD];rw[KX (by rw[I];omega),I,Qg];congr 2;omega
    rw[e5]
    exact hb.2 j (by rw[aHL,hll];omega))
   refine⟨goInt n,_,ok,H,.inl ?_,h4,.refl _,h3,.junk _⟩;have e0:Nat.min m.length l.length=n:=rfl;simp[execOp,ho,resolve,invoke,builtin,Builtin.copy_,hxv,hv,hu,hlenx,hsz,e0,J];rw[hst];simp
end
def CW (s:BA):A8 Int:=s.data.toList.map fun c=>(c.toNat:Int)
def Iq (s:BA):(CW s).length=s.size:=by unfold CW;rw[DY,TN];rfl
section
variable {P:Cm} {o:Oper} {es:A8 Bf} {α:Type}
def a0T :∀(l:A8 Int),flat (l.map Dp)=l.map fun n=>.d (Dp n)
 | []=>rfl
 |n::l=>by rw[JJ,UA,a0T l];rfl
def aas {w:Bc} {t u ty e:CO} {i:TypeInfo} (ht:P.underlying t=some (.slice e)) (hu:P.underlying u=some .string) (hi:P.info? e=some i) (hz:i.zero=some (.int .u8 0)) (j:i.size=1) (Z:i.bytes=1)
 {v:Aw} {n:Nat} {xs:A8 Aw} (z:lG w e 1 v n xs) (s:BA) (O:n+s.size<=maxLen) (L:n+s.size<=140737488355328):
 ∃v' w',(Builtin.append_ #[t,u] ty #[v,.string s]).run P w=.ok v' w'/\lG w' e 1 v' (n+s.size) (xs++Lib.strCells s)/\w.grownBy w' v.ownBlock/\(∀Y,EF v'=some Y->EF v=some Y\/w.heap.size<=Y):=by
 have M:xs.length=n:=by simpa using z.1
 have hlen:(xs++Lib.strCells s).length=(n+s.size)*1:=by rw[EZ,M,aH1,dO]
 rcases z.2 with⟨rfl,rfl⟩|⟨g,cap,cur,rfl,_,hg,hnc,U,hcs,I⟩
 ·have hx:xs=[]:=Hw M;subst hx;obtain⟨v',w',q1,q2,q3,q4⟩:=Lib.run_append_own_string (P:=P) w w.heap.size t u ty e i ht hu hi hz j Z _ 0 [] (a1B w w.heap.size e 1) s O L (EX _);refine⟨v',w',q1,.of q2,q3,fun Y q=>.inr ?_⟩;rcases q2.2 with⟨rfl,_⟩|⟨g2,_,_,rfl,hle,_⟩
  ·simp[EF]at q
  simp[EF]at q;subst q;exact hle
 rw[dO]at hcs I;by_cases J:n+s.size<=cap
 ·have hr:=Lib.run_append_room_string (P:=P) w t u ty e i ht hu hi j g n cap cur hg s J AB;refine⟨_,_,hr,⟨hlen,.inr ⟨g,cap,_,rfl,Du _,pS w g cur _ e _ hg,J,U,?_,?_⟩⟩,⟨rfl,rfl,rfl,Bj,fun k _ hk=>setRow_other w g k _ (fun e=>hk (by simp[Value.ownBlock,e]))⟩,fun Y q=>.inl q⟩
  ·simp only[lS,EZ,G6,JX,TN,aH1];omega
  rw[I,←hlen];exact aAX
 have hr:=Lib.run_append_grow_string (P:=P) w t u ty e i (.int .u8 0) ht hu hi hz ⟨g,0,none⟩ n cap xs (by rw[j];simpa using M) (z.cells (g:=g) rfl) s AB (by unfold maxLen at O;omega) (by rw[Z];exact growslice_fits AB AB);have hge:=grownCap_ge w (n+s.size) cap e;have U:grownCap w (n+s.size) cap e<=maxLen:=grownCap_le_maxLen w (n+s.size) cap e O;refine⟨_,_,hr,⟨hlen,.inr ⟨w.heap.size,_,_,rfl,Du _,WY w.drew _,hge,U,ZF ?_,?_⟩⟩,⟨rfl,rfl,rfl,Bj,fun k hk _=>L8 w.drew _ k hk⟩,fun Y q=>.inr (by simp[EF]at q;omega)⟩
 ·have hz1:(Value.int IntKind.u8 0).cells.size=1:=rfl;simp only[Array.size_append,lS,size_zeroCells,hz1,M,aH1];omega
 simp only[Array.toList_append,IU];rw[←IU,←hlen];exact aAX
def ahh {s x:CM} {t u e:CO} {k:Nat} {l r:A8 Int} {j:BA} (h:DL 1 l (CW j)=some r) (hE:Gu P t e 1 1) (hz:(P.info? e).bind (·.zero)=some (.int .u8 0)) (hu:P.underlying u=some .string) (hk:es[k]? =some (.arr e 1 (List.map Dp l)))
 (ho:o.op=.call { callee:=.builtin .append,args:= #[s,x],argTypes:= #[t,u] }):CS P o [(s,.aO k),(x,.d (DW j))] es (.aO es.length) (es.set k .dead++[.arr e 1 (List.map Dp r)]):=
 .eff fun C ok H a w hm hn=>by
  obtain⟨rfl,hlen⟩:=a0B h;rw[Iq,dO]at hlen;have hs:=(FK hn).1;have hx:=(FK hn).2.lit;simp only at hs hx;obtain⟨hd,hh,hok⟩:=H8 hm.ent hm.hlen hk;have hsv:=Oe hs hh;obtain⟨h1,h2,ys,I,hrs⟩:=hok;obtain⟨i,z',hi,hz',hs1,hby,_⟩:=hE.info;have hz2:i.zero=some (.int .u8 0):=by rw[hi]at hz;simpa using hz
  have L:(l.map Dp).length=l.length:=Bj
  have M:(l.map Dp).length+j.size<=maxLen:=by rw[L];unfold maxLen;omega
  obtain⟨v',w',hr,J,O,U⟩:=aas (P:=P) (ty:=o.type) hE.und hu hi hz2 hs1 hby I j M (by rw[L];exact hlen)
  obtain⟨h3,h4⟩:=hm.turn (h':=⟨v',1⟩) (e:=.arr e 1 (List.map Dp (l++CW j))) hk rfl hh O.os O.tape O.output O.size (fun c hc hne=>O.block c hc (by rw[aIY I];exact fun e=>hne e.symm)) (fun g Y=>⟨yA J Y,U g Y⟩) (fun hgr=>by
   refine⟨rfl,fun y hy=>by obtain⟨q,_,rfl⟩:=FY.1 hy;rfl,ys++Lib.strCells j,?_,?_⟩
   ·have e:(List.map Dp (l++CW j)).length=(l.map Dp).length+j.size:=by simp[Iq]
    rw[e];exact J
   have Z:=hrs.mono hgr (Ht H [⟨v',1⟩]);have hfl:(flat (l.map Dp)).length=l.length:=by rw[a0T];simp
   have hcl:(Lib.strCells j)=(CW j).map (.int .u8):=by unfold Lib.strCells CW;rw[YI];rfl
   rw[Kw,o8,a0T (CW j),hcl];refine⟨by rw[EZ,EZ,Z.1,DY,DY],fun i hi=>?_⟩;by_cases z:i<(flat (l.map Dp)).length
   ·have e1:(flat (l.map Dp)++(CW j).map fun n=>Ai.d (Dp n)).getD i .junk=(flat (l.map Dp)).getD i .junk:=by simp[List.getD,Hf z]
    have e2:(ys++(CW j).map (Value.int .u8)).getD i undef=ys.getD i undef:=by simp[List.getD,Hf (by rw[Z.1];exact z:i<ys.length)]
    rw[e1,e2];exact Z.2 i z
   have hi3:i-(flat (l.map Dp)).length<(CW j).length:=by rw[EZ,DY]at hi;omega
   have e1:(flat (l.map Dp)++(CW j).map fun n=>Ai.d (Dp n)).getD i .junk=.d (Dp (CW j)[i-(flat (l.map Dp)).length]):=by simp[List.getD,KX (X7 z),hi3]
   have e2:(ys++(CW j).map (Value.int .u8)).getD i undef=.int .u8 (CW j)[i-(flat (l.map Dp)).length]:=by simp[List.getD,KX (by rw[Z.1];omega:ys.length<=i),Z.1,hi3]
   rw[e1,e2]
   exact⟨rfl,.d _ _ (.lit _)⟩)
  have hH:(H++[(⟨v',1⟩:CP)])[es.length]? =some ⟨v',1⟩:=P7
  refine⟨v',w',ok,_,.inl ?_,h4,Ht _ _,h3,?_⟩
  ·simp[execOp,ho,resolve,invoke,builtin,hx,hsv,hr]
  rcases J.2 with⟨rfl,_⟩|⟨g',c',_,rfl,_⟩
  ·exact .aO _ _ _ _ 1 hH
  exact .aO _ _ _ _ 1 hH
def alX {x:CM} {I J e:CO} {s:BA} (hs:P.underlying I=some .string) (hd:P.underlying J=some (.slice e)) (O:P.underlying e=some (.int .u8)) (U:o.op=.convert I J x):CS P o [(x,.d (DW s))] es (.d (C9 Dp (CW s))) es:=
 .eff fun C ok H a w hm Y=>by
  have M:=(LP Y).lit;simp only at M;have Z:=run_bytes_of_string (P:=P) w I J e s hs hd O;obtain⟨h1,h2⟩:=hm.drew;obtain⟨h3,h4⟩:=h1.fresh (.cells (bytesRow s (grownCap w s.size 0 e)) e ((bytesRow s (grownCap w s.size 0 e)).size,(bytesRow s (grownCap w s.size 0 e)).size+1));refine⟨.slice (some ⟨w.heap.size,0,none⟩) s.size (grownCap w s.size 0 e),_,_,H,.inl ?_,h2.trans h4,.refl _,h3,.d _ _ ?_⟩
  ·simp only[execOp,U,M,Fl,Z,G8,Gw]
  have q:((CW s).map Dp).length=s.size:=by simp[Iq]
  have u:∀i,i<s.size->(w.drew.alloc (.cells (bytesRow s (grownCap w s.size 0 e)) e ((bytesRow s (grownCap w s.size 0 e)).size,(bytesRow s (grownCap w s.size 0 e)).size+1))).cell? ⟨w.heap.size,0+(i*1+0),none⟩=some (.int .u8 ((s.data.toList.getD i 0).toNat)):=by
   intro i hi;have hb:(w.drew.alloc (.cells (bytesRow s (grownCap w s.size 0 e)) e ((bytesRow s (grownCap w s.size 0 e)).size,(bytesRow s (grownCap w s.size 0 e)).size+1))).heap[w.heap.size]? =some (.cells (bytesRow s (grownCap w s.size 0 e)) e ((bytesRow s (grownCap w s.size 0 e)).size,(bytesRow s (grownCap w s.size 0 e)).size+1)):=WY w.drew _;rw[J3,dO,OT];have z:i<s.data.size:=hi
   have hg:(bytesRow s (grownCap w s.size 0 e))[i]? =some (.int .u8 ((s.data.toList.getD i 0).toNat)):=by
    unfold bytesRow;rw[Yu MW];simp[bQ z,List.getD]
   unfold World.cell?;simp only[hb];simpa using hg
  have hl:∀i,i<s.size->((CW s).map Dp).getD i ES=Dp ((s.data.toList.getD i 0).toNat):=by
   intro i hi;have z:i<s.data.size:=hi;simp[CW,List.getD,bQ z]
  have z0:∀j,j<1->j=0:=fun j L=>AB
  have :=EU.sl (ok:=fun b=>ok b\/b=w.drew.heap.size) (w:=w.drew.alloc (.cells (bytesRow s (grownCap w s.size 0 e)) e ((bytesRow s (grownCap w s.size 0 e)).size,(bytesRow s (grownCap w s.size 0 e)).size+1))) ((CW s).map Dp) w.heap.size 0 (grownCap w s.size 0 e) 1 (by rw[q];exact grownCap_ge w s.size 0 e) (fun _ _=>.inr rfl)
   (fun i hi=>by rw[q]at hi;rw[hl i hi];rfl)
   (fun i hi j L=>by rw[q]at hi;rw[z0 j L,hl i hi];rfl)
   (fun i hi j L=>by rw[q]at hi;rw[z0 j L,u i hi];rfl)
   (fun i hi j L=>by rw[q]at hi;rw[z0 j L];unfold cellAt;rw[u i hi,hl i hi];exact .lit _)
  rw[q]at this;exact this
def Eu (op:BinOp) (k:IntKind) (x y:Int):Int:=
 match op with
 | .and=>k.wrap ((BitVec.ofInt k.bits x&&& BitVec.ofInt k.bits y).toNat)
 | .or=>k.wrap ((BitVec.ofInt k.bits x|||BitVec.ofInt k.bits y).toNat)
 | .xor=>k.wrap ((BitVec.ofInt k.bits x^^^BitVec.ofInt k.bits y).toNat)
 |_=>k.wrap ((BitVec.ofInt k.bits x&&& ~~~(BitVec.ofInt k.bits y)).toNat)
def RJ {t t':CO} {x y:CM} {k:IntKind} {u v:Int} (j:o.op=.binOp .and t x y t'):CS P o [(x,.d (.lit (.int k u))),(y,.d (.lit (.int k v)))] es (.d (.lit (.int k (Eu .and k u v)))) es:=
 Ho j (fun w=>aAv) ⟨rfl,rfl⟩
def WO {t t':CO} {x y:CM} {k:IntKind} {u v:Int} (j:o.op=.binOp .or t x y t'):CS P o [(x,.d (.lit (.int k u))),(y,.d (.lit (.int k v)))] es (.d (.lit (.int k (Eu .or k u v)))) es:=
 Ho j (fun w=>aAv) ⟨rfl,rfl⟩
def aXY {t t':CO} {x y:CM} {k:IntKind} {u v:Int} (j:o.op=.binOp .xor t x y t'):CS P o [(x,.d (.lit (.int k u))),(y,.d (.lit (.int k v)))] es (.d (.lit (.int k (Eu .xor k u v)))) es:=
 Ho j (fun w=>aAv) ⟨rfl,rfl⟩
def abW {t t':CO} {x y:CM} {k:IntKind} {u v:Int} (j:o.op=.binOp .andNot t x y t'):CS P o [(x,.d (.lit (.int k u))),(y,.d (.lit (.int k v)))] es (.d (.lit (.int k (Eu .andNot k u v)))) es:=
 Ho j (fun w=>aAv) ⟨rfl,rfl⟩
def Zc (k:IntKind) (x:Int):Int:=Eu .xor k (if k.signed then -1 else k.max) x
def aRe {t:CO} {x:CM} {k:IntKind} {u:Int} (j:o.op=.unOp .xor t x):CS P o [(x,.d (.lit (.int k u)))] es (.d (.lit (.int k (Zc k u)))) es:=
 aNf j (fun w=>by simp[Op.unary,Op.intBits,Zc,Eu])
def Pg (op:BinOp) (k:IntKind) (x y:Int):AO Int:=
 if y<0 then none else some (match op with | .shl=>k.wrap (x*2^(min y.toNat k.bits))|_=>x.fdiv (2^(min y.toNat k.bits)))
def aAI {t t':CO} {x y:CM} {k k':IntKind} {u v r:Int} (h:Pg .shl k u v=some r) (j:o.op=.binOp .shl t x y t'):CS P o [(x,.d (.lit (.int k u))),(y,.d (.lit (.int k' v)))] es (.d (.lit (.int k r))) es:=by
 unfold Pg at h;split at h
 ·cases h
 rename_i q;obtain rfl:=Dh h;exact Ho j (fun w=>by simp[binOp,Op.shift,q]) ⟨rfl,rfl⟩
def aRl {t t':CO} {x y:CM} {k k':IntKind} {u v r:Int} (h:Pg .shr k u v=some r) (j:o.op=.binOp .shr t x y t'):CS P o [(x,.d (.lit (.int k u))),(y,.d (.lit (.int k' v)))] es (.d (.lit (.int k r))) es:=by
 unfold Pg at h;split at h
 ·cases h
 rename_i q;obtain rfl:=Dh h;exact Ho j (fun w=>by simp[binOp,Op.shift,q]) ⟨rfl,rfl⟩
def yh (k:IntKind) (a b:Int):AO Int:=if b=0 then none else some (k.wrap (a.tdiv b))
def Vx (a b:Int):AO Int:=if b=0 then none else some (a.tmod b)
def anp {t t':CO} {x y:CM} {k:IntKind} {u v r:Int} (h:yh k u v=some r) (j:o.op=.binOp .quo t x y t'):CS P o [(x,.d (.lit (.int k u))),(y,.d (.lit (.int k v)))] es (.d (.lit (.int k r))) es:=by
 unfold yh at h;split at h
 ·cases h
 rename_i q;obtain rfl:=Dh h;exact Ho j (fun w=>by simp[binOp,Op.intDiv,q]) ⟨rfl,rfl⟩
def aIB {t t':CO} {x y:CM} {k:IntKind} {u v r:Int} (h:Vx u v=some r) (j:o.op=.binOp .rem t x y t'):CS P o [(x,.d (.lit (.int k u))),(y,.d (.lit (.int k v)))] es (.d (.lit (.int k r))) es:=by
 unfold Vx at h;split at h
 ·cases h
 rename_i q;obtain rfl:=Dh h;exact Ho j (fun w=>by simp[binOp,Op.intDiv,q]) ⟨rfl,rfl⟩
end
section
variable {P:Cm} {o:Oper} {es:A8 Bf} {α:Type}
def aRR {ok:Nat->Prop} {w:Bc} {H:A8 CP} {h:CP} {e size k i off:Nat} {xs:A8 D} {v:Aw} (O:H[k]? =some h) (u:FZ ok w H h (.arr e size xs)) (hi:i<xs.length) (U:R ok w H (.lC k i off) v):
 ∃g cap cur ys,h.v=.slice (some ⟨g,0,none⟩) xs.length cap/\w.heap[g]? =some (.cells cur e (0,0))/\xs.length<=cap/\cap<=maxLen/\xs.length*size<=cur.size/\cap*size<=cur.size/\cur.toList.take (xs.length*size)=ys/\ys.length=xs.length*size/\Fg ok w H (flat xs) ys/\(∀x∈xs,x.cells.length=size)/\v=.pointer (some ⟨g,i*size+off,none⟩):=by
 obtain⟨J,Y,ys,⟨Z,h4⟩,h5⟩:=u;rcases h4 with⟨q,h7⟩|⟨g,cap,cur,q,h7,h8,L,z,j,I⟩
 ·omega
 refine⟨g,cap,cur,ys,q,h8,L,z,FC (Jz _ L) j,j,I,Z,h5,Y,?_⟩;cases U with
 |lC _ _ _ b n c s M=>
  rw[O]at M;obtain rfl:=Dh M;simp only[jZ,Jh,Addr.mk.injEq]at q;simp only at J;rw[q.1.1,J]
def aOk {size n i j:Nat} (hi:i<n) (q:j<size):i*size+j<n*size:=
 calc i*size+j<i*size+size:=AB
  _=(i+1)*size:=by rw[QS]
  _<=n*size:=Jz _ hi
def JM {x:CM} {t:CO} {agg:Ad} {k n i off e size:Nat} {y:D} (enc:α->D) {l:A8 α} {a:α} (hy:y=QY agg (enc a).cells off n) (hk:es[k]? =some (.arr e size (List.map enc l))) (ha:l[i]? =some a) (hT:Ee P t agg n) (hn:off+n<=(enc a).cells.length) (h1:agg=false->n=1)
 (ho:o.op=.load t x):CS P o [(x,.lC k i off)] es (.d y) es:=
 .pure fun ok H ac w M hl Y=>by
  have hx:=LP Y;simp only at hx;subst hy;obtain⟨h,hh,Z⟩:=H8 M hl hk;obtain⟨I,O⟩:=Fv.1 ha;have q:i<(List.map enc l).length:=Ti
  obtain⟨g,cap,cur,ys,e1,e2,e3,e4,e5,e5',e6,e7,e8,e9,e10⟩:=aRR hh Z q hx;have J:(List.map enc l).getD i ES=enc a:=by simp[List.getD,I,O]
  have hsz:(enc a).cells.length=size:=by
   refine e9 _ ?_;exact FY.2 ⟨a,by rw[←O];exact Ej I,rfl⟩
  have hfl:=SL e9
  have u:∀j,j<size->w.cell? ⟨g,i*size+j,none⟩=some (ys.getD (i*size+j) undef):=by
   intro j L;have z:=aOk q L;have hcur:(List.map enc l).length*size<=cur.size:=e5;have h15:i*size+j<cur.size:=AB
   have e11:ys.getD (i*size+j) undef=cur[i*size+j]'(h15):=by
    rw[←e6];have h14:i*size+j<l.length*size:=MW
    simp[List.getD,MX h14,show i*size+j<cur.size by omega]
   rw[e11];simp[World.cell?,e2,show i*size+j<cur.size by omega]
  have U:∀j,j<size->((enc a).cells.getD j ES).leaf=true/\EU ok w ((enc a).cells.getD j ES) (ys.getD (i*size+j) undef):=by
   intro j L;have z:=e8.2 (i*size+j) (by rw[hfl];exact aOk q L);rw[flat_get e9 i j q L,J]at z;refine⟨z.1,?_⟩;cases z.2 with |d _ _ h=>exact h
  obtain⟨v,hr,hD⟩:=aCC (ok:=ok) (w:=w) (b:=g) (p:=i*size) (cs:=(enc a).cells) hT hn h1 (fun j L=>(U j AB).1) (fun j L=>by rw[u j AB];rfl) (fun j L=>by unfold cellAt;rw[u j AB];exact(U j AB).2);exact⟨v,by simp only[execOp,ho,e10,Fl,hr,G8,Gw],.d _ _ hD⟩
def UL {t:CO} {x y:CM} {k i off n e size:Nat} (enc:α->D) {l:A8 α} {a a':α} {v:Ai} (hk:es[k]? =some (.arr e size (List.map enc l))) (ha:l[i]? =some a) (hl:v.cells.all Ai.leaf=true) (hs:∀w,(sizeOf t).run P w=.ok n w) (hn:v.cells.length=n)
 (hle:off+n<=(enc a).cells.length) (hset:(enc a').cells.map Ai.d=setAt ((enc a).cells.map Ai.d) off v.cells) (hc:∀b,(enc b).cells.length=size) (ho:o.op=.store t x y):
 CS P o [(x,.lC k i off),(y,v)] es .junk (es.set k (.arr e size (List.map enc (l.set i a')))):=
 .eff fun C ok H I w hm hn'=>by
  have h1:=(FK hn').1;have h2:=(FK hn').2;simp only at h1 h2;obtain⟨h,hh,hok⟩:=H8 hm.ent hm.hlen hk;obtain⟨U,hia⟩:=Fv.1 ha;have aHN:i<(List.map enc l).length:=aEc
  have hok1:=hok.1;obtain⟨g,cap,cur,ys,e1,e2,e3,e4,e5,e5',e6,e7,e8,e9,e10⟩:=aRR hh hok aHN h1;have z:=h2.akn hl;have hll:(List.map enc l).length=l.length:=Bj
  rw[hll]at e1 e3 e6 e7;have hea:(enc a).cells.length=size:=hc a;have Y:(I.eval y).cells.toList.length=n:=by rw[z.1,hn]
  have hsz:(I.eval y).cells.size=n:=WJ
  have hcur:l.length*size<=cur.size:=by simpa using e5
  have hend:i*size+off+n<=l.length*size:=by
   have :(i+1)*size<=l.length*size:=Jz _ U;rw[QS]at this;omega
  have hst:=aO8 (P:=P) g (i*size+off) e (I.eval y).cells.toList 0 cur w e2 (by rw[Y];omega) (fun u hu=>by
   obtain⟨j,J,rfl⟩:=IK hu;have h5:=z.2 j (by rw[←z.1];exact J);have :=h5.2.leaf h5.1
   rwa [aAS J]at this)
  simp only[OT]at hst;have M:∀(q:A8 α),∀y∈q.map enc,y.cells.length=size:=fun q y hy=>aLG
  obtain⟨h3,h4⟩:=hm.upd (e:=.arr e size (List.map enc (l.set i a'))) (w':=w.setRow g (cur.toList.take (i*size+off)++(I.eval y).cells.toList++cur.toList.drop (i*size+off+(I.eval y).cells.toList.length)).toArray) hk rfl hh (by rw[e1];rfl) rfl rfl rfl aIC (fun c hc=>aND _ _ _ _ hc) (fun hg'=>by
   have esz:(setAt cur.toList (i*size+off) (I.eval y).cells.toList).length=cur.toList.length:=TD (by have :=cur.length_toList;omega);refine⟨hok1,M _,setAt ys (i*size+off) (I.eval y).cells.toList,⟨?_,.inr ⟨g,cap,_,by simp;exact e1,Du _,pS w g cur _ e (0,0) e2,by simpa using e3,e4,?_,?_⟩⟩,?_⟩
   ·rw[TD AB];simpa using e7
   ·have h9:(setAt cur.toList (i*size+off) (I.eval y).cells.toList).toArray.size=cur.size:=by rw[lS,esz];simp
    show _<=(setAt cur.toList (i*size+off) (I.eval y).cells.toList).toArray.size;rw[h9];exact e5'
   ·rw[a0x];show(setAt cur.toList (i*size+off) (I.eval y).cells.toList).take _=_;rw[←e6];have hlen':(List.map enc (l.set i a')).length=l.length:=Bj
    rw[hlen'];apply bV;intro j;have hcl:=cur.length_toList;by_cases J:j<l.length*size
    ·have a1:((setAt cur.toList (i*size+off) (I.eval y).cells.toList).take (l.length*size))[j]? =some ((setAt cur.toList (i*size+off) (I.eval y).cells.toList).getD j undef):=by
      rw[MX J];simp[List.getD,show j<(setAt cur.toList (i*size+off) (I.eval y).cells.toList).length by rw[esz];omega]
     have tl:(cur.toList.take (l.length*size)).length=l.length*size:=EN
     have sl:(setAt (cur.toList.take (l.length*size)) (i*size+off) (I.eval y).cells.toList).length=l.length*size:=by rw[TD AB,tl]
     have a2:(setAt (cur.toList.take (l.length*size)) (i*size+off) (I.eval y).cells.toList)[j]? =some ((setAt (cur.toList.take (l.length*size)) (i*size+off) (I.eval y).cells.toList).getD j undef):=by
      simp[List.getD,show j<(setAt (cur.toList.take (l.length*size)) (i*size+off) (I.eval y).cells.toList).length by omega]
     rw[a1,a2,YB AB,YB AB];congr 1;split
     ·rfl
     simp[List.getD,MX J]
    have tl:(cur.toList.take (l.length*size)).length=l.length*size:=EN
    have sl:(setAt (cur.toList.take (l.length*size)) (i*size+off) (I.eval y).cells.toList).length=l.length*size:=by rw[TD AB,tl]
    rw[J5 EN,J5 AB]
   have hb:=e8.mono hg' (bD H);have hcr:=z.mono hg' (bD H);have hfl:=SL (M l);have Z:=SL (M (l.set i a'));refine⟨by rw[TD AB,e7,Z];simp,fun j J=>?_⟩;rw[Z]at J;simp only[DY,bF]at J
   have hpos:0<size:=by
    rcases Z5 size with h0|h0
    ·rw[h0,Nat.mul_zero]at J;omega
    exact h0
   have e0:j=j/size*size+j % size:=by rw[Vj];exact(aEb j size).symm
   have hq:j/size<l.length:=sU (by rwa [Vj]at J);have hr:j % size<size:=nN _ hpos
   have hdiv:j/size=i↔i*size<=j/\j<i*size+size:=by
    rw[Nat.div_eq_iff hpos,Vj];omega
   rw[Y]at hb hcr;generalize j/size=qd at e0 hq hdiv;generalize j % size=L at e0 hr;have hg3:=flat_get (M (l.set i a')) qd L (by simpa using hq) hr;rw[←e0]at hg3;have hg1:=flat_get (M l) qd L (by simpa using hq) hr;rw[←e0]at hg1;rw[hg3,YB AB,Y];by_cases O:qd=i
   ·have hnew:(List.map enc (l.set i a')).getD (qd) ES=enc a':=by rw[O];simp[List.getD,U]
    have hold:(List.map enc l).getD (qd) ES=enc a:=by rw[O];simp[List.getD,U,hia]
    rw[hnew];have aNw:(enc a').cells.length=size:=hc a'
    have e11:Ai.d ((enc a').cells.getD (L) ES)=(setAt ((enc a).cells.map Ai.d) off v.cells).getD (L) .junk:=by
     rw[←hset];simp[List.getD,show L<(enc a').cells.length by omega]
    rw[e11,YB (by rw[DY,hn];exact hle),hn];have hji:j=i*size+L:=by rw[←O];exact e0
    by_cases hin:off<=L/\L<off+n
    ·rw[DX hin,DX AB];have :j-(i*size+off)=L-off:=AB
     rw[this];exact hcr.2 _ AB
    rw[Dk hin,Dk AB];have e12:((enc a).cells.map Ai.d).getD (L) .junk=.d ((enc a).cells.getD (L) ES):=by simp[List.getD,show L<(enc a).cells.length by omega]
    rw[e12,←hold,←hg1];exact hb.2 j (by rw[hfl];simpa using J)
   have hsame:(List.map enc (l.set i a')).getD (qd) ES=(List.map enc l).getD (qd) ES:=by
    simp[List.getD,Y8 (Zk O)]
   have hnot:¬(i*size+off<=j/\j<i*size+off+n):=by
    rintro⟨ha1,ha2⟩;exact O (hdiv.2 ⟨AB,AB⟩)
   rw[Dk hnot,hsame,←hg1]
   exact hb.2 j (by rw[hfl];simpa using J))
  refine⟨undef,_,ok,H,.inr ⟨rfl,?_⟩,h4,.refl _,h3,.junk _⟩;simp only[execOp,ho,e10,Instr.storeAt,Instr.sureAddr,storeVar,Fl,Gw,G8,hs,hsz,ne_eq,not_true_eq_false,KT,hst]
end
end
end Go.Proofs.YtkkdimcnpacjhaaGreat
