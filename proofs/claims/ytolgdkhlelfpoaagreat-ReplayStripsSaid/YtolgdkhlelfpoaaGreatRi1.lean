/- Part 1 of what the laws' proofs lean on: states of the walk, typed functions of the program and their laws (short forms written by wip/shrink.py; no condition). -/
import Derived.Test.YtolgdkhlelfpoaaGreatRows
import Derived.WalkKit
import Derived.WalkSpells
import Derived.WalkLawsBesides
import Derived.Lib.Hide
import Derived.Laws.AppendOwnNone
import Derived.Laws.CopyOwn
import Derived.Lib.AppendStr
import Derived.Laws.IdiomStrings
import Derived.Laws.BitsAllLaws
import Derived.OrdersIn
import Derived.ControlIn
import Derived.TacticsIn
import Derived.ArgAppend
import Derived.RangeFuncLeaves
import Derived.RangeFuncRecord
import Derived.Laws.StructEq
import Derived.Laws.BytesString
import Derived.Lib.OwnBridge
import Derived.Sort.OwnSortedInts
import Derived.Lib.SliceRun
import Derived.ProofKit
import Derived.Deep.Slices
import Derived.Lib.SlicesCompact
import Derived.Test.YtolgdkhlelfpoaaGreatProg
import Derived.Shelf.Small.Bits
import Derived.Shelf.Small.Strs
import Derived.Shelf.Small.Wraps
import Derived.Shelf.Strconv.Itoa0
import Derived.Shelf.Strings.Search1
import Derived.Shelf.Strings.Search2
import Derived.Shelf.Strings.Cut
import Derived.Shelf.LaysM
import Derived.Shelf.Strings.Shaped
import Derived.Shelf.Sort.Plain
import Derived.Shelf.Slices.Turned
import Derived.Ground.Names2Prog
import Derived.Shelf.Slices.Clone
import Derived.Shelf.Slices.CompactI
import Derived.Shelf.Slices.SearchI
import Derived.Shelf.Slices.Cells
import Derived.Shelf.Slices.In.SortNone
import Derived.Shelf.Slices.Empties
import Derived.Ground.SlgnProg
import Derived.Shelf.SlicesE.Clone
import Derived.RangeFuncIn
import Derived.Scope
import Derived.Tactics
import Derived.Tactics2
import Derived.Defers
import Derived.Recover
import Derived.Laws.Pointers
import Derived.Shelf.SlLaysF0
import Derived.Shelf.SlSortCmp.NoneTotal
import Derived.Laws.IdiomRangeMap
import Derived.Laws.Small
import Derived.Laws.IdiomCopy
import Derived.Lib.Overlaps
import Derived.Lib.AppendZerosOnto
import Derived.Shelf.Spec.SlicesInsertGrow
import Derived.Laws.Bits64
import Derived.Lib.Bytealg
set_option linter.defProp false
set_option linter.unnecessarySimpa false
set_option linter.unusedVariables false
set_option linter.unusedSimpArgs false
namespace Go.Proofs.YtolgdkhlelfpoaaGreat
open Go.RowKit
def Af:=@Option.bind_some
def BO:=@cond_false
def CJ:=@Option.some.inj
def Df:=@List.getElem?_eq_getElem
def CZ:=@Bool.and_eq_true
def Cb:=@List.length_map
def Dz:=@List.length_append
def Ba:=@congrArg
def Bj:=@cond_true
def F6:=@List.getElem?_eq_some_iff
def DZ:=@List.all_eq_true
def Eb:=@Nat.le_of_ble_eq_true
def FN:=@Array.getElem?_eq_some_iff
def QM:=@List.length_singleton
def GR:=@List.eq_nil_of_length_eq_zero
def G6:=@List.getElem?_append_left
def EC:=@List.getElem_mem
def Gh:=@Array.getD_eq_getD_getElem?
def F8:=@List.mem_map
def Ez:=@List.mem_cons_self
def Ep:=@Go.Result.andThen_ok
def G9:=@List.mem_cons_of_mem
def JE:=@Array.getElem?_setIfInBounds_ne
def EU:=@Bool.not_true
def Dy:=@Nat.le_refl
def MV:=@Nat.add_assoc
def EZ:=@Nat.le_trans
def EH:=@Nat.zero_le
def FV:=@List.length_cons
def Gj:=@List.getElem_of_mem
def G8:=@decide_eq_true_eq
def Io:=@List.getElem?_append_right
def FK:=@List.mem_filter
def Eh:=@Go.Sem.run_bind
def Ch:=@if_pos
def Oc:=@Nat.add_comm
def F5:=@List.mem_cons
def Fh:=@List.foldl_cons
def GI:=@List.any_eq_true
def GL:=@List.not_mem_nil
def D8:=@if_neg
def Gt:=@List.length_take
def Gy:=@List.append_assoc
def Ho:=@List.mem_singleton
def Gp:=@List.mem_append
def FM:=@Go.Sem.run_pure
def Fr:=@Bool.true_and
def KX:=@List.pairwise_iff_getElem
def J5:=@Nat.mul_le_mul_right
def PK:=@Array.all_eq_true_iff_forall_mem
def IX:=@List.getElem?_map
def Ll:=@List.getElem?_take_of_lt
def Hr:=@Option.map_some
def Ht:=@decide_eq_false
def IB:=@Go.Proofs.Tryz.underlying3
def Kq:=@List.getElem?_eq_none
def JW:=@of_decide_eq_false
def LJ:=@List.length_filter_le
def J4:=@List.nil_append
def NT:=@List.drop_eq_getElem_cons
def Il:=@List.take_length
def I5:=@decide_eq_true
def Iz:=@Go.RowKit.Below.heap_alloc
def Ju:=@Option.some.injEq
def Jg:=@Bool.not_eq_true
def OB:=@List.length_nil
def NK:=@Array.getElem?_modify
def Jt:=@List.length_drop
def Lr:=@List.flatMap_cons
abbrev BJ:=IntKind.i64.wrap
def nZ (n:Int):BJ n=(n+9223372036854775808)%18446744073709551616-9223372036854775808:=Go.IntKind.wrap_i64 n
def Jy:=@List.nodup_cons
def Ik:=@Nat.zero_add
def Qm:=@List.mem_of_find?_eq_some
def Lj:=@Option.getD_some
def L6:=@List.map_append
def Ns:=@List.filterMap_cons
def KI:=@Bool.not_false
def Pv:=@List.take_of_length_le
def QZ:=@Go.MapKept.run_getObj_map
def X4:=@List.take_succ_eq_append_getElem
def OQ:=@List.getElem?_drop
def JG:=@Bool.or_true
def Jr:=@List.map_cons
def KA:=@Bool.or_false
def U0:=@Option.isSome_iff_exists
def Nk:=@Go.Proofs.Tryz.underlying55
def KT:=@Bool.false_or
def Ot:=@List.pairwise_cons
def Uy:=@Classical.byContradiction
def OM:=@Go.Proofs.Tryz.underlying9
def VI:=@List.getElem?_set_ne
def TI:=@Option.map_eq_some_iff
def Qc:=@Option.toList_some
def Xt:=@Array.eq_empty_of_size_eq_zero
def RG:=@Array.length_toList
def XD:=@Array.getElem?_append_left
def MQ:=@Bool.and_true
def RY:=@List.mem_filterMap
def U9:=@Go.World.putObj_heap_same
def Oa:=@Bool.eq_iff_iff
def QX:=@List.drop_length
def QC:=@List.getElem_map
def SY:=@List.filter_sublist
def Qu:=@Bool.not_eq_true'
def RQ:=@List.take_add_one
def WE:=@Go.World.putObj_heap_other
def Vm:=@decide_eq_false_iff_not
def Oy:=@Go.Oper.wpIn_mono
def Us:=@List.mem_of_getElem?
def SQ:=@Bool.false_eq_true
def Rt:=@List.mem_flatMap
def Ip:=@if_false
def Tj:=@List.findIdx_cons
def SE:=@Go.Proofs.Tryz.underlying49
def O6:=@Nat.add_zero
def Ua:=@List.filter_append
def Ud:=@Nat.lt_of_lt_of_le
def SN:=@Nat.le_of_not_lt
def SK:=@List.foldlM_cons
def TP:=@beq_self_eq_true
def qy:=@List.takeWhile_append_dropWhile
def UM:=@of_decide_eq_true
def VH:=@Go.Proofs.Tryz.underlying51
def TJ:=@List.append_nil
def dc:=@Array.getElem?_eq_getElem
def V5:=@Go.Proofs.Tryz.underlying4
def Qv:=@Prod.mk.injEq
def OI:=@Go.wpS_region
def dQ:=@Option.bind_eq_some_iff
def VO:=@List.find?_cons
def KE:=@if_true
def Y9:=@beq_eq_false_iff_ne
def jX:=@List.getD_eq_getElem?_getD
def WH:=@Nat.lt_succ_self
def X3:=@List.filter_cons
def aU:=@List.take_append_drop
def Z7:=@Nat.eq_zero_or_pos
def bY:=@List.filterMap_append
def dz:=@Array.toArray_toList
def WY:=@List.length_set
def Sl:=@Nat.succ_mul
def TL:=@Nat.mul_comm
def ak:=@List.pairwise_append
def cG:=@Go.World.alloc_heap_new
def Yn:=@List.foldl_append
def YI:=@Int.toNat_natCast
def Xn:=@List.filter_congr
def Xi:=@bne_self_eq_false
def ZP:=@List.map_congr_left
def Wv:=@Go.heap_alloc_new
def Y6:=@List.cons_append
def Yb:=@Go.IntKind.wrap_u64
def qF:=@List.findIdx_lt_length
def iM:=@Array.getElem?_toList
def Yg:=@Bool.or_eq_true
def Xd:=@Go.Oper.upon_enter
def Xq:=@Go.Proofs.Tryz.zeroValue3
def Yo:=@Go.run_equalIn_int
def XE:=@List.map_take
def aBD:=@List.nodup_iff_pairwise_ne
def aT:=@Go.Value.slice.injEq
def dY:=@List.size_toArray
def bQ:=@List.ext_getElem?
def TF:=@beq_iff_eq
def pX:=@Nat.div_lt_of_lt_mul
def ou:=@List.mem_of_mem_take
def qX:=@Bool.or_eq_false_iff
def aHU:=@List.set_eq_take_append_cons_drop
def Xb:=@List.nodup_nil
def Nw:=@Go.wpS_seq
def YR:=@Go.wp_region_list
def ZW:=@List.ext_getElem
def pO:=@List.filter_eq_self
def zC:=@List.getElem?_cons_succ
def XZ:=@List.map_drop
def Y1:=@List.any_cons
def iV:=@List.getElem?_take
def Rz:=@Go.wpIn_mono
def fC:=@Go.Proofs.Tryz.zeroValue4
def iF:=@Array.ext_getElem?
def Zy:=@beq_false_of_ne
def Zh:=@Go.IntKind.wrap_u8
def aBp:=@List.filter_eq_nil_iff
def Wn:=@Nat.add_mul
def yO:=@List.drop_of_length_le
def lg:=@Function.comp_def
def qG:=@Nat.lt_trichotomy
def mO:=@List.nodup_append
def jq:=@Go.Proofs.Tryz.underlying22
def nK:=@List.find?_append
def YQ:=@Go.Proofs.Tryz.sizeOf3
def aFQ:=@Array.getElem?_setIfInBounds
def YV:=@Nat.lt_or_ge
def aFG:=@Array.getElem?_append_right
def kS:=@Go.Proofs.Tryz.underlying5
def s0:=@List.mem_append_left
def aDh:=@Array.toList_setIfInBounds
def bG:=@Go.Oper.semAt_eq
def Xj:=@Nat.mul_one
def Z4:=@Go.Proofs.Tryz.isAgg3
def zq:=@List.toList_toArray
def yV:=@List.length_pos_iff
def aDM:=@Array.mapM_eq_mapM_toList
def iw:=@Nat.min_eq_left
def gZ:=@Go.Proofs.Tryz.zeroValue5
def iW:=@Go.Proofs.Tryz.zeroValue9
def oG:=@List.take_left'
def dD:=@Nat.le_of_eq
def bV:=@Go.Proofs.Tryz.sizeOf4
def zx:=@Go.Proofs.Tryz.underlying226
def cu:=@Go.Addr.add_lit
def o7:=@List.mem_range
def qc:=@List.drop_zero
def aDV:=@Nat.exists_eq_add_of_le
def aGA:=@List.getElem?_replicate
def aH6:=@List.getElem?_cons_zero
def aHv:=@List.pairwise_singleton
def sZ:=@Go.World.ownsRow_nil
def rM:=@Go.Proofs.Tryz.underlying89
def aAt:=@Go.Proofs.Tryz.zeroValue226
def yg:=@Go.Proofs.Tryz.underlying24
def aAW:=@List.any_eq_false
def abT:=@List.findIdx?_eq_some_iff_getElem
def aFb:=@List.dropWhile_sublist
def fQ:=@Go.Proofs.Tryz.isAgg4
def aDT:=@ByteArray.size_extract
def aFD:=@List.length_pos_of_mem
def qH:=@List.all_cons
def xJ:=@Go.Proofs.Tryz.zeroValue89
def Xk:=@Array.ext
def aER:=@Nat.eq_of_beq_eq_true
def aC6:=@Go.Lib.wpList_append_run
def aH5:=@List.mem_append_right
def aEt:=@Bool.and_eq_false_iff
def uV:=@Go.wpIn_region_any
def aAb:=@Nat.div_add_mod
def aH:=@Nat.mod_lt
def pz:=@List.map_map
def aGy:=@Array.ext'
def iG:=@getElem!_pos
def ji:=@Go.Proofs.Tryz.sizeOf5
def oV:=@Go.Proofs.Tryz.sizeOf9
def aJZ:=@List.Nodup.length_le_of_subset
def aFJ:=@List.mem_of_mem_drop
def uK:=@List.find?_some
def aEP:=@Go.callsIn_of_wp_marks
def aCw:=@Go.Lib.strCells_length
def aI3:=@Array.getElem?_push
def aGF:=@List.reverse_append
def xg:=@Go.run_underlying
def Opn:=@List.take_zero
def tq:=@Go.Proofs.Tryz.sizeOf226
def jO:=@Go.setRow_heap
def nM:=@Go.Sem.run_map
def kn:=@Go.Proofs.Tryz.isAgg5
def nO:=@Go.Proofs.Tryz.isAgg9
def aIW:=@Nat.min_def
def aCz:=@Go.run_loadCells_list
def aCB:=@Int.natCast_nonneg
def aFf:=@Go.MapKept.heap_alloc
def aFu:=@List.find?_eq_none
def aFp:=@Nat.eq_or_lt_of_le
def abS:=@List.dropWhile_cons_of_pos
def aMD:=@List.dropWhile_cons_of_neg
def aBg:=@Go.callsD_of_wpS
def acz:=@Int.fdiv_eq_ediv_of_nonneg
def aKR:=@Int.tmod_eq_emod_of_nonneg
def aFj:=@Bool.not_eq_false
def aF8:=@Go.run_storeCells_at
def aHy:=@List.getElem_take
def adq:=@List.mem_take_iff_getElem
def aeb:=@List.getElem?_zip_eq_some
def aCT:=@Go.wpIn_region_list
def aIF:=@List.take_append
def aZ:=@or_false
def aDj:=@Go.World.size_alloc
def aBK:=@List.map_set
def fK:=@Go.wpS_cond
def aCt:=@List.getElem_zip
def aIR:=@List.map_reverse
def aEx:=@List.cons.injEq
def aB9:=@Nat.one_mul
def aCC:=@List.take_left
def aC9:=@List.drop_drop
def aEh:=@List.take_take
def aFy:=@Nat.mul_le_mul
end Go.Proofs.YtolgdkhlelfpoaaGreat
namespace Go.Proofs.YtolgdkhlelfpoaaGreat
open Go.RowKit
abbrev Au:=Value.int .i64
end Go.Proofs.YtolgdkhlelfpoaaGreat
namespace Go.Proofs.YtolgdkhlelfpoaaGreat
open Go.RowKit
def A8 {p:Prop} (h:p:=by kernel_rfl):p:=h
def AA {p:Prop} (h:p:=by omega):p:=h
def CS {p:Prop} (h:p:=by cases h;exact .ret (EO [])):p:=h
def CM {p:Prop} (h:p:=by cases h;kernel_rfl):p:=h
def BM {p:Prop} (h:p:=by simp):p:=h
def BU {p:Prop} (h:p:=by decide):p:=h
def OE {p:Prop} (h:p:=by cases h;exact .ret (EO [(0,true)])):p:=h
def E5 {p:Prop} (h:p:=by simp;omega):p:=h
def NS {p:Prop} (h:p:=by simpa using q):p:=h
def FZ {p:Prop} (h:p:=by simpa using hi):p:=h
def Sm {p:Prop} (h:p:=by have :=J (k+1) y (by simpa using q);simpa[MV,Oc 1 k]using this):p:=h
def Ky {p:Prop} (h:p:=by cases h;exact .ret (EO [(2,true)])):p:=h
def Wx {p:Prop} (h:p:=by rw[←CU h];exact⟨[],[(0,true)],trivial,by kernel_rfl,by kernel_rfl,by kernel_rfl⟩):p:=h
def I9 {p:Prop} (h:p:=by simp only[QM];omega):p:=h
def X8 {p:Prop} (h:p:=by cases h;exact .ret (EO [(0,true),(1,true),(2,true),(3,true)])):p:=h
def aaq {p:Prop} (h:p:=by rw[←CU h];exact⟨[Dj G5,Ah false],[],⟨⟨0,Ag (Am G5),true,29,by kernel_rfl,by kernel_rfl,by kernel_rfl,DY,Eb (by kernel_rfl),(by intro j;cases j),by kernel_rfl⟩,Uw (by kernel_rfl),trivial⟩,by kernel_rfl,by kernel_rfl,by kernel_rfl⟩):p:=h
def adp {p:Prop} (h:p:=by rw[←CU h];exact⟨[Dj q,Ah true],[],⟨⟨0,Ag (Am q),true,29,by kernel_rfl,by kernel_rfl,by kernel_rfl,DY,Eb (by kernel_rfl),(by intro j;cases j),by kernel_rfl⟩,Uw (by kernel_rfl),trivial⟩,by kernel_rfl,by kernel_rfl,by kernel_rfl⟩):p:=h
def QH {p:Prop} (h:p:=by cases h;exact .ret (EO [(1,true)])):p:=h
def Om {p:Prop} (h:p:=by obtain⟨a,_,rfl⟩:=F8.1 f;rfl):p:=h
def KR {p:Prop} (h:p:=by simp[List.getD,hi]):p:=h
def H8 {p:Prop} (h:p:=by simp at h):p:=h
def Jp {p:Prop} (h:p:=by simpa using h):p:=h
def qA {p:Prop} (h:p:=by have :=I (k+1) y (by simpa using q);simpa[MV,Oc 1 k]using this):p:=h
def qC {p:Prop} (h:p:=by have :=U (k+1) y (by simpa using q);simpa[MV,Oc 1 k]using this):p:=h
def rC {p:Prop} (h:p:=by have :=L (k+1) y (by simpa using q);simpa[MV,Oc 1 k]using this):p:=h
def pS {p:Prop} (h:p:=by have :=Y (k+1) y (by simpa using q);simpa[MV,Oc 1 k]using this):p:=h
def jv {p:Prop} (h:p:=by have :=I (k+1) (by simpa using hk);simpa[MV,Oc 1 k]using this):p:=h
def Kz {p:Prop} (h:p:=by decide+kernel):p:=h
def Ku {p:Prop} (h:p:=by simpa using f):p:=h
def Gz {p:Prop} (h:p:=by cases h):p:=h
def LX {p:Prop} (h:p:=by rw[Dz];omega):p:=h
def MF {p:Prop} (h:p:=by simpa using j):p:=h
def RI {p:Prop} (h:p:=by intro hh;cases hh):p:=h
def QV {p:Prop} (h:p:=by intro f;cases f):p:=h
def Vq {p:Prop} (h:p:=by first|exact u|kernel_rfl):p:=h
def pY {p:Prop} (h:p:=by have :=z (k+1);simpa[MV,Oc 1 k]using this):p:=h
def YP {p:Prop} (h:p:=by obtain⟨a,_,rfl⟩:=F8.1 hx;rfl):p:=h
def aMs {p:Prop} (h:p:=by rw[←CU h];exact⟨[],[(0,true),(1,true),(2,true),(3,true)],trivial,by kernel_rfl,by kernel_rfl,by kernel_rfl⟩):p:=h
def Rl {p:Prop} (h:p:=by simp at u;omega):p:=h
def Og {p:Prop} (h:p:=by simpa using u):p:=h
def dw {p:Prop} (h:p:=by simp[Act.eval,Array.replicate]):p:=h
def MS {p:Prop} (h:p:=by simp at hi):p:=h
def PV {p:Prop} (h:p:=by simpa using s):p:=h
def YU {p:Prop} (h:p:=by simp only[Dz,QM];omega):p:=h
def aMH {p:Prop} (h:p:=by subst e;have h:=i;exact .a 2<|AO h fun u m h=>.mg 12 3 (Ah u) (.bi m)<|.aW<|by cases h;kernel_rfl):p:=h
def Vs {p:Prop} (h:p:=by simp only[OB];omega):p:=h
def PU {p:Prop} (h:p:=by rw[nZ];omega):p:=h
def Uo {p:Prop} (h:p:=by rw[Gg]at h;exact h):p:=h
def vM {p:Prop} (h:p:=by cases h;exact .ret (EO [(0,false),(1,true)])):p:=h
def Nv {p:Prop} (h:p:=by rw[alr];rfl):p:=h
def aB1 {p:Prop} (h:p:=by have :BA=9223372036854775808:=rfl;omega):p:=h
def vI {p:Prop} (h:p:=by have :=hinj j j' o o' t s ho' q hd';omega):p:=h
def qE {p:Prop} (h:p:=by simpa using(I 0 (by simp)).symm):p:=h
def SC {p:Prop} (h:p:=by simpa using z):p:=h
def TT {p:Prop} (h:p:=by simpa using e):p:=h
def xu {p:Prop} (h:p:=by simp[Array.getD,hil]at hf ⊢;exact hf):p:=h
def nS {p:Prop} (h:p:=by obtain⟨a,_,rfl⟩:=F8.1 j;rfl):p:=h
def UO {p:Prop} (h:p:=by simpa using m):p:=h
def aBq {p:Prop} (h:p:=by cases h;exact .ret (EO [(3,true)])):p:=h
def Oj {p:Prop} (h:p:=by simp[hi]):p:=h
def aDk {p:Prop} (h:p:=by rw[alloc_eq_grow,alloc_eq_grow,grow_grow];rfl):p:=h
def RN {p:Prop} (h:p:=by simp[flat]):p:=h
def aI5 {p:Prop} (h:p:=by by_cases h:(s.size:Int)>32<;>simp[h]<;>omega):p:=h
def aCf {p:Prop} (h:p:=by by_cases h:(s.size:Int)<1<;>simp[h]<;>omega):p:=h
def XK {p:Prop} (h:p:=by simpa using I):p:=h
def aBV {p:Prop} (h:p:=by simp only[aIW];split<;>omega):p:=h
def ZN {p:Prop} (h:p:=by rw[Gg];exact mQ f):p:=h
def UW {p:Prop} (h:p:=by rw[f];rfl):p:=h
def Zp {p:Prop} (h:p:=by rw[aFL f z];simp):p:=h
def jM {p:Prop} (h:p:=by simpa using(z 0).symm):p:=h
def tK {p:Prop} (h:p:=by simpa using I 0 x (by simp)):p:=h
def TV {p:Prop} (h:p:=by simp at f):p:=h
def aBl {p:Prop} (h:p:=by simpa using J 0 x (by simp)):p:=h
def adr {p:Prop} (h:p:=by intro j;cases j):p:=h
def aGv {p:Prop} (h:p:=by obtain⟨b,_,rfl⟩:=F8.1 hy;exact hc b):p:=h
def aKy {p:Prop} (h:p:=by show CX C ok H (U ops.size).ents w;rw[hE];exact hmem):p:=h
def aBo {p:Prop} (h:p:=by simp[binOp,Op.intBits,Du]):p:=h
def aGs {p:Prop} (h:p:=by rw[L rfl b (by rw[j];rfl)];exact q):p:=h
def aDw {p:Prop} (h:p:=by cases h;exact .ret (EO [(4,true)])):p:=h
def acB {p:Prop} (h:p:=by rw[Cb]at hi;rw[TB _ _ _ hi];exact Tf m j q (h i hi)):p:=h
def ae3 {p:Prop} (h:p:=by subst e;have h:=i;exact Cj.aW<|by cases h;kernel_rfl):p:=h
def ug {p:Prop} (h:p:=by simp[Act.eval,Act.put]):p:=h
def aF5 {p:Prop} (h:p:=by simpa using J 0 σ.ents (by simp)):p:=h
def aDH {p:Prop} (h:p:=by simpa using L 0 σ.ents (by simp)):p:=h
def dI {p:Prop} (h:p:=by simpa using Z):p:=h
def qB {p:Prop} (h:p:=by rw[←j.hlen];simp):p:=h
def abl {p:Prop} (h:p:=by rw[Cb]at hi;rw[TB _ _ _ hi];exact(h i hi).su π):p:=h
def nT {p:Prop} (h:p:=by simp[List.getD,j]):p:=h
def aJW {p:Prop} (h:p:=by rw[L]at ho';obtain rfl:=CJ ho';exact(M m hm).1):p:=h
def Sub {p:Prop} (h:p:=by intro m;cases m):p:=h
def gQ {p:Prop} (h:p:=by rw[f]at h;exact h):p:=h
def sN {p:Prop} (h:p:=by simp[Op.bytesLess]at h):p:=h
def l9 {p:Prop} (h:p:=by intro h;cases h):p:=h
def VA {p:Prop} (h:p:=by simp[f]):p:=h
def XO {p:Prop} (h:p:=by simp at q):p:=h
def aJU {p:Prop} (h:p:=by simpa using(by omega:i<(ops.map a.eval).size)):p:=h
def aBR {p:Prop} (h:p:=by rw[World.cell?,f];rfl):p:=h
def aAP {p:Prop} (h:p:=by constructor<;>omega):p:=h
def aMd {p:Prop} (h:p:=by rw[ha];exact EZ (LJ _ _) (by rw[Gt];omega)):p:=h
def jY {p:Prop} (h:p:=by simpa using he):p:=h
def asy {p:Prop} (h:p:=by simpa using hk):p:=h
def aFx {p:Prop} (h:p:=by rw[Dz];simp only[QM];omega):p:=h
def vU {p:Prop} (h:p:=by unfold maxLen;omega):p:=h
def ae6 {p:Prop} (h:p:=by cases h;exact .ret (EO [(0,true),(1,true)])):p:=h
def qQ {p:Prop} (h:p:=by simpa using hl):p:=h
def jC {p:Prop} (h:p:=by simpa using J):p:=h
def aCQ {p:Prop} (h:p:=by simp[sizeOf,typeInfo,hi,hs]):p:=h
def kT {p:Prop} (h:p:=by simpa using q2):p:=h
def WC {p:Prop} (h:p:=by rw[m,←s]):p:=h
def wV {p:Prop} (h:p:=by simp[underlying,hu]):p:=h
def aIC {p:Prop} (h:p:=by first|exact I|kernel_rfl):p:=h
def aKE {p:Prop} (h:p:=by simp[Value.cells,List.getD,Array.getD,z]):p:=h
def aHX {p:Prop} (h:p:=by have :=eq_of_beq h;omega):p:=h
def aIA {p:Prop} (h:p:=by rw[asn];exact hdf.mono hgr):p:=h
def sO {p:Prop} (h:p:=by simp[underlying,j]):p:=h
def ni {p:Prop} (h:p:=by simpa using O):p:=h
def uU {p:Prop} (h:p:=by rw[←f.hlen];simp):p:=h
def YH {p:Prop} (h:p:=by simp[j]):p:=h
def aAE {p:Prop} (h:p:=by simp[List.getD,q]):p:=h
def aHC {p:Prop} (h:p:=by rw[hb1];exact(F6.1 M).1):p:=h
def aF6 {p:Prop} (h:p:=by simp[Array.getD,h1,hi']):p:=h
def aDK {p:Prop} (h:p:=by simp[underlying,hE.und]):p:=h
def aHr {p:Prop} (h:p:=by rw[BI.YF]at J;exact J):p:=h
def aMa {p:Prop} (h:p:=by obtain⟨a,_,rfl⟩:=F8.1 hy;exact hc a):p:=h
def aaX {p:Prop} (h:p:=by unfold OU at f;rw[Df m]at f;exact f):p:=h
def Yf {p:Prop} (h:p:=by cases h'):p:=h
def aB6 {p:Prop} (h:p:=by simp[Array.getD]):p:=h
def aE6 {p:Prop} (h:p:=by rw[size_put];exact hsz):p:=h
def adQ {p:Prop} (h:p:=by simp[stepG,stepG.exec,Frame.atR]):p:=h
def aFr {p:Prop} (h:p:=by simp[List.getD,VI e]):p:=h
def aDo {p:Prop} (h:p:=by simp[ev,List.getD,hy]):p:=h
def Mid {p:Prop} (h:p:=by simpa using hi1):p:=h
def yu {p:Prop} (h:p:=by simp[flat]at hi):p:=h
def aEw {p:Prop} (h:p:=by simp[List.getD,G6 e]):p:=h
def aEj {p:Prop} (h:p:=by simpa[DC]using q.symm):p:=h
def sK {p:Prop} (h:p:=by rw[J4];omega):p:=h
def aeW {p:Prop} (h:p:=by rw[j];rfl):p:=h
def aA0 {p:Prop} (h:p:=by simpa using h2):p:=h
def aLE {p:Prop} (h:p:=by rw[Gt];omega):p:=h
def aBh {p:Prop} (h:p:=by rw[Cb];omega):p:=h
def aFC {p:Prop} (h:p:=by simp[r,List.getD,hy]):p:=h
def aEF {p:Prop} (h:p:=by rw[hev];exact hmem):p:=h
def aD9 {p:Prop} (h:p:=by rw[aAo];exact hh.base):p:=h
def aIM {p:Prop} (h:p:=by simp[World.setRow]):p:=h
def aGI {p:Prop} (h:p:=by rw[hs];exact f.len):p:=h
def vP {p:Prop} (h:p:=by apply aGy;simp):p:=h
def jJ {p:Prop} (h:p:=by rw[e];rfl):p:=h
def uj {p:Prop} (h:p:=by simp[go_sem]):p:=h
def xX {p:Prop} (h:p:=by rw[Gg];exact h):p:=h
def aCL {p:Prop} (h:p:=by rw[Dz];simp;omega):p:=h
def aFz {p:Prop} (h:p:=by simp[underlying,ht]):p:=h
def aBF {p:Prop} (h:p:=by simpa using U):p:=h
def aCc {p:Prop} (h:p:=by rw[←h.len];exact hi):p:=h
def aEu {p:Prop} (h:p:=by simp[execOp,f];rfl):p:=h
def aE2 {p:Prop} (h:p:=by rw[Dz]at hi;omega):p:=h
def aEy {p:Prop} (h:p:=by rw[nZ];simp;omega):p:=h
def aFi {p:Prop} (h:p:=by rw[Cb];exact hi):p:=h
def aHf {p:Prop} (h:p:=by simpa using hee):p:=h
def uD {p:Prop} (h:p:=by simp[qN,e]):p:=h
def lW {p:Prop} (h:p:=by simp at u):p:=h
def qW {p:Prop} (h:p:=by simp at J):p:=h
def aE1 {p:Prop} (h:p:=by rw[s]at f;omega):p:=h
def aFM {p:Prop} (h:p:=by intro u;cases u):p:=h
end Go.Proofs.YtolgdkhlelfpoaaGreat
namespace Go.Proofs.YtolgdkhlelfpoaaGreat
open Go.RowKit
def Bf {p:Prop} (h:p:=by exact fun h=>AU<|CS):p:=h
def Eu {p:Prop} (h:p:=by exact AB.exit<|AU<|CS):p:=h
def NY {p:Prop} (h:p:=by exact AB.skip<|AU<|CS):p:=h
def Ty {p:Prop} (h:p:=by exact KF A8<|KF A8<|KF A8<|KF A8<|trivial):p:=h
def Ny {p:Prop} (h:p:=by exact AB.exit<|AU<|OE):p:=h
def uM {p:Prop} (h:p:=by exact .nil<|Or.inl ⟨(),(CU h).symm,(⟨[],[],trivial,A8,A8,A8⟩)⟩):p:=h
def acK {p:Prop} (h:p:=by exact .aW<|AU<|AB.ret<|by rw[←CU h];exact⟨[Dj ({ aO with Content:=f })],[],⟨⟨1,Ag (Am ({ aO with Content:=f })),true,29,A8,A8,A8,DY,Eb A8,Sub,A8⟩,trivial⟩,A8,A8,A8⟩):p:=h
def aMy {p:Prop} (h:p:=by exact fun h=>AB.ret<|⟨.inr rfl,(RX j).slots,(.ready,none),.normal,A8,rfl,(K3 _ ⟨u,z,Ad 16 32 [(2,true),(6,true)],h⟩)⟩):p:=h
def adv {p:Prop} (h:p:=by exact AB.ret<|⟨.inr rfl,(Ql mY f).slots,(.ready,none),.normal,A8,rfl,(K3 _ ⟨M,v8,Ad 21 80 [(0,true),(1,true)],h⟩)⟩):p:=h
def rH {p:Prop} (h:p:=by exact .nil<|j _ _ _ (Ad 16 449 [(0,true)]) h):p:=h
def Z9 {p:Prop} (h:p:=by exact AU<|AU<|CS):p:=h
def aGG {p:Prop} (h:p:=by exact fun h=>AB.exit<|K4 _ ⟨Ad 18 2 [],h⟩):p:=h
def acV {p:Prop} (h:p:=by exact AB.skip<|Or.inl ⟨(),(CU h).symm,(⟨[],[],trivial,A8,A8,A8⟩)⟩):p:=h
def TN {p:Prop} (h:p:=by exact .aY<|Ae h Bf fun h=>NY):p:=h
def sW {p:Prop} (h:p:=by exact AU<|Ae h Bf fun h=>NY):p:=h
end Go.Proofs.YtolgdkhlelfpoaaGreat
section
namespace Go.Proofs.YtolgdkhlelfpoaaGreat
open Go.RowKit
def addr_add (b o j:Nat):(⟨b,o,none⟩:Addr).add j=⟨b,o+j,none⟩:=by
 unfold Addr.add;split<;>simp_all
section
variable {P : Program} {ops : Array Oper} {rest : List Oper} {o : Oper} {a : Act} {w : World} {Q : Exit → Act → World → Prop}
def ap1 (w:World) (ty:TypeId) (b off:Nat) (cs:Array Value) (s:(isAgg ty).run P w=.ok true w) (u:(sizeOf ty).run P w=.ok cs.size w)
 (z:∀j,j<cs.size→w.cell? ⟨b,off+j,none⟩=some (cs.getD j undef)):(loadVar ty ⟨b,off,none⟩).run P w=.ok (.agg cs) w:=by
 have m:(loadCells ⟨b,off,none⟩ cs.toList.length).run P w=.ok cs.toList.toArray w:=
  aCz (P:=P) w ⟨b,off,none⟩ cs.toList (fun j v f=>by
   rw[addr_add]
   have q:j<cs.size:=by
    have :=(F6.1 f).1;simpa using this
   rw[z j q];simp only[iM]at f;simp[Array.getD,q]at f ⊢
   exact f)
 simp only[RG,dz]at m;simp only[loadVar,Eh,s,u,Ep,KE,m,FM]
end
inductive D where
 |lit (v:Value)
 |agg (cs:List D)
 |sl (es:List D)
 |ref (cs:List D) (off:Nat)
 |fn (f:Fn) (first cap:List D)
 |LK (t:TypeId) (x:D)
def D.cells:D→List D
 | .agg cs=>cs
 |x=>[x]
def D.leaf:D→Bool
 | .lit v=>v.oneCell'
 | .agg _=>false
 |_=>true
abbrev DL :D:=.lit undef
abbrev cellAt (w:World) (b o:Nat):Value:=(w.cell? ⟨b,o,none⟩).getD undef
inductive DT (ok:Nat→Prop) (w:World):D→Value→Prop
 |lit (v:Value):DT ok w (.lit v) v
 |agg (cs:List D) (vs:Array Value) (hl:vs.size=cs.length) (hf:∀i,i<cs.length→(cs.getD i DL).leaf=true)
  (h:∀i,i<cs.length→DT ok w (cs.getD i DL) (vs.getD i undef)):DT ok w (.agg cs) (.agg vs)
 |sl0 (ad:Option Addr) (cap:Nat):DT ok w (.sl []) (.slice ad 0 cap)
 |sl (es:List D) (b off cap size:Nat) (hcap:es.length≤cap) (hok:0<es.length→0<size→ok b) (hs:∀i,i<es.length→(es.getD i DL).cells.length=size)
  (hf:∀i,i<es.length→∀j,j<size→((es.getD i DL).cells.getD j DL).leaf=true)
  (hx:∀i,i<es.length→∀j,j<size→(w.cell? ⟨b,off+(i*size+j),none⟩).isSome=true)
  (hc:∀i,i<es.length→∀j,j<size→DT ok w ((es.getD i DL).cells.getD j DL) (cellAt w b (off+(i*size+j)))):
  DT ok w (.sl es) (.slice (some ⟨b,off,none⟩) es.length cap)
 |ref (cs:List D) (off b o:Nat) (hok:0<cs.length→ok b) (hf:∀i,i<cs.length→(cs.getD i DL).leaf=true)
  (hx:∀j,j<cs.length→(w.cell? ⟨b,o+j,none⟩).isSome=true)
  (hc:∀j,j<cs.length→DT ok w (cs.getD j DL) (cellAt w b (o+j))):DT ok w (.ref cs off) (.pointer (some ⟨b,o+off,none⟩))
 |fn (f:Fn) (first cap:List D) (vs us:Array Value) (hl:vs.size=first.length) (hm:us.size=cap.length)
  (h:∀i,i<first.length→DT ok w (first.getD i DL) (vs.getD i undef)) (h':∀i,i<cap.length→DT ok w (cap.getD i DL) (us.getD i undef)):
  DT ok w (.fn f first cap) (.func f vs us)
 |LK (t:TypeId) (x:D) (v:Value) (h:DT ok w x v):DT ok w (.LK t x) (.iface t v)
def Dw (ok:Nat→Prop) (w:World) (ok':Nat→Prop) (w':World):Prop:=∀b,ok b→ok' b∧w'.heap[b]? =w.heap[b]?
def Dw.refl (ok:Nat→Prop) (w:World):Dw ok w ok w:=fun _ h=>⟨h,rfl⟩
def Dw.trans {ok f j:Nat→Prop} {w q s:World} (h:Dw ok w f q) (k:Dw f q j s):Dw ok w j s:=
 fun b m=>⟨(k b (h b m).1).1,((k b (h b m).1).2).trans (h b m).2⟩
def Dw.cell {ok ok':Nat→Prop} {w w':World} (h:Dw ok w ok' w') {b o:Nat} (f:ok b):w'.cell? ⟨b,o,none⟩=w.cell? ⟨b,o,none⟩:=
 World.cell?_of_block (w:=w) (a:=⟨b,o,none⟩) (h b f).2
def DT.mono {ok ok':Nat→Prop} {w w':World} (u:Dw ok w ok' w') {x:D} {v:Value} (h:DT ok w x v):DT ok' w' x v:=by
 induction h with
 |lit v=>exact .lit v
 |agg cs vs J z _ s=>exact .agg cs vs J z s
 |sl0 ad cap=>exact .sl0 ad cap
 |sl es b off cap size I m Y z L _ s=>
  have U:∀i j,i<es.length→j<size→ok b:=fun i j hi q=>m AA AA;refine .sl es b off cap size I (fun M Z=>(u b (m M Z)).1) Y z (fun i hi j q=>?_) (fun i hi j q=>?_)
  ·rw[u.cell (U i j hi q)];exact L i hi j q
  unfold cellAt;rw[u.cell (U i j hi q)];exact s i hi j q
 |ref cs off b o m z L _ s=>
  refine .ref cs off b o (fun M=>(u b (m M)).1) z (fun j q=>?_) (fun j q=>?_)
  ·rw[u.cell (m AA)];exact L j q
  unfold cellAt;rw[u.cell (m AA)];exact s j q
 |fn f first cap vs us J hm _ _ s O=>exact .fn f first cap vs us J hm s O
 |LK t x v _ s=>exact .LK t x v s
def DT.shrink {ok ok':Nat→Prop} {w:World} (M:∀b o,ok b→(w.cell? ⟨b,o,none⟩).isSome=true→ok' b) {x:D} {v:Value} (h:DT ok w x v):DT ok' w x v:=by
 induction h with
 |lit v=>exact .lit v
 |agg cs vs I q _ j=>exact .agg cs vs I q j
 |sl0 ad cap=>exact .sl0 ad cap
 |sl es b off cap size s m J q u _ j=>exact .sl es b off cap size s (fun z O=>M b _ (m z O) (u 0 z 0 O)) J q u j
 |ref cs off b o m q u _ j=>exact .ref cs off b o (fun z=>M b _ (m z) (u 0 z)) q u j
 |fn f first cap vs us I U _ _ j L=>exact .fn f first cap vs us I U j L
 |LK t x v _ j=>exact .LK t x v j
def DT.leaf {ok:Nat→Prop} {w:World} {x:D} {v:Value} (h:DT ok w x v) (f:x.leaf=true):v.oneCell'=true:=by
 cases h<;>first|rfl|exact f|(simp[D.leaf]at f)
inductive Ac where
 |d (x:D)
 |ptr (k off:Nat)
 |aS (k:Nat)
 |kK (k i off:Nat)
 |fn (f:Fn) (first cap:List Ac)
 |mp (k:Nat)
 |clip (xs:List D)
 |uI (k:Nat)
 |eH (vs:List Ac)
 |ag (vs:List Ac)
 |junk
def Ac.leaf:Ac→Bool
 | .d x=>x.leaf
 | .eH _| .ag _| .junk=>false
 |_=>true
def Ac.cells:Ac→List Ac
 | .d x=>x.cells.map .d
 | .ag xs=>xs
 |x=>[x]
inductive BI where
 |dead
 |box (cs:List Ac)
 |arr (e:TypeId) (size:Nat) (es:List D)
 |map (es:List (Value×D))
 |bf (es:List (Value×D))
 |iter (es:List (Value×D)) (vis:List Nat)
 |loop (tm:Array Value) (slots:List Ac) (rc:Array Tmp×Code×Code) (st:LoopState) (pe:Option Code)
def BI.live:BI→Bool
 | .dead=>false
 |_=>true
structure Bc where
 v:Value
 size:Nat:=0
inductive R (ok:Nat→Prop) (w:World) (H:List Bc):Ac→Value→Prop
 |d (x:D) (v:Value) (h:DT ok w x v):R ok w H (.d x) v
 |ptr (k off b s:Nat) (h:H[k]? =some ⟨.pointer (some ⟨b,0,none⟩),s⟩):R ok w H (.ptr k off) (.pointer (some ⟨b,off,none⟩))
 |aS (k:Nat) (ad:Option Addr) (n cap s:Nat) (h:H[k]? =some ⟨.slice ad n cap,s⟩):R ok w H (.aS k) (.slice ad n cap)
 |kK (k i off b n cap s:Nat) (h:H[k]? =some ⟨.slice (some ⟨b,0,none⟩) n cap,s⟩):R ok w H (.kK k i off) (.pointer (some ⟨b,i*s+off,none⟩))
 |fn (f:Fn) (first cap:List Ac) (vs us:Array Value) (hl:vs.size=first.length) (hm:us.size=cap.length) (h:∀i,i<first.length→R ok w H (first.getD i .junk) (vs.getD i undef))
  (h':∀i,i<cap.length→R ok w H (cap.getD i .junk) (us.getD i undef)):R ok w H (.fn f first cap) (.func f vs us)
 |mp (k:Nat) (v:Value) (s:Nat) (hl:v.oneCell'=true) (h:H[k]? =some ⟨v,s⟩):R ok w H (.mp k) v
 |clip (xs:List D) (ad:Option Addr) (h:DT ok w (.sl xs) (.slice ad xs.length xs.length)):R ok w H (.clip xs) (.slice ad xs.length xs.length)
 |uI (k:Nat) (ad:Option Addr) (n cap s:Nat) (h:H[k]? =some ⟨.slice ad n cap,s⟩):R ok w H (.uI k) (.slice ad n n)
 |eH (xs:List Ac) (vs:Array Value) (hl:vs.size=xs.length) (h:∀i,i<xs.length→R ok w H (xs.getD i .junk) (vs.getD i undef)):R ok w H (.eH xs) (.tuple vs)
 |ag (xs:List Ac) (vs:Array Value) (hl:vs.size=xs.length) (hf:∀i,i<xs.length→(xs.getD i .junk).leaf=true) (h:∀i,i<xs.length→R ok w H (xs.getD i .junk) (vs.getD i undef)):R ok w H (.ag xs) (.agg vs)
 |junk (v:Value):R ok w H .junk v
def Names (H H':List Bc):Prop:=∀(k:Nat) (v:Bc),H[k]? =some v→H'[k]? =some v
def Names.refl (H:List Bc):Names H H:=fun _ _ h=>h
def Names.trans {H H1 H2:List Bc} (h:Names H H1) (k:Names H1 H2):Names H H2:=fun i v f=>k i v (h i v f)
def Names.push (H H':List Bc):Names H (H++H'):=fun k v h=>by
 rw[G6 (F6.1 h).1];exact h
def R.mono {ok ok':Nat→Prop} {w w':World} {H H':List Bc} (z:Dw ok w ok' w') (m:Names H H') {x:Ac} {v:Value} (h:R ok w H x v):R ok' w' H' x v:=by
 induction h with
 |d x v h=>exact .d x v (h.mono z)
 |ptr k off b s h=>exact .ptr k off b s (m _ _ h)
 |aS k ad n cap s h=>exact .aS k ad n cap s (m _ _ h)
 |kK k i off b n cap s h=>exact .kK k i off b n cap s (m _ _ h)
 |fn f first cap vs us j I _ _ q u=>exact .fn f first cap vs us j I q u
 |mp k v s j h=>exact .mp k v s j (m _ _ h)
 |clip xs ad h=>exact .clip xs ad (h.mono z)
 |uI k ad n cap s h=>exact .uI k ad n cap s (m _ _ h)
 |eH xs vs j _ q=>exact .eH xs vs j q
 |ag xs vs j J _ q=>exact .ag xs vs j J q
 |junk v=>exact .junk v
def R.shrink {ok ok':Nat→Prop} {w:World} (u:∀b o,ok b→(w.cell? ⟨b,o,none⟩).isSome=true→ok' b) {H:List Bc} {x:Ac} {v:Value} (h:R ok w H x v):R ok' w H x v:=by
 induction h with
 |d x v h=>exact .d x v (h.shrink u)
 |ptr k off b s h=>exact .ptr k off b s h
 |aS k ad n cap s h=>exact .aS k ad n cap s h
 |kK k i off b n cap s h=>exact .kK k i off b n cap s h
 |fn f first cap vs us j z _ _ m q=>exact .fn f first cap vs us j z m q
 |mp k v s j h=>exact .mp k v s j h
 |clip xs ad h=>exact .clip xs ad (h.shrink u)
 |uI k ad n cap s h=>exact .uI k ad n cap s h
 |eH xs vs j _ m=>exact .eH xs vs j m
 |ag xs vs j I _ m=>exact .ag xs vs j I m
 |junk v=>exact .junk v
def R.leaf {ok:Nat→Prop} {w:World} {H:List Bc} {x:Ac} {v:Value} (h:R ok w H x v) (f:x.leaf=true):v.oneCell'=true:=by
 cases h with
 |d x v h=>exact h.leaf f
 |eH=>simp[Ac.leaf]at f
 |ag=>simp[Ac.leaf]at f
 |junk=>simp[Ac.leaf]at f
 |mp k v s f h=>exact f
 |_=>rfl
def FB (ok:Nat→Prop) (w:World) (H:List Bc) (xs:List Ac) (vs:List Value):Prop:=
 vs.length=xs.length∧∀i,i<xs.length→(xs.getD i .junk).leaf=true∧R ok w H (xs.getD i .junk) (vs.getD i undef)
def FB.mono {ok ok':Nat→Prop} {w w':World} {H H':List Bc} (f:Dw ok w ok' w') (j:Names H H') {xs:List Ac} {vs:List Value} (h:FB ok w H xs vs):FB ok' w' H' xs vs:=
 ⟨h.1,fun i hi=>⟨(h.2 i hi).1,(h.2 i hi).2.mono f j⟩⟩
def FB.shrink {ok ok':Nat→Prop} {w:World} (f:∀b o,ok b→(w.cell? ⟨b,o,none⟩).isSome=true→ok' b) {H:List Bc} {xs:List Ac} {vs:List Value} (h:FB ok w H xs vs):FB ok' w H xs vs:=
 ⟨h.1,fun i hi=>⟨(h.2 i hi).1,(h.2 i hi).2.shrink f⟩⟩
def flat (es:List D):List Ac:=es.flatMap fun x=>x.cells.map .d
def lH (w:World) (e:TypeId) (size:Nat) (v:Value) (n:Nat) (xs:List Value):Prop:=
 xs.length=n*size∧
 ((v=.slice none 0 0∧n=0)∨
  ∃g cap f,v=.slice (some ⟨g,0,none⟩) n cap∧0≤g∧w.heap[g]? =some (.cells f e (0,0))∧n≤cap∧cap≤maxLen∧cap*size≤f.size∧f.toList.take (n*size)=xs)
def lH.of {w:World} {base:Nat} {e:TypeId} {size:Nat} {v:Value} {n:Nat} {xs:List Value} (h:w.ownsRow base e size v n xs):lH w e size v n xs:=by
 refine⟨h.1,?_⟩;rcases h.2 with f|⟨g,cap,j,f,I,m,q,s,u,z⟩
 ·exact .inl f
 exact .inr ⟨g,cap,j,f,EH _,m,q,s,dD u.symm,z⟩
def lH.cells {w:World} {e:TypeId} {size:Nat} {v:Value} {n:Nat} {xs:List Value} (h:lH w e size v n xs) {g:Nat} (s:v.ownBlock=some g):∀j u,xs[j]? =some u→w.cell? ((⟨g,0,none⟩:Addr).add j)=some u:=by
 intro j u q;rcases h.2 with⟨rfl,_⟩|⟨z,cap,I,rfl,_,J,_,_,_,f⟩
 ·simp[Value.ownBlock]at s
 simp[Value.ownBlock]at s;subst s;have m:(⟨z,0,none⟩:Addr).add j=⟨z,j,none⟩:=by unfold Addr.add;split<;>simp_all
 rw[m,cell_of_row w z j I e (0,0) J];rw[←f,iV]at q;split at q
 ·simpa using q
 cases q
structure J9 (ok:Nat→Prop) (w:World) (es:List (Value×D)) (ms:Array MapEntry) (clock:Nat):Prop where
 len:ms.size=es.length
 ent:∀(i:Nat) (e:Value×D) (m:MapEntry),es[i]? =some e→ms[i]? =some m→m.key=e.1∧DT ok w e.2 m.val∧m.born<clock
 inc:∀(i j:Nat) (m n:MapEntry),i<j→ms[i]? =some m→ms[j]? =some n→m.born<n.born
def QS (ms:Array MapEntry) (clock:Nat):Prop:=clock=ms.size∧∀(i:Nat) (e:MapEntry),ms[i]? =some e→e.born=i
def EW (ok:Nat→Prop) (w:World) (H:List Bc) (h:Bc):BI→Prop
 | .dead=>True
 | .box cs=>∃b vs T,h.v=.pointer (some ⟨b,0,none⟩)∧w.heap[b]? =some (.cells vs T (0,0))∧FB ok w H cs vs.toList
 | .arr e size es=>h.size=size∧(∀x∈es,x.cells.length=size)∧∃xs,lH w e size h.v es.length xs∧FB ok w H (flat es) xs
 | .map es=>∃b ms clock,h.v=.map (some b)∧w.heap[b]? =some (.map ms clock)∧J9 ok w es ms clock
 | .bf es=>∃b ms clock,h.v=.map (some b)∧w.heap[b]? =some (.map ms clock)∧J9 ok w es ms clock∧QS ms clock
 | .iter es vis=>∃bi f ms clock seen,h.v=.pointer (some ⟨bi,0,none⟩)∧w.heap[bi]? =some (.mapIter (some f) clock seen clock)∧ok f∧w.heap[f]? =some (.map ms clock)∧J9 ok w es ms clock∧
  seen.size=vis.length∧∀(j i:Nat),vis[j]? =some i→∃e,ms[i]? =some e∧seen[j]? =some e.born
 | .loop tm slots rc st m=>∃l fn D,h.v=.func (.yield l) #[] #[]∧w.heap[l]? =some (.loop { state:=st,pending:=m,fn,tmps:=tm,params:=rc.1,assign:=rc.2.1,body:=rc.2.2,defers:=D })∧tm.size=slots.length∧∀t,t<slots.length→R ok w H (slots.getD t .junk) (tm.getD t undef)
def DC :Value→Option Nat
 | .pointer (some a)=>some a.block
 | .slice (some a) _ _=>some a.block
 | .map (some b)=>some b
 | .func (.yield l) _ _=>some l
 |_=>none
structure kJ (w0:World) (X:List Nat) (w:World):Prop where
 os:w.os=w0.os
 tape:w.tape=w0.tape
 output:w.output=w0.output
 size:w0.heap.size≤w.heap.size
 block:∀k,k<w0.heap.size→k∉X→w.heap[k]? =w0.heap[k]?
def kJ.refl (w:World) (X:List Nat):kJ w X w:=⟨rfl,rfl,rfl,Dy _,fun _ _ _=>rfl⟩
def kJ.below {w0 w:World} (h:kJ w0 [] w):Below w0.heap.size w0 w:=⟨h.os,h.tape,h.output,h.size,fun k f=>h.block k f BM⟩
structure Dv where
 w0:World
 ok0:Nat→Prop
 X:List Nat
 H0:List Bc
structure CX (C:Dv) (ok:Nat→Prop) (H:List Bc) (es:List BI) (w:World):Prop where
 fr:kJ C.w0 C.X w
 wE:∀b,C.ok0 b→ok b
 wF:∀b,ok b→C.ok0 b∨C.w0.heap.size≤b∨b∈C.X
 jG:∀b,ok b→b<w.heap.size
 names:Names C.H0 H
 hlen:H.length=es.length
 ent:∀(k:Nat) (e:BI) (h:Bc),es[k]? =some e→H[k]? =some h→EW ok w H h e
 blk:∀(k:Nat) (e:BI) (h:Bc) (b:Nat),es[k]? =some e→e.live=true→H[k]? =some h→DC h.v=some b→¬ok b∧b<w.heap.size∧(C.w0.heap.size≤b∨b∈C.X)
 CW:∀(k k':Nat) (e e':BI) (h h':Bc) (b:Nat),es[k]? =some e→es[k']? =some e'→e.live=true→e'.live=true→H[k]? =some h→H[k']? =some h'→DC h.v=some b→DC h'.v=some b→k=k'
def EW.mono {ok ok':Nat→Prop} {w w':World} {H H':List Bc} {h:Bc} {e:BI} (I:Dw ok w ok' w') (U:Names H H') (L:e.live=true→∀b,DC h.v=some b→w'.heap[b]? =w.heap[b]?) (M:EW ok w H h e):EW ok' w' H' h e:=by
 cases e with
 |dead=>trivial
 |box cs=>
  obtain⟨b,vs,T,j,q,f⟩:=M;exact⟨b,vs,T,j,aGs,f.mono I U⟩
 |arr e s es=>
  obtain⟨j,q,xs,⟨f,z⟩,J⟩:=M;refine⟨j,q,xs,⟨f,?_⟩,J.mono I U⟩;rcases z with z|⟨g,cap,Y,O,Z,h8,h9⟩
  ·exact .inl z
  exact .inr ⟨g,cap,Y,O,Z,by rw[L rfl g (by rw[O];rfl)];exact h8,h9⟩
 |map es=>
  obtain⟨b,ms,clock,j,q,f⟩:=M;exact⟨b,ms,clock,j,aGs,f.len,fun i e m hi u=>⟨(f.ent i e m hi u).1,(f.ent i e m hi u).2.1.mono I,(f.ent i e m hi u).2.2⟩,f.inc⟩
 |bf es=>
  obtain⟨b,ms,clock,j,q,f,z⟩:=M;exact⟨b,ms,clock,j,aGs,⟨f.len,fun i e m hi u=>⟨(f.ent i e m hi u).1,(f.ent i e m hi u).2.1.mono I,(f.ent i e m hi u).2.2⟩,f.inc⟩,z⟩
 |iter es vis=>
  obtain⟨bi,bm,ms,clock,seen,j,q,f,z,J,O,Z⟩:=M;exact⟨bi,bm,ms,clock,seen,j,by rw[L rfl bi aeW];exact q,(I bm f).1,by rw[(I bm f).2];exact z,⟨J.len,fun i e m hi u=>⟨(J.ent i e m hi u).1,(J.ent i e m hi u).2.1.mono I,(J.ent i e m hi u).2.2⟩,J.inc⟩,O,Z⟩
 |loop tm slots rc st pe=>
  obtain⟨l,fn,D,j,q,f,z⟩:=M;exact⟨l,fn,D,j,by rw[L rfl l aeW];exact q,f,fun t ht=>(z t ht).mono I U⟩
def EW.shrink {ok ok':Nat→Prop} {w:World} (I:∀b o,ok b→(w.cell? ⟨b,o,none⟩).isSome=true→ok' b) (M:∀(b:Nat) (ms:Array MapEntry) (c:Nat),ok b→w.heap[b]? =some (.map ms c)→ok' b) {H:List Bc} {h:Bc} {e:BI} (J:EW ok w H h e):EW ok' w H h e:=by
 cases e with
 |dead=>trivial
 |box cs=>
  obtain⟨b,vs,T,j,q,f⟩:=J;exact⟨b,vs,T,j,q,f.shrink I⟩
 |arr e s es=>
  obtain⟨j,q,xs,f,z⟩:=J;exact⟨j,q,xs,f,z.shrink I⟩
 |map es=>
  obtain⟨b,ms,clock,j,q,f⟩:=J;exact⟨b,ms,clock,j,q,f.len,fun i e m hi u=>⟨(f.ent i e m hi u).1,(f.ent i e m hi u).2.1.shrink I,(f.ent i e m hi u).2.2⟩,f.inc⟩
 |bf es=>
  obtain⟨b,ms,clock,j,q,f,L⟩:=J;exact⟨b,ms,clock,j,q,⟨f.len,fun i e m hi u=>⟨(f.ent i e m hi u).1,(f.ent i e m hi u).2.1.shrink I,(f.ent i e m hi u).2.2⟩,f.inc⟩,L⟩
 |iter es vis=>
  obtain⟨bi,O,ms,clock,seen,j,q,f,L,z,U,Y⟩:=J;exact⟨bi,O,ms,clock,seen,j,q,M O ms clock f L,L,⟨z.len,fun i e m hi u=>⟨(z.ent i e m hi u).1,(z.ent i e m hi u).2.1.shrink I,(z.ent i e m hi u).2.2⟩,z.inc⟩,U,Y⟩
 |loop tm slots rc st pe=>
  obtain⟨l,fn,D,j,q,f,L⟩:=J;exact⟨l,fn,D,j,q,f,fun t Z=>(L t Z).shrink I⟩
def EW.drew {ok:Nat→Prop} {w:World} {H:List Bc} {h:Bc} {e:BI} {n:Nat} (f:EW ok w H h e):EW ok { w with drawn:=n } H h e:=
 EW.mono (w:=w) (ok:=ok) (fun _ j=>⟨j,rfl⟩) (.refl _) (fun _ _ _=>rfl) f
def Bd (P:Program) (o:Oper) (ns:List (Operand×Ac)) (es:List BI) (x:Ac) (es':List BI):Prop:=
 ∀(C:Dv) (ok:Nat→Prop) (H:List Bc) (a:Act) (w:World) (Q:Exit→Act→World→Prop),
  CX C ok H es w→(∀n∈ns,R ok w H n.2 (a.eval n.1))→
  o.wp P a w (fun a' w'=>∃v ok' H',a'=a.put o.dst v∧Dw ok w ok' w'∧Names H H'∧CX C ok' H' es' w'∧R ok' w' H' x v) Q
def Bd.pure {P:Program} {o:Oper} {ns:List (Operand×Ac)} {es:List BI} {x:Ac}
 (h:∀(ok:Nat→Prop) (H:List Bc) (a:Act) (w:World),(∀(k:Nat) (e:BI) (h:Bc),es[k]? =some e→H[k]? =some h→EW ok w H h e)→H.length=es.length→(∀n∈ns,R ok w H n.2 (a.eval n.1))→∃v,(execOp a.eval o).run P w=.ok (.value v) w∧R ok w H x v):Bd P o ns es x es:=by
 intro C ok H a w Q f j;obtain⟨v,m,q⟩:=h ok H a w f.ent f.hlen j;unfold Oper.wp;rw[m];exact⟨v,ok,H,rfl,.refl _ _,.refl _,f,q⟩
structure Ap where
 slots:List Ac
 ents:List BI
 base:Nat:=0
def Ap.get (σ:Ap):Operand→Ac
 | .tmp t=>σ.slots.getD t .junk
 | .const v=>.d (.lit v)
 | .global g=>.d (.lit (.pointer (some ⟨g,0,none⟩)))
 | .func f=>.d (.fn (.func f) [] [])
def Ap.put (σ:Ap) (d:Option Tmp) (x:Ac) (es:List BI):Ap:=
 ⟨match d with |some t=>σ.slots.set t x|none=>σ.slots,es,σ.base⟩
def Ap.qo (σ:Ap) (d:Option Tmp) (x:Ac):Ap:=
 ⟨match d with |some t=>σ.slots.set t x|none=>σ.slots,σ.ents,σ.base⟩
def Ap.Uj (σ:Ap) (d:Option Tmp) (x:Ac):σ.qo d x=σ.put d x σ.ents:=rfl
def Marks (C:Dv) (ok:Nat→Prop) (w:World) (f:List Deferred):Prop:=
 ∃Ds:List Nat,f=Ds.map (fun D=>{ target:=.collected D,args:= #[] })∧Ds.Nodup∧∀D∈Ds,ok D∧C.w0.heap.size≤D∧w.heap[D]? =some (.deferred (some []))
def Marks.nil (C:Dv) (ok:Nat→Prop) (w:World):Marks C ok w []:=⟨[],rfl,Xb,fun _ h=>Gz⟩
def Marks.mono {C:Dv} {ok ok':Nat→Prop} {w w':World} {m:List Deferred} (h:Marks C ok w m) (q:Dw ok w ok' w'):Marks C ok' w' m:=by
 obtain⟨Ds,s,u,f⟩:=h;exact⟨Ds,s,u,fun D j=>⟨(q D (f D j).1).1,(f D j).2.1,((q D (f D j).1).2).trans (f D j).2.2⟩⟩
structure Holds (C:Dv) (ok:Nat→Prop) (H:List Bc) (σ:Ap) (a:Act) (w:World):Prop where
 mem:CX C ok H σ.ents w
 size:a.tmps.size=σ.slots.length
 defers:Marks C ok w a.defers
 base:C.H0.length=σ.base
 slot:∀t,t<σ.slots.length→R ok w H (σ.slots.getD t .junk) (a.tmps.getD t undef)
def Zu {l:List Ac} {t:Nat} (h:¬t<l.length):l.getD t .junk=.junk:=by
 simp[List.getD,Kq (SN h)]
def Holds.get {C:Dv} {ok:Nat→Prop} {H:List Bc} {σ:Ap} {a:Act} {w:World} (h:Holds C ok H σ a w) (x:Operand):R ok w H (σ.get x) (a.eval x):=by
 cases x with
 |tmp t=>
  show R ok w H (σ.slots.getD t .junk) (a.tmps.getD t undef);by_cases j:t<σ.slots.length
  ·exact h.slot t j
  rw[Zu j];exact .junk _
 |const v=>exact .d _ _ (.lit v)
 |global g=>exact .d _ _ (.lit _)
 |func f=>exact .d _ _ (.fn (.func f) [] [] #[] #[] rfl rfl (fun i hi=>MS) (fun i hi=>MS))
def Holds.put {C:Dv} {ok ok':Nat→Prop} {H H':List Bc} {σ:Ap} {a:Act} {w w':World} (h:Holds C ok H σ a w) (d:Option Tmp) {x:Ac} {v:Value} {es':List BI}
 (j:Dw ok w ok' w') (s:Names H H') (u:CX C ok' H' es' w') (z:R ok' w' H' x v):Holds C ok' H' (σ.put d x es') (a.put d v) w':=by
 cases d with
 |none=>exact⟨u,h.size,h.defers.mono j,h.base,fun t f=>(h.slot t f).mono j s⟩
 |some d=>
  refine⟨u,by simp[Ap.put,Act.put,h.size],h.defers.mono j,h.base,fun t f=>?_⟩;simp only[Ap.put,WY]at f;simp only[Ap.put,Act.put];by_cases e:d=t
  ·subst e;have m:(σ.slots.set d x).getD d .junk=x:=by simp[List.getD,f]
   have q:(a.tmps.setIfInBounds d v).getD d undef=v:=by simp[Array.getD,h.size,f]
   rw[m,q];exact z
  have m:(σ.slots.set d x).getD t .junk=σ.slots.getD t .junk:=aFr
  have q:(a.tmps.setIfInBounds d v).getD t undef=a.tmps.getD t undef:=by simp[Gh,JE e]
  rw[m,q];exact(h.slot t f).mono j s
def Ac.su (π:List (Nat×Bool)):Ac→Ac
 | .d x=>.d x
 | .ptr k off=>match π.idxOf? (k,true)with |some j=>.ptr j off|none=>.junk
 | .aS k=>match π.idxOf? (k,true)with |some j=>.aS j|none=>.junk
 | .kK k i off=>match π.idxOf? (k,true)with |some j=>.kK j i off|none=>.junk
 | .mp k=>match π.idxOf? (k,true)with |some j=>.mp j|none=>.junk
 | .uI k=>match π.idxOf? (k,true)with |some j=>.uI j|none=>.junk
 | .clip xs=>.clip xs
 |_=>.junk
def Ac.back (π:List (Nat×Bool)):Ac→Ac
 | .fn f first cap=>.fn f (first.map (Ac.su π)) (cap.map (Ac.su π))
 | .eH vs=>.eH (vs.map (Ac.su π))
 |x=>x.su π
def BI.back (π:List (Nat×Bool)):BI→BI
 | .dead=>.dead
 | .box cs=>.box (cs.map (Ac.su π))
 | .arr e s es=>.arr e s es
 | .map es=>.map es
 | .bf es=>.bf es
 | .iter es vis=>.iter es vis
 | .loop tm slots rc st f=>.loop tm (slots.map (Ac.back π)) rc st f
def nR {π:List (Nat×Bool)} {H:List Bc} {k j:Nat} {h:Bc} (m:π.idxOf? (k,true)=some j) (q:H[k]? =some h):(π.map fun p=>H.getD p.1 ⟨undef,0⟩)[j]? =some h:=by
 rw[List.idxOf?,abT]at m;obtain⟨f,s, -⟩:=m;have e:π[j]=(k,true):=PV
 simp[f,e,List.getD,q]
def R.su {ok:Nat→Prop} {w:World} {H:List Bc} (π:List (Nat×Bool)) {x:Ac} {v:Value} (h:R ok w H x v):R ok w (π.map fun p=>H.getD p.1 ⟨undef,0⟩) (x.su π) v:=by
 cases h with
 |d x v h=>exact .d x v h
 |ptr k off b s h=>
  simp only[Ac.su];split<;>rename_i j m
  ·exact .ptr _ off b s (nR m h)
  exact .junk _
 |aS k ad n cap s h=>
  simp only[Ac.su];split<;>rename_i j m
  ·exact .aS _ ad n cap s (nR m h)
  exact .junk _
 |kK k i off b n cap s h=>
  simp only[Ac.su];split<;>rename_i j m
  ·exact .kK _ i off b n cap s (nR m h)
  exact .junk _
 |mp k v s q h=>
  simp only[Ac.su];split<;>rename_i j m
  ·exact .mp _ v s q (nR m h)
  exact .junk _
 |clip xs ad h=>exact .clip xs ad h
 |uI k ad n cap s h=>
  simp only[Ac.su];split<;>rename_i j m
  ·exact .uI _ ad n cap s (nR m h)
  exact .junk _
 |fn f first cap vs us q u h h'=>exact .junk _
 |eH xs vs q h=>exact .junk _
 |ag xs vs q z h=>exact .junk _
 |junk v=>exact .junk _
def TB (f:Ac→Ac) (l:List Ac) (i:Nat) (h:i<l.length):(l.map f).getD i .junk=f (l.getD i .junk):=by
 simp[List.getD,h]
def R.back {ok:Nat→Prop} {w:World} {H:List Bc} (π:List (Nat×Bool)) {x:Ac} {v:Value} (h:R ok w H x v):R ok w (π.map fun p=>H.getD p.1 ⟨undef,0⟩) (x.back π) v:=by
 cases h with
 |fn f first cap vs us j m h h'=>
  exact .fn f _ _ vs us YH (by simp[m]) (fun i hi=>abl) (fun i hi=>by rw[Cb]at hi;rw[TB _ _ _ hi];exact(h' i hi).su π)
 |eH xs vs j h=>exact .eH _ vs YH (fun i hi=>abl)
 |ag xs vs j q h=>exact .junk _
 |d x v h=>exact(R.d x v h).su π
 |ptr k off b s h=>exact(R.ptr k off b s h).su π
 |aS k ad n cap s h=>exact(R.aS k ad n cap s h).su π
 |kK k i off b n cap s h=>exact(R.kK k i off b n cap s h).su π
 |mp k v s j h=>exact(R.mp k v s j h).su π
 |clip xs ad h=>exact(R.clip xs ad h).su π
 |uI k ad n cap s h=>exact(R.uI k ad n cap s h).su π
 |junk v=>exact .junk _
def BI.backOk (π:List (Nat×Bool)):BI→Bool
 | .box cs=>cs.all fun x=>(x.su π).leaf
 |_=>true
def S9 (base:Nat) (es:List BI) (π:List (Nat×Bool)):Bool:=
 π.all (fun p=>decide (p.1<es.length))&&decide ((π.filterMap fun p=>if p.2 then some p.1 else none).Nodup)&&((π.take base).map (·.1)==List.range base)&&π.all fun p=>(es.getD p.1 .dead).backOk π
def QO (es:List BI) (π:List (Nat×Bool)):List BI:=π.map fun p=>if p.2 then(es.getD p.1 .dead).back π else .dead
def aIg :∀{π:List (Nat×Bool)},(π.filterMap fun p=>if p.2 then some p.1 else none).Nodup→∀(i j k:Nat),π[i]? =some (k,true)→π[j]? =some (k,true)→i=j
 | [],_,i,j,k,h,_=>H8
 |p::π,f,i,j,k,hi,q=>by
  have m:∀(n:Nat),π[n]? =some (k,true)→k∈π.filterMap fun p=>if p.2 then some p.1 else none:=fun n h=>by
   rw[RY];exact⟨_,Us h,rfl⟩
  have s:(π.filterMap fun p=>if p.2 then some p.1 else none).Nodup:=by
   rw[Ns]at f;split at f
   ·exact f
   exact(Jy.1 f).2
  match i,j with
  |0,0=>rfl
  |0,j+1=>
   simp at hi q;subst hi;simp only[Ns,KE]at f;exact absurd (m j q) (Jy.1 f).1
  |i+1,0=>
   simp at hi q;subst q;simp only[Ns,KE]at f;exact absurd (m i hi) (Jy.1 f).1
  |i+1,j+1=>rw[aIg s i j k FZ NS]
def EW.back {ok:Nat→Prop} {w:World} {H:List Bc} {h:Bc} {e:BI} (π:List (Nat×Bool)) (L:e.backOk π=true) (f:EW ok w H h e):EW ok w (π.map fun p=>H.getD p.1 ⟨undef,0⟩) h (e.back π):=by
 cases e with
 |dead=>trivial
 |box cs=>
  obtain⟨b,vs,T,j,m,q,u⟩:=f;refine⟨b,vs,T,j,m,NS,fun i hi=>?_⟩;rw[Cb]at hi;rw[TB _ _ _ hi];refine⟨?_,(u i hi).2.su π⟩;simp only[BI.backOk,DZ]at L;exact L _ KR
 |arr e s es=>
  obtain⟨j,m,xs,q,u,M⟩:=f;refine⟨j,m,xs,q,u,fun i hi=>⟨(M i hi).1,?_⟩⟩;have z:=(M i hi).2;have I:(flat es).getD i .junk∈flat es:=KR
  unfold flat at I ⊢;simp only[Rt,F8]at I;obtain⟨x,_,y,_,O⟩:=I;unfold flat at z;rw[←O]at z ⊢;cases z with |d _ _ h=>exact .d _ _ h
 |map es=>exact f
 |bf es=>exact f
 |iter es vis=>exact f
 |loop tm slots rc st U=>
  obtain⟨l,fn,D,j,m,q,u⟩:=f;refine⟨l,fn,D,j,m,NS,fun t J=>?_⟩;rw[Cb]at J;rw[TB _ _ _ J];exact(u t J).back π
def adg {π:List (Nat×Bool)} {e:BI}:(e.back π).live=e.live:=by cases e<;>rfl
def CX.norm {C:Dv} {ok:Nat→Prop} {H:List Bc} {es:List BI} {w:World} (J:CX C ok H es w) (π:List (Nat×Bool)) (O:S9 C.H0.length es π=true):
 CX C ok (π.map fun p=>H.getD p.1 ⟨undef,0⟩) (QO es π) w:=by
 unfold S9 at O;simp only[CZ,G8,TF,DZ]at O;obtain⟨⟨⟨hlt,hnd⟩,hpre⟩,hbk⟩:=O
 have q:∀(j:Nat) (h:Bc),(π.map fun p=>H.getD p.1 ⟨undef,0⟩)[j]? =some h→∃p,π[j]? =some p∧p.1<es.length∧H[p.1]? =some h:=by
  intro j h f;rw[IX]at f;cases m:π[j]? with
  |none=>rw[m]at f;simp at f
  |some p=>
   rw[m]at f;have s:p.1<es.length:=hlt p (Us m);refine⟨p,rfl,s,?_⟩;have hkH:p.1<H.length:=by rw[J.hlen];exact s
   simp[List.getD,hkH]at f ⊢;exact f
 have u:∀(j:Nat) (p:Nat×Bool) (e:BI),(QO es π)[j]? =some e→π[j]? =some p→p.1<es.length→(p.2=false∧e=.dead)∨(p.2=true∧∃L,es[p.1]? =some L∧e=L.back π∧p∈π):=by
  intro j p e f m s;unfold QO at f;rw[IX,m]at f;cases Z:p.2 with
  |false=>simp[Z]at f;exact .inl ⟨rfl,f.symm⟩
  |true=>
   simp[Z,List.getD,s]at f;exact .inr ⟨rfl,es[p.1],by simp[s],f.symm,Us m⟩
 refine⟨J.fr,J.wE,J.wF,J.jG,?_,by simp[QO],?_,?_,?_⟩
 ·intro k v hv;have s:k<C.H0.length:=(F6.1 hv).1;have h1:((π.take C.H0.length).map (·.1))[k]? =some k:=by rw[hpre];simp[s]
  rw[IX,Ll s]at h1;have h2:=J.names k v hv;cases m:π[k]? with
  |none=>rw[m]at h1;simp at h1
  |some p=>
   rw[m]at h1;have hpk:p.1=k:=by simpa using h1
   rw[IX,m];simp[List.getD,hpk,h2]
 ·intro j e h f hh;obtain⟨p,m,s,hH⟩:=q j h hh;rcases u j p e f m s with⟨_,rfl⟩|⟨_,L,z,rfl,I⟩
  ·trivial
  refine(J.ent p.1 L h z hH).back π ?_;have :=hbk p I;simpa[List.getD,z]using this
 ·intro j e h b f U hh Z;obtain⟨p,m,s,hH⟩:=q j h hh;rcases u j p e f m s with⟨_,rfl⟩|⟨_,L,z,rfl,I⟩
  ·cases U
  rw[adg]at U;exact J.blk p.1 L h b z U hH Z
 intro j j' e e' h h' b f hj' U Y hh hh' Z hb';obtain⟨p,m,s,hH⟩:=q j h hh;obtain⟨p',hp',hk',hH'⟩:=q j' h' hh';rcases u j p e f m s with⟨_,rfl⟩|⟨hpt,L,z,rfl,I⟩
 ·cases U
 rcases u j' p' e' hj' hp' hk' with⟨_,rfl⟩|⟨M,e0',axq,rfl,hmem'⟩
 ·cases Y
 rw[adg]at U Y;have hkk:=J.CW p.1 p'.1 L e0' h h' b z axq U Y hH hH' Z hb';obtain⟨k,bb⟩:=p;obtain⟨k',bb'⟩:=p';simp only at hkk hpt M;subst hkk;subst hpt;subst M;exact aIg hnd j j' k m hp'
def Jh (π:List (Nat×Bool)):List Bool→List Ac→List Ac
 |_,[]=>[]
 |true::m,x::xs=>x.back π::Jh π m xs
 |false::m,_::xs=>.junk::Jh π m xs
 | [],_::xs=>.junk::Jh π [] xs
def yR (π:List (Nat×Bool)):∀(m:List Bool) (l:List Ac),(Jh π m l).length=l.length
 |_,[]=>by unfold Jh;rfl
 |true::m,x::xs=>by simp[Jh,yR π m xs]
 |false::m,x::xs=>by simp[Jh,yR π m xs]
 | [],x::xs=>by simp[Jh,yR π [] xs]
def aAN (π:List (Nat×Bool)):∀(m:List Bool) (l:List Ac) (t:Nat),(Jh π m l).getD t .junk=(l.getD t .junk).back π∨(Jh π m l).getD t .junk=.junk
 |_,[],t=>by unfold Jh;right;simp
 |true::m,x::xs,0=>by left;simp[Jh]
 |false::m,x::xs,0=>by right;simp[Jh]
 | [],x::xs,0=>by right;simp[Jh]
 |true::m,x::xs,t+1=>by simpa[Jh]using aAN π m xs t
 |false::m,x::xs,t+1=>by simpa[Jh]using aAN π m xs t
 | [],x::xs,t+1=>by simpa[Jh]using aAN π [] xs t
def yH (σ S:Ap):Prop:=∃(m:List Bool) (π:List (Nat×Bool)),S9 σ.base σ.ents π=true∧S=⟨Jh π m σ.slots,QO σ.ents π,σ.base⟩
def Holds.axr {C:Dv} {ok:Nat→Prop} {H:List Bc} {σ S:Ap} {a:Act} {w:World} (h:Holds C ok H σ a w) (j:yH σ S):∃H',Holds C ok H' S a w:=by
 obtain⟨m,π,f,rfl⟩:=j;refine⟨π.map fun p=>H.getD p.1 ⟨undef,0⟩,h.mem.norm π (h.base▸f),by simp[yR,h.size],h.defers,h.base,fun t q=>?_⟩;rcases aAN π m σ.slots t with e|e
 ·simp only[e];exact(h.get (.tmp t)).back π
 simp only[e];exact .junk _
def CG (σ S:Ap):Prop:=∀(C:Dv) (ok:Nat→Prop) (H:List Bc) (a:Act) (w:World),Holds C ok H σ a w→∃ok' H',Holds C ok' H' S a w
def yH.sub {σ S:Ap} (h:yH σ S):CG σ S:=fun _ ok _ _ _ f=>let⟨H',h'⟩:=f.axr h;⟨ok,H',h'⟩
def amc {σ S:Ap} (f:Ap) (h:∀C ok H a w,Holds C ok H σ a w→∃ok',Holds C ok' H f a w) (k:CG f S):CG σ S:=fun C _ H a w j=>let⟨ok',h'⟩:=h C _ H a w j;k C ok' H a w h'
section
variable {P : Program} {ops : Array Oper} {Q : Exit → Act → World → Prop}
def toCome (f:Array Bool):Nat:=(f.toList.filter (!·)).length
def toCome_set {f:Array Bool} {i:Nat} (hi:i<f.size) (h:f.getD i true=false):toCome (f.setIfInBounds i true)+1=toCome f:=by
 unfold toCome;have j:f.toList[i]' FZ=false:=by simpa[Array.getD,hi]using h
 have e:f.toList=f.toList.take i++false::f.toList.drop (i+1):=by
  rw[←j,List.getElem_cons_drop,aU]
 have m:(f.setIfInBounds i true).toList=f.toList.take i++true::f.toList.drop (i+1):=by
  rw[aDh,aHU,Ch FZ]
 rw[m]
 conv=>rhs;rw[e]
 simp[Ua];omega
def written (ops:Array Oper):List Tmp:=ops.toList.filterMap (·.dst)
def VN (ops:Array Oper):Bool:=(List.range ops.size).all fun i=>(List.range ops.size).all fun j=>i==j||match(ops[i]?).bind (·.dst),(ops[j]?).bind (·.dst)with
 |some d,some f=>d != f
 |_,_=>true
def TK (ops:Array Oper) (n:Nat):Bool:=(written ops).all fun d=>decide (d<n)
def aGa (h:VN ops=true):∀(i j:Nat) (o f:Oper) (d:Tmp),ops[i]? =some o→ops[j]? =some f→o.dst=some d→f.dst=some d→i=j:=by
 intro i j o f d m q s u;unfold VN at h;rw[DZ]at h;have hi:i<ops.size:=(FN.1 m).1;have z:j<ops.size:=(FN.1 q).1;have :=h i FZ;rw[DZ]at this;have :=this j SC;rw[m,q]at this;simp[s,u]at this;exact this
def aGQ {i:Nat} {o:Oper} {d:Tmp} (h:ops[i]? =some o) (hd:o.dst=some d):d∈written ops:=by
 unfold written;rw[RY]
 exact⟨o,by
  have⟨hi,f⟩:=FN.1 h
  rw[←f];exact Array.getElem_mem_toList hi,hd⟩
def aHP {a:Act} {d:Tmp} {v:Value} (h:d<a.tmps.size):(a.put (some d) v).tmps.getD d undef=v:=by
 simp[Act.put,Array.getD,h]
def aGn {a:Act} {d t:Tmp} {v:Value} (h:d≠t):(a.put (some d) v).tmps.getD t undef=a.tmps.getD t undef:=by
 simp[Act.put,Gh,JE h]
def size_put {a:Act} {d:Option Tmp} {v:Value}:(a.put d v).tmps.size=a.tmps.size:=by cases d<;>simp[Act.put]
def asn {a:Act} {d:Option Tmp} {v:Value}:(a.put d v).defers=a.defers:=by cases d<;>rfl
end
def Uc (ops:Array Oper) (σ:Ap) (g:Option (Nat×Bool)):Prop:=g=none∨
 ∃j f d b,g=some (j,f)∧(ops[j]?).bind (·.dst)=some d∧σ.slots.getD d .junk=.d (.lit (.bool b))∧b=f
def Vz (ops:Array Oper) (σ:Ap) (g:Option (Nat×Bool)):Prop:=
 ∃j f d v,g=some (j,f)∧(ops[j]?).bind (·.dst)=some d∧σ.slots.getD d .junk=.d (.lit v)∧(v=.bool (!f)∨v=undef)
def amK {ops:Array Oper} {σ:Ap} {g:Option (Nat×Bool)} (j:Nat) (f:Bool) (d:Nat) (b:Bool) (m:g=some (j,f)) (hd:(ops[j]?).bind (·.dst)=some d) (q:σ.slots.getD d .junk=.d (.lit (.bool b))) (s:b= !f):Vz ops σ g:=⟨j,f,d,_,m,hd,q,.inl (by rw[s])⟩
def agk {ops:Array Oper} {σ:Ap} {g:Option (Nat×Bool)} (j:Nat) (f:Bool) (d:Nat) (m:g=some (j,f)) (hd:(ops[j]?).bind (·.dst)=some d) (q:σ.slots.getD d .junk=.d (.lit undef)):Vz ops σ g:=⟨j,f,d,_,m,hd,q,.inr rfl⟩
def R.bool {ok:Nat→Prop} {w:World} {H:List Bc} {u v:Value} (h:R ok w H (.d (.lit u)) v):v=u:=by
 cases h with |d _ _ h=>cases h;rfl
def aqY {C:Dv} {ok:Nat→Prop} {H:List Bc} {σ:Ap} {a:Act} {w:World} (h:Holds C ok H σ a w) {ops:Array Oper} {j d:Nat} {v:Value}
 (q:(ops[j]?).bind (·.dst)=some d) (f:σ.slots.getD d .junk=.d (.lit v)):yielded ops a.tmps j=(match v with | .bool b=>some b|_=>none):=by
 have hd:d<σ.slots.length:=by
  apply Uy;intro s;rw[Zu s]at f;cases f
 have m:=(f▸h.slot d hd).bool
 have u:a.tmps[d]? =some v:=by
  have :d<a.tmps.size:=by rw[h.size];exact hd
  simp[Array.getD,this]at m;simp[this,m]
 unfold yielded;rw[q];simp only[Af,u];cases v<;>rfl
def aqG {C:Dv} {ok:Nat→Prop} {H:List Bc} {σ:Ap} {a:Act} {w:World} (h:Holds C ok H σ a w) {ops:Array Oper} {j d:Nat} {b:Bool}
 (q:(ops[j]?).bind (·.dst)=some d) (f:σ.slots.getD d .junk=.d (.lit (.bool b))):yielded ops a.tmps j=some b:=by
 have hd:d<σ.slots.length:=by
  apply Uy;intro s;rw[Zu s]at f;cases f
 have m:=(f▸h.slot d hd).bool
 have u:a.tmps[d]? =some (.bool b):=by
  have :d<a.tmps.size:=by rw[h.size];exact hd
  simp[Array.getD,this]at m;simp[this,m]
 unfold yielded;rw[q];simp only[Af,u]
def Np {C:Dv} {ok:Nat→Prop} {H:List Bc} {σ:Ap} {a:Act} {w:World} (h:Holds C ok H σ a w) {ops:Array Oper} {o:Oper} (f:Uc ops σ o.guard):Region.wanted o (yielded ops a.tmps)=true:=by
 unfold Region.wanted;rcases f with f|⟨j,m,d,b,f,q,s,rfl⟩
 ·rw[f]
 rw[f];show(yielded ops a.tmps j==some b)=true;rw[aqG h q s];simp
def aFL {C:Dv} {ok:Nat→Prop} {H:List Bc} {σ:Ap} {a:Act} {w:World} (h:Holds C ok H σ a w) {ops:Array Oper} {o:Oper} (m:Vz ops σ o.guard):Region.wanted o (yielded ops a.tmps)=false:=by
 unfold Region.wanted;obtain⟨j,f,d,v,m,q,s,u⟩:=m;rw[m];show(yielded ops a.tmps j==some f)=false;rw[aqY h q s];rcases u with rfl|rfl
 ·simp
 rfl
def needs (σ:Ap):List (Operand×Ac)→Prop
 | []=>True
 |n::ns=>σ.get n.1=n.2∧needs σ ns
def O4 {σ:Ap}:∀{ns:List (Operand×Ac)},needs σ ns→∀n∈ns,σ.get n.1=n.2
 | [],_,n,h=>H8
 |m::ns,f,n,h=>by
  rcases F5.1 h with rfl|h
  ·exact f.1
  exact O4 f.2 n h
def tmpsOf (o:Oper):List Tmp:=o.op.operands.toList.filterMap fun | .tmp t=>some t|_=>none
def MB (ns:List (Operand×Ac)):List Tmp:=ns.filterMap fun n=>match n.1 with | .tmp t=>some t|_=>none
def QJ (P:Program) (ops:Array Oper) (σ:Ap) (x:Ac) (E:List BI) (bar:Bool) (o:Oper):Prop:=
 ((∃ns,Bd P o ns σ.ents x E∧needs σ ns∧(MB ns).all (tmpsOf o).contains=true∧Uc ops σ o.guard)∨(x=.d (.lit undef)∧E=σ.ents∧Vz ops σ o.guard))∧(bar=false→E=σ.ents)
def aIt {P:Program} {ops:Array Oper} {σ:Ap} {x:Ac} {o:Oper} {ns:List (Operand×Ac)} (h:Bd P o ns σ.ents x σ.ents) (f:needs σ ns) (j:Uc ops σ o.guard) (m:(MB ns).all (tmpsOf o).contains=true):QJ P ops σ x σ.ents false o:=
 ⟨.inl ⟨ns,h,f,m,j⟩,fun _=>rfl⟩
def Hy (ro:Option Nat):Fence:={ fn:=fun _=>True,depth:=none,alive:=false,round:=ro }
def aBs {ro:Option Nat} {n:Nat} {P:Program} {f:FuncId} {args:Array Value} {w:World} {R:Ending→World→Prop}:CallsIn (Hy ro) n P f args w R↔Calls P f args w R:=
 callsIn_wide (n:=n)
def aip {ro:Option Nat} {n:Nat} {P:Program} {f:String} {args:Array Value} {w:World} {R:Value→World→Prop} (h:Rows P f args w R):RowsIn (Hy ro) n P f args w R:=
 fun c cs _=>let⟨v,w',r,s⟩:=h c cs;⟨v,w',r,(stepsIn_wide (P:=P)).2 s⟩
def Bd.atD {P:Program} {o:Oper} {ns:List (Operand×Ac)} {es es':List BI} {x:Ac} (h:Bd P o ns es x es') {C:Dv} {ok:Nat→Prop} {H:List Bc} {a:Act} {w:World} (m:CX C ok H es w) (q:∀n∈ns,R ok w H n.2 (a.eval n.1)):∀c,o.op≠ .defer c:=by
 intro c s;have f:=h C ok H a w (fun _ _ _=>False) m q;unfold Oper.wp execOp at f;rw[s]at f;simp only[Eh]at f;cases j:(resolve a.eval c o.type).run P w with
 |ok d w'=>
  rw[j]at f;simp only[Result.andThen]at f;obtain⟨v,_,_,u,_⟩:=f;have :=Ba (fun a=>a.defers.length) u;cases z:o.dst<;>simp[Act.put,z]at this
 |halt x w'=>
  rw[j]at f;cases x<;>exact f
def Bd.YA {P:Program} {o:Oper} {ns:List (Operand×Ac)} {es es':List BI} {x:Ac} (h:Bd P o ns es x es') (ro:Option Nat) (C:Dv) (ok:Nat→Prop) (H:List Bc) (a:Act) (w:World) (Q:Exit→Act→World→Prop)
 (j:CX C ok H es w) (m:∀n∈ns,R ok w H n.2 (a.eval n.1)):
 o.wpIn (Hy ro) 0 P a w (fun a' w'=>∃v ok' H',a'=a.put o.dst v∧Dw ok w ok' w'∧Names H H'∧CX C ok' H' es' w'∧R ok' w' H' x v) Q:=by
 have f:=h C ok H a w Q j m;refine⟨fun _ _=>trivial,?_⟩;rw[bG _ _ _ (h.atD j m)];unfold Oper.wp at f;generalize(execOp a.eval o).run P w=r at f;cases r with
 |ok n w'=>
  cases n<;>first
   |exact f
   |exact f.elim
   |exact⟨fun h=>Gz,aBs.2 f⟩
   |exact⟨fun h=>Gz,aip f⟩
 |halt x w'=>cases x<;>exact f
inductive Chain (P:Program) (ops:Array Oper):List Oper→Ap→Ap→Prop
 |nil (σ:Ap):Chain P ops [] σ σ
 |op {o:Oper} {rest:List Oper} {σ σ':Ap} {ns:List (Operand×Ac)} {x:Ac} (d:Option Tmp) (h:Bd P o ns σ.ents x σ.ents) (hn:needs σ ns) (hg:Uc ops σ o.guard) (hd:o.dst=d)
  (k:Chain P ops rest (σ.qo d x) σ'):Chain P ops (o::rest) σ σ'
 |oe {o:Oper} {rest:List Oper} {σ σ':Ap} {ns:List (Operand×Ac)} {x:Ac} {es':List BI} (d:Option Tmp) (E:List BI) (h:Bd P o ns σ.ents x es') (he:es'=E) (hn:needs σ ns) (hg:Uc ops σ o.guard) (hd:o.dst=d)
  (k:Chain P ops rest (σ.put d x E) σ'):Chain P ops (o::rest) σ σ'
 |skip {o:Oper} {rest:List Oper} {σ σ':Ap} (d:Option Tmp) (hg:Vz ops σ o.guard) (hd:o.dst=d) (k:Chain P ops rest (σ.qo d (.d (.lit undef))) σ'):Chain P ops (o::rest) σ σ'
 |any {o:Oper} {rest:List Oper} {σ σ':Ap} {x:Ac} (d:Option Tmp) (h:QJ P ops σ x σ.ents false o) (hd:o.dst=d) (k:Chain P ops rest (σ.qo d x) σ'):Chain P ops (o::rest) σ σ'
 |ZH {o:Oper} {rest:List Oper} {σ σ':Ap} {x:Ac} {E:List BI} {bar:Bool} (d:Option Tmp) (h:QJ P ops σ x E bar o) (hd:o.dst=d) (k:Chain P ops rest (σ.put d x E) σ'):Chain P ops (o::rest) σ σ'
 |conv {rest:List Oper} {σ σ':Ap} (σ2:Ap) (h:∀C ok H a w,Holds C ok H σ a w→∃ok',Holds C ok' H σ2 a w) (k:Chain P ops rest σ2 σ'):Chain P ops rest σ σ'
def Chain.sound {P:Program} {ops:Array Oper} {l:List Oper} {σ σ':Ap} (h:Chain P ops l σ σ') {ro:Option Nat} {C:Dv} {H0:List Bc} {Q:Exit→Act→World→Prop}:
 ∀{ok:Nat→Prop} {H:List Bc} {a:Act} {w:World},Holds C ok H σ a w→Names H0 H→(∀ok' H' a' w',Holds C ok' H' σ' a' w'→Names H0 H'→Q .normal a' w')→wpListIn (Hy ro) 0 P ops Q l a w:=by
 induction h with
 |nil σ=>intro ok H a w f J q;exact q ok H a w f J
 | @op o rest σ σ' ns x d L J z hd k I=>
   intro ok H a w f j q;subst hd;unfold wpListIn;rw[Ch (Np f z)];refine Oy ?_ (L.YA ro C ok H a w Q f.mem (fun n s=>O4 J n s▸f.get n.1));rintro a' w' ⟨v,ok',H',rfl,u,m,M,O⟩;exact I (f.put o.dst u m M O) (j.trans m) q
 | @oe o rest σ σ' ns x es' d E L Z J z hd k I=>
   intro ok H a w f j q;subst hd;subst Z;unfold wpListIn;rw[Ch (Np f z)];refine Oy ?_ (L.YA ro C ok H a w Q f.mem (fun n s=>O4 J n s▸f.get n.1));rintro a' w' ⟨v,ok',H',rfl,u,m,M,O⟩;exact I (f.put o.dst u m M O) (j.trans m) q
 | @skip o rest σ σ' d z hd k I=>
   intro ok H a w f j q;subst hd;unfold wpListIn;rw[D8 Zp];exact⟨fun _ _=>trivial,I (f.put o.dst (.refl _ _) (.refl _) f.mem (.d _ _ (.lit _))) j q⟩
 | @any o rest σ σ' x d U hd k I=>
   intro ok H a w f j q;subst hd;unfold wpListIn;rcases U.1 with⟨ns,L,J,_,z⟩|⟨rfl,_,z⟩
   ·rw[Ch (Np f z)];refine Oy ?_ (L.YA ro C ok H a w Q f.mem (fun n s=>O4 J n s▸f.get n.1));rintro a' w' ⟨v,ok',H',rfl,u,m,M,O⟩;exact I (f.put o.dst u m M O) (j.trans m) q
   rw[D8 Zp];exact⟨fun _ _=>trivial,I (f.put o.dst (.refl _ _) (.refl _) f.mem (.d _ _ (.lit _))) j q⟩
 | @ZH o rest σ σ' x E bar d U hd k I=>
   intro ok H a w f j q;subst hd;unfold wpListIn;rcases U.1 with⟨ns,L,J,_,z⟩|⟨rfl,rfl,z⟩
   ·rw[Ch (Np f z)];refine Oy ?_ (L.YA ro C ok H a w Q f.mem (fun n s=>O4 J n s▸f.get n.1));rintro a' w' ⟨v,ok',H',rfl,u,m,M,O⟩;exact I (f.put o.dst u m M O) (j.trans m) q
   rw[D8 Zp];exact⟨fun _ _=>trivial,I (f.put o.dst (.refl _ _) (.refl _) f.mem (.d _ _ (.lit _))) j q⟩
 |conv σ2 hc k I=>
  intro ok H a w f j q;obtain⟨ok',Y⟩:=hc C ok H a w f;exact I Y j q
def OD :Code→Bool
 | .seq a b=>OD a&&OD b
 | .cond _ a b=>OD a&&OD b
 | .block _ a=>OD a
 | .loop a=>OD a
 | .scope a=>OD a
 | .rangeFunc .. =>false
 |_=>true
def lQ (ro:Option Nat) (c:Code):Prop:=ro=none∨OD c=true
def lQ.two {ro:Option Nat} {c x y:Code} (h:lQ ro c) (e:OD c=(OD x&&OD y)):lQ ro x∧lQ ro y:=by
 rcases h with h|h
 ·exact⟨.inl h,.inl h⟩
 rw[e,CZ]at h;exact⟨.inr h.1,.inr h.2⟩
def ah9 (P:Program) (c:Code) (σ:Ap) (Q:Exit→Ap→Prop):Prop:=
 ∀(ro:Option Nat),lQ ro c→∀(C:Dv) (ok:Nat→Prop) (H:List Bc) (a:Act) (w:World),Holds C ok H σ a w→c.wpIn (Hy ro) 0 P (fun e a' w'=>∃ok' H' σ',Holds C ok' H' σ' a' w'∧Q e σ') a w
structure AB (P:Program) (c:Code) (σ:Ap) (Q:Exit→Ap→Prop):Prop where
 run:ah9 P c σ Q
section
variable {P : Program} {σ σ' : Ap} {Q : Exit → Ap → Prop}
def AB.mono {c:Code} {Q':Exit→Ap→Prop} (h:AB P c σ Q) (f:∀e σ,Q e σ→Q' e σ):AB P c σ Q':=
 ⟨fun ro j C ok H a w m=>Rz (h.run ro j C ok H a w m) fun _ _ _ ⟨ok',H',σ',q,s⟩=>⟨ok',H',σ',q,f _ _ s⟩⟩
def AB.region {id:Nat} {ops:Array Oper} (h:Chain P ops ops.toList σ σ') (f:Q .normal σ'):AB P (.region id ops false) σ Q:=⟨fun ro _ C ok H a w j=>
 aCT (h.sound j (.refl H) fun ok' H' a' w' m _=>⟨ok',H',σ',m,f⟩)⟩
def AB.skip (h:Q .normal σ):AB P .skip σ Q:=⟨fun _ _ _ ok H a w f=>wpIn_skip ⟨ok,H,σ,f,h⟩⟩
def AB.label {l:Nat} (h:Q .normal σ):AB P (.label l) σ Q:=⟨fun _ _ _ ok H a w f=>wpIn_label ⟨ok,H,σ,f,h⟩⟩
def AB.exit {i:Nat} (h:Q (.exit i) σ):AB P (.exit i) σ Q:=⟨fun _ _ _ ok H a w f=>wpIn_exit ⟨ok,H,σ,f,h⟩⟩
def AB.ret (h:Q .ret σ):AB P .ret σ Q:=⟨fun _ _ _ ok H a w f=>wpIn_ret ⟨ok,H,σ,f,h⟩⟩
def Jd (K:Ap→Prop) (Q:Exit→Ap→Prop):Exit→Ap→Prop
 | .normal,σ=>K σ
 |e,σ=>Q e σ
def AB.seq {x y:Code} (K:Ap→Prop) (q:AB P x σ (Jd K Q)) (s:∀σ',K σ'→AB P y σ' Q):AB P (.seq x y) σ Q:=⟨fun ro f C ok H a w u=>
 wpIn_seq (Rz (q.run ro (f.two rfl).1 C ok H a w u) (by
  rintro e a' w' ⟨ok',H',σ',j,m⟩;cases e with
  |normal=>exact(s σ' m).run ro (f.two rfl).2 C ok' H' a' w' j
  |_=>exact⟨ok',H',σ',j,m⟩))⟩
def AB.seq1 {x y:Code} (f:Ap) (j:AB P x σ (Jd (fun σ'=>σ'=f) Q)) (m:AB P y f Q):AB P (.seq x y) σ Q:=AB.seq _ j (fun _ e=>e▸m)
def AB.cond {c:Operand} {x y:Code} (b:Bool) (m:σ.get c=.d (.lit (.bool b))) (q:b=true→AB P x σ Q) (s:b=false→AB P y σ Q):AB P (.cond c x y) σ Q:=by
 refine⟨fun ro j C ok H a w f=>?_⟩;have e:=(m▸f.get c).bool;exact wpIn_cond_split e (fun h=>(q h).run ro (j.two rfl).1 C ok H a w f) (fun h=>(s h).run ro (j.two rfl).2 C ok H a w f)
def aL2 (i:Nat) (Q:Exit→Ap→Prop):Exit→Ap→Prop
 | .exit j,σ=>if j=i then Q .normal σ else Q (.exit j) σ
 |e,σ=>Q e σ
def AB.block {i:Nat} {c:Code} (h:AB P c σ (aL2 i Q)):AB P (.block i c) σ Q:=⟨fun ro s C ok H a w u=>
 wpIn_block (Rz (h.run ro s C ok H a w u) (by
  rintro e a' w' ⟨ok',H',σ',m,f⟩;cases e with
  |exit j=>
   show if j=i then _ else _
   simp only[aL2]at f;split<;>rename_i q
   ·rw[Ch q]at f;exact⟨ok',H',σ',m,f⟩
   rw[D8 q]at f;exact⟨ok',H',σ',m,f⟩
  |_=>exact⟨ok',H',σ',m,f⟩))⟩
def ajK {ro:Option Nat} {P:Program} {Q:Exit→Act→World→Prop} {c:Code} (I:Nat→Act→World→Prop)
 (round:∀n a w,I n a w→c.wpIn (Hy ro) 0 P (Exit.then (fun a' w'=>∃m,m<n∧I m a' w') Q) a w):∀n a w,I n a w→(Code.loop c).wpIn (Hy ro) 0 P Q a w:=by
 intro n a w U b k cs u z J
 have key:∀n a w,I n a w→∃e a' w',Q e a' w'∧ArrivesIn (Machine.fenced P (Hy ro)) P (lone (b.atR a (.code c::.inLoop c::k)) cs w) b k cs e a' w':=by
  intro n
  induction n using Nat.strongRecOn with
  |_ n Y=>
   intro a w Z;obtain⟨e,q,s,f,harr⟩:=round n a w Z b (.inLoop c::k) cs u z J;cases e with
   |normal=>
    obtain⟨m,L,M⟩:=f;obtain⟨e₂,a₂,w₂,O,j⟩:=Y m L q s M;exact⟨e₂,a₂,w₂,O,.of_steps (StepsIn.trans harr (.one (fenced_calm z J rfl) stepR_inLoop)) j⟩
   |exit id=>exact⟨_,q,s,f,.pass (x:=.inLoop c) rfl (fun _ _=>.inl BM) harr⟩
   |goto l=>exact⟨_,q,s,f,.pass (x:=.inLoop c) rfl (fun _ _=>.inl BM) harr⟩
   |ret=>exact⟨_,q,s,f,.pass (x:=.inLoop c) rfl (fun _ _=>.inl BM) harr⟩
   |panic ch=>exact⟨_,q,s,f,.pass (x:=.inLoop c) rfl (fun _ _=>.inl BM) harr⟩
   |outgrown=>exact⟨_,q,s,f,.pass (x:=.inLoop c) rfl (fun _ _=>.inl BM) harr⟩
 obtain⟨e,a',w',f,harr⟩:=key n a w U;exact⟨e,a',w',f,.of_steps (.one (fenced_calm z J rfl) stepR_loop) harr⟩
def AB.loop {c:Code} (I:Nat→Ap→Prop) (n:Nat) (h:I n σ) (round:∀n σ,I n σ→AB P c σ (Jd (fun σ'=>∃m,m<n∧I m σ') Q)):AB P (.loop c) σ Q:=by
 refine⟨fun ro u C ok H a w f=>?_⟩;refine ajK (fun n a w=>∃ok H σ,Holds C ok H σ a w∧I n σ) ?_ n a w ⟨ok,H,σ,f,h⟩;rintro n a w ⟨ok,H,σ,f,z⟩;refine Rz ((round n σ z).run ro u C ok H a w f) ?_;rintro e a' w' ⟨ok',H',σ',q,s⟩;cases e with
 |normal=>obtain⟨m,J,j⟩:=s;exact⟨m,J,ok',H',σ',q,j⟩
 |_=>exact⟨ok',H',σ',q,s⟩
end
def Ce {P:Program} {σ S:Ap} {Q:Exit→Ap→Prop} {c:Code} (f:CG σ S) (h:AB P c S Q):AB P c σ Q:=⟨fun ro j C ok H a w m=>by
 obtain⟨ok',H',h'⟩:=f C ok H a w m
 exact h.run ro j C ok' H' a w h'⟩
section
variable {P : Program} {ops : Array Oper} {Q : Exit → Act → World → Prop}
def aBi {F:Fence} {n:Nat} (I:Array Bool→Act→World→Prop) (f:∀l a w,I l a w→l.size=ops.size)
 (q:∀l a w,I l a w→∀i,i∈Region.ready .any ops l→wpOpIn F n P ops Q i (fun a' w'=>I (l.setIfInBounds i true) a' w') a w)
 (m:∀l a w,I l a w→Region.ready .any ops l=[]→Q .normal a w):
 ∀(BA:Nat) l a w,toCome l≤BA→I l a w→wpAnyIn F n P .any ops Q BA l a w:=by
 intro BA
 induction BA with
 |zero=>
  intro l a w J u
  have L:Region.ready .any ops l=[]:=by
   unfold Region.ready;rw[aBp];intro i hi;have s:i<l.size:=by rw[f l a w u];simpa using hi
   have M:l.toList.filter (!·)=[]:=GR (by unfold toCome at J;omega);rw[aBp]at M;have :=M (l[i]) BM;have z:l[i]=true:=by simpa using this
   simp[Array.getD,s,z]
  exact⟨L,m l a w u L⟩
 |succ BA O=>
  intro l a w J u;refine⟨m l a w u,fun i hi=>?_⟩;have j:=hi;unfold Region.ready at j;rw[FK]at j;have s:i<l.size:=by rw[f l a w u];simpa using j.1
  have U:l.getD i true=false:=by
   have :=j.2;simp only[CZ,Qu]at this;exact this.1
  have Y:=toCome_set s U;exact wpOpIn_mono (fun a' w' h=>O _ a' w' AA h) (q l a w u i hi)
end
def Fj (o:Oper) (j:Nat):Bool:=o.after.toList.any fun e=>decide (e.on=j)&&Region.binds .any e
def VD (ops:Array Oper):Bool:=(List.range ops.size).all fun i=>match ops[i]? with
 |some o=>((List.range ops.size).all fun j=>match(ops[j]?).bind (·.dst)with
  |some d=> !(tmpsOf o).contains d||Fj o j||(match ops[j]? with |some f=>Fj f i|none=>false)
  |none=>true)&&(match o.guard with |some (j,_)=>Fj o j|none=>true)
 |none=>true
inductive Ej (P:Program) (ops:Array Oper):List Oper→Ap→List Ac→List (List BI)→List Bool→Ap→Prop
 |nil (σ:Ap):Ej P ops [] σ [] [] [] σ
 |op {o:Oper} {rest:List Oper} {σ σ':Ap} {ns:List (Operand×Ac)} {x:Ac} {rs:List Ac} {ess:List (List BI)} {bs:List Bool} (d:Option Tmp) (h:Bd P o ns σ.ents x σ.ents) (hn:needs σ ns)
  (hg:Uc ops σ o.guard) (hd:o.dst=d) (ht:(MB ns).all (tmpsOf o).contains=true) (k:Ej P ops rest (σ.qo d x) rs ess bs σ'):Ej P ops (o::rest) σ (x::rs) (σ.ents::ess) (false::bs) σ'
 |oe {o:Oper} {rest:List Oper} {σ σ':Ap} {ns:List (Operand×Ac)} {x:Ac} {es':List BI} {rs:List Ac} {ess:List (List BI)} {bs:List Bool} (d:Option Tmp) (E:List BI) (h:Bd P o ns σ.ents x es') (he:es'=E) (hn:needs σ ns)
  (hg:Uc ops σ o.guard) (hd:o.dst=d) (ht:(MB ns).all (tmpsOf o).contains=true) (k:Ej P ops rest (σ.put d x E) rs ess bs σ'):Ej P ops (o::rest) σ (x::rs) (E::ess) (true::bs) σ'
 |any {o:Oper} {rest:List Oper} {σ σ':Ap} {x:Ac} {rs:List Ac} {ess:List (List BI)} {bs:List Bool} (d:Option Tmp) (h:QJ P ops σ x σ.ents false o) (hd:o.dst=d) (k:Ej P ops rest (σ.qo d x) rs ess bs σ'):Ej P ops (o::rest) σ (x::rs) (σ.ents::ess) (false::bs) σ'
 |ZH {o:Oper} {rest:List Oper} {σ σ':Ap} {x:Ac} {E:List BI} {bar:Bool} {rs:List Ac} {ess:List (List BI)} {bs:List Bool} (d:Option Tmp) (h:QJ P ops σ x E bar o) (hd:o.dst=d) (k:Ej P ops rest (σ.put d x E) rs ess bs σ'):Ej P ops (o::rest) σ (x::rs) (E::ess) (bar::bs) σ'
 |skip {o:Oper} {rest:List Oper} {σ σ':Ap} {rs:List Ac} {ess:List (List BI)} {bs:List Bool} (d:Option Tmp) (hg:Vz ops σ o.guard) (hd:o.dst=d) (k:Ej P ops rest (σ.qo d (.d (.lit undef))) rs ess bs σ'):Ej P ops (o::rest) σ (.d (.lit undef)::rs) (σ.ents::ess) (false::bs) σ'
section
variable {P : Program} {ops : Array Oper} {es : List BI}
def EJ (ops:Array Oper) (σ0:Ap) (r:Nat→Ac) (ev:Nat→List BI):Nat→Ap
 |0=>σ0
 |i+1=>match ops[i]? with
  |some o=>(EJ ops σ0 r ev i).put o.dst (r i) (ev i)
  |none=>EJ ops σ0 r ev i
def Ej.facts {l:List Oper} {σ σ':Ap} {rs:List Ac} {ess:List (List BI)} {bs:List Bool} (h:Ej P ops l σ rs ess bs σ') (σ0:Ap) (r:Nat→Ac) (ev:Nat→List BI) (bar:Nat→Bool):∀i,(∀k:Nat,l[k]? =ops[i+k]?)→i+l.length=ops.size→σ=EJ ops σ0 r ev i→
 (∀(k:Nat) y,rs[k]? =some y→r (i+k)=y)→(∀(k:Nat) y,ess[k]? =some y→ev (i+k)=y)→(∀(k:Nat) y,bs[k]? =some y→bar (i+k)=y)→
 (∀j (o:Oper),i≤j→ops[j]? =some o→QJ P ops (EJ ops σ0 r ev j) (r j) (ev j) (bar j) o)∧σ'=EJ ops σ0 r ev ops.size:=by
 induction h with
 |nil σ=>
  intro i z u s I _ _;have :i=ops.size:=Og
  subst this;refine⟨fun j o O ho=>?_,s⟩;have :=(FN.1 ho).1;omega
 | @op o rest σ σ' ns x rs ess bs d ho hn hg hd ht k Y=>
   intro i z u s I J U;subst hd;have L:ops[i]? =some o:=jM
   have M:r i=x:=tK
   have m:ev i=σ.ents:=aF5
   obtain⟨Z,h2⟩:=Y (i+1) (fun k=>pY) Rl (by
    rw[Ap.Uj];simp only[EJ,L,M,m];rw[←s]) (fun k y q=>qA)
    (fun k y q=>Sm) (fun k y q=>qC)
   refine⟨fun j o' O f=>?_,h2⟩;by_cases e:i=j
   ·subst e;rw[L]at f;obtain rfl:=CJ f;exact⟨.inl ⟨ns,by rw[M,m,←s];exact ho,s▸hn,ht,s▸hg⟩,fun _=>WC⟩
   exact Z j o' AA f
 | @oe o rest σ σ' ns x es' rs ess bs d E ho hE hn hg hd ht k Y=>
   intro i z u s I J U;subst hd;subst hE;have L:ops[i]? =some o:=jM
   have M:r i=x:=tK
   have m:ev i=es':=by simpa using J 0 es' BM
   have hbr:bar i=true:=by simpa using U 0 true BM
   obtain⟨Z,h2⟩:=Y (i+1) (fun k=>pY) Rl (by
    simp only[EJ,L,M,m];rw[←s]) (fun k y q=>qA)
    (fun k y q=>Sm) (fun k y q=>qC)
   refine⟨fun j o' O f=>?_,h2⟩;by_cases e:i=j
   ·subst e;rw[L]at f;obtain rfl:=CJ f;exact⟨.inl ⟨ns,by rw[M,m,←s];exact ho,s▸hn,ht,s▸hg⟩,fun hf=>by rw[hbr]at hf;cases hf⟩
   exact Z j o' AA f
 | @any o rest σ σ' x rs ess bs d hs hd k Y=>
   intro i z u s I J U;subst hd;have L:ops[i]? =some o:=jM
   have M:r i=x:=tK
   have m:ev i=σ.ents:=aF5
   obtain⟨Z,h2⟩:=Y (i+1) (fun k=>pY) Rl (by
    rw[Ap.Uj];simp only[EJ,L,M,m];rw[←s]) (fun k y q=>qA)
    (fun k y q=>Sm) (fun k y q=>qC)
   refine⟨fun j o' O f=>?_,h2⟩;by_cases e:i=j
   ·subst e;rw[L]at f;obtain rfl:=CJ f;refine⟨?_,fun _=>WC⟩;rw[M,m,←s];exact hs.1
   exact Z j o' AA f
 | @ZH o rest σ σ' x E br rs ess bs d hs hd k Y=>
   intro i z u s I J U;subst hd;have L:ops[i]? =some o:=jM
   have M:r i=x:=tK
   have m:ev i=E:=by simpa using J 0 E BM
   have hbr:bar i=br:=by simpa using U 0 br BM
   obtain⟨Z,h2⟩:=Y (i+1) (fun k=>pY) Rl (by
    simp only[EJ,L,M,m];rw[←s]) (fun k y q=>qA)
    (fun k y q=>Sm) (fun k y q=>qC)
   refine⟨fun j o' O f=>?_,h2⟩;by_cases e:i=j
   ·subst e;rw[L]at f;obtain rfl:=CJ f;rw[M,m,hbr,←s];exact hs
   exact Z j o' AA f
 | @skip o rest σ σ' rs ess bs d hg hd k Y=>
   intro i z u s I J U;subst hd;have L:ops[i]? =some o:=jM
   have M:r i=.d (.lit undef):=by simpa using I 0 (.d (.lit undef)) BM
   have m:ev i=σ.ents:=aF5
   obtain⟨Z,h2⟩:=Y (i+1) (fun k=>pY) Rl (by
    rw[Ap.Uj];simp only[EJ,L,M,m];rw[←s]) (fun k y q=>qA)
    (fun k y q=>Sm) (fun k y q=>qC)
   refine⟨fun j o' O f=>?_,h2⟩;by_cases e:i=j
   ·subst e;rw[L]at f;obtain rfl:=CJ f;exact⟨.inr ⟨M,WC,s▸hg⟩,fun _=>WC⟩
   exact Z j o' AA f
def Rf {σ0:Ap} {r:Nat→Ac} {ev:Nat→List BI} {t:Nat}:∀i,(∀j (o:Oper),j<i→ops[j]? =some o→o.dst≠some t)→(EJ ops σ0 r ev i).slots.getD t .junk=σ0.slots.getD t .junk
 |0,_=>rfl
 |i+1,h=>by
  have f:=Rf (σ0:=σ0) (r:=r) (ev:=ev) i (fun j o u m=>h j o AA m);simp only[EJ];split
  ·rename_i o m;have q:=h i o AA m;cases hd:o.dst with
   |none=>exact f
   |some d=>
    have s:d≠t:=fun e=>q (by rw[hd,e]);show((EJ ops σ0 r ev i).slots.set d (r i)).getD t .junk=_;rw[←f];simp[List.getD,VI s]
  exact f
def Tm {σ0:Ap} {r:Nat→Ac} {ev:Nat→List BI}:∀i,(EJ ops σ0 r ev i).slots.length=σ0.slots.length
 |0=>rfl
 |i+1=>by
  simp only[EJ];split
  ·rename_i o f;cases hd:o.dst with
   |none=>exact Tm i
   |some d=>show((EJ ops σ0 r ev i).slots.set d (r i)).length=_;rw[WY];exact Tm i
  exact Tm i
def aAo {σ0:Ap} {r:Nat→Ac} {ev:Nat→List BI}:∀i,(EJ ops σ0 r ev i).base=σ0.base
 |0=>rfl
 |i+1=>by
  simp only[EJ];split
  ·exact aAo i
  exact aAo i
def U1 {σ0:Ap} {r:Nat→Ac} {ev:Nat→List BI} (f:∀(i j:Nat) (o m:Oper) (d:Tmp),ops[i]? =some o→ops[j]? =some m→o.dst=some d→m.dst=some d→i=j) {t j:Nat} {o:Oper} (q:ops[j]? =some o) (hd:o.dst=some t) (J:t<σ0.slots.length):
 ∀i,j<i→(EJ ops σ0 r ev i).slots.getD t .junk=r j
 |0,h=>AA
 |i+1,h=>by
  by_cases e:j=i
  ·subst e;simp only[EJ,q,hd];have L:t<(EJ ops σ0 r ev j).slots.length:=by rw[Tm];exact J
   show((EJ ops σ0 r ev j).slots.set t (r j)).getD t .junk=_;simp[List.getD,L]
  have s:=U1 (r:=r) (ev:=ev) f q hd J i AA;simp only[EJ];split
  ·rename_i m u;cases z:m.dst with
   |none=>exact s
   |some d=>
    have I:d≠t:=fun e'=>e (f j i o m t q u hd (by rw[z,e']));show((EJ ops σ0 r ev i).slots.set d (r i)).getD t .junk=_;rw[←s];simp[List.getD,VI I]
  exact s
def aCn (h:VD ops=true):∀(i:Nat) (o:Oper),ops[i]? =some o→(∀(j:Nat) (q:Oper) (d:Tmp),ops[j]? =some q→q.dst=some d→d∈tmpsOf o→Fj o j=true∨Fj q i=true)∧(∀j b,o.guard=some (j,b)→Fj o j=true):=by
 intro i o u;unfold VD at h;rw[DZ]at h;have hi:i<ops.size:=(FN.1 u).1;have s:=h i FZ;rw[u]at s;simp only[CZ,DZ]at s;refine⟨fun j q d m hd z=>?_,fun j b I=>?_⟩
 ·have J:j<ops.size:=(FN.1 m).1;have f:=s.1 j jC;rw[m]at f;simp only[Af,hd,Yg,Qu]at f;rcases f with(f|f)|f
  ·have :(tmpsOf o).contains d=true:=SC
   rw[this]at f;cases f
  ·exact .inl f
  exact .inr f
 have f:=s.2;rw[I]at f;exact f
def Vh (ops:Array Oper) (bs:List Bool):Bool:=(List.range ops.size).all fun i=> !(bs.getD i false)||
 (((List.range i).all fun j=>(List.range (i+1)).any fun m=>decide (j<m)&&(match ops[m]? with |some o=>Fj o j|none=>false))&&
  ((List.range ops.size).all fun k=> !decide (i<k)||(List.range k).any fun m=>decide (i≤m)&&(match ops[k]? with |some o=>Fj o m|none=>false)))
def Uf {bs:List Bool} (h:Vh ops bs=true) {i:Nat} (hi:i<ops.size) (L:bs.getD i false=true) {D:Nat→Prop} (hd:∀(j:Nat) (o:Oper),ops[j]? =some o→D j→∀m,Fj o m=true→D m)
 (M:∀(o:Oper),ops[i]? =some o→∀m,Fj o m=true→D m):∀j,j<i→D j:=by
 unfold Vh at h;rw[DZ]at h;have u:=h i FZ;simp only[L,EU,KT,CZ,DZ]at u
 have key:∀n j,i-j≤n→j<i→D j:=by
  intro n
  induction n with
  |zero=>intro j O z;omega
  |succ n U=>
   intro j O z;have I:=u.1 j SC;rw[GI]at I;obtain⟨m,Y,J⟩:=I;simp only[o7]at Y;simp only[CZ,G8]at J;obtain⟨h6,f⟩:=J;have q:m<ops.size:=AA
   have s:ops[m]? =some ops[m]:=by simp[q]
   rw[s]at f;by_cases e:m=i
   ·subst e;exact M _ s j f
   exact hd m _ s (U m AA AA) j f
 exact fun j Z=>key (i-j) j (Dy _) Z
def wK {bs:List Bool} (h:Vh ops bs=true) {i:Nat} (hi:i<ops.size) (U:bs.getD i false=true) {D:Nat→Prop} (hd:∀(j:Nat) (o:Oper),ops[j]? =some o→D j→∀m,Fj o m=true→D m):
 ∀k,i<k→∀(o:Oper),ops[k]? =some o→(∀m,Fj o m=true→D m)→D i:=by
 unfold Vh at h;rw[DZ]at h;have I:=h i FZ;simp only[U,EU,KT,CZ,DZ]at I;intro k
 induction k using Nat.strongRecOn with
 |_ k Y=>
  intro u o J f;have Z:k<ops.size:=(FN.1 J).1;have L:=I.2 k dI;simp only[u,decide_true,EU,KT,GI]at L;obtain⟨m,M,O⟩:=L;simp only[o7]at M;simp only[CZ,G8,J]at O;obtain⟨h6,h7⟩:=O;have q:=f m h7;by_cases e:m=i
  ·subst e;exact q
  have z:m<ops.size:=AA
  have s:ops[m]? =some ops[m]:=by simp[z]
  exact Y m M AA _ s (hd m _ s q)
def V9 (ops:Array Oper):Bool:=(List.range ops.size).all fun i=>match ops[i]? with
 |some o=>o.after.toList.all fun(e:Edge)=> !Region.binds .any e||decide (e.on<i)
 |none=>true
def aGX (h:V9 ops=true):∀(i:Nat) (o:Oper),ops[i]? =some o→∀e∈o.after.toList,Region.binds .any e=true→e.on<i:=by
 intro i o f e j m;unfold V9 at h;rw[DZ]at h;have hi:i<ops.size:=(FN.1 f).1;have :=h i FZ;rw[f]at this;rw[DZ]at this;have :=this e j;simpa[m]using this
def AB.draw {id:Nat} {σ σ':Ap} {Q:Exit→Ap→Prop} {rs:List Ac} {ess:List (List BI)} {bs:List Bool} (hm:P.follows .mixedOrders=true) (Y:(V9 ops&&VN ops&&TK ops σ.slots.length&&VD ops)=true) (Z:Vh ops bs=true)
 (h:Ej P ops ops.toList σ rs ess bs σ') (hQ:Q .normal σ'):AB P (.region id ops true) σ Q:=by
 refine⟨fun ro _ C ok H a w hh=>?_⟩;simp only[CZ]at Y;obtain⟨⟨⟨he,hd⟩,hs⟩,hc⟩:=Y;have LU:=aGX he;have hinj:=aGa hd;have Y:=aCn hc
 have Fg:∀(i:Nat) (o:Oper) (d:Tmp),ops[i]? =some o→o.dst=some d→d<σ.slots.length:=by
  intro i o d h1 h2;unfold TK at hs;rw[DZ]at hs;simpa using hs d (aGQ h1 h2)
 let r:Nat→Ac:=fun i=>rs.getD i .junk
 let ev:Nat→List BI:=fun i=>ess.getD i []
 let bar:Nat→Bool:=fun i=>bs.getD i false
 obtain⟨FT,hend⟩:=h.facts σ r ev bar 0 (fun k=>BM) BM rfl (fun k y hy=>aFC) (fun k y hy=>aDo) (fun k y hy=>by simp[bar,List.getD,hy])
 let U:Nat→Ap:=EJ ops σ r ev
 have hU:∀i,i<ops.size→(U (i+1)).ents=ev i:=by
  intro i hi;have M:ops[i]? =some ops[i]:=Oj
  show(EJ ops σ r ev (i+1)).ents=_;simp only[EJ,M];rfl
 have hconst:∀n lo,(∀b,lo≤b→b<lo+n→bar b=false)→lo+n≤ops.size→(U (lo+n)).ents=(U lo).ents:=by
  intro n
  induction n with
  |zero=>intro lo _ _;rfl
  |succ n ih=>
   intro lo z hle;have h1:=ih lo (fun b h1 h2=>z b h1 AA) AA;have hi:lo+n<ops.size:=AA
   have M:ops[lo+n]? =some ops[lo+n]:=Oj
   have h2:=(FT (lo+n) _ AA M).2 (z (lo+n) AA AA);rw[←MV,hU _ hi,h2];exact h1
 have J:∀lo hi,lo≤hi→hi≤ops.size→(∀b,lo≤b→b<hi→bar b=false)→(U hi).ents=(U lo).ents:=by
  intro lo hi h1 h2 h3;obtain⟨n,rfl⟩:=aDV h1;exact hconst n lo h3 h2
 refine uV hm ?_
 let I:Array Bool→Act→World→Prop:=fun l a w=>l.size=ops.size∧∃ok H m,m≤ops.size∧(∀b,bar b=true→b<ops.size→(l.getD b false=true↔b<m))∧CX C ok H (U m).ents w∧a.tmps.size=σ.slots.length∧Marks C ok w a.defers∧
  (∀t,t<σ.slots.length→(∀(j:Nat) (o:Oper),ops[j]? =some o→o.dst=some t→l.getD j false=false)→R ok w H (σ.slots.getD t .junk) (a.tmps.getD t undef))∧
  (∀(i:Nat) (o:Oper) (d:Tmp),ops[i]? =some o→o.dst=some d→l.getD i false=true→R ok w H (r i) (a.tmps.getD d undef))∧
  (∀(j:Nat) (o:Oper),ops[j]? =some o→l.getD j false=true→∀i,Fj o i=true→l.getD i false=true)
 refine aBi I (fun l a w h=>h.1) ?_ ?_ ops.size _ _ _ ?_ ?_
 ·rintro l a w ⟨h1,ok,H,m,IV,u,hmem0,hsz,hdf,h5,h6,h7⟩ i hi;unfold Region.ready at hi;rw[FK]at hi;obtain⟨hi1,hi2⟩:=hi;have hi':i<ops.size:=Mid
  have M:ops[i]? =some ops[i]:=by simp[hi']
  simp only[CZ]at hi2;have LV:=hi2.2;rw[M]at LV;simp only[Hr,Lj]at LV;have abB:=fun e he=>(PK.1 LV) e he
  have hdone:∀j,Fj ops[i] j=true→l.getD j false=true∧j<i:=by
   intro j s;unfold Fj at s;rw[GI]at s;obtain⟨e,hee,s⟩:=s;simp only[CZ,G8]at s;have :=abB e aHf;simp only[s.2,EU,KT]at this;rw[s.1]at this;exact⟨this,s.1▸LU i _ M e hee s.2⟩
  have L:l.getD i false=false:=by
   have h8:=hi2.1;have hil:i<l.size:=AA
   simp[Array.getD,hil]at h8 ⊢;exact h8
  have O:∀(j:Nat) (o:Oper),ops[j]? =some o→l.getD j false=true→∀m,Fj o m=true→l.getD m false=true:=fun j o s hl m hm=>h7 j o s hl m hm
  have hmem:CX C ok H (U i).ents w:=by
   have hE:(U i).ents=(U m).ents:=by
    by_cases him:i≤m
    ·refine(J i m him IV (fun b h2 h3=>?_)).symm;rw[←Jg];intro z;have hbl:=(u b z AA).2 h3;by_cases e:b=i
     ·subst e;rw[L]at hbl;cases hbl
     have hob:ops[b]? =some (ops[b]' AA):=by simp[show b<ops.size by omega]
     have :=Uf Z (show b<ops.size by omega) z (D:=fun j=>l.getD j false=true) O (fun o M m hm=>O b o M hbl m hm) i AA;rw[L]at this;cases this
    refine J m i AA AA (fun b h2 h3=>?_);rw[←Jg];intro z;have :=wK Z (show b<ops.size by omega) z (D:=fun j=>l.getD j false=true) O i h3 _ M (fun m hm=>(hdone m hm).1);exact absurd ((u b z AA).1 this) AA
   rw[hE];exact hmem0
  have hread:∀t,t∈tmpsOf ops[i]→R ok w H ((EJ ops σ r ev i).slots.getD t .junk) (a.tmps.getD t undef):=by
   intro t ht;by_cases hw:∃(j:Nat) (o:Oper),ops[j]? =some o∧o.dst=some t
   ·obtain⟨j,o,s,q⟩:=hw;rcases(Y i _ M).1 j o t s q ht with hce|hce
    ·obtain⟨hdj,hji⟩:=hdone j hce;rw[U1 hinj s q (Fg j o t s q) i hji];exact h6 j o t s q hdj
    have hij:i<j:=by
     unfold Fj at hce;rw[GI]at hce;obtain⟨e,hee,hce⟩:=hce;simp only[CZ,G8]at hce;exact hce.1▸LU j _ s e hee hce.2
    rw[Rf i (fun j' o' hj' ho' hd'=>vI)];refine h5 t (Fg j o t s q) (fun j' o' ho' hd'=>?_);have hjj:=hinj j j' o o' t s ho' q hd';subst hjj;rw[←Jg];intro hd;rw[h7 j o s hd i hce]at L;cases L
   have hw':∀(j:Nat) (o:Oper),ops[j]? =some o→o.dst≠some t:=fun j o h1 h2=>hw ⟨j,o,h1,h2⟩;rw[Rf i (fun j o _ s=>hw' j o s)];by_cases htn:t<σ.slots.length
   ·exact h5 t htn (fun j o s q=>absurd q (hw' j o s))
   rw[Zu htn];exact .junk _
  have Qx:∀j d v,Fj ops[i] j=true→(ops[j]?).bind (·.dst)=some d→(EJ ops σ r ev i).slots.getD d .junk=.d (.lit v)→yielded ops a.tmps j=(match v with | .bool b=>some b|_=>none):=by
   intro j d v s q z;cases hoj:ops[j]? with
   |none=>rw[hoj]at q;simp at q
   |some oj=>
    rw[hoj]at q;simp only[Af]at q;obtain⟨hdj,hji⟩:=hdone j s;have hdn:=Fg j oj d hoj q;rw[U1 hinj hoj q hdn i hji]at z;have hv:=(z▸h6 j oj d hoj q hdj).bool
    have hs:a.tmps[d]? =some v:=by
     have :d<a.tmps.size:=by rw[hsz];exact hdn
     simp[Array.getD,this]at hv;simp[this,hv]
    unfold yielded;rw[hoj];simp only[Af,q,hs];cases v<;>rfl
  have hput:∀(x:Ac) (v:Value) (ok':Nat→Prop) (H':List Bc) (w':World),x=r i→Dw ok w ok' w'→Names H H'→CX C ok' H' (ev i) w'→R ok' w' H' x v→I (l.setIfInBounds i true) (a.put ops[i].dst v) w':=by
   intro x v ok' H' w' hx hgr hnm hmem' hR;subst hx
   have hother:∀(d t:Nat),ops[i].dst=some d→d≠t→(a.put ops[i].dst v).tmps.getD t undef=a.tmps.getD t undef:=by
    intro d t hd hne;rw[hd];exact aGn hne
   obtain⟨m',afI,YB,afJ⟩:∃m',m'≤ops.size∧(∀b,bar b=true→b<ops.size→((l.setIfInBounds i true).getD b false=true↔b<m'))∧CX C ok' H' (U m').ents w':=by
    have hget:∀b,b≠i→(l.setIfInBounds i true).getD b false=l.getD b false:=fun b z=>by
     simp only[Gh,JE (Ne.symm z)]
    have afK:(l.setIfInBounds i true).getD i false=true:=aF6
    cases hbi:bar i with
    |false=>
     refine⟨m,IV,fun b z hbs=>?_,?_⟩
     ·have hne:b≠i:=fun e=>by subst e;rw[hbi]at z;cases z
      rw[hget b hne];exact u b z hbs
     have h2:=(FT i _ AA M).2 hbi;rw[h2]at hmem'
     have hE:(U i).ents=(U m).ents:=by
      by_cases him:i≤m
      ·refine(J i m him IV (fun b h2 h3=>?_)).symm;rw[←Jg];intro z;have hbl:=(u b z AA).2 h3;by_cases e:b=i
       ·subst e;rw[L]at hbl;cases hbl
       have :=Uf Z (show b<ops.size by omega) z (D:=fun j=>l.getD j false=true) O (fun o M m hm=>O b o M hbl m hm) i AA;rw[L]at this;cases this
      refine J m i AA AA (fun b h2 h3=>?_);rw[←Jg];intro z;have :=wK Z (show b<ops.size by omega) z (D:=fun j=>l.getD j false=true) O i h3 _ M (fun m hm=>(hdone m hm).1);exact absurd ((u b z AA).1 this) AA
     rw[←hE];exact hmem'
    |true=>
     refine⟨i+1,AA,fun b z hbs=>?_,by rw[hU i hi'];exact hmem'⟩;by_cases e:b=i
     ·subst e;rw[afK];simp
     rw[hget b e];constructor
     ·intro hbl;apply Uy;intro hn;have :=Uf Z hbs z (D:=fun j=>l.getD j false=true) O (fun o M m hm=>O b o M hbl m hm) i AA;rw[L]at this;cases this
     intro hlt;exact Uf Z hi' hbi (D:=fun j=>l.getD j false=true) O (fun o ho' m hm=>by rw[M]at ho';obtain rfl:=CJ ho';exact(hdone m hm).1) b AA
   refine⟨by simp[h1],ok',H',m',afI,YB,afJ,aE6,aIA,?_,?_,?_⟩
   ·intro t ht hno
    have hne:ops[i].dst≠some t:=by
     intro e;have :=hno i _ M e;simp[Array.getD,h1,hi']at this
    have hold:(a.put ops[i].dst v).tmps.getD t undef=a.tmps.getD t undef:=by
     cases hdi:ops[i].dst with
     |none=>rfl
     |some d=>exact hdi▸hother d t hdi (fun e=>hne (by rw[hdi,e]))
    rw[hold];refine(h5 t ht (fun j o s q=>?_)).mono hgr hnm;have hij:i≠j:=fun e=>by subst e;rw[M]at s;obtain rfl:=CJ s;exact hne q
    have :=hno j o s q;simpa only[Gh,JE hij]using this
   ·intro k o d hk hkd hl;by_cases hik:i=k
    ·subst hik;rw[M]at hk;obtain rfl:=CJ hk;rw[hkd,aHP (by rw[hsz];exact Fg i _ d M hkd)];exact hR
    have hl':l.getD k false=true:=by
     simp only[Gh,JE hik]at hl ⊢;exact hl
    have :=(h6 k o d hk hkd hl').mono hgr hnm;cases hdst:ops[i].dst with
    |none=>exact this
    |some d'=>
     have hne:d'≠d:=fun e=>hik (hinj i k _ _ d' M hk hdst (e▸hkd));rw[←hdst,hother d' d hdst hne];exact this
   intro j o s hl k hk;have hil:i<l.size:=AA
   by_cases hik:i=k
   ·subst hik;simp[Array.getD,hil]
   have hkk:l.getD k false=true:=by
    by_cases hij:i=j
    ·subst hij;rw[M]at s;obtain rfl:=CJ s;exact(hdone k hk).1
    have hl':l.getD j false=true:=by
     simp only[Gh,JE hij]at hl ⊢;exact hl
    exact h7 j o s hl' k hk
   simp only[Gh,JE hik]at hkk ⊢;exact hkk
  unfold wpOpIn;rw[M];show if Region.wanted ops[i] (yielded ops a.tmps)=true then _ else _
  rcases(FT i ops[i] AA M).1 with⟨ns,hop,ZI,hnt,hg⟩|⟨hx,hev,hg⟩
  ·have hwant:Region.wanted ops[i] (yielded ops a.tmps)=true:=by
    unfold Region.wanted;rcases hg with hg|⟨j,want,d,b,hg,s,z,rfl⟩
    ·rw[hg]
    rw[hg];show(yielded ops a.tmps j==some b)=true;rw[Qx j d _ ((Y i _ M).2 j b hg) s z];simp
   rw[Ch hwant];refine Oy ?_ (hop.YA ro C ok H a w _ hmem (fun n hn=>?_))
   ·rintro a' w' ⟨v,ok',H',rfl,hgr,hnn,hm',hx⟩;exact hput _ v ok' H' w' rfl hgr hnn hm' hx
   have hnv:=O4 ZI n hn;obtain⟨x,y⟩:=n;simp only at hnv ⊢;subst hnv;cases x with
   |tmp t=>
    refine hread t ?_;rw[DZ]at hnt
    have :t∈MB ns:=by
     unfold MB;rw[RY];exact⟨_,hn,rfl⟩
    simpa using hnt t this
   |const v=>exact .d _ _ (.lit v)
   |global g=>exact .d _ _ (.lit _)
   |func f=>exact .d _ _ (.fn (.func f) [] [] #[] #[] rfl rfl (fun i hi=>MS) (fun i hi=>MS))
  have hwant:Region.wanted ops[i] (yielded ops a.tmps)=false:=by
   unfold Region.wanted;obtain⟨j,want,d,v,hg,s,z,hv⟩:=hg;rw[hg];show(yielded ops a.tmps j==some want)=false;rw[Qx j d _ ((Y i _ M).2 j want hg) s z];rcases hv with rfl|rfl
   ·simp
   rfl
  rw[D8 (by rw[hwant];simp)];exact⟨fun _ _=>trivial,hput _ _ ok H w hx.symm (.refl _ _) (.refl _) aEF (.d _ _ (.lit _))⟩
 ·rintro l a w ⟨h1,ok,H,m,IV,u,hmem,hsz,hdf,h5,h6,h7⟩ hr
  have hall:∀n i,i<n→i<ops.size→l.getD i false=true:=by
   intro n
   induction n with
   |zero=>intro i hi;omega
   |succ n ih=>
    intro i hi hi2;by_cases hn:i<n
    ·exact ih i hn hi2
    have hin:i=n:=AA
    subst hin;rw[←aFj];intro hf;have M:ops[i]? =some ops[i]:=by simp[hi2]
    have hmem:i∈Region.ready .any ops l:=by
     unfold Region.ready;rw[FK];refine⟨by simpa using hi2,?_⟩;have hil:i<l.size:=AA
     have hf':l.getD i true=false:=xu
     rw[hf',M];simp only[KI,Fr,Hr,Lj];rw[PK];intro e he;cases hbe:Region.binds .any e with
     |false=>simp
     |true=>
      have hlt:=LU i _ M e jY hbe;rw[ih e.on AA AA];simp
    rw[hr]at hmem;simp at hmem
  refine⟨ok,H,σ',?_,hQ⟩;subst hend
  have hE:(U ops.size).ents=(U m).ents:=J m ops.size IV (Dy _) (fun b h2 h3=>by
   rw[←Jg];intro z
   exact absurd ((u b z h3).1 (hall (b+1) b AA h3)) AA)
  refine⟨aKy,by rw[Tm];exact hsz,hdf,aD9,fun t ht=>?_⟩;rw[Tm]at ht;by_cases hw:∃(j:Nat) (o:Oper),ops[j]? =some o∧o.dst=some t
  ·obtain⟨j,o,s,q⟩:=hw;have hjn:j<ops.size:=(FN.1 s).1;rw[U1 hinj s q ht ops.size hjn];exact h6 j o t s q (hall (j+1) j AA hjn)
  have hw':∀(j:Nat) (o:Oper),ops[j]? =some o→o.dst≠some t:=fun j o h1 h2=>hw ⟨j,o,h1,h2⟩;rw[Rf ops.size (fun j o _ s=>hw' j o s)];exact h5 t ht (fun j o s q=>absurd q (hw' j o s))
 ·unfold toCome;simp
 refine⟨BM,ok,H,0,EH _,fun b z _=>aB6,?_,hh.size,hh.defers.mono (fun b z=>⟨z,rfl⟩),fun t ht _=>?_,fun i o d _ _ hl=>?_,fun j o _ hl=>?_⟩
 ·exact⟨⟨hh.mem.fr.os,hh.mem.fr.tape,hh.mem.fr.output,hh.mem.fr.size,hh.mem.fr.block⟩,hh.mem.wE,hh.mem.wF,hh.mem.jG,hh.mem.names,hh.mem.hlen,fun k e h h1 h2=>(hh.mem.ent k e h h1 h2).drew,hh.mem.blk,hh.mem.CW⟩
 ·exact R.mono (w:=w) (ok:=ok) (w':={ w with drawn:=w.drawn+1 }) (fun b z=>⟨z,rfl⟩) (.refl _) (hh.slot t ht)
 ·simp[Array.getD]at hl
 simp[Array.getD]at hl
end
def Ak (P:Program) (f:FuncId) (args:List Ac) (E:List BI) (m:Ac) (E':List BI):Prop:=
 ∀(ok:Nat→Prop) (X:List Nat) (H:List Bc) (w:World) (j:Array Value),CX ⟨w,ok,X,H⟩ ok H E w→j.size=args.length→(∀i,i<args.length→R ok w H (args.getD i .junk) (j.getD i undef))→
  Calls P f j w fun e w'=>∃v ok' H',e=.returned v∧CX ⟨w,ok,X,H⟩ ok' H' E' w'∧R ok' w' H' m v
def Holds.anr {C:Dv} {ok:Nat→Prop} {H:List Bc} {σ:Ap} {a:Act} {w:World} (h:Holds C ok H σ a w) (t:Nat):R ok w H (σ.slots.getD t .junk) (a.tmps.getD t undef):=h.get (.tmp t)
def Ap.enter (args:List Ac) (n:Nat) (E:List BI):Ap:=⟨args++List.replicate (n-args.length) .junk,E,E.length⟩
def R.lit {ok:Nat→Prop} {w:World} {H:List Bc} {u v:Value} (h:R ok w H (.d (.lit u)) v):v=u:=by
 cases h with |d _ _ h=>cases h;rfl
structure Dc (P:Program) (t:TypeId) (agg:Bool) (size:Nat):Prop where
 agg:∀w,(isAgg t).run P w=.ok agg w
 size:∀w,(sizeOf t).run P w=.ok size w
def aES (P:Program) (t:TypeId) (agg:Bool) (size:Nat):Bool:=
 (match P.underlying t with |some (.struct _)|some (.array _ _)=>agg|some _=> !agg|none=>false)&&(match P.info? t with |some i=>decide (i.size=size)|none=>false)
def El {P:Program} {t:TypeId} {agg:Bool} {size:Nat} (h:aES P t agg size=true):Dc P t agg size:=by
 unfold aES at h;simp only[CZ]at h;refine⟨fun w=>?_,fun w=>?_⟩
 ·have j:=h.1;cases m:P.underlying t with
  |none=>rw[m]at j;cases j
  |some d=>
   rw[m]at j;have e:(underlying t).run P w=.ok d w:=by simp[underlying,m]
   simp only[isAgg,Eh,e,Ep];cases d<;>cases agg<;>simp_all
 have f:=h.2;cases hi:P.info? t with
 |none=>rw[hi]at f;cases f
 |some i=>
  rw[hi]at f;have :i.size=size:=Ku
  simp[sizeOf,typeInfo,hi,this]
section
variable {P : Program} {o : Oper} {es : List BI}
def JC {α:Type} {p:α→Prop} {a:α} (h:∀n∈[a],p n):p a:=h a BM
def ER {α:Type} {p:α→Prop} {a b:α} (h:∀n∈[a,b],p n):p a∧p b:=⟨h a BM,h b BM⟩
def aqS {x:Operand} {v:Ac} (f:o.op=.move x):Bd P o [(x,v)] es v es:=
 .pure fun _ _ a _ _ _ j=>⟨a.eval x,by simp[execOp,f],j (x,v) BM⟩
def ah1 {x:Operand} {v:Ac} (f:o.op=.assign x):Bd P o [(x,v)] es v es:=
 .pure fun _ _ a _ _ _ j=>⟨a.eval x,by simp[execOp,f],j (x,v) BM⟩
def apf {c x y:Operand} {v:Ac} (b:Bool) (j:b=true) (m:o.op=.pick c x y):Bd P o [(c,.d (.lit (.bool b))),(x,v)] es v es:=
 .pure fun _ _ a _ _ _ f=>⟨a.eval x,by
  have :=(ER f).1.lit;simp only at this
  simp[execOp,m,this,asBool,j],(ER f).2⟩
def aft {c x y:Operand} {v:Ac} (b:Bool) (j:b=false) (m:o.op=.pick c x y):Bd P o [(c,.d (.lit (.bool b))),(y,v)] es v es:=
 .pure fun _ _ a _ _ _ f=>⟨a.eval y,by
  have :=(ER f).1.lit;simp only at this
  simp[execOp,m,this,asBool,j],(ER f).2⟩
def Ed {op:BinOp} {t t':TypeId} {x y:Operand} {u v r:Value} (q:o.op=.binOp op t x y t') (h:∀w,(binOp op t u v).run P w=.ok r w) (s:u.oneCell'=true∧u matches .int _ _| .string _| .bool _):
 Bd P o [(x,.d (.lit u)),(y,.d (.lit v))] es (.d (.lit r)) es:=
 .pure fun _ _ a w _ _ f=>⟨r,by
  have j:=(ER f).1.lit;have m:=(ER f).2.lit;simp only at j m
  have z:(eqGuard op t x y u v).run P w=.ok () w:=by
   unfold eqGuard;cases u<;>simp at s<;>(cases op<;>simp[pure,Sem.run_pure'])
  simp only[execOp,q,j,m,Eh,z,h w,Ep,FM],.d _ _ (.lit _)⟩
def aHa {op:UnOp} {t:TypeId} {x:Operand} {u r:Value} (j:o.op=.unOp op t x) (h:∀w,(Op.unary op u).run P w=.ok r w):Bd P o [(x,.d (.lit u))] es (.d (.lit r)) es:=
 .pure fun _ _ a w _ _ m=>⟨r,by
  have f:=(JC m).lit;simp only at f
  simp only[execOp,j,f,Eh,h w,Ep,FM],.d _ _ (.lit _)⟩
def aLF {s t:TypeId} {x:Operand} {u r:Value} (j:o.op=.convert s t x) (h:∀w,(convert s t u).run P w=.ok r w):Bd P o [(x,.d (.lit u))] es (.d (.lit r)) es:=
 .pure fun _ _ a w _ _ m=>⟨r,by
  have f:=(JC m).lit;simp only at f
  simp only[execOp,j,f,Eh,h w,Ep,FM],.d _ _ (.lit _)⟩
def aq4 {x:Operand} {i:Nat} {xs:List Ac} {v:Ac} (s:o.op=.extract x i) (z:xs[i]? =some v):Bd P o [(x,.eH xs)] es v es:=
 .pure fun ok H a w _ _ I=>by
  have j:=JC I;simp only at j;generalize J:a.eval x=u at j;cases j with
  |eH _ vs O h=>
   obtain⟨hi,m⟩:=F6.1 z;have q:=h i hi;have L:xs.getD i .junk=v:=by simp[List.getD,hi,m]
   have f:i<vs.size:=AA
   have M:vs.getD i undef=vs[i]:=by simp[Array.getD,f]
   rw[L,M]at q;exact⟨vs[i],by simp[execOp,s,J,Instr.extract,f],q⟩
def alm {x:Operand} {t e:TypeId} {xs:List D} (s:P.underlying t=some (.slice e)) (j:o.op=.call { callee:=.builtin .len,args:= #[x],argTypes:= #[t] }):
 Bd P o [(x,.d (.sl xs))] es (.d (.lit (.int .i64 xs.length))) es:=
 .pure fun ok H a w _ _ z=>by
  have f:=JC z;simp only at f;generalize m:a.eval x=u at f;have q:(underlying t).run P w=.ok (.slice e) w:=by simp[underlying,s]
  refine⟨_,?_,.d _ _ (.lit _)⟩;cases f with
  |d _ _ h=>
   cases h with
   |sl0 ad cap=>simp[execOp,j,resolve,invoke,builtin,Builtin.len_,m,q,goInt]
   |sl _ b off cap size=>simp[execOp,j,resolve,invoke,builtin,Builtin.len_,m,q,goInt]
def aje {x:Operand} {t:TypeId} {s:ByteArray} (j:P.underlying t=some .string) (m:o.op=.call { callee:=.builtin .len,args:= #[x],argTypes:= #[t] }):
 Bd P o [(x,.d (.lit (.string s)))] es (.d (.lit (.int .i64 s.size))) es:=
 .pure fun ok H a w _ _ q=>by
  have f:=(JC q).lit;simp only at f;have u:(underlying t).run P w=.ok .string w:=sO
  exact⟨_,by simp[execOp,m,resolve,invoke,builtin,Builtin.len_,f,u,goInt],.d _ _ (.lit _)⟩
def FY {es:List BI} {H:List Bc} {ok:Nat→Prop} {w:World} (m:∀(k:Nat) (e:BI) (h:Bc),es[k]? =some e→H[k]? =some h→EW ok w H h e) (q:H.length=es.length) {k:Nat} {e:BI} (j:es[k]? =some e):
 ∃h,H[k]? =some h∧EW ok w H h e:=by
 have f:k<H.length:=by rw[q];exact(F6.1 j).1
 exact⟨H[k],VA,m k e _ j VA⟩
def ak0 {x:Operand} {t e e':TypeId} {k s:Nat} {xs:List D} (M:es[k]? =some (.arr e' s xs)) (O:P.underlying t=some (.slice e)) (U:o.op=.call { callee:=.builtin .len,args:= #[x],argTypes:= #[t] }):
 Bd P o [(x,.aS k)] es (.d (.lit (.int .i64 xs.length))) es:=
 .pure fun ok H a w f Y Z=>by
  have j:=JC Z;simp only at j;generalize he:a.eval x=u at j;have hu:(underlying t).run P w=.ok (.slice e) w:=by simp[underlying,O]
  obtain⟨h,hh,m⟩:=FY f Y M;refine⟨_,?_,.d _ _ (.lit _)⟩;cases j with
  |aS _ ad n cap s' J=>
   rw[hh]at J;obtain rfl:=CJ J;obtain⟨_,_,ys,⟨_,q⟩,_⟩:=m
   have z:n=xs.length:=by
    rcases q with⟨I,h3⟩|⟨g,L,cur,I,_⟩
    ·simp at I;omega
    simp at I;omega
   subst z;simp[execOp,U,resolve,invoke,builtin,Builtin.len_,he,hu,goInt]
structure DF (P:Program) (t:TypeId) (f off:Nat):Prop where
 run:∀(b o:Nat) w,(Instr.fieldAt t (.pointer (some ⟨b,o,none⟩)) f).run P w=.ok (.pointer (some ⟨b,o+off,none⟩)) w
def abV (P:Program) (t:TypeId) (f off:Nat):Bool:=
 match P.underlying t with
 |some (.struct m)=>match m[f]? with
  |some j=>decide (j.offset=off)&&(match P.info? j.type with |some i=>decide (i.size≠0)|none=>false)
  |none=>false
 |_=>false
def DK {P:Program} {t:TypeId} {f off:Nat} (h:abV P t f off=true):DF P t f off:=by
 unfold abV at h;refine⟨fun b o w=>?_⟩;split at h
 ·rename_i q s;split at h
  ·rename_i u z;simp only[CZ,G8]at h;obtain⟨I,j⟩:=h;split at j
   ·rename_i i hi;have J:(sizeOf u.type).run P w=.ok i.size w:=by simp[sizeOf,typeInfo,hi]
    have L:i.size≠0:=MF
    have m:(underlying t).run P w=.ok (.struct q) w:=by simp[underlying,s]
    simp[Instr.fieldAt,m,z,Instr.sureAddr,fieldPlace,J,L,addr_add,I]
   cases j
  cases h
 cases h
def afo {x:Operand} {t:TypeId} {f off j:Nat} {cs:List D} (z:DF P t f off) (I:o.op=.fieldAddr t x f):Bd P o [(x,.d (.ref cs j))] es (.d (.ref cs (j+off))) es:=
 .pure fun ok H a w _ _ J=>by
  have m:=JC J;simp only at m;generalize L:a.eval x=u at m;cases m with
  |d _ _ h=>
   cases h with
   |ref _ _ b p q s M O=>
    refine⟨.pointer (some ⟨b,p+(j+off),none⟩),?_,.d _ _ (.ref cs (j+off) b p q s M O)⟩;simp only[execOp,I,L,Eh,z.run,Ep,FM,MV]
def afy {x:Operand} {t:TypeId} {f off k j:Nat} (q:DF P t f off) (z:o.op=.fieldAddr t x f):Bd P o [(x,.ptr k j)] es (.ptr k (j+off)) es:=
 .pure fun ok H a w _ _ I=>by
  have m:=JC I;simp only at m;generalize J:a.eval x=u at m;cases m with
  |ptr _ _ b s h=>
   refine⟨.pointer (some ⟨b,j+off,none⟩),?_,.ptr _ _ b s h⟩;simp only[execOp,z,J,Eh,q.run,Ep,FM]
def ag0 {x:Operand} {t:TypeId} {f off k i j:Nat} (q:DF P t f off) (z:o.op=.fieldAddr t x f):Bd P o [(x,.kK k i j)] es (.kK k i (j+off)) es:=
 .pure fun ok H a w _ _ I=>by
  have m:=JC I;simp only at m;generalize J:a.eval x=u at m;cases m with
  |kK _ _ _ b n cap s h=>
   refine⟨.pointer (some ⟨b,i*s+(j+off),none⟩),?_,.kK _ _ _ b n cap s h⟩;simp only[execOp,z,J,Eh,q.run,Ep,FM,MV]
def ajG {x y:Operand} {t e:TypeId} {k:IntKind} {i:Int} {xs:List D} {s:D} {agg:Bool} {size:Nat} (ht:P.underlying t=some (.slice e)) (hT:Dc P e agg size) (h0:0≤i) (hi:xs[i.toNat]? =some s) (z:s.cells.length=size)
 (ho:o.op=.indexAddr t x y):Bd P o [(x,.d (.sl xs)),(y,.d (.lit (.int k i)))] es (.d (.ref s.cells 0)) es:=
 .pure fun ok H a w _ _ U=>by
  have I:=(ER U).1;have Y:=(ER U).2.lit;simp only at I Y;generalize he:a.eval x=u at I;have hu:(underlying t).run P w=.ok (.slice e) w:=aFz
  obtain⟨m,J⟩:=F6.1 hi;cases I with
  |d _ _ h=>
   cases h with
   |sl0 ad cap=>simp at m
   |sl _ b off cap f Z L M hf hx hc=>
    have hd:xs.getD i.toNat DL=s:=by simp[List.getD,m,J]
    have O:f=size:=by rw[←M _ m,hd,z]
    subst O;refine⟨.pointer (some ⟨b,off+i.toNat*f+0,none⟩),?_,.d _ _ (.ref s.cells 0 b (off+i.toNat*f) (fun h=>L AA (by rw[z]at h;exact h)) ?_ ?_ ?_)⟩
    ·have hlen:0≤i∧i<(xs.length:Int):=⟨h0,AA⟩
     simp only[execOp,ho,he,Y,Instr.indexAt,asIntOf,Eh,FM,hu,Ep,Sem.run_ite,hlen,and_self,KE,hT.size,addr_add,O6]
    ·intro j q;rw[z]at q;rw[←hd];exact hf _ m j q
    ·intro j q;rw[z]at q;rw[MV];exact hx _ m j q
    intro j q;rw[z]at q;rw[MV,←hd];exact hc _ m j q
def aoR {x y:Operand} {t e e':TypeId} {kd:IntKind} {i:Int} {k size:Nat} {xs:List D} {agg:Bool} (U:es[k]? =some (.arr e' size xs)) (Y:P.underlying t=some (.slice e)) (Z:Dc P e agg size) (h0:0≤i) (hi:i.toNat<xs.length)
 (ho:o.op=.indexAddr t x y):Bd P o [(x,.aS k),(y,.d (.lit (.int kd i)))] es (.kK k i.toNat 0) es:=
 .pure fun ok H a w j hl z=>by
  have m:=(ER z).1;have I:=(ER z).2.lit;simp only at m I;generalize he:a.eval x=u at m;have hu:(underlying t).run P w=.ok (.slice e) w:=by simp[underlying,Y]
  obtain⟨h,J,q⟩:=FY j hl U;cases m with
  |aS _ ad n cap s' L=>
   rw[J]at L;obtain rfl:=CJ L;obtain⟨M,_,ys,⟨_,s⟩,_⟩:=q;simp only at M;subst M;rcases s with⟨f,h3⟩|⟨g,O,cur,f,_⟩
   ·omega
   simp only[aT]at f;obtain⟨rfl,rfl,rfl⟩:=f;refine⟨.pointer (some ⟨g,i.toNat*s'+0,none⟩),?_,.kK _ _ _ _ _ _ _ J⟩;have hlen:0≤i∧i<(xs.length:Int):=⟨h0,AA⟩
   simp only[execOp,ho,he,I,Instr.indexAt,asIntOf,Eh,FM,hu,Ep,Sem.run_ite,hlen,and_self,KE,Z.size,addr_add,Ik,O6]
def ahM {x y:Operand} {t:TypeId} {k:IntKind} {i:Int} {s:ByteArray} {c:UInt8} (q:P.underlying t=some .string) (u:0≤i) (hi:s[i.toNat]? =some c) (z:o.op=.index t x y):
 Bd P o [(x,.d (.lit (.string s))),(y,.d (.lit (.int k i)))] es (.d (.lit (.int .u8 c.toNat))) es:=
 .pure fun ok H a w _ _ f=>by
  have j:=(ER f).1.lit;have m:=(ER f).2.lit;simp only at j m;have I:(underlying t).run P w=.ok .string w:=by simp[underlying,q]
  exact⟨_,by simp only[execOp,z,j,m,Instr.index,asIntOf,Eh,FM,I,Ep,u,KE,hi],.d _ _ (.lit _)⟩
def I4 (l:List Ac):List D:=l.map fun | .d x=>x|_=>DL
def Ac.yI:Ac→Bool
 | .d _=>true
 |_=>false
def R.toD {ok:Nat→Prop} {w:World} {H:List Bc} {x:Ac} {v:Value} (h:R ok w H x v) (hd:x.yI=true):DT ok w ((fun | .d x=>x|_=>DL) x) v:=by
 cases h with
 |d _ _ h=>exact h
 |_=>simp[Ac.yI]at hd
def Nu (agg:Bool) (cs:List D) (off n:Nat):D:=if agg then .agg ((cs.drop off).take n)else cs.getD off DL
def aAI {P:Program} {ok:Nat→Prop} {w:World} {t:TypeId} {agg:Bool} {n b p off:Nat} {cs:List D} (I:Dc P t agg n) (Y:off+n≤cs.length) (L:agg=false→n=1)
 (M:∀i,i<cs.length→(cs.getD i DL).leaf=true) (O:∀j,j<cs.length→(w.cell? ⟨b,p+j,none⟩).isSome=true) (J:∀j,j<cs.length→DT ok w (cs.getD j DL) (cellAt w b (p+j))):
 ∃v,(Instr.loadAt t (.pointer (some ⟨b,p+off,none⟩))).run P w=.ok v w∧DT ok w (Nu agg cs off n) v:=by
 have f:∀j,j<cs.length→w.cell? ⟨b,p+j,none⟩=some (cellAt w b (p+j)):=by
  intro j q;have :=O j q;obtain⟨u,U⟩:=U0.1 this;simp[cellAt,U]
 cases agg with
 |false=>
  have :=L rfl;subst this;refine⟨cellAt w b (p+off),?_,J off AA⟩;have z:=f off AA;simp[Instr.loadAt,Instr.sureAddr,loadVar,I.agg,z]
 |true=>
  let vs:Array Value:=((List.range n).map fun j=>cellAt w b (p+(off+j))).toArray
  have m:vs.size=n:=by simp[vs]
  have s:∀j,j<n→vs.getD j undef=cellAt w b (p+(off+j)):=by
   intro j q;simp[vs,Array.getD,q]
  refine⟨.agg vs,?_,?_⟩
  ·simp only[Instr.loadAt,Instr.sureAddr,Eh,FM,Ep]
   have h:=ap1 (P:=P) w t b (p+off) vs (I.agg w) (by rw[m];exact I.size w) (fun j q=>by
    rw[m]at q;rw[s j q,MV]
    exact f (off+j) AA)
   exact h
  simp only[Nu,KE];have hlen:((cs.drop off).take n).length=n:=E5
  have z:∀i,i<n→((cs.drop off).take n).getD i DL=cs.getD (off+i) DL:=by
   intro i hi;simp[List.getD,Ll hi,OQ]
  refine .agg _ vs (by rw[hlen,m]) (fun i hi=>?_) (fun i hi=>?_)
  ·rw[hlen]at hi;rw[z i hi];exact M _ AA
  rw[hlen]at hi;rw[z i hi,s i hi];exact J _ AA
def aqx {x:Operand} {t:TypeId} {agg:Bool} {n off:Nat} {cs:List D} (m:Dc P t agg n) (q:off+n≤cs.length) (s:agg=false→n=1) (z:o.op=.load t x):
 Bd P o [(x,.d (.ref cs off))] es (.d (Nu agg cs off n)) es:=
 .pure fun ok H a w _ _ j=>by
  have f:=JC j;simp only at f;generalize I:a.eval x=u at f;cases f with
  |d _ _ h=>
   cases h with
   |ref _ _ b p J L M O=>
    obtain⟨v,U,hd⟩:=aAI m q s L M O;exact⟨v,by simp only[execOp,z,I,Eh,U,Ep,FM],.d _ _ hd⟩
def lD (l:List Ac):(I4 l).length=l.length:=by simp[I4]
def abJ {l:List Ac} {i:Nat} (h:i<l.length):(I4 l).getD i DL=(fun | .d x=>x|_=>DL) (l.getD i .junk):=by
 simp[I4,List.getD,h]
def aEH {ok:Nat→Prop} {w:World} {H:List Bc} {h:Bc} {cs:List Ac} (J:EW ok w H h (.box cs)) (hd:cs.all Ac.yI=true):
 ∃b,h.v=.pointer (some ⟨b,0,none⟩)∧(∀i,i<(I4 cs).length→((I4 cs).getD i DL).leaf=true)∧(∀j,j<(I4 cs).length→(w.cell? ⟨b,0+j,none⟩).isSome=true)∧(∀j,j<(I4 cs).length→DT ok w ((I4 cs).getD j DL) (cellAt w b (0+j))):=by
 obtain⟨b,vs,T,L,M,O,s⟩:=J;rw[DZ]at hd
 have f:∀j,j<cs.length→w.cell? ⟨b,0+j,none⟩=some (vs.toList.getD j undef):=by
  intro j m;rw[Ik];have q:j<vs.size:=by simpa using(by omega:j<vs.toList.length)
  simp[World.cell?,M,q,List.getD]
 refine⟨b,L,fun i hi=>?_,fun j m=>?_,fun j m=>?_⟩
 ·rw[lD]at hi;rw[abJ hi];have u:=(s i hi).1;have z:=hd (cs.getD i .junk) KR;cases I:cs.getD i .junk with
  |d x=>rw[I]at u;exact u
  |_=>rw[I]at z;simp[Ac.yI]at z
 ·rw[lD]at m;rw[f j m];rfl
 rw[lD]at m;rw[abJ m];unfold cellAt;rw[f j m];exact(s j m).2.toD (hd (cs.getD j .junk) (by simp[List.getD,m]))
def agO {x:Operand} {t:TypeId} {agg:Bool} {k n off:Nat} {cs:List Ac} (L:es[k]? =some (.box cs)) (hd:cs.all Ac.yI=true) (M:Dc P t agg n) (O:off+n≤cs.length) (U:agg=false→n=1) (Y:o.op=.load t x):
 Bd P o [(x,.ptr k off)] es (.d (Nu agg (I4 cs) off n)) es:=
 .pure fun ok H a w j Z m=>by
  have f:=JC m;simp only at f;generalize he:a.eval x=u at f;obtain⟨h,hh,q⟩:=FY j Z L;obtain⟨b,z,hf,hx,hc⟩:=aEH q hd;cases f with
  |ptr _ _ b' s I=>
   rw[hh]at I;obtain rfl:=CJ I;simp at z;subst z;obtain⟨v,J,hD⟩:=aAI M (by rw[lD];exact O) U hf hx hc;rw[Ik]at J;exact⟨v,by simp only[execOp,Y,he,Eh,J,Ep,FM],.d _ _ hD⟩
def aJL {x:Operand} {t:TypeId} {k off:Nat} {cs:List Ac} {v:Ac} (O:es[k]? =some (.box cs)) (U:cs[off]? =some v) (Y:Dc P t false 1) (Z:o.op=.load t x):Bd P o [(x,.ptr k off)] es v es:=
 .pure fun ok H a w m hl z=>by
  have j:=JC z;simp only at j;generalize he:a.eval x=u at j;obtain⟨h,hh,b,vs,T,J,h2,h3,h4⟩:=FY m hl O;cases j with
  |ptr _ _ b' s L=>
   rw[hh]at L;obtain rfl:=CJ L;simp at J;subst J;obtain⟨q,I⟩:=F6.1 U;have M:=(h4 off q).2;have e1:cs.getD off .junk=v:=by simp[List.getD,q,I]
   have f:off<vs.size:=by simpa using(by omega:off<vs.toList.length)
   have e2:vs.toList.getD off undef=vs[off]:=by simp[List.getD,f]
   rw[e1,e2]at M;refine⟨vs[off],?_,M⟩;have hc:w.cell? ⟨b',off,none⟩=some vs[off]:=by simp[World.cell?,h2,f]
   simp[execOp,Z,he,Instr.loadAt,Instr.sureAddr,loadVar,Y.agg,hc]
end
def CX.change {C:Dv} {ok ok':Nat→Prop} {H H':List Bc} {es es':List BI} {w w':World} (j:CX C ok H es w) (B:Nat→Prop)
 (hos:w'.os=w.os) (M:w'.tape=w.tape) (hout:w'.output=w.output) (m:w.heap.size≤w'.heap.size)
 (I:∀b,b<w.heap.size→¬B b→w'.heap[b]? =w.heap[b]?) (hB:∀b,B b→b<w.heap.size→¬ok b∧(C.w0.heap.size≤b∨b∈C.X))
 (hok:∀b,ok b→ok' b) (J:∀b,ok' b→ok b∨(w.heap.size≤b∧b<w'.heap.size)) (s:Names H H') (hlen:H'.length=es'.length)
 (u:∀(k:Nat) (e:BI) (h:Bc),es'[k]? =some e→H'[k]? =some h→
  (es[k]? =some e∧H[k]? =some h∧(e.live=true→∀b,DC h.v=some b→¬B b))∨
  (EW ok' w' H' h e∧(e.live=true→∀b,DC h.v=some b→¬ok' b∧b<w'.heap.size∧(C.w0.heap.size≤b∨b∈C.X)∧
   ∀(k':Nat) (e':BI) (h':Bc),k'≠k→es'[k']? =some e'→e'.live=true→H'[k']? =some h'→DC h'.v≠some b))):
 CX C ok' H' es' w'∧Dw ok w ok' w':=by
 have hg:Dw ok w ok' w':=fun b f=>⟨hok b f,I b (j.jG b f) (fun q=>(hB b q (j.jG b f)).1 f)⟩
 refine⟨⟨⟨hos.trans j.fr.os,M.trans j.fr.tape,hout.trans j.fr.output,EZ j.fr.size m,fun k hk hx=>?_⟩,fun b f=>hok b (j.wE b f),?_,?_,j.names.trans s,hlen,?_,?_,?_⟩,hg⟩
 ·have hkw:k<w.heap.size:=Ud hk j.fr.size;rw[I k hkw (fun f=>(hB k f hkw).2.elim (fun h=>AA) hx)];exact j.fr.block k hk hx
 ·intro b f;rcases J b f with h|⟨h,_⟩
  ·exact j.wF b h
  exact .inr (.inl (EZ j.fr.size h))
 ·intro b f;rcases J b f with h|⟨_,h⟩
  ·exact Ud (j.jG b h) m
  exact h
 ·intro k e h Z hh;rcases u k e h Z hh with⟨z,h2,h3⟩|⟨z,_⟩
  ·exact(j.ent k e h z h2).mono hg s (fun L b f=>I b (j.blk k e h b z L h2 f).2.1 (h3 L b f))
  exact z
 ·intro k e h b Z L hh f;rcases u k e h Z hh with⟨z,h2,h3⟩|⟨_,z⟩
  ·have :=j.blk k e h b z L h2 f;refine⟨fun q=>?_,Ud this.2.1 m,this.2.2⟩;rcases J b q with h4|⟨h4,_⟩
   ·exact this.1 h4
   omega
  exact⟨(z L b f).1,(z L b f).2.1,(z L b f).2.2.1⟩
 intro k k' e e' h h' b Z he' L O hh hh' f q;apply Uy;intro U;rcases u k e h Z hh with⟨z,h2,h3⟩|⟨_,z⟩
 ·rcases u k' e' h' he' hh' with⟨Y,h2',h3'⟩|⟨_,Y⟩
  ·exact U (j.CW k k' e e' h h' b z Y L O h2 h2' f q)
  exact(Y O b q).2.2.2 k e h U Z L hh f
 exact(z L b f).2.2.2 k' e' h' (fun e=>U e.symm) he' O hh' q
def uS {α:Type} {l:List α} {i:Nat} {z:α} (h:i<l.length):l.getD i z=l[i]:=by simp[List.getD,h]
def V6 {α:Type} {l:List α} {a x:α} {k:Nat} (h:(l++[a])[k]? =some x):l[k]? =some x∨(k=l.length∧x=a):=by
 by_cases j:k<l.length
 ·rw[G6 j]at h;exact .inl h
 have f:=(F6.1 h).1;simp at f;have :k=l.length:=AA
 subst this;simp at h;exact .inr ⟨rfl,h.symm⟩
def CX.push {C:Dv} {ok:Nat→Prop} {H:List Bc} {es:List BI} {w:World} (f:CX C ok H es w) (o:Obj) (h:Bc) (e:BI) (z:∀b,DC h.v=some b→b=w.heap.size)
 (he:EW ok (w.alloc o) (H++[h]) h e):CX C ok (H++[h]) (es++[e]) (w.alloc o)∧Dw ok w ok (w.alloc o):=by
 refine f.change (fun _=>False) rfl rfl rfl BM (fun b z _=>Iz _ _ _ z) (fun _ h=>h.elim) (fun _ h=>h) (fun _ h=>.inl h) (Names.push _ _) (by simp[f.hlen]) ?_;intro k e' h' I m;rcases V6 I with u|⟨u,h2⟩
 ·left;refine⟨u,?_,fun _ _ _ h=>h⟩;have J:k<H.length:=by rw[f.hlen];exact(F6.1 u).1
  rwa [G6 J]at m
 subst h2;have J:k=H.length:=by rw[f.hlen];exact u
 subst J;simp at m;subst m;refine .inr ⟨he,fun _ b L=>?_⟩;obtain rfl:=z b L;refine⟨fun q=>absurd (f.jG _ q) AA,BM,.inl f.fr.size,fun k' M O U Y hl j s=>?_⟩;rcases V6 Y with q|⟨q,_⟩
 ·have Z:k'<H.length:=by rw[f.hlen];exact(F6.1 q).1
  rw[G6 Z]at j;exact absurd (f.blk k' M O _ q hl j s).2.1 AA
 rw[←f.hlen]at q;exact U q
def CX.fresh {C:Dv} {ok:Nat→Prop} {H:List Bc} {es:List BI} {w:World} (f:CX C ok H es w) (o:Obj):
 CX C (fun b=>ok b∨b=w.heap.size) H es (w.alloc o)∧Dw ok w (fun b=>ok b∨b=w.heap.size) (w.alloc o):=by
 refine f.change (fun _=>False) rfl rfl rfl BM (fun b j _=>Iz _ _ _ j) (fun _ h=>h.elim) (fun _ h=>.inl h) (fun b h=>?_) (.refl _) f.hlen ?_
 ·rcases h with h|rfl
  ·exact .inl h
  exact .inr ⟨Dy _,BM⟩
 intro k e h m q;exact .inl ⟨m,q,fun _ _ _ h=>h⟩
def CX.drew {C:Dv} {ok:Nat→Prop} {H:List Bc} {es:List BI} {w:World} (f:CX C ok H es w):CX C ok H es w.drew∧Dw ok w ok w.drew:=
 f.change (fun _=>False) rfl rfl rfl (Dy _) (fun _ _ _=>rfl) (fun _ h=>h.elim) (fun _ h=>h) (fun _ h=>.inl h) (.refl _) f.hlen fun _ _ _ j m=>.inl ⟨j,m,fun _ _ _ h=>h⟩
def EW.dead {ok:Nat→Prop} {w:World} {H:List Bc} {h:Bc}:EW ok w H h .dead:=trivial
def R.ac6 {ok:Nat→Prop} {w:World} {H:List Bc} {x:Ac} {v:Value} (h:R ok w H x v) (u:x.cells.all Ac.leaf=true):FB ok w H x.cells v.cells.toList:=by
 rw[DZ]at u;cases h with
 |d x v h=>
  cases h with
  |agg cs vs O L U=>
   refine⟨by simp[Ac.cells,D.cells,Value.cells,O],fun i hi=>?_⟩;simp only[Ac.cells,D.cells,Cb]at hi;have Y:(Ac.cells (.d (.agg cs))).getD i .junk=.d (cs.getD i DL):=by simp[Ac.cells,D.cells,List.getD,hi]
   have z:i<vs.size:=AA
   have M:(Value.cells (.agg vs)).toList.getD i undef=vs.getD i undef:=aKE
   rw[Y,M];exact⟨L i hi,.d _ _ (U i hi)⟩
  |lit v=>
   have m:=u (.d (.lit v)) (by simp[Ac.cells,D.cells]);have e:v.cells= #[v]:=by cases v<;>first|rfl|(simp[Ac.leaf,D.leaf,Value.oneCell']at m)
   refine⟨by simp[Ac.cells,D.cells,e],fun i hi=>?_⟩;simp[Ac.cells,D.cells]at hi;subst hi;rw[e];exact⟨m,.d _ _ (.lit v)⟩
  |sl0 ad cap=>
   refine⟨rfl,fun i hi=>?_⟩;simp[Ac.cells,D.cells]at hi;subst hi;exact⟨rfl,.d _ _ (.sl0 ad cap)⟩
  |sl es b off cap size m q I J Z h6=>
   refine⟨rfl,fun i hi=>?_⟩;simp[Ac.cells,D.cells]at hi;subst hi;exact⟨rfl,.d _ _ (.sl es b off cap size m q I J Z h6)⟩
  |ref cs off b o m q I J=>
   refine⟨rfl,fun i hi=>?_⟩;simp[Ac.cells,D.cells]at hi;subst hi;exact⟨rfl,.d _ _ (.ref cs off b o m q I J)⟩
  |fn f first cap vs us m q I J=>
   refine⟨rfl,fun i hi=>?_⟩;simp[Ac.cells,D.cells]at hi;subst hi;exact⟨rfl,.d _ _ (.fn f first cap vs us m q I J)⟩
  |LK t x v m=>
   refine⟨rfl,fun i hi=>?_⟩;simp[Ac.cells,D.cells]at hi;subst hi;exact⟨rfl,.d _ _ (.LK t x v m)⟩
 |ptr k off b s h=>
  exact⟨rfl,fun i hi=>by simp[Ac.cells]at hi;subst hi;exact⟨rfl,.ptr k off b s h⟩⟩
 |aS k ad n cap s h=>
  exact⟨rfl,fun i hi=>by simp[Ac.cells]at hi;subst hi;exact⟨rfl,.aS k ad n cap s h⟩⟩
 |kK k i off b n cap s h=>
  exact⟨rfl,fun j hi=>by simp[Ac.cells]at hi;subst hi;exact⟨rfl,.kK k i off b n cap s h⟩⟩
 |fn f first cap vs us m q I J=>
  exact⟨rfl,fun i hi=>by simp[Ac.cells]at hi;subst hi;exact⟨rfl,.fn f first cap vs us m q I J⟩⟩
 |mp k v s u h=>
  have e:v.cells= #[v]:=by cases v<;>first|rfl|(simp[Value.oneCell']at u)
  exact⟨by simp[Ac.cells,e],fun j hi=>by simp[Ac.cells]at hi;subst hi;rw[e];exact⟨rfl,.mp k v s u h⟩⟩
 |clip xs ad h=>exact⟨rfl,fun i hi=>by simp[Ac.cells]at hi;subst hi;exact⟨rfl,.clip xs ad h⟩⟩
 |uI k ad n cap s h=>exact⟨rfl,fun i hi=>by simp[Ac.cells]at hi;subst hi;exact⟨rfl,.uI k ad n cap s h⟩⟩
 |eH xs vs m q=>have :=u (.eH xs) (by simp[Ac.cells]);simp[Ac.leaf]at this
 |ag xs vs m L q=>
  refine⟨by simp[Ac.cells,Value.cells,m],fun i hi=>?_⟩;have z:i<vs.size:=by rw[m];exact hi
  have M:(Value.cells (.agg vs)).toList.getD i undef=vs.getD i undef:=aKE
  rw[M];exact⟨L i hi,q i hi⟩
 |junk v=>have :=u .junk (by simp[Ac.cells]);simp[Ac.leaf]at this
section
variable {P : Program} {o : Oper} {es : List BI}
def zU (w:World):∀b,DC (Bc.v ⟨.pointer (some ⟨w.heap.size,0,none⟩),0⟩)=some b→b=w.heap.size:=fun b f=>by simpa[DC]using f.symm
def Bd.eff {ns:List (Operand×Ac)} {x:Ac} {es':List BI}
 (h:∀(C:Dv) (ok:Nat→Prop) (H:List Bc) (a:Act) (w:World),CX C ok H es w→(∀n∈ns,R ok w H n.2 (a.eval n.1))→
  ∃v w' ok' H',((execOp a.eval o).run P w=.ok (.value v) w'∨(v=undef∧(execOp a.eval o).run P w=.ok .skip w'))∧Dw ok w ok' w'∧Names H H'∧CX C ok' H' es' w'∧R ok' w' H' x v):Bd P o ns es x es':=by
 intro C ok H a w Q u z;obtain⟨v,w',ok',H',f,j,m,q,s⟩:=h C ok H a w u z;unfold Oper.wp;rcases f with f|⟨rfl,f⟩
 ·rw[f];exact⟨v,ok',H',rfl,j,m,q,s⟩
 rw[f];exact⟨undef,ok',H',rfl,j,m,q,s⟩
def arG {t:TypeId} {x:Operand} {v:Ac} (q:v.cells.all Ac.leaf=true) (s:o.op=.box t x):Bd P o [(x,v)] es (.ptr es.length 0) (es++[.box v.cells]):=
 .eff fun C ok H a w j u=>by
  have m:=JC u;simp only at m
  have f:EW ok (w.alloc (.cells (a.eval x).cells t)) (H++[⟨.pointer (some ⟨w.heap.size,0,none⟩),0⟩]) ⟨.pointer (some ⟨w.heap.size,0,none⟩),0⟩ (.box v.cells):=
   ⟨w.heap.size,(a.eval x).cells,t,rfl,Wv w _,(m.ac6 q).mono (fun b f=>⟨f,Iz _ _ _ (j.jG b f)⟩) (Names.push _ _)⟩
  obtain⟨z,I⟩:=j.push (.cells (a.eval x).cells t) ⟨.pointer (some ⟨w.heap.size,0,none⟩),0⟩ _ (zU w) f;refine⟨_,_,ok,_,.inl ?_,I,Names.push _ _,z,.ptr _ _ w.heap.size 0 qB⟩;simp[execOp,s,Instr.box,newVar,newRow]
def NH :Value→D
 | .slice none 0 0=>.sl []
 |v=>.lit v
def eI {ok:Nat→Prop} {w:World} (v:Value):DT ok w (NH v) v:=by
 unfold NH;split
 ·exact .sl0 none 0
 exact .lit v
def lN {v:Value} (h:v.oneCell'=true):(NH v).leaf=true:=by
 unfold NH;split
 ·rfl
 exact h
def Eo (z:Value):List Ac:=z.cells.toList.map fun v=>.d (NH v)
def aju {t:TypeId} {z:Value} (m:(P.info? t).bind (·.zero)=some z) (q:z.cells.all (·.oneCell')=true) (s:o.op=.alloc t):Bd P o [] es (.ptr es.length 0) (es++[.box (Eo z)]):=
 .eff fun C ok H a w j O=>by
  have u:EW ok (w.alloc (.cells z.cells t)) (H++[⟨.pointer (some ⟨w.heap.size,0,none⟩),0⟩]) ⟨.pointer (some ⟨w.heap.size,0,none⟩),0⟩ (.box (Eo z)):=by
   refine⟨w.heap.size,z.cells,t,rfl,Wv w _,by simp[Eo],fun i hi=>?_⟩;simp only[Eo,Cb,RG]at hi;have I:(Eo z).getD i .junk=.d (NH z.cells[i]):=by simp[Eo,List.getD,hi]
   have J:z.cells.toList.getD i undef=z.cells[i]:=KR
   rw[I,J];exact⟨lN ((PK.1 q) _ BM),.d _ _ (eI _)⟩
  obtain⟨L,M⟩:=j.push (.cells z.cells t) ⟨.pointer (some ⟨w.heap.size,0,none⟩),0⟩ _ (zU w) u;refine⟨_,_,ok,_,.inl ?_,M,Names.push _ _,L,.ptr _ _ w.heap.size 0 qB⟩;obtain⟨i,hi,f⟩:=dQ.1 m;simp[execOp,s,Instr.alloc,zeroValue,typeInfo,hi,f,newVar,newRow]
def Kw {l:List BI} {k j:Nat} {a x:BI} (f:k<l.length) (h:(l.set k a)[j]? =some x):(j=k∧x=a)∨(j≠k∧l[j]? =some x):=by
 by_cases e:k=j
 ·subst e;simp[f]at h;exact .inl ⟨rfl,h.symm⟩
 rw[VI e]at h;exact .inr ⟨fun h'=>e h'.symm,h⟩
def CX.upd {C:Dv} {ok:Nat→Prop} {H:List Bc} {w w':World} (I:CX C ok H es w) {k:Nat} {J e:BI} {h:Bc} {b:Nat} (hk:es[k]? =some J) (s:J.live=true) (hh:H[k]? =some h) (hb:DC h.v=some b)
 (hos:w'.os=w.os) (u:w'.tape=w.tape) (L:w'.output=w.output) (hsize:w'.heap.size=w.heap.size)
 (q:∀c,c≠b→w'.heap[c]? =w.heap[c]?) (he:Dw ok w ok w'→EW ok w' H h e):CX C ok H (es.set k e) w'∧Dw ok w ok w':=by
 have M:=I.blk k J h b hk s hh hb;have hg:Dw ok w ok w':=fun c f=>⟨f,q c (fun e=>M.1 (e▸f))⟩
 refine I.change (fun c=>c=b) hos u L AA (fun c _ f=>q c f) (fun c f _=>by subst f;exact⟨M.1,M.2.2⟩) (fun _ h=>h) (fun _ h=>.inl h) (.refl _) (by simp[I.hlen]) ?_;intro j e' h' hj m;have O:k<es.length:=(F6.1 hk).1;rcases Kw O hj with⟨rfl,rfl⟩|⟨z,U⟩
 ·rw[hh]at m;obtain rfl:=CJ m;refine .inr ⟨he hg,fun _ c f=>?_⟩;rw[hb]at f;obtain rfl:=CJ f;refine⟨M.1,AA,M.2.2,fun k' e'' h'' z hk' hl' Y Z=>z ?_⟩;rcases Kw O hk' with⟨rfl,_⟩|⟨_,hk''⟩
  ·rfl
  exact I.CW k' j e'' J h'' h b hk'' hk hl' s Y hh Z hb
 refine .inl ⟨U,m,fun hl c f hcb=>z ?_⟩;subst hcb;exact I.CW j k e' J h' h c U hk hl s m hh f hb
def aHx (w:World) (g:Nat) (cs:Array Value) (k:Nat) (h:k≠g):(w.setRow g cs).heap[k]? =w.heap[k]? :=setRow_other w g k cs h
def setAt {α:Type} (cs:List α) (off:Nat) (ys:List α):List α:=cs.take off++ys++cs.drop (off+ys.length)
def QU {α:Type} {cs ys:List α} {off:Nat} (h:off+ys.length≤cs.length):(setAt cs off ys).length=cs.length:=by simp[setAt];omega
def Vg {α:Type} {cs ys:List α} {off:Nat} (h:off+ys.length≤cs.length) (i:Nat) (z:α):(setAt cs off ys).getD i z=if off≤i∧i<off+ys.length then ys.getD (i-off) z else cs.getD i z:=by
 unfold setAt;have f:(cs.take off).length=off:=E5
 by_cases hi:i<off
 ·rw[D8 AA];simp only[List.getD];rw[Gy,G6 AA,Ll hi]
 by_cases j:i<off+ys.length
 ·rw[Ch AA];simp only[List.getD];rw[Gy,Io AA,f,G6 AA]
 rw[D8 AA];simp only[List.getD];rw[Io E5,OQ];congr 2;simp;omega
def adt {t:TypeId} {x y:Operand} {k off n:Nat} {cs:List Ac} {v:Ac} (hk:es[k]? =some (.box cs)) (hl:v.cells.all Ac.leaf=true) (hs:∀w,(sizeOf t).run P w=.ok n w) (hn:v.cells.length=n) (hle:off+n≤cs.length) (ho:o.op=.store t x y):
 Bd P o [(x,.ptr k off),(y,v)] es .junk (es.set k (.box (setAt cs off v.cells))):=
 .eff fun C ok H a w M q=>by
  have O:=(ER q).1;have h2:=(ER q).2;simp only at O h2;generalize he:a.eval x=u at O;obtain⟨h,hh,U⟩:=FY M.ent M.hlen hk;obtain⟨b,vs,T,hb,j,z,I⟩:=U;have f:=h2.ac6 hl;cases O with
  |ptr _ _ J s hH=>
   rw[hh]at hH;obtain rfl:=CJ hH;simp at hb;subst hb;have m:(a.eval y).cells.toList.length=n:=by rw[f.1,hn]
   have ayh:vs.size=cs.length:=SC
   have Y:(a.eval y).cells.size=n:=UO
   have hst:=aF8 (P:=P) J off T (a.eval y).cells.toList 0 vs w j (by rw[m];omega) (fun u hu=>by
    obtain⟨i,hi,rfl⟩:=Gj hu;have L:=f.2 i (by rw[←f.1];exact hi);have :=L.2.leaf L.1
    rwa [uS hi]at this)
   simp only[O6]at hst;have hlt:J<w.heap.size:=(FN.1 j).1
   obtain⟨h3,h4⟩:=M.upd (e:=.box (setAt cs off v.cells)) (w':=w.setRow J (vs.toList.take off++(a.eval y).cells.toList++vs.toList.drop (off+(a.eval y).cells.toList.length)).toArray) hk rfl hh rfl rfl rfl rfl aIM (fun c hc=>aHx _ _ _ _ hc) (fun hg=>by
    refine⟨J,_,T,rfl,jO w J vs _ T (0,0) j,?_,fun i hi=>?_⟩
    ·have Z:(vs.toList.take off++(a.eval y).cells.toList++vs.toList.drop (off+(a.eval y).cells.toList.length))=setAt vs.toList off (a.eval y).cells.toList:=rfl;rw[Z,zq,QU (by have :=vs.length_toList;omega),QU AA];simpa using z
    have Z:(vs.toList.take off++(a.eval y).cells.toList++vs.toList.drop (off+(a.eval y).cells.toList.length))=setAt vs.toList off (a.eval y).cells.toList:=rfl;rw[QU AA]at hi;rw[Z,zq,Vg (by have :=vs.length_toList;omega),Vg AA,m,hn];split
    ·have L:=f.2 (i-off) AA;exact⟨L.1,L.2.mono hg (.refl _)⟩
    exact⟨(I i hi).1,(I i hi).2.mono hg (.refl _)⟩)
   refine⟨undef,_,ok,H,.inr ⟨rfl,?_⟩,h4,.refl _,h3,.junk _⟩;simp only[execOp,ho,he,Instr.storeAt,Instr.sureAddr,storeVar,Eh,FM,Ep,hs,Y,ne_eq,not_true_eq_false,Ip,hst]
end
def UD (x:D) (es:List D):flat (x::es)=x.cells.map .d++flat es:=RN
def ZR (xs ys:List D):flat (xs++ys)=flat xs++flat ys:=RN
def Qe {size:Nat}:∀{es:List D},(∀x∈es,x.cells.length=size)→(flat es).length=es.length*size
 | [],_=>RN
 |x::es,h=>by
  rw[UD,Dz,Cb,h x BM,Qe (fun y f=>h y (G9 _ f)),FV,Sl,Oc]
def flat_get {size:Nat}:∀{es:List D},(∀x∈es,x.cells.length=size)→∀i j,i<es.length→j<size→(flat es).getD (i*size+j) .junk=.d ((es.getD i DL).cells.getD j DL)
 | [],_,i,j,hi,_=>MS
 |x::es,h,0,j,_,m=>by
  have f:=h x BM;rw[UD,Nat.zero_mul,Ik];simp only[List.getD];rw[G6 (by simp[f,m])];have q:j<x.cells.length:=AA
  simp[q]
 |x::es,h,i+1,j,hi,m=>by
  have f:=h x BM;have s:=flat_get (fun y u=>h y (G9 _ u)) i j FZ m;rw[UD];simp only[List.getD]at s ⊢;rw[Io (by simp[f,Sl];omega)];have e:(i+1)*size+j-(x.cells.map Ac.d).length=i*size+j:=by simp[f,Sl];omega
  rw[e,s];simp
section
variable {P : Program} {o : Oper} {es : List BI}
structure U3 (w:World) (v:Value) (m size:Nat) (news:List Value):Prop where
 len:news.length=m*size
 one:∀u∈news,u.oneCell'=true
 at_:(∃ad c,v=.slice (some ad) m c∧∀(j:Nat) (u:Value),news[j]? =some u→w.cell? (ad.add j)=some u)∨(∃c,v=.slice none 0 c∧m=0)
def dW {ok:Nat→Prop} {w:World} (H:List Bc) {ys:List D} {v:Value} {size:Nat} (h:DT ok w (.sl ys) v) (Y:∀x∈ys,x.cells.length=size):
 ∃m,U3 w v ys.length size m∧FB ok w H (flat ys) m:=by
 cases h with
 |sl0 ad cap=>
  refine⟨[],⟨BM,BM,?_⟩,RN,fun i hi=>yu⟩;cases ad with
  |none=>exact .inr ⟨cap,rfl,rfl⟩
  |some ad=>exact .inl ⟨ad,cap,rfl,fun j u h=>H8⟩
 |sl _ b off cap f hcap hok Z hf hx hc=>
  by_cases hy:ys=[]
  ·subst hy;refine⟨[],⟨BM,BM,.inl ⟨⟨b,off,none⟩,cap,rfl,fun j u h=>H8⟩⟩,RN,fun i hi=>yu⟩
  have s:0<ys.length:=yV.2 hy;have hsz:f=size:=by rw[←Z 0 s];exact Y _ (by simp[List.getD,s])
  subst hsz;have hl:=Qe Y
  have key:∀k,k<ys.length*f→∃i j,k=i*f+j∧i<ys.length∧j<f:=by
   intro k q
   have hp:0<f:=by
    rcases Z7 f with h0|h0
    ·rw[h0,Nat.mul_zero]at q;omega
    exact h0
   exact⟨k/f,k % f,by rw[TL];exact(aAb k f).symm,pX (by rwa [TL]at q),aH _ hp⟩
  let m:List Value:=(List.range (ys.length*f)).map fun k=>cellAt w b (off+k)
  have z:m.length=ys.length*f:=by simp[m]
  have J:∀k,k<ys.length*f→m.getD k undef=cellAt w b (off+k):=by
   intro k q;simp[m,List.getD,q]
  have I:FB ok w H (flat ys) m:=by
   refine⟨by rw[z,hl],fun k q=>?_⟩;rw[hl]at q;obtain⟨i,j,rfl,hi,L⟩:=key k q;rw[flat_get Y i j hi L,J _ q];exact⟨hf i hi j L,.d _ _ (hc i hi j L)⟩
  refine⟨m,⟨z,fun u hu=>?_,.inl ⟨⟨b,off,none⟩,cap,rfl,fun k u q=>?_⟩⟩,I⟩
  ·obtain⟨k,q,rfl⟩:=Gj hu;have h5:=I.2 k (by rw[←I.1];exact q);have :=h5.2.leaf h5.1
   rwa [uS q]at this
  obtain⟨M,rfl⟩:=F6.1 q;rw[addr_add];have O:k<ys.length*f:=by rw[←z];exact M
  obtain⟨i,j,e,hi,L⟩:=key k O;have U:=hx i hi j L;rw[←e]at U;obtain⟨u',hu'⟩:=U0.1 U;have :=J k O;rw[uS M]at this;rw[this];simp[cellAt,hu']
structure Fe (P:Program) (t e:TypeId) (size bytes:Nat):Prop where
 und:P.underlying t=some (.slice e)
 info:∃i z,P.info? e=some i∧i.zero=some z∧i.size=size∧i.bytes=bytes∧z.cells.size=size
 pos:0<size
def aJT (P:Program) (t e size f:Nat):Bool:=
 (match P.underlying t with |some (.slice e')=>decide (e'=e)|_=>false)&&(match P.info? e with |some i=>decide (i.size=size)&&decide (i.bytes=f)&&(match i.zero with |some z=>decide (z.cells.size=size)|none=>false)|none=>false)&&decide (0<size)
def KW {P:Program} {t e size f:Nat} (h:aJT P t e size f=true):Fe P t e size f:=by
 unfold aJT at h;simp only[CZ,G8]at h;obtain⟨⟨j,m⟩,s⟩:=h;refine⟨?_,?_,s⟩
 ·split at j
  ·rename_i e' u;rw[u];simp at j;rw[j]
  cases j
 split at m
 ·rename_i i hi;simp only[CZ,G8]at m;obtain⟨⟨I,J⟩,q⟩:=m;split at q
  ·rename_i z L;exact⟨i,z,hi,L,I,J,NS⟩
  cases q
 cases m
def ag9 {w:World} {t e:TypeId} {ty:TypeId} {size L:Nat} (hE:Fe P t e size L) {v:Value} {n:Nat} {xs:List Value} (I:w.ownsRow 0 e size v n xs) {x:Value} {m:Nat} {q:List Value} (f:U3 w x m size q)
 (hb:(n+m)*L≤140737488355328) (hn:n+m≤maxLen):
 ∃v' w',(Builtin.append_ #[t,t] ty #[v,x]).run P w=.ok v' w'∧w'.ownsRow 0 e size v' (n+m) (xs++q)∧w.grownBy w' v.ownBlock∧(∀g,DC v'=some g→DC v=some g∨w.heap.size≤g):=by
 obtain⟨i,z,hi,hz,hs,U,hzs⟩:=hE.info;rcases f.at_ with⟨ad,c,rfl,s⟩|⟨c,rfl,rfl⟩
 ·obtain⟨v',w',hr,ho',hg,hnil⟩:=run_append_own (P:=P) w 0 t ty e i z size L hE.und hi hz hs U hzs hE.pos v n xs I ad m c q f.len s f.one hn hb (EH _);refine⟨v',w',hr,ho',hg,fun g M=>?_⟩;rcases I.2 with⟨rfl,rfl⟩|⟨g0,cap,Y,rfl,hbg,hg0,hnc,hcm,hcs,htake⟩
  ·have hx:xs=[]:=GR (by simpa using I.1);subst hx;obtain⟨v2,w2,J,ho2,_,_⟩:=run_append_own (P:=P) w w.heap.size t ty e i z size L hE.und hi hz hs U hzs hE.pos _ 0 [] (sZ w w.heap.size e size) ad m c q f.len s f.one hn hb (Dy _);rw[hr]at J;simp only[Result.ok.injEq]at J;obtain⟨rfl,rfl⟩:=J;rcases ho2.2 with⟨rfl,_⟩|⟨g',_,_,rfl,hle,_⟩
   ·simp[DC]at M
   simp[DC]at M;subst M;exact .inr hle
  by_cases O:n+m≤cap
  ·have hfit:n*i.size+q.length≤Y.size:=by rw[f.len,hcs,hs,←Wn];exact J5 _ O
   have J:=run_append_room (P:=P) w t ty e i hE.und hi g0 n cap Y hg0 ad m c q aGI s f.one O hfit;rw[hr]at J;simp only[Result.ok.injEq]at J;obtain⟨rfl,rfl⟩:=J;exact .inl M
  have Z:∀(j:Nat) (u:Value),xs[j]? =some u→w.cell? ((⟨g0,0,none⟩:Addr).add j)=some u:=I.cells (g:=g0) rfl;have J:=run_append_grow (P:=P) w t ty e i z hE.und hi hz ⟨g0,0,none⟩ n cap xs (by rw[hs];exact I.1) Z ad m c q aGI s AA (by unfold maxLen at hn;omega) (growslice_fits AA (by rw[U];exact hb));rw[hr]at J;simp only[Result.ok.injEq]at J;obtain⟨rfl,rfl⟩:=J;simp[DC]at M;subst M;exact .inr (Dy _)
 have hnews:q=[]:=GR (by simpa using f.len);subst hnews;refine⟨v,w,?_,XK,⟨rfl,rfl,rfl,Dy _,fun _ _ _=>rfl⟩,fun g hg=>.inl hg⟩;rcases I.2 with⟨rfl,rfl⟩|⟨g,cap,Y,rfl,_,_,hnc,_⟩
 ·simp[Builtin.append_,xg hE.und,sizeOf,typeInfo,hi,Builtin.lenOf,Builtin.firstCells]
 simp[Builtin.append_,xg hE.und,sizeOf,typeInfo,hi,Builtin.lenOf,Builtin.firstCells,hnc,storeCells]
def aFK {w:World} {t e:TypeId} {ty:TypeId} {size s:Nat} (hE:Fe P t e size s) {v:Value} {n:Nat} {xs:List Value} (q:lH w e size v n xs) {x:Value} {m:Nat} {j:List Value} (f:U3 w x m size j)
 (hb:(n+m)*s≤140737488355328) (hn:n+m≤maxLen):
 ∃v' w',(Builtin.append_ #[t,t] ty #[v,x]).run P w=.ok v' w'∧lH w' e size v' (n+m) (xs++j)∧w.grownBy w' v.ownBlock∧(∀g,DC v'=some g→DC v=some g∨w.heap.size≤g):=by
 rcases q.2 with h|⟨g,cap,M,rfl,h0,Z,hnc,hcm,hcs,O⟩
 ·obtain⟨v',w',h1,h2,U,h4⟩:=ag9 (ty:=ty) hE ⟨q.1,.inl h⟩ f hb hn;exact⟨v',w',h1,.of h2,U,h4⟩
 obtain⟨i,z,hi,hz,hs,hby,hzs⟩:=hE.info;have hlen:(xs++j).length=(n+m)*size:=by rw[Dz,q.1,f.len,Wn]
 rcases f.at_ with⟨ad,c,rfl,I⟩|⟨c,rfl,rfl⟩
 ·by_cases u:n+m≤cap
  ·have L:n*i.size+j.length≤M.size:=by
    rw[f.len,hs,←Wn];exact EZ (J5 _ u) hcs
   have hr:=run_append_room (P:=P) w t ty e i hE.und hi g n cap M Z ad m c j aGI I f.one u L;rw[hs]at hr L;refine⟨_,_,hr,⟨hlen,.inr ⟨g,cap,_,rfl,EH _,jO w g M _ e _ Z,u,hcm,?_,?_⟩⟩,⟨rfl,rfl,rfl,BM,fun k _ hk=>setRow_other w g k _ (fun e=>hk (by simp[Value.ownBlock,e]))⟩,fun g' J=>.inl J⟩
   ·simp only[dY,Dz,Gt,Jt,RG];omega
   rw[O,←hlen];exact aCC
  obtain⟨v',w',h1,h2,U⟩:=run_append_arg_grows (P:=P) w t ty e i z size s hE.und hi hz hs hby hzs hE.pos ⟨g,0,none⟩ n cap xs q.1 (q.cells (g:=g) rfl) ad m c j f.len I AA hn hb;refine⟨v',w',h1,.of h2,⟨U.os,U.tape,U.output,U.size,fun k hk _=>U.block k hk BM⟩,fun g' J=>.inr ?_⟩;rcases h2.2 with⟨rfl,_⟩|⟨g2,_,_,rfl,hle2,_⟩
  ·simp[DC]at J
  simp[DC]at J;subst J;exact hle2
 have Y:j=[]:=GR (by simpa using f.len);subst Y;refine⟨.slice (some ⟨g,0,none⟩) n cap,w,?_,NS,⟨rfl,rfl,rfl,Dy _,fun _ _ _=>rfl⟩,fun g hg=>.inl hg⟩;simp[Builtin.append_,xg hE.und,sizeOf,typeInfo,hi,Builtin.lenOf,Builtin.firstCells,hnc,storeCells]
def CX.turn {C:Dv} {ok:Nat→Prop} {H:List Bc} {w w':World} (f:CX C ok H es w) {k:Nat} {Y e:BI} {h h':Bc} (hk:es[k]? =some Y) (J:Y.live=true) (hh:H[k]? =some h)
 (hos:w'.os=w.os) (L:w'.tape=w.tape) (Z:w'.output=w.output) (M:w.heap.size≤w'.heap.size)
 (z:∀c,c<w.heap.size→DC h.v≠some c→w'.heap[c]? =w.heap[c]?) (hb':∀g,DC h'.v=some g→g<w'.heap.size∧(DC h.v=some g∨w.heap.size≤g))
 (he:Dw ok w ok w'→EW ok w' (H++[h']) h' e):CX C ok (H++[h']) (es.set k .dead++[e]) w'∧Dw ok w ok w':=by
 have h0:=fun b hb=>f.blk k Y h b hk J hh hb;have hkl:k<es.length:=(F6.1 hk).1;have hg:Dw ok w ok w':=fun c u=>⟨u,z c (f.jG c u) (fun e=>(h0 c e).1 u)⟩
 refine f.change (fun c=>DC h.v=some c) hos L Z M z (fun c u _=>⟨(h0 c u).1,(h0 c u).2.2⟩) (fun _ h=>h) (fun _ h=>.inl h) (Names.push _ _) (by simp[f.hlen]) ?_;intro j e' hj' hj q;rcases V6 hj with h1|⟨h1,h2⟩
 ·have hjl:j<H.length:=by rw[f.hlen];simpa using(F6.1 h1).1
  rw[G6 hjl]at q;rcases Kw hkl h1 with⟨rfl,rfl⟩|⟨O,h3⟩
  ·exact .inr ⟨trivial,fun h=>Gz⟩
  refine .inl ⟨h3,q,fun hl c u hcb=>O ?_⟩;exact f.CW j k e' Y hj' h c h3 hk hl J q hh u hcb
 subst h2;have hk2:j=H.length:=by rw[f.hlen];simpa using h1
 subst hk2;simp at q;subst q;refine .inr ⟨he hg,fun _ c u=>?_⟩;obtain⟨h3,m⟩:=hb' c u;refine⟨fun hok=>?_,h3,?_,fun k' e'' h'' O hk' U s I=>?_⟩
 ·rcases m with m|m
  ·exact(h0 c m).1 hok
  have :=f.jG c hok;omega
 ·rcases m with m|m
  ·exact(h0 c m).2.2
  exact .inl (EZ f.fr.size m)
 rcases V6 hk' with h5|⟨h5,_⟩
 ·have hkl':k'<H.length:=by rw[f.hlen];simpa using(F6.1 h5).1
  rw[G6 hkl']at s;rcases Kw hkl h5 with⟨rfl,rfl⟩|⟨hne',h6⟩
  ·cases U
  rcases m with m|m
  ·exact hne' (f.CW k' k e'' Y h'' h c h6 hk U J s hh I m)
  have :=(f.blk k' e'' h'' c h6 U s I).2.1;omega
 simp at h5;exact O (by rw[h5,f.hlen])
def mJ {w:World} {e size n:Nat} {v:Value} {xs:List Value} (h:lH w e size v n xs) {g:Nat} (f:DC v=some g):g<w.heap.size:=by
 rcases h.2 with⟨rfl,_⟩|⟨m,_,_,rfl,_,j,_⟩
 ·simp[DC]at f
 simp[DC]at f;subst f;exact(FN.1 j).1
def aE9 {w:World} {e size n:Nat} {v:Value} {xs:List Value} (h:lH w e size v n xs):v.ownBlock=DC v:=by
 rcases h.2 with⟨rfl,_⟩|⟨f,_,_,rfl,_⟩<;>rfl
def Nj {ok:Nat→Prop} {w:World} {H:List Bc} {k:Nat} {v:Value} {h:Bc} (j:R ok w H (.aS k) v) (m:H[k]? =some h):v=h.v:=by
 cases j with
 |aS _ ad n cap s f=>rw[m]at f;rw[CJ f]
def apc {C:Dv} {ok:Nat→Prop} {H:List Bc} {w:World} (Y:CX C ok H es w) {t ty e:TypeId} {size j k:Nat} {xs ys:List D} (hE:Fe P t e size j) (hk:es[k]? =some (.arr e size xs))
 {v x:Value} (hv:R ok w H (.aS k) v) {f:List Value} (I:U3 w x ys.length size f) (s:FB ok w H (flat ys) f) (Z:∀y∈ys,y.cells.length=size) (hb:(xs.length+ys.length)*j≤140737488355328) (hn:xs.length+ys.length≤maxLen):
 ∃v' w' H',(Builtin.append_ #[t,t] ty #[v,x]).run P w=.ok v' w'∧Dw ok w ok w'∧Names H H'∧CX C ok H' (es.set k .dead++[.arr e size (xs++ys)]) w'∧R ok w' H' (.aS es.length) v':=by
 obtain⟨h,hh,hok⟩:=FY Y.ent Y.hlen hk;obtain rfl:=Nj hv hh;obtain⟨h1,h2,z,q,hrs⟩:=hok;obtain⟨v',w',hr,u,J,L⟩:=aFK (P:=P) (ty:=ty) hE q I hb hn
 obtain⟨h3,h4⟩:=Y.turn (h':=⟨v',size⟩) (e:=.arr e size (xs++ys)) hk rfl hh J.os J.tape J.output J.size (fun c hc hne=>J.block c hc (by rw[aE9 q];exact fun e=>hne e.symm)) (fun g M=>⟨mJ u M,L g M⟩) (fun O=>by
  refine⟨rfl,fun y hy=>?_,z++f,Og,?_⟩
  ·rcases Gp.1 hy with h|h
   ·exact h2 y h
   exact Z y h
  have U:=hrs.mono O (Names.push H [⟨v',size⟩]);have a2:=s.mono O (Names.push H [⟨v',size⟩]);rw[ZR];refine⟨by rw[Dz,Dz,U.1,a2.1],fun i hi=>?_⟩;by_cases m:i<(flat xs).length
  ·have e1:(flat xs++flat ys).getD i .junk=(flat xs).getD i .junk:=by simp[List.getD,G6 m]
   have e2:(z++f).getD i undef=z.getD i undef:=by simp[List.getD,G6 (by rw[U.1];exact m:i<z.length)]
   rw[e1,e2];exact U.2 i m
  have hi3:i-(flat xs).length<(flat ys).length:=aE2
  have e1:(flat xs++flat ys).getD i .junk=(flat ys).getD (i-(flat xs).length) .junk:=by simp[List.getD,Io (SN m)]
  have e2:(z++f).getD i undef=f.getD (i-(flat xs).length) undef:=by simp[List.getD,Io (by rw[U.1];omega:z.length≤i),U.1]
  rw[e1,e2];exact a2.2 _ hi3)
 refine⟨v',w',_,hr,h4,Names.push _ _,h3,?_⟩;have hH:(H++[(⟨v',size⟩:Bc)])[es.length]? =some ⟨v',size⟩:=by rw[←Y.hlen];simp
 rcases u.2 with⟨rfl,_⟩|⟨g',c',_,rfl,_⟩
 ·exact .aS _ _ _ _ size hH
 exact .aS _ _ _ _ size hH
def aga {s x:Operand} {t e:TypeId} {size f k:Nat} {xs ys:List D} (hE:Fe P t e size f) (M:es[k]? =some (.arr e size xs)) (j:∀y∈ys,y.cells.length=size)
 (O:(xs.length+ys.length)*f≤140737488355328) (U:xs.length+ys.length≤maxLen) (Y:o.op=.call { callee:=.builtin .append,args:= #[s,x],argTypes:= #[t,t] }):
 Bd P o [(s,.aS k),(x,.d (.sl ys))] es (.aS es.length) (es.set k .dead++[.arr e size (xs++ys)]):=
 .eff fun C ok H a w Z m=>by
  have I:=(ER m).1;have J:=(ER m).2;simp only at I J;have u:DT ok w (.sl ys) (a.eval x):=by cases J with |d _ _ h=>exact h
  obtain⟨L,q,z⟩:=dW H u j;obtain⟨v',w',H',hr,r1,r2,r3,r4⟩:=apc (ty:=o.type) Z hE M I q z j O U;refine⟨v',w',ok,H',.inl ?_,r1,r2,r3,r4⟩;simp[execOp,Y,resolve,invoke,builtin,hr]
def aHM {C:Dv} {ok:Nat→Prop} {H:List Bc} {w:World} (j:CX C ok H es w) (e:TypeId) (size:Nat):
 CX C ok (H++[⟨.slice none 0 0,size⟩]) (es++[.arr e size []]) w∧R ok w (H++[⟨.slice none 0 0,size⟩]) (.aS es.length) (.slice none 0 0):=by
 obtain⟨h,_⟩:=j.change (ok':=ok) (w':=w) (H':=H++[⟨.slice none 0 0,size⟩]) (es':=es++[.arr e size []]) (fun _=>False) rfl rfl rfl (Dy _) (fun _ _ _=>rfl) (fun _ h=>h.elim) (fun _ h=>h) (fun _ h=>.inl h) (Names.push _ _) (by simp[j.hlen]) (by
  intro k e' h' q f;rcases V6 q with m|⟨m,u⟩
  ·have s:k<H.length:=by rw[j.hlen];exact(F6.1 m).1
   rw[G6 s]at f;exact .inl ⟨m,f,fun _ _ _ h=>h⟩
  subst u;have s:k=H.length:=by rw[j.hlen];exact m
  subst s;simp at f;subst f
  exact .inr ⟨⟨rfl,BM,[],⟨BM,.inl ⟨rfl,rfl⟩⟩,RN,fun i hi=>yu⟩,fun _ b z=>by simp[DC]at z⟩)
 exact⟨h,.aS _ _ _ _ size qB⟩
def Cc (e:TypeId) (size:Nat) (f:o.op=.assign (.const (.slice none 0 0))):Bd P o [] es (.aS es.length) (es++[.arr e size []]):=
 .eff fun C ok H a w j _=>by
  obtain⟨m,q⟩:=aHM j e size;exact⟨.slice none 0 0,w,ok,_,.inl aEu,.refl _ _,Names.push _ _,m,q⟩
def anI (f:o.op=.assign (.const (.slice none 0 0))):Bd P o [] es (.d (.sl [])) es:=
 .pure fun _ _ a w _ _ _=>⟨.slice none 0 0,aEu,.d _ _ (.sl0 none 0)⟩
def aph (f:o.op=.move (.const (.slice none 0 0))):Bd P o [] es (.d (.sl [])) es:=
 .pure fun _ _ a w _ _ _=>⟨.slice none 0 0,aEu,.d _ _ (.sl0 none 0)⟩
end
def aJJ (off:Nat):∀(vs:List Value) (i:Nat) (cells:Array Value),off+i+vs.length≤cells.size→
 ((vs.zipIdx i).foldl (fun cs (p:Value×Nat)=>cs.setIfInBounds (off+p.2) p.1) cells).toList=setAt cells.toList (off+i) vs
 | [],i,cells,h=>by simp[setAt]
 |v::vs,i,cells,h=>by
  simp only[FV]at h;rw[List.zipIdx_cons,Fh];rw[aJJ off vs (i+1) _ E5];simp only[aDh];have f:off+i<cells.toList.length:=E5
  unfold setAt;rw[aHU,Ch f];have j:(cells.toList.take (off+i)).length=off+i:=E5
  have m:(List.take (off+i) cells.toList++v::List.drop (off+i+1) cells.toList).take (off+(i+1))=cells.toList.take (off+i)++[v]:=by
   rw[aIF,j,Pv AA];have :off+(i+1)-(off+i)=1:=AA
   rw[this];simp
  have q:(List.take (off+i) cells.toList++v::List.drop (off+i+1) cells.toList).drop (off+(i+1)+vs.length)=cells.toList.drop (off+i+(vs.length+1)):=by
   rw[List.drop_append,j,yO AA];have :off+(i+1)+vs.length-(off+i)=vs.length+1:=AA
   rw[this];simp[aC9];congr 1;omega
  rw[m,q];simp
def LW :List (Nat×Operand)→List Ac→List (Operand×Ac)
 |(_,x)::f,v::vs=>(x,v)::LW f vs
 |_,_=>[]
def LZ (place:Nat→Option (Nat×Nat)) (n:Nat):List (Nat×Operand)→List Ac→Bool
 |(i,_)::f,v::vs=>(match place i with |some (off,s)=>decide (v.cells.length=s)&&decide (off+s≤n)&&v.cells.all Ac.leaf|none=>false)&&LZ place n f vs
 | [],[]=>true
 |_,_=>false
def Iu (place:Nat→Option (Nat×Nat)):List Ac→List (Nat×Operand)→List Ac→List Ac
 |cs,(i,_)::f,v::vs=>Iu place (setAt cs ((place i).getD (0,0)).1 v.cells) f vs
 |cs,_,_=>cs
def FB.setAt {ok:Nat→Prop} {w:World} {H:List Bc} {cs ys:List Ac} {vs us:List Value} {off:Nat} (h:FB ok w H cs vs) (k:FB ok w H ys us) (f:off+ys.length≤cs.length):FB ok w H (setAt cs off ys) (setAt vs off us):=by
 refine⟨by rw[QU (by rw[h.1,k.1];exact f),QU f,h.1],fun i hi=>?_⟩;rw[QU f]at hi;rw[Vg f,Vg (by rw[h.1,k.1];exact f),k.1];split
 ·exact k.2 _ AA
 exact h.2 i hi
def oQ {ok:Nat→Prop} {w:World} {H:List Bc} {place:Nat→Option (Nat×Nat)} {a:Act}:∀(j:List (Nat×Operand)) (vs:List Ac) (cs:List Ac) (cells:Array Value),FB ok w H cs cells.toList→LZ place cs.length j vs=true→
 (∀n∈LW j vs,R ok w H n.2 (a.eval n.1))→∃f,Instr.fill place cells (j.map fun p=>(p.1,a.eval p.2))=some f∧FB ok w H (Iu place cs j vs) f.toList
 | [],[],cs,cells,z,_,_=>⟨cells,rfl,z⟩
 | [],_::_,_,_,_,h,_=>by simp[LZ]at h
 |_::_,[],_,_,_,h,_=>by simp[LZ]at h
 |(i,x)::j,v::vs,cs,cells,z,h,L=>by
  simp only[LZ,CZ]at h;obtain⟨m,U⟩:=h;cases I:place i with
  |none=>rw[I]at m;cases m
  |some os=>
   obtain⟨off,s⟩:=os;rw[I]at m;simp only[CZ,G8]at m;obtain⟨⟨h3,h4⟩,Y⟩:=m;have M:FB ok w H v.cells (a.eval x).cells.toList:=(L (x,v) (by simp[LW])).ac6 Y;have Z:(a.eval x).cells.size=s:=by have :=M.1;simp at this;omega
   have O:cells.size=cs.length:=by simpa using z.1
   have q:((a.eval x).cells.zipIdx.foldl (fun cs (p:Value×Nat)=>cs.setIfInBounds (off+p.2) p.1) cells).toList=setAt cells.toList off (a.eval x).cells.toList:=by
    rw[←Array.foldl_toList,Array.toList_zipIdx];exact aJJ off (a.eval x).cells.toList 0 cells E5
   have u:=z.setAt M (off:=off) AA;rw[←q]at u;obtain⟨f,hc,hR⟩:=oQ j vs (setAt cs off v.cells) _ u (by rw[QU AA];exact U) (fun n J=>L n (by simp[LW,J]));refine⟨f,?_,?_⟩
   ·simp only[Jr,Instr.fill,I];rw[D8 E5];exact hc
   simp only[Iu,I,Lj];exact hR
def Oe (z:Value) (n:Nat):List Ac:=(List.range n).map fun k=>(Eo z).getD (k % z.cells.size) .junk
def aj7 {ok:Nat→Prop} {w:World} {H:List Bc} {z:Value} {n:Nat} (m:z.cells.all (·.oneCell')=true) (q:0<z.cells.size):FB ok w H (Oe z n) (((Array.range n).map (z.cells[· % z.cells.size]!)).toList):=by
 refine⟨by simp[Oe],fun i hi=>?_⟩;have f:i<n:=by simpa[Oe]using hi
 have j:i % z.cells.size<z.cells.size:=aH _ q;have s:(Oe z n).getD i .junk=.d (NH z.cells[i % z.cells.size]):=by simp[Oe,Eo,List.getD,f,j]
 have u:(((Array.range n).map (z.cells[· % z.cells.size]!)).toList).getD i undef=z.cells[i % z.cells.size]:=by simp[List.getD,f,j]
 rw[s,u];exact⟨lN ((PK.1 m) _ BM),.d _ _ (eI _)⟩
def aEE {ok:Nat→Prop} {w:World} {H:List Bc} {z:Value} (f:z.cells.all (·.oneCell')=true):FB ok w H (Eo z) z.cells.toList:=by
 refine⟨by simp[Eo],fun i hi=>?_⟩;simp only[Eo,Cb,RG]at hi;have j:(Eo z).getD i .junk=.d (NH z.cells[i]):=by simp[Eo,List.getD,hi]
 have m:z.cells.toList.getD i undef=z.cells[i]:=KR
 rw[j,m];exact⟨lN ((PK.1 f) _ BM),.d _ _ (eI _)⟩
def aHH {P:Program} {w:World}:∀(l:List Field),(∀f∈l,(P.info? f.type).isSome=true)→
 (l.mapM fun f=>(do pure (f.offset,←sizeOf f.type):Sem (Nat×Nat))).run P w=.ok (l.map fun f=>(f.offset,P.cellsOf f.type)) w
 | [],_=>rfl
 |f::l,h=>by
  obtain⟨i,hi⟩:=U0.1 (h f BM);have j:=aHH (P:=P) (w:=w) l (fun g m=>h g (by simp[m]));have q:(sizeOf f.type).run P w=.ok i.size w:=by simp[sizeOf,typeInfo,hi]
  have s:P.cellsOf f.type=i.size:=by simp[Program.cellsOf,hi]
  simp only[List.mapM_cons,Eh,q,Ep,FM,j,Jr,s]
structure I7 (P:Program) (t:TypeId) (places:List (Nat×Nat)) (z:Value):Prop where
 fields:∃fs,P.underlying t=some (.struct fs)∧(∀f∈fs.toList,(P.info? f.type).isSome=true)∧(fs.toList.map fun f=>(f.offset,P.cellsOf f.type))=places
 zero:(P.info? t).bind (·.zero)=some z
 one:z.cells.all (·.oneCell')=true
def aLr (P:Program) (t:TypeId) (j:List (Nat×Nat)):Bool:=
 match P.underlying t with
 |some (.struct m)=>m.toList.all (fun f=>(P.info? f.type).isSome)&&decide ((m.toList.map fun f=>(f.offset,P.cellsOf f.type))=j)
 |_=>false
def Ja {P:Program} {t:TypeId} {f:List (Nat×Nat)} {z:Value} (h:aLr P t f=true) (j:(P.info? t).bind (·.zero)=some z) (m:z.cells.all (·.oneCell')=true):I7 P t f z:=by
 unfold aLr at h;split at h
 ·rename_i q s;simp only[CZ,DZ,G8]at h;exact⟨⟨q,s,h.1,h.2⟩,j,m⟩
 cases h
section
variable {P : Program} {o : Oper} {es : List BI}
def yh {t:TypeId} {z:Value} (j:(P.info? t).bind (·.zero)=some z) (w:World):(zeroValue t).run P w=.ok z w:=by
 obtain⟨i,hi,f⟩:=dQ.1 j;simp[zeroValue,typeInfo,hi,f]
def acv {l:List Ac} (h:l.all Ac.yI=true):l=(I4 l).map .d:=by
 rw[DZ]at h;unfold I4;rw[pz]
 conv=>lhs;rw[←List.map_id l]
 refine ZP fun x f=>?_;have :=h x f;cases x<;>first|rfl|(simp[Ac.yI]at this)
def aiq {t:TypeId} {m:Array (Nat×Operand)} {j:List (Nat×Nat)} {z:Value} (Y:I7 P t j z) (vs:List Ac) (Z:LZ (fun(i:Nat)=>j[i]?) (Eo z).length m.toList vs=true) (ho:o.op=.build t m):
 Bd P o (LW m.toList vs) es (.ag (Iu (fun(i:Nat)=>j[i]?) (Eo z) m.toList vs)) es:=
 .pure fun ok H a w _ _ hn=>by
  obtain⟨⟨O,hu,hf,u⟩,hz,h1⟩:=Y;have I:=yh (P:=P) hz w;have J:(underlying t).run P w=.ok (.struct O) w:=wV
  have hm:(O.mapM fun f=>(do pure (f.offset,←sizeOf f.type):Sem (Nat×Nat))).run P w=.ok j.toArray w:=by
   rw[aDM];rw[nM,aHH _ hf,u];rfl
  obtain⟨q,hc,s⟩:=oQ (place:=fun(i:Nat)=>j[i]?) m.toList vs (Eo z) z.cells (aEE (ok:=ok) (w:=w) (H:=H) h1) Z hn;refine⟨.agg q,?_,.ag _ _ (by simpa using s.1) (fun i hi=>(s.2 i hi).1) (fun i hi=>?_)⟩
  rotate_left
  ·have U:=(s.2 i hi).2;have L:i<q.size:=by have :=s.1;simp at this;omega
   have M:q.toList.getD i undef=q.getD i undef:=by simp[List.getD,Array.getD,L]
   rw[M]at U;exact U
  have e:(m.map fun(i,x)=>(i,a.eval x)).toList=m.toList.map fun p=>(p.1,a.eval p.2):=BM
  have M:(fun(i:Nat)=>j.toArray[i]?)=(fun(i:Nat)=>j[i]?):=by funext i;simp
  simp only[execOp,ho,Instr.build,Eh,I,J,hm,Ep];rw[e,M,hc];rfl
def anf {t:TypeId} {m:Array (Nat×Operand)} {j:List (Nat×Nat)} {z:Value} (hS:I7 P t j z) (vs:List Ac) (hp:LZ (fun(i:Nat)=>j[i]?) (Eo z).length m.toList vs=true)
 (hd:(Iu (fun(i:Nat)=>j[i]?) (Eo z) m.toList vs).all Ac.yI=true) (ho:o.op=.build t m):
 Bd P o (LW m.toList vs) es (.d (.agg (I4 (Iu (fun(i:Nat)=>j[i]?) (Eo z) m.toList vs)))) es:=
 .pure fun ok H a w _ _ hn=>by
  obtain⟨⟨Y,hu,hf,s⟩,hz,h1⟩:=hS;have u:=yh (P:=P) hz w;have I:(underlying t).run P w=.ok (.struct Y) w:=wV
  have hm:(Y.mapM fun f=>(do pure (f.offset,←sizeOf f.type):Sem (Nat×Nat))).run P w=.ok j.toArray w:=by
   rw[aDM];rw[nM,aHH _ hf,s];rfl
  obtain⟨q,hc,J⟩:=oQ (place:=fun(i:Nat)=>j[i]?) m.toList vs (Eo z) z.cells (aEE (ok:=ok) (w:=w) (H:=H) h1) hp hn;refine⟨.agg q,?_,.d _ _ ?_⟩
  ·have e:(m.map fun(i,x)=>(i,a.eval x)).toList=m.toList.map fun p=>(p.1,a.eval p.2):=BM
   have e2:(fun(i:Nat)=>j.toArray[i]?)=(fun(i:Nat)=>j[i]?):=by funext i;simp
   simp only[execOp,ho,Instr.build,Eh,u,I,hm,Ep];rw[e,e2,hc];rfl
  rw[acv hd]at J;generalize I4 (Iu (fun(i:Nat)=>j[i]?) (Eo z) m.toList vs)=xs at J ⊢;obtain⟨Z,L⟩:=J;simp only[Cb]at Z L
  have hg:∀i,i<xs.length→(xs.map Ac.d).getD i .junk=.d (xs.getD i DL):=by
   intro i hi;simp[List.getD,hi]
  have M:q.size=xs.length:=dI
  refine .agg xs q M ?_ ?_<;>intro i hi
  ·have :=(L i hi).1;rw[hg i hi]at this;exact this
  have O:=(L i hi).2;rw[hg i hi]at O;have U:i<q.size:=AA
  have e:q.toList.getD i undef=q.getD i undef:=by simp[List.getD,Array.getD,U]
  rw[e]at O;cases O with |d _ _ h=>exact h
def amD {ok:Nat→Prop} {w:World} {H:List Bc} {ys:List D} {size b:Nat} {cells:Array Value} {e:TypeId} {fr:Nat×Nat} (m:∀y∈ys,y.cells.length=size) (L:w.heap[b]? =some (.cells cells e fr)) (q:ok b) (s:FB ok w H (flat ys) cells.toList):
 DT ok w (.sl ys) (.slice (some ⟨b,0,none⟩) ys.length ys.length):=by
 have I:=Qe m;have u:cells.size=ys.length*size:=by have :=s.1;simp at this;omega
 have M:∀i,i<ys.length→ys.getD i DL∈ys:=fun i hi=>KR
 have z:∀i j,i<ys.length→j<size→i*size+j<ys.length*size:=by
  intro i j hi f
  calc i*size+j<i*size+size:=AA
   _=(i+1)*size:=by rw[Sl]
   _≤ys.length*size:=J5 _ hi
 have J:∀i j,i<ys.length→j<size→w.cell? ⟨b,0+(i*size+j),none⟩=some (cells.toList.getD (i*size+j) undef):=by
  intro i j hi f;have :=z i j hi f;rw[Ik];simp[World.cell?,L,u,this,List.getD]
 refine .sl ys b 0 ys.length size (Dy _) (fun _ _=>q) (fun i hi=>m _ (M i hi)) (fun i hi j f=>?_) (fun i hi j f=>?_) (fun i hi j f=>?_)
 ·have :=(s.2 (i*size+j) (by rw[I];exact z i j hi f)).1;rw[flat_get m i j hi f]at this;exact this
 ·rw[J i j hi f];rfl
 have :=(s.2 (i*size+j) (by rw[I];exact z i j hi f)).2;rw[flat_get m i j hi f]at this;unfold cellAt;rw[J i j hi f];cases this with |d _ _ h=>exact h
def aKD {t e:TypeId} {size m len:Nat} {z:Value} (hE:Fe P t e size m) (hz:(P.info? e).bind (·.zero)=some z) (h1:z.cells.all (·.oneCell')=true) (M:z.cells.size=size) (hlen:len*size≤16777216) {f:Array (Nat×Operand)} {vs:List Ac}
 (hp:LZ (fun i=>some (i*size,size)) (len*size) f.toList vs=true) {ok:Nat→Prop} {w:World} {H:List Bc} {a:Act} (hn:∀n∈LW f.toList vs,R ok w H n.2 (a.eval n.1)):
 ∃cells,(Instr.buildSlice t len (f.map fun(i,x)=>(i,a.eval x))).run P w=.ok (.slice (some ⟨w.heap.size,0,none⟩) len len) (w.alloc (.cells cells e))∧FB ok w H (Iu (fun i=>some (i*size,size)) (Oe z (len*size)) f.toList vs) cells.toList:=by
 obtain⟨i,z',hi,_,hs,_,_⟩:=hE.info;have O:=yh (P:=P) hz w;have q:(sizeOf e).run P w=.ok size w:=aCQ
 have s:(underlying t).run P w=.ok (.slice e) w:=aDK
 have e0:(f.map fun(i,x)=>(i,a.eval x)).toList=f.toList.map fun p=>(p.1,a.eval p.2):=BM
 have U:(Oe z (len*size)).length=len*size:=by simp[Oe]
 have u:0<z.cells.size:=by rw[M];exact hE.pos
 obtain⟨j,Y,hR⟩:=oQ (place:=fun i=>some (i*size,size)) f.toList vs (Oe z (len*size)) _ (aj7 (ok:=ok) (w:=w) (H:=H) (n:=len*size) h1 u) (by rw[U];exact hp) hn;refine⟨j,?_,hR⟩;have I:¬(len*size>2^24):=AA
 by_cases J:len*size=0
 ·have Z:(Array.range (len*size)).map (fun k=>(z.cells[k % z.cells.size]! :Value))= #[]:=by rw[J];simp
  rw[Z]at Y;have L:(Array.range (len*size)).map (fun k=>((#[]:Array Value)[k % (#[]:Array Value).size]! :Value))= #[]:=by rw[J];simp
  simp only[Instr.buildSlice,Eh,s,Ep,q,I,Ip,Sem.run_ite,J,KE,FM];simp only[J]at L;rw[L,e0,Y];rfl
 simp only[Instr.buildSlice,Eh,s,Ep,q,I,Ip,Sem.run_ite,J,O,FM];rw[e0,Y];rfl
def ar0 {t e:TypeId} {size j len:Nat} {z:Value} (hE:Fe P t e size j) (J:(P.info? e).bind (·.zero)=some z) (L:z.cells.all (·.oneCell')=true) (s:z.cells.size=size) (hlen:len*size≤16777216) {f:Array (Nat×Operand)} (vs:List Ac) (ys:List D)
 (M:LZ (fun i=>some (i*size,size)) (len*size) f.toList vs=true) (u:Iu (fun i=>some (i*size,size)) (Oe z (len*size)) f.toList vs=flat ys) (O:ys.length=len) (m:ys.all (fun y=>decide (y.cells.length=size))=true) (U:o.op=.buildSlice t len f):
 Bd P o (LW f.toList vs) es (.d (.sl ys)) es:=
 .eff fun C ok H a w Y Z=>by
  obtain⟨cells,hr,q⟩:=aKD hE J L s hlen M Z;rw[u]at q;obtain⟨h2,I⟩:=Y.fresh (.cells cells e);refine⟨.slice (some ⟨w.heap.size,0,none⟩) len len,_,_,H,.inl ?_,I,.refl _,h2,.d _ _ ?_⟩
  ·simp only[execOp,U,Eh,hr,Ep,FM]
  rw[←O];exact amD (H:=H) (fun y u=>by rw[DZ]at m;simpa using m y u) (Wv w _) (.inr rfl) (q.mono I (.refl _))
def ab5 {t e:TypeId} {size j len:Nat} {z:Value} (hE:Fe P t e size j) (Z:(P.info? e).bind (·.zero)=some z) (h1:z.cells.all (·.oneCell')=true) (L:z.cells.size=size) (hlen:len*size≤16777216) {f:Array (Nat×Operand)} (vs:List Ac) (ys:List D)
 (hp:LZ (fun i=>some (i*size,size)) (len*size) f.toList vs=true) (M:Iu (fun i=>some (i*size,size)) (Oe z (len*size)) f.toList vs=flat ys) (O:ys.length=len) (q:ys.all (fun y=>decide (y.cells.length=size))=true) (ho:o.op=.buildSlice t len f):
 Bd P o (LW f.toList vs) es (.aS es.length) (es++[.arr e size ys]):=
 .eff fun C ok H a w U hn=>by
  obtain⟨cells,hr,m⟩:=aKD hE Z h1 L hlen hp hn;rw[M]at m;have s:∀y∈ys,y.cells.length=size:=fun y M=>by rw[DZ]at q;simpa using q y M
  have hfl:=Qe s;have u:cells.size=ys.length*size:=by have :=m.1;simp at this;omega
  have I:=hE.pos
  have Y:ys.length≤16777216:=by
   have :ys.length*1≤ys.length*size:=Nat.mul_le_mul_left _ I;rw[O]at this ⊢;omega
  obtain⟨h2,h3⟩:=U.push (.cells cells e) ⟨.slice (some ⟨w.heap.size,0,none⟩) len len,size⟩ (.arr e size ys) (fun b J=>by simpa[DC]using J.symm) (by
   refine⟨rfl,s,cells.toList,⟨Og,.inr ⟨w.heap.size,len,cells,by rw[O],EH _,Wv w _,AA,vU,dD (by rw[u,O]),?_⟩⟩,?_⟩
   ·rw[Pv E5]
   exact m.mono (fun b J=>⟨J,Iz _ _ _ (U.jG b J)⟩) (Names.push _ _))
  refine⟨.slice (some ⟨w.heap.size,0,none⟩) len len,_,ok,_,.inl ?_,h3,Names.push _ _,h2,.aS _ _ _ _ size (by rw[←U.hlen];simp)⟩;simp only[execOp,ho,Eh,hr,Ep,FM]
end
section
variable {P : Program} {ops : Array Oper} {Q : Exit → Act → World → Prop} {φ : Nat → Value → World → Prop} {W : World} {a0 : Act} {i : Nat}
variable {d : Option Tmp} {t : TypeId} {p : String} {af : Array Edge} {g : Option (Nat × Bool)}
def Enters (P:Program) (f:FuncId):Prop:=∀args w,(callFunc f args).run P w=.ok (.enter f args) w
def enters_of {f:FuncId} {fn:Func} {c:Code} (m:P.funcs[f]? =some fn) (j:(fn.name== "runtime.NumGoroutine")=false) (q:fn.body=some c):Enters P f:=by
 intro args w;have s:fn.name≠ "runtime.NumGoroutine" :=MF
 simp[callFunc,m,s,q]
def DV (P:Program) (f:FuncId):Bool:=match P.funcs[f]? with
 |some fn=> !(fn.name== "runtime.NumGoroutine")&&fn.body.isSome
 |none=>false
def Qq {f:FuncId} (h:DV P f=true):Enters P f:=by
 unfold DV at h;cases j:P.funcs[f]? with
 |none=>rw[j]at h;cases h
 |some fn=>
  rw[j]at h;simp only[CZ,Qu]at h;obtain⟨c,m⟩:=U0.1 h.2;exact enters_of j h.1 m
def nV {o:Oper} {a:Act} {f:FuncId} {ats:Array TypeId} {ayp:Array Operand} (j:o.op=.call { callee:=.value (.func f),args:=ayp,argTypes:=ats }):execOp a.eval o=callFunc f (ayp.map a.eval):=by
 have m:a.eval (.func f)=.func (.func f) #[] #[]:=rfl;unfold execOp;simp[j,resolve,Deferred.ofValue,invoke,m]
end
inductive DU where
 |ent (k:Nat)
 |nil (size:Nat)
def DU.hd (H:List Bc):DU→Bc
 | .ent k=>H.getD k ⟨undef,0⟩
 | .nil s=>⟨.slice none 0 0,s⟩
def Ac.Qy (srcs:List DU) (n:Nat):Ac→Ac
 | .d x=>.d x
 | .ptr k off=>match srcs[k]? with |some (.ent j)=>.ptr j off|some (.nil _)=>.junk|none=>.ptr (n+(k-srcs.length)) off
 | .aS k=>match srcs[k]? with |some (.ent j)=>.aS j|some (.nil _)=>.junk|none=>.aS (n+(k-srcs.length))
 | .kK k i off=>match srcs[k]? with |some (.ent j)=>.kK j i off|some (.nil _)=>.junk|none=>.kK (n+(k-srcs.length)) i off
 | .mp k=>match srcs[k]? with |some (.ent j)=>.mp j|some (.nil _)=>.junk|none=>.mp (n+(k-srcs.length))
 | .uI k=>match srcs[k]? with |some (.ent j)=>.uI j|some (.nil _)=>.junk|none=>.uI (n+(k-srcs.length))
 | .clip xs=>.clip xs
 |_=>.junk
def Ac.up (srcs:List DU) (n:Nat):Ac→Ac
 | .eH xs=>.eH (xs.map (Ac.Qy srcs n))
 | .fn f fi ca=>.fn f (fi.map (Ac.Qy srcs n)) (ca.map (Ac.Qy srcs n))
 |x=>x.Qy srcs n
def aED (srcs:List DU):Ac→Ac→Prop
 | .d x,y=>y=.d x
 | .ptr k off,y=>∃i,y=.ptr i off∧srcs[i]? =some (.ent k)
 | .mp k,y=>∃i,y=.mp i∧srcs[i]? =some (.ent k)
 |_,_=>False
def lS (srcs:List DU):List Ac→List Ac→Prop
 |x::xs,y::ys=>aED srcs x y∧lS srcs xs ys
 | [],[]=>True
 |_,_=>False
def jV {srcs:List DU}:∀{xs ys:List Ac},lS srcs xs ys→xs.length=ys.length
 | [],[],_=>rfl
 |_::xs,_::ys,h=>by simp[jV h.2]
 | [],_::_,h=>h.elim
 |_::_,[],h=>h.elim
def aGi {srcs:List DU}:∀{xs ys:List Ac},lS srcs xs ys→∀i,i<ys.length→aED srcs (xs.getD i .junk) (ys.getD i .junk)
 | [],[],_,i,hi=>MS
 |_::xs,_::ys,h,0,_=>by simpa using h.1
 |_::xs,_::ys,h,i+1,hi=>by simpa using aGi h.2 i FZ
 | [],_::_,h,_,_=>h.elim
 |_::_,[],h,_,_=>h.elim
def aei (srcs:List DU):Ac→Ac→Prop
 | .fn f fi ca,y=>∃j m,y=.fn f j m∧lS srcs fi j∧lS srcs ca m
 | .d x,y=>y=.d x∨(∃i s,x=.lit (.slice none 0 0)∧y=.aS i∧srcs[i]? =some (.nil s))∨(x=.lit (.slice none 0 0)∧y=.d (.sl []))
 | .aS k,y=>∃i,y=.aS i∧srcs[i]? =some (.ent k)
 | .ptr k off,y=>∃i,y=.ptr i off∧srcs[i]? =some (.ent k)
 | .mp k,y=>∃i,y=.mp i∧srcs[i]? =some (.ent k)
 |_,_=>False
def BI.closed:BI→Bool
 | .box cs=>cs.all Ac.yI
 | .loop .. =>false
 |_=>true
def EW.any {ok:Nat→Prop} {w:World} {H H2:List Bc} {h:Bc} {e:BI} (j:EW ok w H h e) (u:e.closed=true):EW ok w H2 h e:=by
 cases e with
 |dead=>trivial
 |box cs=>
  obtain⟨b,vs,T,z,I,J,q⟩:=j;refine⟨b,vs,T,z,I,J,fun i hi=>⟨(q i hi).1,?_⟩⟩;have m:=(q i hi).2;simp only[BI.closed,DZ]at u;have f:=u (cs.getD i .junk) KR;cases M:cs.getD i .junk with
  |d x=>rw[M]at m;cases m with |d _ _ h=>exact .d _ _ h
  |_=>rw[M]at f;simp[Ac.yI]at f
 |arr e s es=>
  obtain⟨z,I,xs,J,q,m⟩:=j;refine⟨z,I,xs,J,q,fun i hi=>⟨(m i hi).1,?_⟩⟩;have f:=(m i hi).2;have L:(flat es).getD i .junk∈flat es:=KR
  unfold flat at L ⊢;simp only[Rt,F8]at L;obtain⟨x,_,y,_,O⟩:=L;unfold flat at f;rw[←O]at f ⊢;cases f with |d _ _ h=>exact .d _ _ h
 |map es=>exact j
 |bf es=>exact j
 |iter es vis=>exact j
 |loop=>cases u
def BI.up (srcs:List DU) (n:Nat):BI→BI
 | .box cs=>.box (cs.map (Ac.Qy srcs n))
 |e=>e
def Ac.ajT (srcs:List DU):Ac→Bool
 | .d _=>true
 | .mp k=>match srcs[k]? with |some (.ent _)=>true|_=>false
 | .ptr k _=>match srcs[k]? with |some (.ent _)=>true|_=>false
 |_=>false
def BI.afL (srcs:List DU):BI→Bool
 | .box cs=>cs.all (Ac.ajT srcs)
 | .loop .. =>false
 |_=>true
def BI.ahh (srcs:List DU) (n:Nat):BI→Bool
 | .box cs=>cs.all fun x=>x.yI||(x.Qy srcs n).leaf
 | .loop .. =>false
 |_=>true
def BI.YF (srcs:List DU) (n:Nat) (e:BI):(e.up srcs n).live=e.live:=by cases e<;>rfl
def aav {srcs:List DU} {n:Nat} {x:Ac} (h:x.yI=true):x.Qy srcs n=x:=by cases x<;>first|rfl|cases h
def BI.apN {srcs:List DU} {n:Nat} {e:BI} (h:e.closed=true):e.up srcs n=e:=by
 cases e with
 |box cs=>
  simp only[BI.closed,DZ]at h;show BI.box (cs.map (Ac.Qy srcs n))=BI.box cs
  rw[show cs.map (Ac.Qy srcs n)=cs from by
   conv=>rhs;rw[←List.map_id cs]
   exact ZP fun x f=>aav (h x f)]
 |_=>rfl
def aMv {srcs:List DU} {n:Nat}:∀{E:List BI},E.all BI.closed=true→E.map (BI.up srcs n)=E
 | [],_=>rfl
 |e::E,h=>by
  simp only[qH,CZ]at h;rw[Jr,BI.apN h.1,aMv h.2]
def afT {srcs:List DU} {n:Nat} {e:BI} (h:e.closed=true):e.ahh srcs n=true:=by
 cases e with
 |box cs=>
  simp only[BI.closed,BI.ahh,DZ]at h ⊢;intro x f;rw[h x f];rfl
 |loop=>cases h
 |_=>rfl
def EW.down {ok:Nat→Prop} {w:World} {H Hc:List Bc} {h:Bc} {srcs:List DU} {n:Nat} {e:BI} (J:∀(j:Nat) (s:DU),srcs[j]? =some s→Hc[j]? =some (DU.hd H s)) (hd:e.afL srcs=true) (u:EW ok w H h (e.up srcs n)):EW ok w Hc h e:=by
 cases e with
 |dead=>trivial
 |arr=>exact u.any rfl
 |map=>exact u
 |bf=>exact u
 |iter=>exact u
 |loop=>cases hd
 |box cs=>
  obtain⟨b,vs,T,L,M,O,U⟩:=u;refine⟨b,vs,T,L,M,by rw[O,Cb],fun i hi=>?_⟩;obtain⟨z,m⟩:=U i aFi;rw[TB _ _ _ hi]at m z;simp only[BI.afL,DZ]at hd;have f:=hd (cs.getD i .junk) KR;generalize cs.getD i .junk=x at m f z ⊢;generalize vs.toList.getD i undef=v at m ⊢;cases x with
  |d x=>exact⟨z,by cases m with |d _ _ h=>exact .d _ _ h⟩
  |mp k=>
   refine⟨rfl,?_⟩;simp only[Ac.ajT]at f;simp only[Ac.Qy]at m;cases q:srcs[k]? with
   |none=>rw[q]at f;cases f
   |some s=>
    cases s with
    |nil _=>rw[q]at f;cases f
    |ent j=>
     rw[q]at m;cases m with
     |mp _ _ s Y I=>
      refine .mp k _ s Y ?_;rw[J k _ q];simp[DU.hd,List.getD,I]
  |ptr k off=>
   refine⟨rfl,?_⟩;simp only[Ac.ajT]at f;simp only[Ac.Qy]at m;cases q:srcs[k]? with
   |none=>rw[q]at f;cases f
   |some s=>
    cases s with
    |nil _=>rw[q]at f;cases f
    |ent j=>
     rw[q]at m;cases m with
     |ptr _ _ b s I=>
      refine .ptr k off b s ?_;rw[J k _ q];simp[DU.hd,List.getD,I]
  |_=>simp[Ac.ajT]at f
def Jz (srcs:List DU) (es E':List BI):List BI:=
 (es.zipIdx.map fun(e,j)=>match srcs.findIdx? (fun s=>match s with | .ent k=>k==j| .nil _=>false)with |some i=>(E'.getD i .dead).up srcs es.length|none=>e)++(E'.drop srcs.length).map (BI.up srcs es.length)
def QD (srcs:List DU) (es E E':List BI):Bool:=
 decide (srcs.length=E.length)&&decide (srcs.length≤E'.length)&&E.all (BI.afL srcs)&&E'.all (BI.ahh srcs es.length)&&
 decide ((srcs.filterMap fun s=>match s with | .ent k=>some k| .nil _=>none).Nodup)&&
 ((srcs.zip E').all fun p=>match p.1 with | .ent _=>true| .nil _=> !p.2.live)&&(srcs.all fun s=>match s with | .ent k=>decide (k<es.length)&&(es.getD k .dead).live| .nil _=>true)
def gJ (srcs:List DU) (es:List BI):List BI→Prop
 |E=>∀(i:Nat) (s:DU),srcs[i]? =some s→match s with | .ent k=>(E[i]?).map (BI.up srcs es.length)=es[k]? | .nil sz=>∃e,E[i]? =some (.arr e sz [])
def Tf {ok:Nat→Prop} {w:World} {H Hc H':List Bc} {srcs:List DU} {x:Ac} {v:Value} (U:Hc=srcs.map (DU.hd H)) (J:∀(i k:Nat),srcs[i]? =some (.ent k)→k<H.length) (Y:Names Hc H') (h:R ok w H' x v):R ok w (H++H'.drop srcs.length) (x.Qy srcs H.length) v:=by
 have key:∀(k:Nat) (hd:Bc),H'[k]? =some hd→(∀(j:Nat),srcs[k]? =some (.ent j)→(H++H'.drop srcs.length)[j]? =some hd)∧(srcs[k]? =none→(H++H'.drop srcs.length)[H.length+(k-srcs.length)]? =some hd):=by
  intro k hd M;refine⟨fun j O=>?_,fun L=>?_⟩
  ·have z:=J k j O;have u:Hc[k]? =some (H.getD j ⟨undef,0⟩):=by rw[U,IX,O];rfl
   have q:=Y _ _ u;rw[M]at q;rw[G6 z];simp[List.getD,z]at q;simp[z,q]
  have Z:srcs.length≤k:=by simpa using L
  rw[Io AA,OQ];have :srcs.length+(H.length+(k-srcs.length)-H.length)=k:=AA
  rw[this,M]
 cases h with
 |d x v h=>exact .d x v h
 |ptr k off b s h=>
  obtain⟨u,q⟩:=key k _ h;simp only[Ac.Qy];split<;>rename_i m
  ·exact .ptr _ off b s (u _ m)
  ·exact .junk _
  exact .ptr _ off b s (q m)
 |aS k ad n cap s h=>
  obtain⟨u,q⟩:=key k _ h;simp only[Ac.Qy];split<;>rename_i m
  ·exact .aS _ ad n cap s (u _ m)
  ·exact .junk _
  exact .aS _ ad n cap s (q m)
 |kK k i off b n cap s h=>
  obtain⟨u,q⟩:=key k _ h;simp only[Ac.Qy];split<;>rename_i m
  ·exact .kK _ i off b n cap s (u _ m)
  ·exact .junk _
  exact .kK _ i off b n cap s (q m)
 |mp k v s I h=>
  obtain⟨u,q⟩:=key k _ h;simp only[Ac.Qy];split<;>rename_i m
  ·exact .mp _ v s I (u _ m)
  ·exact .junk _
  exact .mp _ v s I (q m)
 |clip xs ad h=>exact .clip xs ad h
 |uI k ad n cap s h=>
  obtain⟨u,q⟩:=key k _ h;simp only[Ac.Qy];split<;>rename_i m
  ·exact .uI _ ad n cap s (u _ m)
  ·exact .junk _
  exact .uI _ ad n cap s (q m)
 |fn f first cap vs us I hm h h'=>exact .junk _
 |eH xs vs I h=>exact .junk _
 |ag xs vs I hf h=>exact .junk _
 |junk v=>exact .junk _
def adI {ok:Nat→Prop} {w:World} {H Hc H':List Bc} {srcs:List DU} {x:Ac} {v:Value} (m:Hc=srcs.map (DU.hd H)) (j:∀(i k:Nat),srcs[i]? =some (.ent k)→k<H.length) (q:Names Hc H') (h:R ok w H' x v):R ok w (H++H'.drop srcs.length) (x.up srcs H.length) v:=by
 cases h with
 |eH xs vs u h=>exact .eH _ vs (by simp[u]) (fun i hi=>acB)
 |ag xs vs u I h=>exact .junk _
 |d x v h=>exact Tf m j q (.d x v h)
 |ptr k off b s h=>exact Tf m j q (.ptr k off b s h)
 |aS k ad n cap s h=>exact Tf m j q (.aS k ad n cap s h)
 |kK k i off b n cap s h=>exact Tf m j q (.kK k i off b n cap s h)
 |mp k v s u h=>exact Tf m j q (.mp k v s u h)
 |clip xs ad h=>exact Tf m j q (.clip xs ad h)
 |uI k ad n cap s h=>exact Tf m j q (.uI k ad n cap s h)
 |fn f first cap vs us u z h h'=>exact .fn f _ _ vs us (by simp[u]) (by simp[z]) (fun i hi=>acB) (fun i hi=>by rw[Cb]at hi;rw[TB _ _ _ hi];exact Tf m j q (h' i hi))
 |junk v=>exact .junk _
def EW.upw {ok:Nat→Prop} {w:World} {H Hc H':List Bc} {h:Bc} {srcs:List DU} {n:Nat} {e:BI} (s:Hc=srcs.map (DU.hd H)) (m:∀(i k:Nat),srcs[i]? =some (.ent k)→k<H.length) (u:Names Hc H') (z:H.length=n) (q:e.ahh srcs n=true) (f:EW ok w H' h e):
 EW ok w (H++H'.drop srcs.length) h (e.up srcs n):=by
 cases e with
 |dead=>trivial
 |arr=>exact f.any rfl
 |map=>exact f
 |bf=>exact f
 |iter=>exact f
 |loop=>cases q
 |box cs=>
  obtain⟨b,vs,T,I,J,L,M⟩:=f;refine⟨b,vs,T,I,J,by rw[L,Cb],fun i hi=>?_⟩;rw[Cb]at hi;obtain⟨O,U⟩:=M i hi;simp only[BI.ahh,DZ]at q;have j:=q (cs.getD i .junk) KR;rw[TB _ _ _ hi];refine⟨?_,by have :=Tf s m u U;rwa [z]at this⟩;rcases Bool.or_eq_true_iff.1 j with j|j
  ·rw[aav j];exact O
  exact j
def Ei :List Operand→List Ac→List (Operand×Ac)
 |x::xs,v::vs=>(x,v)::Ei xs vs
 |_,_=>[]
def LD (srcs:List DU):List Ac→List Ac→Prop
 |x::xs,y::ys=>aei srcs x y∧LD srcs xs ys
 | [],[]=>True
 |_,_=>False
def acT {srcs:List DU}:∀{xs ys:List Ac},LD srcs xs ys→xs.length=ys.length
 | [],[],_=>rfl
 |_::xs,_::ys,h=>by simp[acT h.2]
 | [],_::_,h=>h.elim
 |_::_,[],h=>h.elim
def asO {srcs:List DU} {ops:List Operand}:∀{xs ys:List Ac},ops.length=xs.length→LD srcs xs ys→∀i,i<ys.length→∃o x,ops[i]? =some o∧(o,x)∈Ei ops xs∧aei srcs x (ys.getD i .junk):=by
 induction ops with
 |nil=>
  intro xs ys f h i hi;cases xs with
  |nil=>cases ys with |nil=>simp at hi|cons _ _=>exact h.elim
  |cons _ _=>simp at f
 |cons o ops j=>
  intro xs ys f h i hi;cases xs with
  |nil=>simp at f
  |cons x xs=>
   cases ys with
   |nil=>exact h.elim
   |cons y ys=>
    cases i with
    |zero=>exact⟨o,x,rfl,by simp[Ei],h.1⟩
    |succ i=>
     obtain⟨m,q,s,u,z⟩:=j Ku h.2 i FZ;exact⟨m,q,PV,by simp[Ei,u],SC⟩
def amg {srcs:List DU} {H:List Bc} {b:Nat}:b∈(srcs.filterMap fun s=>match s with | .ent k=>DC (H.getD k ⟨undef,0⟩).v| .nil _=>none)↔∃k,.ent k∈srcs∧DC (H.getD k ⟨undef,0⟩).v=some b:=by
 rw[RY];constructor
 ·rintro⟨s,f,h⟩;cases s with
  |ent k=>exact⟨k,f,h⟩
  |nil _=>cases h
 rintro⟨k,f,h⟩;exact⟨_,f,h⟩
section
variable {P : Program} {o : Oper} {es : List BI}
def aKX :∀{srcs:List DU},(srcs.filterMap fun s=>match s with | .ent k=>some k| .nil _=>none).Nodup→∀(i j k:Nat),srcs[i]? =some (.ent k)→srcs[j]? =some (.ent k)→i=j
 | [],_,i,j,k,h,_=>H8
 |s::srcs,m,i,j,k,hi,q=>by
  have f:∀(n:Nat),srcs[n]? =some (.ent k)→k∈srcs.filterMap fun s=>match s with | .ent k=>some k| .nil _=>none:=fun n h=>by
   rw[RY];exact⟨_,Us h,rfl⟩
  have u:(srcs.filterMap fun s=>match s with | .ent k=>some k| .nil _=>none).Nodup:=by
   cases s with
   |ent k'=>simp only[Ns]at m;exact(Jy.1 m).2
   |nil _=>simpa only[Ns]using m
  match i,j with
  |0,0=>rfl
  |0,j+1=>
   simp at hi q;subst hi;simp only[Ns]at m;exact absurd (f j q) (Jy.1 m).1
  |i+1,0=>
   simp at hi q;subst q;simp only[Ns]at m;exact absurd (f i hi) (Jy.1 m).1
  |i+1,j+1=>rw[aKX u i j k FZ NS]
def abp {f:FuncId} {C:Dv} {ok:Nat→Prop} {H:List Bc} {w:World} (Z:CX C ok H es w) (srcs:List DU) {dP eU:List Ac} {E E':List BI} {res:Ac} (hr:Ak P f eU E res E')
 (hb:QD srcs es E E'=true) (hE:gJ srcs es E) (ha:LD srcs dP eU) {ops:List Operand} (hl:ops.length=dP.length) {a:Act} (hn:∀n∈Ei ops dP,R ok w H n.2 (a.eval n.1)):
 Calls P f (ops.map a.eval).toArray w fun e w'=>∃v ok' H',e=.returned v∧Dw ok w ok' w'∧Names H H'∧CX C ok' H' (Jz srcs es E') w'∧R ok' w' H' (res.up srcs es.length) v:=by
 unfold QD at hb;simp only[CZ,G8,DZ]at hb;obtain⟨⟨⟨⟨⟨⟨hb1,hb2⟩,hb3⟩,hb4⟩,hb5⟩,hb6⟩,hb7⟩:=hb;have hidx:=aKX hb5
 let Hc:=srcs.map (DU.hd H)
 let X:=srcs.filterMap fun s=>match s with | .ent k=>DC (H.getD k ⟨undef,0⟩).v| .nil _=>none
 have hX:∀b,b∈X↔∃k,.ent k∈srcs∧DC (H.getD k ⟨undef,0⟩).v=some b:=fun b=>amg
 have U:∀(i k:Nat),srcs[i]? =some (.ent k)→k<es.length∧(es.getD k .dead).live=true:=by
  intro i k hi;have :=hb7 _ (Us hi);simpa using this
 have hlt:∀(i k:Nat),srcs[i]? =some (.ent k)→k<H.length:=fun i k hi=>by rw[Z.hlen];exact(U i k hi).1
 have hHk:∀(k:Nat),k<H.length→H[k]? =some (H.getD k ⟨undef,0⟩):=fun k hk=>by simp[List.getD,hk]
 have ahi:∀(k:Nat),k<es.length→es[k]? =some (es.getD k .dead):=fun k hk=>by simp[List.getD,hk]
 have L:∀b,b∈X→∃(i k:Nat),srcs[i]? =some (.ent k)∧DC (H.getD k ⟨undef,0⟩).v=some b∧¬ok b∧b<w.heap.size∧(C.w0.heap.size≤b∨b∈C.X):=by
  intro b hb;obtain⟨k,hk,hbk⟩:=(hX b).1 hb;obtain⟨i,hi,M⟩:=Gj hk;have hi':srcs[i]? =some (.ent k):=by simp[hi,M]
  have :=Z.blk k _ _ b (ahi k (U i k hi').1) (U i k hi').2 (hHk k (hlt i k hi')) hbk;exact⟨i,k,hi',hbk,this⟩
 have hmc:CX ⟨w,ok,X,Hc⟩ ok Hc E w:=by
  refine⟨.refl _ _,fun _ h=>h,fun _ h=>.inl h,Z.jG,.refl _,by simp[Hc,hb1],?_,?_,?_⟩
  ·intro i e h M I;have hi:i<srcs.length:=aHC
   have hcl:e.afL srcs=true:=hb3 e (Us M);have axt:∀(j:Nat) (s:DU),srcs[j]? =some s→Hc[j]? =some (DU.hd H s):=fun j s m=>by simp[Hc,m]
   have m:srcs[i]? =some srcs[i]:=Oj
   have hd:=hE i _ m;simp only[Hc,IX,m,Hr,Ju]at I;cases hsi:srcs[i]with
   |ent k=>
    rw[hsi]at hd I m;simp only[DU.hd]at I;subst I;simp only at hd;rw[M,Hr]at hd;exact EW.down axt hcl (Z.ent k _ _ hd.symm (hHk k (hlt i k m)))
   |nil sz=>
    rw[hsi]at hd I;simp only[DU.hd]at I;subst I;obtain⟨e',he'⟩:=hd;rw[M]at he';obtain rfl:=CJ he';exact⟨rfl,BM,[],⟨BM,.inl ⟨rfl,rfl⟩⟩,RN,fun i hi=>yu⟩
  ·intro i e h b M J I z;have hi:i<srcs.length:=aHC
   have m:srcs[i]? =some srcs[i]:=Oj
   simp only[Hc,IX,m,Hr,Ju]at I;cases hsi:srcs[i]with
   |ent k=>
    rw[hsi]at I m;simp only[DU.hd]at I;subst I;have hbX:b∈X:=(hX b).2 ⟨k,Us m,z⟩;obtain⟨_,_,_,_,O,Y,_⟩:=L b hbX;exact⟨O,Y,.inr hbX⟩
   |nil sz=>
    rw[hsi]at I;simp only[DU.hd]at I;subst I;simp[DC]at z
  intro i j e e' h h' b M he' J aeD I hh' z aeE;have hi:i<srcs.length:=aHC
  have hj:j<srcs.length:=by rw[hb1];exact(F6.1 he').1
  have m:srcs[i]? =some srcs[i]:=Oj
  have hs':srcs[j]? =some srcs[j]:=by simp[hj]
  simp only[Hc,IX,m,Hr,Ju]at I;simp only[Hc,IX,hs',Hr,Ju]at hh';cases hsi:srcs[i]with
  |nil sz=>rw[hsi]at I;simp only[DU.hd]at I;subst I;simp[DC]at z
  |ent k=>
   cases hsj:srcs[j]with
   |nil sz=>rw[hsj]at hh';simp only[DU.hd]at hh';subst hh';simp[DC]at aeE
   |ent k'=>
    rw[hsi]at I m;rw[hsj]at hh' hs';simp only[DU.hd]at I hh';subst I;subst hh';have hkk:=Z.CW k k' _ _ _ _ b (ahi k (U i k m).1) (ahi k' (U j k' hs').1) (U i k m).2 (U j k' hs').2 (hHk k (hlt i k m)) (hHk k' (hlt j k' hs')) z aeE;subst hkk;exact hidx i j k m hs'
 have hargs:∀i,i<eU.length→R ok w Hc (eU.getD i .junk) ((ops.map a.eval).toArray.getD i undef):=by
  intro i hi;obtain⟨op,x,ho,hmem,harg⟩:=asO hl ha i hi;have hR:=hn _ hmem
  have e:(ops.map a.eval).toArray.getD i undef=a.eval op:=by
   obtain⟨O,Y⟩:=F6.1 ho;simp[Array.getD,O,Y]
  rw[e];simp only at hR;generalize eU.getD i .junk=y at harg ⊢;generalize a.eval op=u at hR ⊢;have hHc:∀(j:Nat) (s:DU),srcs[j]? =some s→Hc[j]? =some (DU.hd H s):=fun j s m=>by simp[Hc,m]
  cases x with
  |d x=>
   rcases harg with rfl|⟨j,s,rfl,rfl,m⟩|⟨rfl,rfl⟩
   ·cases hR with |d _ _ h=>exact .d _ _ h
   ·have :=hR.lit;rw[this];exact .aS j none 0 0 s (hHc j _ m)
   have :=hR.lit;rw[this];exact .d _ _ (.sl0 none 0)
  |aS k=>
   obtain⟨j,rfl,m⟩:=harg;cases hR with
   |aS _ ad n cap s hH=>
    refine .aS j ad n cap s ?_;rw[hHc j _ m];simp[DU.hd,List.getD,hH]
  |ptr k off=>
   obtain⟨j,rfl,m⟩:=harg;cases hR with
   |ptr _ _ b s hH=>
    refine .ptr j off b s ?_;rw[hHc j _ m];simp[DU.hd,List.getD,hH]
  |mp k=>
   obtain⟨j,rfl,m⟩:=harg;cases hR with
   |mp _ _ s hl hH=>
    refine .mp j _ s hl ?_;rw[hHc j _ m];simp[DU.hd,List.getD,hH]
  |fn f fi ca=>
   obtain⟨fi',ca',rfl,O,Y⟩:=harg
   have one:∀(x y:Ac) (v:Value),aED srcs x y→R ok w H x v→R ok w Hc y v:=by
    intro x y v hxy hx;cases x with
    |d x=>obtain rfl:=hxy;cases hx with |d _ _ h=>exact .d _ _ h
    |mp k=>
     obtain⟨j,rfl,m⟩:=hxy;cases hx with
     |mp _ _ s hl hH=>
      refine .mp j _ s hl ?_;rw[hHc j _ m];simp[DU.hd,List.getD,hH]
    |ptr k off=>
     obtain⟨j,rfl,m⟩:=hxy;cases hx with
     |ptr _ _ b s hH=>
      refine .ptr j off b s ?_;rw[hHc j _ m];simp[DU.hd,List.getD,hH]
    |_=>exact hxy.elim
   cases hR with
   |fn _ _ _ vs us hl1 hl2 h3 h4=>
    refine .fn f fi' ca' vs us (by rw[hl1,jV O]) (by rw[hl2,jV Y]) (fun i hi=>?_) (fun i hi=>?_)
    ·exact one _ _ _ (aGi O i hi) (h3 i (by rw[jV O];exact hi))
    exact one _ _ _ (aGi Y i hi) (h4 i (by rw[jV Y];exact hi))
  |_=>exact harg.elim
 refine(hr ok X Hc w _ hmc (by simp[hl,acT ha]) hargs).mono ?_;rintro e w' ⟨v,ok',H',rfl,q,hR⟩;have hgr:Dw ok w ok' w':=fun b hb=>⟨q.wE b hb,q.fr.block b (Z.jG b hb) (fun hbX=>by obtain⟨_,_,_,_,O,_⟩:=L b hbX;exact O hb)⟩
 have ayf:srcs.length≤H'.length:=by rw[q.hlen];exact hb2
 refine⟨v,ok',H++H'.drop srcs.length,rfl,hgr,Names.push _ _,?_,by have :=adI rfl hlt q.names hR;rwa [Z.hlen]at this⟩
 let idx:Nat→Option Nat:=fun j=>srcs.findIdx? (fun s=>match s with | .ent k=>k==j| .nil _=>false)
 have awr:∀(j i:Nat),idx j=some i→srcs[i]? =some (.ent j):=by
  intro j i h;simp only[idx,abT]at h;obtain⟨O,Y,_⟩:=h;have :srcs[i]? =some srcs[i]:=by simp[O]
  cases m:srcs[i]with
  |ent k=>rw[m]at Y this;simp at Y;rw[this,Y]
  |nil _=>rw[m]at Y;simp at Y
 have awt:∀(j:Nat),idx j=none→∀(i:Nat),srcs[i]? ≠some (.ent j):=by
  intro j h i hi;simp only[idx,List.findIdx?_eq_none_iff]at h;have :=h _ (Us hi);simp at this
 have hlow:∀(j:Nat),j<es.length→(Jz srcs es E')[j]? =some (match idx j with |some i=>(E'.getD i .dead).up srcs es.length|none=>es.getD j .dead):=by
  intro j hj;unfold Jz;rw[G6 (by simpa using hj)];simp only[IX,List.getElem?_zipIdx,ahi j hj,Hr,Ik];rfl
 have avm:(Jz srcs es E').length=es.length+(E'.length-srcs.length):=by simp[Jz]
 have hhigh:∀(j:Nat),es.length≤j→(Jz srcs es E')[j]? =(E'[srcs.length+(j-es.length)]?).map (BI.up srcs es.length):=by
  intro j hj;unfold Jz;rw[Io (by simpa using hj),IX,OQ];simp
 have awu:∀(j:Nat),j<es.length→(H++H'.drop srcs.length)[j]? =H[j]? :=fun j hj=>G6 (by rw[Z.hlen];exact hj)
 have avn:∀(j:Nat),es.length≤j→(H++H'.drop srcs.length)[j]? =H'[srcs.length+(j-es.length)]? :=by
  intro j hj;rw[Io (by rw[Z.hlen];exact hj),OQ,Z.hlen]
 have hcls:∀(j:Nat) (e:BI) (h:Bc),(Jz srcs es E')[j]? =some e→e.live=true∨True→(H++H'.drop srcs.length)[j]? =some h→
  (∃(i:Nat) (e0:BI),e=e0.up srcs es.length∧E'[i]? =some e0∧H'[i]? =some h∧((j<es.length∧srcs[i]? =some (.ent j))∨(es.length≤j∧i=srcs.length+(j-es.length))))∨(j<es.length∧es[j]? =some e∧H[j]? =some h∧∀(i:Nat),srcs[i]? ≠some (.ent j)):=by
  intro j e h M _ I;by_cases hj:j<es.length
  ·rw[hlow j hj]at M;rw[awu j hj]at I;cases hi:idx j with
   |none=>
    rw[hi]at M;simp only[Ju]at M;exact .inr ⟨hj,by rw[ahi j hj,M],I,awt j hi⟩
   |some i=>
    rw[hi]at M;simp only[Ju]at M;have m:=awr j i hi;have hil:i<srcs.length:=(F6.1 m).1;have hiE:i<E'.length:=AA
    refine .inl ⟨i,_,M.symm,by simp[List.getD,hiE],?_,.inl ⟨hj,m⟩⟩;refine q.names i h ?_;simp only[Hc,IX,m,Hr,DU.hd];simp[List.getD,I]
  rw[hhigh j AA]at M;rw[avn j AA]at I;rw[TI]at M;obtain⟨e0,M,rfl⟩:=M;exact .inl ⟨_,_,rfl,M,I,.inr ⟨AA,rfl⟩⟩
 have hold:∀(j:Nat) (e:BI) (h:Bc) (b:Nat),es[j]? =some e→H[j]? =some h→(∀(i:Nat),srcs[i]? ≠some (.ent j))→e.live=true→DC h.v=some b→b<w.heap.size∧b∉X∧¬ok b∧(C.w0.heap.size≤b∨b∈C.X):=by
  intro j e h b M I hno J z;have O:=Z.blk j e h b M J I z;refine⟨O.2.1,fun hbX=>?_,O.1,O.2.2⟩;obtain⟨i,k,m,hbk,_⟩:=L b hbX;have :=Z.CW j k e _ h _ b M (ahi k (U i k m).1) J (U i k m).2 I (hHk k (hlt i k m)) z hbk;subst this;exact hno i m
 have ahj:∀(i:Nat) (e:BI) (h:Bc) (b:Nat),E'[i]? =some e→H'[i]? =some h→e.live=true→DC h.v=some b→¬ok' b∧b<w'.heap.size∧(w.heap.size≤b∨b∈X):=fun i e h b M I J z=>q.blk i e h b M J I z;refine⟨⟨q.fr.os.trans Z.fr.os,q.fr.tape.trans Z.fr.tape,q.fr.output.trans Z.fr.output,EZ Z.fr.size q.fr.size,fun k hk hx=>?_⟩,fun b hb=>q.wE b (Z.wE b hb),?_,q.jG,Z.names.trans (Names.push _ _),?_,?_,?_,?_⟩
 ·have hkw:k<w.heap.size:=Ud hk Z.fr.size
  rw[q.fr.block k hkw (fun hkX=>by
   obtain⟨_,_,_,_,_,_,h⟩:=L k hkX;rcases h with h|h
   ·omega
   exact hx h)]
  exact Z.fr.block k hk hx
 ·intro b hb;rcases q.wF b hb with h|h|h
  ·exact Z.wF b h
  ·exact .inr (.inl (EZ Z.fr.size h))
  obtain⟨_,_,_,_,_,_,h⟩:=L b h;exact .inr h
 ·rw[avm,Dz,Jt,Z.hlen,q.hlen]
 ·intro j e h M I;rcases hcls j e h M (.inr trivial) I with⟨i,e0,rfl,O,Y,_⟩|⟨_,O,Y,h3⟩
  ·exact EW.upw rfl hlt q.names Z.hlen (hb4 e0 (Us O)) (q.ent i e0 h O Y)
  refine(Z.ent j e h O Y).mono hgr (Names.push _ _) (fun J b z=>?_);have h4:=hold j e h b O Y h3 J z;exact q.fr.block b h4.1 h4.2.1
 ·intro j e h b M J I z;rcases hcls j e h M (.inr trivial) I with⟨i,e0,rfl,O,Y,_⟩|⟨_,O,Y,h3⟩
  ·have h4:=ahj i e0 h b O Y aHr z;refine⟨h4.1,h4.2.1,?_⟩;rcases h4.2.2 with h5|h5
   ·exact .inl (EZ Z.fr.size h5)
   obtain⟨_,_,_,_,_,_,h⟩:=L b h5;exact h
  have h4:=hold j e h b O Y h3 J z;refine⟨fun hok'=>?_,Ud h4.1 q.fr.size,h4.2.2.2⟩;rcases q.wF b hok' with h5|h5|h5
  ·exact h4.2.2.1 h5
  ·have :w.heap.size≤b:=h5;omega
  exact h4.2.1 h5
 intro j j' e e' h h' b M he' J aeD I hh' z aeE;rcases hcls j e h M (.inr trivial) I with⟨i,e0,rfl,O,Y,h3⟩|⟨_,O,Y,h3⟩
 ·rcases hcls j' e' h' he' (.inr trivial) hh' with⟨i',e0',rfl,h1',h2',h3'⟩|⟨_,h1',h2',h3'⟩
  ·have hii:=q.CW i i' e0 e0' h h' b O h1' aHr (by rw[BI.YF]at aeD;exact aeD) Y h2' z aeE;subst hii;rcases h3 with⟨_,h4⟩|⟨h4,h5⟩
   ·rcases h3' with⟨_,h4'⟩|⟨h4',h5'⟩
    ·rw[h4]at h4';simpa using h4'
    have :=(F6.1 h4).1;omega
   rcases h3' with⟨_,h4'⟩|⟨h4',h5'⟩
   ·have :=(F6.1 h4').1;omega
   omega
  have h4:=hold j' e' h' b h1' h2' h3' aeD aeE;rcases(ahj i e0 h b O Y aHr z).2.2 with h5|h5
  ·omega
  exact absurd h5 h4.2.1
 rcases hcls j' e' h' he' (.inr trivial) hh' with⟨i',e0',rfl,h1',h2',h3'⟩|⟨_,h1',h2',h3'⟩
 ·have h4:=hold j e h b O Y h3 J z;rcases(ahj i' e0' h' b h1' h2' (by rw[BI.YF]at aeD;exact aeD) aeE).2.2 with h5|h5
  ·omega
  exact absurd h5 h4.2.1
 exact Z.CW j j' e e' h h' b O h1' J aeD Y h2' z aeE
def aeO {f:FuncId} {ops:Array Operand} {ats:Array TypeId} (srcs:List DU) {dP eU:List Ac} {E E':List BI} {j:Ac} (m:Ak P f eU E j E') (q:DV P f=true) (s:QD srcs es E E'=true) (hE:gJ srcs es E) (ha:LD srcs dP eU) (u:ops.toList.length=dP.length)
 (z:o.op=.call { callee:=.value (.func f),args:=ops,argTypes:=ats }):Bd P o (Ei ops.toList dP) es (j.up srcs es.length) (Jz srcs es E'):=by
 intro C ok H a w Q I J;unfold Oper.wp;rw[nV z,Qq q,Xd];have e:ops.map a.eval=(ops.toList.map a.eval).toArray:=vP
 rw[e];refine(abp I srcs m s hE ha u J).mono ?_;rintro e w' ⟨v,ok',H',rfl,L,M,O,U⟩;exact⟨v,ok',H',rfl,L,M,O,U⟩
end
def AV (n:Int):D:=.lit (.int .i64 n)
def CV (n:Int):D:=.lit (.int .u8 n)
def Cm (b:Bool):D:=.lit (.bool b)
def CO (s:ByteArray):D:=.lit (.string s)
def Ai {α:Type} (e:α→D) (l:List α):D:=.sl (l.map e)
def Ag (x:D):List Ac:=x.cells.map .d
def BK {α:Type} (l:List α) (i:Int):Option α:=if 0≤i then l[i.toNat]? else none
def DN {α:Type} (f:Nat) (l m:List α):Option (List α):=if(l.length+m.length)*f≤140737488355328 then some (l++m)else none
def GH (s:ByteArray) (i:Int):Option Int:=if 0≤i then(s[i.toNat]?).map fun c=>(c.toNat:Int)else none
def MH {α:Type} (l:List α) (lo hi:Int):Option (List α):=if 0≤lo∧lo≤hi∧hi≤l.length then some ((l.drop lo.toNat).take (hi.toNat-lo.toNat))else none
def Lp (s:ByteArray) (lo hi:Int):Option ByteArray:=if 0≤lo∧lo≤hi∧hi≤s.size then some (s.extract lo.toNat hi.toNat)else none
def Ia {α:Type} (f:Nat) (z:α) (n c:Int):Option (List α):=if 0≤n∧n≤c∧(f:Int)*c≤140737488355328 then some (List.replicate n.toNat z)else none
def Hz {α:Type} {l:List α} {i:Int} {x:α} (h:BK l i=some x):0≤i∧l[i.toNat]? =some x:=by
 unfold BK at h;split at h
 ·exact⟨‹_›,h⟩
 cases h
def agV {α β:Type} {l:List α} {i:Nat} {x:α} (f:α→β) (h:l[i]? =some x):(l.map f)[i]? =some (f x):=by simp[h]
def pK {α:Type} {b:Bool} {x y z:α} (f:b=true) (h:(bif b then x else y)=z):x=z:=by subst f;exact h
def pG {α:Type} {b:Bool} {x y z:α} (f:b=false) (h:(bif b then x else y)=z):y=z:=by subst f;exact h
def CY {α β:Type} {x:Option α} {f:α→Option β} {z:β} (h:x.bind f=some z):∃a,x=some a∧f a=some z:=dQ.1 h
def BA :Nat:=9223372036854775808
section
variable {P : Program} {o : Oper} {es : List BI} {α : Type}
def BQ {x:Operand} {t e:TypeId} (enc:α→D) (l:List α) (f:P.underlying t=some (.slice e)) (j:o.op=.call { callee:=.builtin .len,args:= #[x],argTypes:= #[t] }):
 Bd P o [(x,.d (Ai enc l))] es (.d (AV l.length)) es:=by
 have :=alm (es:=es) (xs:=l.map enc) f j;rw[Cb]at this;exact this
def NW {x:Operand} {t e e':TypeId} {k s:Nat} (enc:α→D) (l:List α) (f:es[k]? =some (.arr e' s (l.map enc))) (j:P.underlying t=some (.slice e)) (m:o.op=.call { callee:=.builtin .len,args:= #[x],argTypes:= #[t] }):
 Bd P o [(x,.aS k)] es (.d (AV l.length)) es:=by
 have :=ak0 f j m;rw[Cb]at this;exact this
def agR {x:Operand} {t:TypeId} (s:ByteArray) (f:P.underlying t=some .string) (j:o.op=.call { callee:=.builtin .len,args:= #[x],argTypes:= #[t] }):
 Bd P o [(x,.d (CO s))] es (.d (AV s.size)) es:=aje f j
def asb {x y:Operand} {t e:TypeId} {k:IntKind} {i:Int} {agg:Bool} {size:Nat} (enc:α→D) {l:List α} {a:α} (h:BK l i=some a) (f:P.underlying t=some (.slice e)) (j:Dc P e agg size) (m:(enc a).cells.length=size) (q:o.op=.indexAddr t x y):
 Bd P o [(x,.d (Ai enc l)),(y,.d (.lit (.int k i)))] es (.d (.ref (enc a).cells 0)) es:=
 ajG f j (Hz h).1 (agV enc (Hz h).2) m q
def KL {x y:Operand} {t e e':TypeId} {kd:IntKind} {i:Int} {k size:Nat} {agg:Bool} (enc:α→D) {l:List α} {a:α} (h:BK l i=some a) (f:es[k]? =some (.arr e' size (l.map enc))) (j:P.underlying t=some (.slice e)) (m:Dc P e agg size) (q:o.op=.indexAddr t x y):
 Bd P o [(x,.aS k),(y,.d (.lit (.int kd i)))] es (.kK k i.toNat 0) es:=
 aoR f j m (Hz h).1 (by have :=(F6.1 (Hz h).2).1;simpa using this) q
def ajW {s:ByteArray} {i n:Int} (h:GH s i=some n):∃c,0≤i∧s[i.toNat]? =some c∧n=c.toNat:=by
 unfold GH at h;split at h
 ·rename_i f;rw[TI]at h;obtain⟨c,j,m⟩:=h;exact⟨c,f,j,m.symm⟩
 cases h
def IC {x y:Operand} {t:TypeId} {k:IntKind} {i n:Int} {s:ByteArray} (h:GH s i=some n) (f:P.underlying t=some .string) (j:o.op=.index t x y):
 Bd P o [(x,.d (CO s)),(y,.d (.lit (.int k i)))] es (.d (CV n)) es:=by
 obtain⟨c,m,q,rfl⟩:=ajW h;exact ahM f m q j
def tC {b:Nat} {l m r:List α} (h:DN b l m=some r):r=l++m∧(l.length+m.length)*b≤140737488355328:=by
 unfold DN at h;split at h
 ·exact⟨(CJ h).symm, ‹_›⟩
 cases h
def aIQ {n b:Nat} (f:0<b) (h:n*b≤140737488355328):n≤maxLen:=by
 have :n*1≤n*b:=Nat.mul_le_mul_left _ f;unfold maxLen;omega
def E8 {s x:Operand} {t e:TypeId} {size f k:Nat} (enc:α→D) {l m r:List α} (h:DN f l m=some r) (hE:Fe P t e size f) (q:es[k]? =some (.arr e size (l.map enc))) (u:∀a,(enc a).cells.length=size) (z:0<f)
 (I:o.op=.call { callee:=.builtin .append,args:= #[s,x],argTypes:= #[t,t] }):
 Bd P o [(s,.aS k),(x,.d (Ai enc m))] es (.aS es.length) (es.set k .dead++[.arr e size (r.map enc)]):=by
 obtain⟨rfl,j⟩:=tC h;have :=aga (ys:=m.map enc) hE q (fun y J=>by obtain⟨a,_,rfl⟩:=F8.1 J;exact u a) MF (by simpa using aIQ z j) I;rw[←L6]at this;exact this
def agd {s r:ByteArray} {lo hi:Int} (h:Lp s lo hi=some r):(0≤lo∧lo≤hi∧hi≤s.size)∧r=s.extract lo.toNat hi.toNat:=by
 unfold Lp at h;split at h
 ·exact⟨‹_›,(CJ h).symm⟩
 cases h
def qN (x:Option Operand) (n:Int):List (Operand×Ac):=match x with |some y=>[(y,.d (AV n))]|none=>[]
def bH {t:TypeId} {x:Operand} {lo hi:Option Operand} {l h:Int} {s r:ByteArray} (Z:Lp s l h=some r) (hl:lo=none→l=0) (U:hi=none→h=s.size) (ht:P.underlying t=some .string) (u:o.op=.slice t x lo hi none):
 Bd P o ((x,.d (CO s))::(qN lo l++qN hi h)) es (.d (CO r)) es:=
 .pure fun ok H a w _ _ J=>by
  obtain⟨⟨L,h1,h2⟩,rfl⟩:=agd Z;have j:=(J (x,.d (CO s)) BM).lit;simp only at j;have I:(underlying t).run P w=.ok .string w:=aFz
  refine⟨.string (s.extract l.toNat h.toNat),?_,.d _ _ (.lit _)⟩;have m:∀y,lo=some y→a.eval y=.int .i64 l:=fun y e=>(J (y,.d (AV l)) uD).lit;have q:∀y,hi=some y→a.eval y=.int .i64 h:=fun y e=>(J (y,.d (AV h)) uD).lit;have Y:((0:Int)≤h∧h≤(s.size:Int)):=⟨AA,h2⟩
  have e2:((0:Int)≤l∧l≤(h.toNat:Int)):=⟨L,AA⟩
  cases lo with
  |none=>
   have M:=hl rfl;subst M;cases hi with
   |none=>
    have f:=U rfl;subst f;simp[execOp,u,j,Instr.sliceAt,Instr.slice,I,Instr.sliceBounds]
   |some y=>
    simp[execOp,u,j,Instr.sliceAt,Instr.slice,I,Instr.sliceBounds,Instr.sliceBound,q y rfl,asIntOf,Y]
  |some z=>
   cases hi with
   |none=>
    have f:=U rfl;subst f;have O:((0:Int)≤l∧l≤(s.size:Int)):=⟨L,AA⟩
    simp[execOp,u,j,Instr.sliceAt,Instr.slice,I,Instr.sliceBounds,Instr.sliceBound,m z rfl,asIntOf,O]
   |some y=>
    simp[execOp,u,j,Instr.sliceAt,Instr.slice,I,Instr.sliceBounds,Instr.sliceBound,m z rfl,q y rfl,asIntOf,Y];intro hc;have :=hc L;omega
def aIa {l r:List α} {lo hi:Int} (h:MH l lo hi=some r):(0≤lo∧lo≤hi∧hi≤l.length)∧r=(l.drop lo.toNat).take (hi.toNat-lo.toNat):=by
 unfold MH at h;split at h
 ·exact⟨‹_›,(CJ h).symm⟩
 cases h
def aKB {ok:Nat→Prop} {w:World} {xs:List D} {ad:Option Addr} {cap size l h:Nat} (M:DT ok w (.sl xs) (.slice ad xs.length cap)) (hs:∀x∈xs,x.cells.length=size) (O:l≤h) (U:h≤xs.length):
 DT ok w (.sl ((xs.drop l).take (h-l))) (.slice (if cap=l then ad else ad.map (·.add (l*size))) (h-l) (cap-l)):=by
 have hlen:((xs.drop l).take (h-l)).length=h-l:=E5
 by_cases Y:h-l=0
 ·have :(xs.drop l).take (h-l)=[]:=by rw[Y];rfl
  rw[this,Y];exact .sl0 _ _
 have q:0<xs.length:=AA
 generalize hn:xs.length=n at M;cases M with
 |sl0=>simp at q
 |sl _ b off _ f Z z s hf hx hc=>
  have I:f=size:=by
   rw[←s 0 q];exact hs _ aAE
  subst I;have J:cap≠l:=AA
  rw[D8 J];simp only[Hr,addr_add]
  have L:∀i,i<h-l→((xs.drop l).take (h-l)).getD i DL=xs.getD (l+i) DL:=by
   intro i hi;simp[List.getD,Ll hi,OQ]
  have m:∀i j,off+l*f+(i*f+j)=off+((l+i)*f+j):=by
   intro i j;rw[Wn];omega
  have :=DT.sl ((xs.drop l).take (h-l)) b (off+l*f) (cap-l) f (ok:=ok) (w:=w) (by rw[hlen];omega) (fun O U=>z (by rw[hlen]at O;omega) U) (fun i hi=>by rw[hlen]at hi;rw[L i hi];exact s _ AA)
   (fun i hi j u=>by rw[hlen]at hi;rw[L i hi];exact hf _ AA j u) (fun i hi j u=>by rw[hlen]at hi;rw[m];exact hx _ AA j u)
   (fun i hi j u=>by rw[hlen]at hi;rw[L i hi,m];exact hc _ AA j u)
  rw[hlen]at this;exact this
def yt {t e:TypeId} {agg:Bool} {size:Nat} {x:Operand} {lo hi:Option Operand} {l h:Int} (enc:α→D) {xs r:List α} (hr:MH xs l h=some r) (hl:lo=none→l=0) (hh:hi=none→h=xs.length) (ht:P.underlying t=some (.slice e)) (J:Dc P e agg size)
 (hc:∀a,(enc a).cells.length=size) (L:o.op=.slice t x lo hi none):Bd P o ((x,.d (Ai enc xs))::(qN lo l++qN hi h)) es (.d (Ai enc r)) es:=
 .pure fun ok H a w _ _ U=>by
  obtain⟨⟨h0,h1,h2⟩,rfl⟩:=aIa hr;have Y:=U (x,.d (Ai enc xs)) BM;simp only at Y;generalize M:a.eval x=v at Y;have O:(underlying t).run P w=.ok (.slice e) w:=aFz
  have u:∀y,lo=some y→a.eval y=.int .i64 l:=fun y e=>(U (y,.d (AV l)) uD).lit;have I:∀y,hi=some y→a.eval y=.int .i64 h:=fun y e=>(U (y,.d (AV h)) uD).lit;have m:DT ok w (.sl (xs.map enc)) v:=by cases Y with |d _ _ h=>exact h
  have q:∃ad cap,v=.slice ad (xs.map enc).length cap∧(xs.map enc).length≤cap:=by
   generalize hys:xs.map enc=ys at m;cases m with
   |sl0 ad cap=>exact⟨ad,cap,rfl,EH _⟩
   |sl _ b off cap size f=>exact⟨_,cap,rfl,f⟩
  obtain⟨ad,cap,rfl,f⟩:=q;have j:=aKB (l:=l.toNat) (h:=h.toNat) m (size:=size) (fun y hy=>aGv) AA E5;rw[←XZ,←XE]at j;rw[Cb]at f;refine⟨_,?_,.d _ _ j⟩;have e1:((0:Int)≤h∧h≤(cap:Int)):=⟨AA,AA⟩
  cases lo with
  |none=>
   have Z:=hl rfl;subst Z;cases hi with
   |none=>
    have s:=hh rfl;subst s;simp[execOp,L,M,Instr.sliceAt,Instr.slice,O,Instr.sliceBounds,J.size]
   |some y=>
    simp[execOp,L,M,Instr.sliceAt,Instr.slice,O,Instr.sliceBounds,Instr.sliceBound,I y rfl,asIntOf,e1,J.size]
  |some z=>
   cases hi with
   |none=>
    have s:=hh rfl;subst s;have e2':((0:Int)≤l∧l≤(xs.length:Int)):=⟨h0,AA⟩
    simp[execOp,L,M,Instr.sliceAt,Instr.slice,O,Instr.sliceBounds,Instr.sliceBound,u z rfl,asIntOf,e2',J.size]
   |some y=>
    simp[execOp,L,M,Instr.sliceAt,Instr.slice,O,Instr.sliceBounds,Instr.sliceBound,u z rfl,I y rfl,asIntOf,e1,J.size];intro hc';have :=hc' h0;omega
def fG (P:Program) (t:TypeId) (f off:Nat) (agg:Bool) (n:Nat):Bool:=
 match P.underlying t with
 |some (.struct m)=>match m[f]? with
  |some j=>decide (j.offset=off)&&aES P j.type agg n
  |none=>false
 |_=>false
def ajO {x:Operand} {t:TypeId} {f off n:Nat} {agg:Bool} {cs:List D} (m:fG P t f off agg n=true) (hn:off+n≤cs.length) (Y:agg=false→n=1) (L:o.op=.field t x f):Bd P o [(x,.d (.agg cs))] es (.d (Nu agg cs off n)) es:=
 .pure fun ok H a w _ _ z=>by
  have I:=JC z;simp only at I;generalize M:a.eval x=v at I;unfold fG at m;split at m
  ·rename_i Z hu;split at m
   ·rename_i j O;simp only[CZ,G8]at m;obtain⟨rfl,q⟩:=m;have q:=El q;have s:(underlying t).run P w=.ok (.struct Z) w:=wV
    cases I with
    |d _ _ h=>
     cases h with
     |agg _ vs hl J U=>
      cases agg with
      |false=>
       have :=Y rfl;subst this;have u:j.offset<vs.size:=AA
       refine⟨vs[j.offset],?_,?_⟩
       ·simp[execOp,L,M,Instr.field,s,O,asAgg,part,q.agg,u]
       have :=U j.offset AA;simp[Array.getD,u]at this;exact .d _ _ this
      |true=>
       refine⟨.agg (vs.extract j.offset (j.offset+n)),?_,?_⟩
       ·simp[execOp,L,M,Instr.field,s,O,asAgg,part,q.agg,q.size]
       simp only[Nu,KE];have hlen:((cs.drop j.offset).take n).length=n:=E5
       have hg:∀i,i<n→((cs.drop j.offset).take n).getD i DL=cs.getD (j.offset+i) DL:=by
        intro i hi;simp[List.getD,Ll hi,OQ]
       refine .d _ _ (.agg _ _ (by rw[hlen];simp;omega) ?_ ?_)<;>intro i hi<;>rw[hlen]at hi<;>rw[hg i hi]
       ·exact J _ AA
       have :=U (j.offset+i) AA
       have e:(vs.extract j.offset (j.offset+n)).getD i undef=vs.getD (j.offset+i) undef:=by
        have h3:j.offset+i<vs.size:=AA
        have h4:i<(vs.extract j.offset (j.offset+n)).size:=E5
        have h5:i<min (j.offset+n) vs.size-j.offset:=AA
        simp[Array.getD,h3,h5]
       rw[e];exact this
   cases m
  cases m
def Ac.flat:Ac→Bool
 | .d (.lit _)=>true
 | .eH xs=>xs.all fun x=>match x with | .d (.lit _)=>true|_=>false
 |_=>false
def aeN (es:List BI):Ac→Ac→Prop
 | .d x,y=>y=.d x
 | .aS k,y=>∃e s xs,es[k]? =some (.arr e s xs)∧y=.d (.sl xs)
 |_,_=>False
def Xg (es:List BI):List Ac→List Ac→Prop
 |x::xs,y::ys=>aeN es x y∧Xg es xs ys
 | [],[]=>True
 |_,_=>False
def aG3 :∀{xs ys:List Ac},Xg es xs ys→xs.length=ys.length
 | [],[],_=>rfl
 |_::xs,_::ys,h=>by simp[aG3 h.2]
 | [],_::_,h=>h.elim
 |_::_,[],h=>h.elim
def abW {ops:List Operand}:∀{xs ys:List Ac},ops.length=xs.length→Xg es xs ys→∀i,i<ys.length→∃o x,ops[i]? =some o∧(o,x)∈Ei ops xs∧aeN es x (ys.getD i .junk):=by
 induction ops with
 |nil=>
  intro xs ys f h i hi;cases xs with
  |nil=>cases ys with |nil=>simp at hi|cons _ _=>exact h.elim
  |cons _ _=>simp at f
 |cons o ops j=>
  intro xs ys f h i hi;cases xs with
  |nil=>simp at f
  |cons x xs=>
   cases ys with
   |nil=>exact h.elim
   |cons y ys=>
    cases i with
    |zero=>exact⟨o,x,rfl,by simp[Ei],h.1⟩
    |succ i=>
     obtain⟨m,q,s,u,z⟩:=j Ku h.2 i FZ;exact⟨m,q,PV,by simp[Ei,u],SC⟩
def aP {ok ok':Nat→Prop} {w:World} {H:List Bc} {h:Bc} {e s:Nat} {xs:List D} (he:EW ok w H h (.arr e s xs)) (q:∀b,ok b→ok' b) (L:∀b,DC h.v=some b→ok' b):DT ok' w (.sl xs) h.v:=by
 obtain⟨h1,I,ys,⟨h3,h4⟩,Z⟩:=he;rcases h4 with⟨J,h7⟩|⟨g,cap,m,J,h7,h8,h9,h10,M,O⟩
 ·rw[GR h7,J];exact .sl0 none 0
 rw[J];have u:=L g (by rw[J];rfl);have z:=Qe I
 have U:∀i j,i<xs.length→j<s→i*s+j<xs.length*s:=by
  intro i j hi f
  calc i*s+j<i*s+s:=AA
   _=(i+1)*s:=by rw[Sl]
   _≤xs.length*s:=J5 _ hi
 have hcur:xs.length*s≤m.size:=by
  exact EZ (J5 _ h9) M
 have hc:∀i j,i<xs.length→j<s→w.cell? ⟨g,0+(i*s+j),none⟩=some (ys.getD (i*s+j) undef):=by
  intro i j hi f;have Y:=U i j hi f;rw[Ik]
  have e1:ys.getD (i*s+j) undef=m[i*s+j]' AA:=by
   rw[←O];simp[List.getD,Ll Y,show i*s+j<m.size by omega]
  rw[e1];simp[World.cell?,h8,show i*s+j<m.size by omega]
 have hg:∀i,i<xs.length→xs.getD i DL∈xs:=fun i hi=>KR
 refine .sl xs g 0 cap s h9 (fun _ _=>u) (fun i hi=>I _ (hg i hi)) (fun i hi j f=>?_) (fun i hi j f=>?_) (fun i hi j f=>?_)
 ·have :=(Z.2 (i*s+j) (by rw[z];exact U i j hi f)).1;rw[flat_get I i j hi f]at this;exact this
 ·rw[hc i j hi f];rfl
 have :=(Z.2 (i*s+j) (by rw[z];exact U i j hi f)).2;rw[flat_get I i j hi f]at this;unfold cellAt;rw[hc i j hi f];cases this with |d _ _ h=>exact h.mono (fun b L=>⟨q b L,rfl⟩)
def aF2 {f:FuncId} {ops:Array Operand} {ats:Array TypeId} {dP eU:List Ac} {z:Ac} (hr:Ak P f eU [] z []) (hf:DV P f=true) (q:z.flat=true) (ha:Xg es dP eU) (hl:ops.toList.length=dP.length)
 (ho:o.op=.call { callee:=.value (.func f),args:=ops,argTypes:=ats }):Bd P o (Ei ops.toList dP) es z es:=by
 intro C ok H a w Q I hn;unfold Oper.wp;rw[nV ho,Qq hf,Xd];have e:ops.map a.eval=(ops.toList.map a.eval).toArray:=vP
 rw[e]
 let J:Nat→Prop:=fun b=>b<w.heap.size
 have hmc:CX ⟨w,J,[],[]⟩ J [] [] w:=
  ⟨.refl _ _,fun _ h=>h,fun _ h=>.inl h,fun _ h=>h,.refl _,rfl,fun k e h L _=>by simp at L,fun k e h b L=>by simp at L,fun k k' e e' h h' b L=>by simp at L⟩
 refine(hr J [] [] w _ hmc (by simp[hl,aG3 ha]) (fun i hi=>?_)).mono ?_
 ·obtain⟨op,x,ho',U,j⟩:=abW hl ha i hi;have O:=hn _ U
  have e:(ops.toList.map a.eval).toArray.getD i undef=a.eval op:=by
   obtain⟨h1,h2⟩:=F6.1 ho';have Y:i<ops.size:=by simpa using h1
   have Z:ops[i]=op:=aA0
   simp[Array.getD,Y,Z]
  rw[e];simp only at O;generalize eU.getD i .junk=y at j;generalize a.eval op=u at O;cases x with
  |d x=>
   obtain rfl:=j;cases O with |d _ _ h=>exact .d _ _ (h.mono (fun b M=>⟨I.jG b M,rfl⟩))
  |aS k=>
   obtain⟨e',s,xs,hk,rfl⟩:=j;obtain⟨h,hh,hok⟩:=FY I.ent I.hlen hk;obtain rfl:=Nj O hh;exact .d _ _ (aP hok (fun b M=>I.jG b M) (fun b M=>(I.blk k _ h b hk rfl hh M).2.1))
  |_=>exact j.elim
 rintro e w' ⟨v,ok',H',rfl,m,O⟩;have hblk:∀b,b<w.heap.size→¬False→w'.heap[b]? =w.heap[b]? :=fun b M _=>m.fr.block b M BM;obtain⟨h1,h2⟩:=I.change (ok':=ok) (H':=H) (es':=es) (w':=w') (fun _=>False) m.fr.os m.fr.tape m.fr.output m.fr.size hblk (fun _ h=>h.elim) (fun _ h=>h) (fun _ h=>.inl h) (.refl _) I.hlen (fun k e h L hh=>.inl ⟨L,hh,fun _ _ _ h=>h⟩);refine⟨v,ok,H,rfl,h2,.refl _,h1,?_⟩;cases O with
 |d x v h=>
  cases x with
  |lit u=>cases h;exact .d _ _ (.lit _)
  |_=>simp[Ac.flat]at q
 |eH xs vs hl' h=>
  refine .eH xs vs hl' (fun i hi=>?_);simp only[Ac.flat,DZ]at q;have Y:=q (xs.getD i .junk) KR;have Z:=h i hi;generalize xs.getD i .junk=x at Y Z;generalize vs.getD i undef=u at Z;cases Z with
  |d y _ h5=>
   cases y with
   |lit u=>cases h5;exact .d _ _ (.lit _)
   |_=>simp at Y
  |_=>simp at Y
 |_=>simp[Ac.flat]at q
end
def Ac.thaw (k:Nat) (xs:List D):Ac→Ac
 | .aS j=>if j=k then .d (.sl xs)else .aS j
 | .kK j i off=>if j=k then .junk else .kK j i off
 |x=>x
def Ap.thaw (σ:Ap) (k:Nat) (xs:List D):Ap:=⟨σ.slots.map (Ac.thaw k xs),σ.ents.set k .dead,σ.base⟩
def MC {σ:Ap} (k:Nat) {e s:Nat} {xs:List D} (hk:σ.ents[k]? =some (.arr e s xs)):∀C ok H a w,Holds C ok H σ a w→∃ok',Holds C ok' H (σ.thaw k xs) a w:=by
 intro C ok H a w m;obtain⟨hd,L,hok⟩:=FY m.mem.ent m.mem.hlen hk;have u:k<σ.ents.length:=(F6.1 hk).1
 let ok':Nat→Prop:=fun b=>ok b∨DC hd.v=some b
 have J:=fun b f=>m.mem.blk k _ hd b hk rfl L f;have hg:Dw ok w ok' w:=fun b f=>⟨.inl f,rfl⟩
 refine⟨ok',⟨m.mem.fr,fun b f=>.inl (m.mem.wE b f),?_,?_,m.mem.names,by simp[Ap.thaw,m.mem.hlen],?_,?_,?_⟩,by simp[Ap.thaw,m.size],m.defers.mono hg,m.base,?_⟩
 ·rintro b (f|f)
  ·exact m.mem.wF b f
  exact .inr (J b f).2.2
 ·rintro b (f|f)
  ·exact m.mem.jG b f
  exact(J b f).2.1
 ·intro j e' h' he z;rcases Kw u he with⟨rfl,rfl⟩|⟨_,I⟩
  ·trivial
  exact(m.mem.ent j e' h' I z).mono hg (.refl _) (fun _ _ _=>rfl)
 ·intro j e' h' b he hl z f;rcases Kw u he with⟨rfl,rfl⟩|⟨hne,I⟩
  ·cases hl
  have h3:=m.mem.blk j e' h' b I hl z f;refine⟨fun q=>?_,h3.2⟩;rcases q with q|q
  ·exact h3.1 q
  exact hne (m.mem.CW j k e' _ h' hd b I hk hl rfl z L f q)
 ·intro i j e1 e2 h1 h2 b he1 he2 O U hh1 hh2 hb1 hb2;rcases Kw u he1 with⟨rfl,rfl⟩|⟨_,Y⟩
  ·cases O
  rcases Kw u he2 with⟨rfl,rfl⟩|⟨_,Z⟩
  ·cases U
  exact m.mem.CW i j e1 e2 h1 h2 b Y Z O U hh1 hh2 hb1 hb2
 intro t ht;simp only[Ap.thaw,Cb]at ht
 have e1:(σ.thaw k xs).slots.getD t .junk=(σ.slots.getD t .junk).thaw k xs:=by
  simp only[Ap.thaw];exact TB _ _ _ ht
 rw[e1];have M:=(m.slot t ht).mono hg (Names.refl H);generalize σ.slots.getD t .junk=x at M ⊢;generalize a.tmps.getD t undef=v at M ⊢;cases x with
 |aS j=>
  simp only[Ac.thaw];split
  ·rename_i hj;subst hj;obtain rfl:=Nj M L;exact .d _ _ (aP hok (fun b f=>.inl f) (fun b f=>.inr f))
  exact M
 |kK j i off=>
  simp only[Ac.thaw];split
  ·exact .junk _
  exact M
 |_=>exact M
def AB.thaw {P:Program} {c:Code} {σ:Ap} {Q:Exit→Ap→Prop} (k:Nat) {e s:Nat} {xs:List D} (j:σ.ents[k]? =some (.arr e s xs)) (h:AB P c (σ.thaw k xs) Q):AB P c σ Q:=by
 refine⟨fun ro m C ok H a w q=>?_⟩;obtain⟨ok',f⟩:=MC k j C ok H a w q;exact h.run ro m C ok' H a w f
def Ak.view {P:Program} {f:FuncId} {args:List Ac} {e s:Nat} {xs:List D} (h:Ak P f args [] (.aS 0) [.arr e s xs]):Ak P f args [] (.d (.sl xs)) []:=by
 intro ok X H w m J L ha;refine(h ok X H w m J L ha).mono ?_;rintro e' w' ⟨v,ok',H',rfl,j,M⟩;have O:H=[]:=GR J.hlen;have U:H'.length=1:=j.hlen
 match H',U with
 | [hd],_=>
   obtain rfl:=Nj M (h:=hd) rfl;have z:=j.ent 0 _ hd rfl rfl;have u:=fun b u=>j.blk 0 _ hd b rfl rfl rfl u
   let I:Nat→Prop:=fun b=>ok' b∨DC hd.v=some b
   refine⟨hd.v,I,[],rfl,⟨j.fr,fun b h=>.inl (j.wE b h),?_,?_,by intro k v Y;subst O;simp at Y,rfl,fun k e h q=>XO,fun k e h b q=>XO,fun k k' e e' h h' b q=>XO⟩,.d _ _ (aP z (fun b h=>.inl h) (fun b h=>.inr h))⟩
   ·rintro b (h|h)
    ·exact j.wF b h
    exact .inr (u b h).2.2
   rintro b (h|h)
   ·exact j.jG b h
   exact(u b h).2.1
def arB (es E':List BI) (f:E'.all BI.closed=true):Jz [] es E'=es++E':=by
 unfold Jz;simp only[List.findIdx?_nil,OB,qc];rw[aMv f];congr 1;apply bQ;intro i;simp only[IX,List.getElem?_zipIdx];cases es[i]? <;>rfl
def aed {P:Program} {o:Oper} {es:List BI} {f:FuncId} {ops:Array Operand} {ats:Array TypeId} {dP eU:List Ac} {j res':Ac} {E':List BI} (u:Ak P f eU [] j E') (z:DV P f=true) (m:E'.all BI.closed=true)
 (ha:LD [] dP eU) (I:ops.toList.length=dP.length) (J:j.up [] es.length=res') (L:o.op=.call { callee:=.value (.func f),args:=ops,argTypes:=ats }):Bd P o (Ei ops.toList dP) es res' (es++E'):=by
 have :=aeO (es:=es) [] u z (by
  have q:E'.all (BI.ahh [] es.length)=true:=by
   rw[DZ]at m ⊢;exact fun e M=>afT (m e M)
  simp[QD,q]) (fun i s h=>H8) ha I L
 rw[arB _ _ m,J]at this;exact this
def acI {P:Program} {o:Oper} {es:List BI} {f:FuncId} {ops:Array Operand} {ats:Array TypeId} {dP eU:List Ac} {j res':Ac} (m:Ak P f eU [] j []) (q:DV P f=true)
 (ha:LD [] dP eU) (s:ops.toList.length=dP.length) (u:j.up [] es.length=res') (z:o.op=.call { callee:=.value (.func f),args:=ops,argTypes:=ats }):Bd P o (Ei ops.toList dP) es res' es:=by
 have :=aed (es:=es) m q rfl ha s u z;rw[TJ]at this;exact this
section
variable {P : Program} {σ : Ap} {Q : Exit → Ap → Prop}
def aCy (P:Program) (σ:Ap):ResultVar→Ac→Prop
 | .tmp t,x=>x=σ.slots.getD t .junk
 | .cell t T,x=>∃k cs agg n,σ.slots.getD t .junk=.ptr k 0∧σ.ents[k]? =some (.box cs)∧cs.all Ac.yI=true∧Dc P T agg n∧n≤cs.length∧(agg=false→n=1)∧x=.d (Nu agg (I4 cs) 0 n)
def Uw {P:Program} {σ:Ap} {t:Tmp} {x:Ac} (h:x=σ.slots.getD t .junk):aCy P σ (.tmp t) x:=h
def VW (P:Program) (σ:Ap):List ResultVar→List Ac→Prop
 |r::rs,x::xs=>aCy P σ r x∧VW P σ rs xs
 | [],[]=>True
 |_,_=>False
def ZX :List Ac→Ac
 | [x]=>x
 |xs=>.eH xs
def aLm (P:Program) (fn:Func) (f:Ac) (E':List BI):Exit→Ap→Prop
 | .ret,σ=>∃xs π,VW P σ fn.results.toList xs∧S9 σ.base σ.ents π=true∧f=(ZX xs).back π∧E'=QO σ.ents π
 | .normal,σ=>∃xs π,VW P σ fn.results.toList xs∧S9 σ.base σ.ents π=true∧f=(ZX xs).back π∧E'=QO σ.ents π
 |_,_=>False
def aCY (tmps:Array Value):ResultVar→Sem Value
 | .tmp t=>pure (tmps.getD t undef)
 | .cell t T=>do loadVar T (←asAddr (tmps.getD t undef))
def ami {C:Dv} {ok:Nat→Prop} {H:List Bc} {a:Act} {w:World} (h:Holds C ok H σ a w) {r:ResultVar} {x:Ac} (f:aCy P σ r x):
 ∃v,(aCY a.tmps r).run P w=.ok v w∧R ok w H x v:=by
 cases r with
 |tmp t=>
  obtain rfl:=f;exact⟨_,rfl,h.anr t⟩
 |cell t T=>
  obtain⟨k,cs,agg,n,I,J,hd,L,hn,M,rfl⟩:=f;have m:=I▸h.anr t;obtain⟨O,U,j⟩:=FY h.mem.ent h.mem.hlen J;obtain⟨b,q,Y,Z,hc⟩:=aEH j hd;generalize hu:a.tmps.getD t undef=u at m;cases m with
  |ptr _ _ b' s z=>
   rw[U]at z;obtain rfl:=CJ z;simp at q;subst q;show ∃v,((do loadVar T (←asAddr (a.tmps.getD t undef)):Sem Value)).run P w=.ok v w∧_;rw[hu];obtain⟨v,f,hD⟩:=aAI L (off:=0) (by rw[lD];omega) M Y Z hc;refine⟨v,?_,.d _ _ hD⟩;simp only[Instr.loadAt,Instr.sureAddr,Eh,FM,Ep,Ik]at f;simp only[asAddr,Eh,FM,Ep];exact f
def aKz {C:Dv} {ok:Nat→Prop} {H:List Bc} {a:Act} {w:World} (h:Holds C ok H σ a w):∀(rs:List ResultVar) (xs:List Ac),VW P σ rs xs→
 ∃vs:List Value,(rs.mapM (aCY a.tmps)).run P w=.ok vs w∧vs.length=xs.length∧∀i,i<xs.length→R ok w H (xs.getD i .junk) (vs.getD i undef)
 | [],[],_=>⟨[],rfl,rfl,fun i hi=>MS⟩
 | [],_::_,h'=>h'.elim
 |_::_,[],h'=>h'.elim
 |r::rs,x::xs,h'=>by
  obtain⟨v,m,q⟩:=ami (P:=P) h h'.1;obtain⟨vs,f,s,j⟩:=aKz h rs xs h'.2;refine⟨v::vs,?_,by simp[s],fun i hi=>?_⟩
  ·simp only[List.mapM_cons,Eh,m,f,Ep,FM]
  cases i with
  |zero=>exact q
  |succ i=>simpa using j i FZ
def aqA {C:Dv} {ok:Nat→Prop} {H:List Bc} {a:Act} {w:World} (h:Holds C ok H σ a w) {fn:Func} {xs:List Ac} (u:VW P σ fn.results.toList xs):
 ∃v,(results fn a.tmps).run P w=.ok v w∧R ok w H (ZX xs) v:=by
 obtain⟨vs,q,f,j⟩:=aKz (P:=P) h _ _ u
 have z:(results fn a.tmps).run P w=.ok (if h:vs.toArray.size=1 then vs.toArray[0]else .tuple vs.toArray) w:=by
  have e:results fn a.tmps=(do let vs ←fn.results.mapM (aCY a.tmps);pure (if h:vs.size=1 then vs[0]else .tuple vs)):=rfl;rw[e,aDM];simp only[Eh,nM,q,Ep,FM]
 refine⟨_,z,?_⟩
 match xs,f,j with
 | [x],f,j=>
   have m:vs.toArray.size=1:=Ku
   rw[dif_pos m];have :=j 0 BM
   have e:vs.getD 0 undef=vs.toArray[0]:=by
    have :0<vs.length:=VA
    simp[List.getD,this]
   rw[e]at this;exact this
 | [],f,j=>
   have m:¬vs.toArray.size=1:=by simp at f;simp[f]
   rw[dif_neg m];exact .eH [] _ Ku (fun i hi=>MS)
 |x::y::xs,f,j=>
  have m:¬vs.toArray.size=1:=by simp at f;simp[f]
  rw[dif_neg m];refine .eH _ _ Ku (fun i hi=>?_);have :=j i hi;have s:i<vs.length:=AA
  have e:vs.toArray.getD i undef=vs.getD i undef:=by simp[Array.getD,List.getD,s]
  rw[e];exact this
def af6 {w:World} {D:Nat} {x:Option (List Deferred)} (h:w.heap[D]? =some (.deferred x)) (o:Nat):w.cell? ⟨D,o,none⟩=none:=by
 unfold World.cell?;rw[h]
def Holds.take {C:Dv} {ok:Nat→Prop} {H:List Bc} {σ:Ap} {a:Act} {w:World} (hC:∀b,C.ok0 b→b<C.w0.heap.size) (h:Holds C ok H σ a w) {D:Nat} {Ds:List Nat} (hd:∀d∈Ds,ok d∧C.w0.heap.size≤d∧w.heap[d]? =some (.deferred (some [])))
 (hD:ok D∧C.w0.heap.size≤D∧w.heap[D]? =some (.deferred (some []))) (u:(D::Ds).Nodup):
 ∃ok',Holds C ok' H σ { a with defers:=Ds.map fun D=>{ target:=.collected D,args:= #[] } } (w.putObj D (.deferred none))∧∀d∈Ds,ok' d∧C.w0.heap.size≤d∧(w.putObj D (.deferred none)).heap[d]? =some (.deferred (some [])):=by
 obtain⟨h1,h2,Y⟩:=hD;have j:∀b,b≠D→(w.putObj D (.deferred none)).heap[b]? =w.heap[b]? :=fun b f=>WE f;have z:∀b o,ok b→(w.cell? ⟨b,o,none⟩).isSome=true→ok b∧b≠D:=fun b o f I=>⟨f,fun e=>by subst e;rw[af6 Y]at I;cases I⟩
 have Z:Dw (fun b=>ok b∧b≠D) w (fun b=>ok b∧b≠D) (w.putObj D (.deferred none)):=fun b f=>⟨f,j b f.2⟩
 have O:∀(k:Nat) (e:BI) (hd:Bc) (b:Nat),σ.ents[k]? =some e→e.live=true→H[k]? =some hd→DC hd.v=some b→b≠D:=fun k e hd b q J s f U=>(h.mem.blk k e hd b q J s f).1 (U▸h1)
 have L:∀d∈Ds,(ok d∧d≠D)∧C.w0.heap.size≤d∧(w.putObj D (.deferred none)).heap[d]? =some (.deferred (some [])):=fun d m=>by
  have M:d≠D:=fun e=>(Jy.1 u).1 (e▸m);exact⟨⟨(hd d m).1,M⟩,(hd d m).2.1,by rw[j d M];exact(hd d m).2.2⟩
 refine⟨fun b=>ok b∧b≠D,⟨⟨⟨h.mem.fr.os,h.mem.fr.tape,h.mem.fr.output,by simpa[World.putObj]using h.mem.fr.size,fun k hk hX=>by rw[j k AA];exact h.mem.fr.block k hk hX⟩,fun b f=>⟨h.mem.wE b f,fun e=>by have :=hC b f;omega⟩,fun b f=>h.mem.wF b f.1,fun b f=>by simpa[World.putObj]using h.mem.jG b f.1,h.mem.names,h.mem.hlen,?_,?_,?_⟩,h.size,⟨Ds,rfl,(Jy.1 u).2,L⟩,h.base,fun t ht=>((h.slot t ht).shrink z).mono Z (.refl _)⟩,L⟩
 ·intro k e hd q s;exact((h.mem.ent k e hd q s).shrink z (fun b ms c f I=>⟨f,fun e=>by subst e;rw[Y]at I;cases I⟩)).mono Z (.refl _) fun J b f=>j b (O k e hd b q J s f)
 ·intro k e hd b q J s f;obtain⟨h4,h5,h6⟩:=h.mem.blk k e hd b q J s f;exact⟨fun hx=>h4 hx.1,by simpa[World.putObj]using h5,h6⟩
 exact h.mem.CW
def aD2 {fn:Func} {Rr:Ending→World→Prop} {C:Dv} (m:∀b,C.ok0 b→b<C.w0.heap.size) {H:List Bc} {σ:Ap}
 (q:∀ok a w,Holds C ok H σ a w→∃v,(results fn a.tmps).run P w=.ok v w∧Rr (.returned v) w):∀(Ds:List Nat) {ok:Nat→Prop} {a:Act} {w:World},Holds C ok H σ a w→(∀d∈Ds,ok d∧C.w0.heap.size≤d∧w.heap[d]? =some (.deferred (some [])))→Ds.Nodup→
  LeavesInM (Hy none) 0 P fn a.tmps Rr (Ds.map fun D=>{ target:=.collected D,args:= #[] }) .returning w
 | [],ok,a,w,h,_,_=>q ok a w h
 |D::Ds,ok,a,w,h,hd,s=>by
  obtain⟨ok',h',f⟩:=h.take m (fun d j=>hd d (G9 _ j)) (hd D (Ez ..)) s;have u:=aD2 m q Ds h' f (Jy.1 s).2;exact⟨BM,.inl ⟨D,_,rfl,run_takeDeferred (hd D (Ez ..)).2.2,u⟩⟩
def Ak.aG {f:FuncId} {fn:Func} {c:Code} {args:List Ac} {E E':List BI} {q:Ac} (hf:P.funcs[f]? =some fn) (hb:fn.body=some c)
 (h:AB P c (.enter args fn.ntmps E) (aLm P fn q E')):Ak P f args E q E':=by
 intro ok X H w j z hs ha;refine(aBs (ro:=none) (n:=0)).1 (aEP hf hb trivial (Rz (h.run none (.inl rfl) ⟨w,ok,X,H⟩ ok H _ w ?_) ?_) rfl)
 ·refine⟨z,?_,.nil _ _ _,z.hlen,fun t ht=>?_⟩
  ·simp[Ap.enter,hs]
  simp only[Ap.enter];by_cases e:t<args.length
  ·have I:(args++List.replicate (fn.ntmps-args.length) Ac.junk).getD t .junk=args.getD t .junk:=aEw
   have e2:(j++Array.replicate (fn.ntmps-j.size) undef).getD t undef=j.getD t undef:=by
    simp[Gh,XD (show t<j.size by omega)]
   rw[I,e2];exact ha t e
  have I:(args++List.replicate (fn.ntmps-args.length) Ac.junk).getD t .junk=.junk:=by
   simp only[List.getD,Io (SN e),aGA];split<;>rfl
  rw[I];exact .junk _
 rintro e a' w' ⟨ok',H',σ',Z,J⟩;obtain⟨Ds,L,M,O⟩:=Z.defers
 have key:∀(x:List Ac) (π:List (Nat×Bool)),VW P σ' fn.results.toList x→S9 σ'.base σ'.ents π=true→q=(ZX x).back π→E'=QO σ'.ents π→
  LeavesInM (Hy none) 0 P fn a'.tmps (fun e w'=>∃v ok' H',e=.returned v∧CX ⟨w,ok,X,H⟩ ok' H' E' w'∧R ok' w' H' q v) a'.defers .returning w':=by
  rintro x π u m rfl rfl;rw[L];refine aD2 (P:=P) (C:=⟨w,ok,X,H⟩) z.jG (fun U a2 w2 s=>?_) Ds Z O M;obtain⟨v,hv,hR⟩:=aqA (P:=P) s u;exact⟨v,hv,v,U,_,rfl,s.mem.norm π (s.base▸m),hR.back π⟩
 cases e with
 |ret=>obtain⟨x,π,u,m,s,Y⟩:=J;exact key x π u m s Y
 |normal=>obtain⟨x,π,u,m,s,Y⟩:=J;exact key x π u m s Y
 |_=>exact J.elim
def Aa {x y:Code} (f:AB P x σ (Jd (fun s=>AB P y s Q) Q)):AB P (.seq x y) σ Q:=AB.seq _ f (fun _ h=>h)
def DJ {x y:Code} (K:Ap→Prop) (f:∀s,K s→AB P y s Q) (j:(∀s,K s→AB P y s Q)→AB P x σ (Jd (fun s=>AB P y s Q) Q)):AB P (.seq x y) σ Q:=AB.seq _ (j f) (fun _ h=>h)
def Pq {c:Operand} {x y:Code} (f:σ.get c=.d (.lit (.bool true))) (h:AB P x σ Q):AB P (.cond c x y) σ Q:=AB.cond true f (fun _=>h) (fun h=>Gz)
def MJ {c:Operand} {x y:Code} (f:σ.get c=.d (.lit (.bool false))) (h:AB P y σ Q):AB P (.cond c x y) σ Q:=AB.cond false f (fun h=>Gz) (fun _=>h)
def GX {id:Nat} {ops:Array Oper} {y:Code} {σ':Ap} {rs:List Ac} {ess:List (List BI)} {bs:List Bool} (m:P.follows .mixedOrders=true) (f:(V9 ops&&VN ops&&TK ops σ.slots.length&&VD ops)=true) (j:Vh ops bs=true)
 (h:Ej P ops ops.toList σ rs ess bs σ') (q:AB P y σ' Q):AB P (.seq (.region id ops true) y) σ Q:=
 AB.seq (fun s=>s=σ') (.draw m f j h rfl) (fun _ e=>e▸q)
end
section
variable {P : Program} {o : Oper} {es : List BI}
def aqn {x:Operand} {t:TypeId} {agg:Bool} {n off:Nat} {cs:List D} {y:D} (f:y=Nu agg cs off n) (j:Dc P t agg n) (m:off+n≤cs.length) (q:agg=false→n=1) (s:o.op=.load t x):Bd P o [(x,.d (.ref cs off))] es (.d y) es:=f▸aqx j m q s
def aop {x:Operand} {t:TypeId} {agg:Bool} {k n off:Nat} {cs:List Ac} {y:D} (f:y=Nu agg (I4 cs) off n) (j:es[k]? =some (.box cs)) (hd:cs.all Ac.yI=true) (m:Dc P t agg n) (q:off+n≤cs.length) (s:agg=false→n=1) (u:o.op=.load t x):
 Bd P o [(x,.ptr k off)] es (.d y) es:=f▸agO j hd m q s u
def alW {x:Operand} {t:TypeId} {f off n:Nat} {agg:Bool} {cs:List D} {y:D} (j:y=Nu agg cs off n) (m:fG P t f off agg n=true) (q:off+n≤cs.length) (s:agg=false→n=1) (u:o.op=.field t x f):Bd P o [(x,.d (.agg cs))] es (.d y) es:=j▸ajO m q s u
def anO {t:TypeId} {j:Array (Nat×Operand)} {f:List (Nat×Nat)} {z:Value} {y:D} (m:I7 P t f z) (vs:List Ac) (q:o.op=.build t j) (s:y=.agg (I4 (Iu (fun(i:Nat)=>f[i]?) (Eo z) j.toList vs))) (u:LZ (fun(i:Nat)=>f[i]?) (Eo z).length j.toList vs=true)
 (hd:(Iu (fun(i:Nat)=>f[i]?) (Eo z) j.toList vs).all Ac.yI=true):Bd P o (LW j.toList vs) es (.d y) es:=s▸anf m vs u hd q
def afO {s t:TypeId} {x:Operand} {f k:IntKind} {n:Int} (j:P.underlying s=some (.int f)) (m:P.underlying t=some (.int k)) (q:o.op=.convert s t x):Bd P o [(x,.d (.lit (.int f n)))] es (.d (.lit (.int k (k.wrap n)))) es:=
 aLF q fun w=>by simp[convert,underlying,j,m,Conv.intToInt]
def aqi {s t:TypeId} {x:Operand} {u:ByteArray} (f:P.underlying s=some .string) (j:P.underlying t=some .string) (m:o.op=.convert s t x):Bd P o [(x,.d (CO u))] es (.d (CO u)) es:=
 aLF m fun w=>by simp[convert,underlying,f,j]
def akY {t t':TypeId} {x y:Operand} {a b:Bool} (f:P.underlying t=some .bool) (j:o.op=.binOp .eql t x y t'):Bd P o [(x,.d (Cm a)),(y,.d (Cm b))] es (.d (Cm (a==b))) es:=
 Ed (u:=.bool a) (v:=.bool b) (r:=.bool (a==b)) j (fun w=>by
  show((do pure (.bool (←Op.equal t (.bool a) (.bool b))):Sem Value)).run P w=_
  simp only[Eh,run_equal_bool w t a b f,Ep,FM]) ⟨rfl,rfl⟩
def arD {t t':TypeId} {x y:Operand} {a b:Bool} (f:P.underlying t=some .bool) (j:o.op=.binOp .neq t x y t'):Bd P o [(x,.d (Cm a)),(y,.d (Cm b))] es (.d (Cm (!(a==b)))) es:=
 Ed (u:=.bool a) (v:=.bool b) (r:=.bool (!(a==b))) j (fun w=>by
  show((do pure (.bool (!(←Op.equal t (.bool a) (.bool b)))):Sem Value)).run P w=_
  simp only[Eh,run_equal_bool w t a b f,Ep,FM]) ⟨rfl,rfl⟩
end
def bn {A Rr:Type} (body:(A→Option Rr)→A→Option Rr):Nat→A→Option Rr
 |0,_=>none
 |n+1,a=>body (bn body n) a
def Dx {P:Program} {σ:Ap} {Q:Exit→Ap→Prop} {j:Code} {A Rr:Type} (S:A→Ap) (body:(A→Option Rr)→A→Option Rr) (r:Rr) (a0:A) (q:CG σ (S a0)) (h:Go.Proofs.YtolgdkhlelfpoaaGreat.bn body BA a0=some r)
 (round:∀(J:Ap→Prop) (k:A→Option Rr),(∀σ' a,CG σ' (S a)→k a=some r→J σ')→∀a,body k a=some r→AB P j (S a) (Jd J Q)):AB P (.loop j) σ Q:=by
 refine AB.loop (fun n s=>∃a,CG s (S a)∧Go.Proofs.YtolgdkhlelfpoaaGreat.bn body n a=some r) BA ⟨a0,q,h⟩ ?_;rintro n s ⟨a,f,m⟩;refine Ce f ?_;cases n with
 |zero=>cases m
 |succ n=>exact round _ (Go.Proofs.YtolgdkhlelfpoaaGreat.bn body n) (fun σ' a u z=>⟨n,WH n,a,u,z⟩) a m
def aX {A B Rr:Type} (body:(A→B→Option Rr)→A→B→Option Rr):Nat→A→B→Option Rr
 |0,_,_=>none
 |n+1,a,b=>body (aX body n) a b
def Dt {P:Program} {σ:Ap} {Q:Exit→Ap→Prop} {m:Code} {A B Rr:Type} (S:A→B→Ap) (body:(A→B→Option Rr)→A→B→Option Rr) (r:Rr) (a0:A) (j:B) (u:CG σ (S a0 j)) (h:Go.Proofs.YtolgdkhlelfpoaaGreat.aX body BA a0 j=some r)
 (round:∀(J:Ap→Prop) (k:A→B→Option Rr),(∀σ' a b,CG σ' (S a b)→k a b=some r→J σ')→∀a b,body k a b=some r→AB P m (S a b) (Jd J Q)):AB P (.loop m) σ Q:=by
 refine AB.loop (fun n s=>∃a b,CG s (S a b)∧Go.Proofs.YtolgdkhlelfpoaaGreat.aX body n a b=some r) BA ⟨a0,j,u,h⟩ ?_;rintro n s ⟨a,b,f,q⟩;refine Ce f ?_;cases n with
 |zero=>cases q
 |succ n=>exact round _ (Go.Proofs.YtolgdkhlelfpoaaGreat.aX body n) (fun σ' a b z I=>⟨n,WH n,a,b,z,I⟩) a b q
def AX {A B C Rr:Type} (body:(A→B→C→Option Rr)→A→B→C→Option Rr):Nat→A→B→C→Option Rr
 |0,_,_,_=>none
 |n+1,a,b,c=>body (AX body n) a b c
def kQ {P:Program} {σ:Ap} {Q:Exit→Ap→Prop} {q:Code} {A B C Rr:Type} (S:A→B→C→Ap) (body:(A→B→C→Option Rr)→A→B→C→Option Rr) (r:Rr) (a0:A) (j:B) (m:C) (z:CG σ (S a0 j m)) (h:Go.Proofs.YtolgdkhlelfpoaaGreat.AX body BA a0 j m=some r)
 (round:∀(J:Ap→Prop) (k:A→B→C→Option Rr),(∀σ' a b c,CG σ' (S a b c)→k a b c=some r→J σ')→∀a b c,body k a b c=some r→AB P q (S a b c) (Jd J Q)):AB P (.loop q) σ Q:=by
 refine AB.loop (fun n s=>∃a b c,CG s (S a b c)∧Go.Proofs.YtolgdkhlelfpoaaGreat.AX body n a b c=some r) BA ⟨a0,j,m,z,h⟩ ?_;rintro n s ⟨a,b,c,f,u⟩;refine Ce f ?_;cases n with
 |zero=>cases u
 |succ n=>exact round _ (Go.Proofs.YtolgdkhlelfpoaaGreat.AX body n) (fun σ' a b c I L=>⟨n,WH n,a,b,c,I,L⟩) a b c u
def Wy {A B C D Rr:Type} (body:(A→B→C→D→Option Rr)→A→B→C→D→Option Rr):Nat→A→B→C→D→Option Rr
 |0,_,_,_,_=>none
 |n+1,a,b,c,d=>body (Wy body n) a b c d
def AB.Wy {P:Program} {σ:Ap} {Q:Exit→Ap→Prop} {u:Code} {A B C D Rr:Type} (S:A→B→C→D→Ap) (body:(A→B→C→D→Option Rr)→A→B→C→D→Option Rr) (r:Rr) (a0:A) (j:B) (m:C) (q:D) (I:CG σ (S a0 j m q)) (h:Go.Proofs.YtolgdkhlelfpoaaGreat.Wy body BA a0 j m q=some r)
 (round:∀(J:Ap→Prop) (k:A→B→C→D→Option Rr),(∀σ' a b c d,CG σ' (S a b c d)→k a b c d=some r→J σ')→∀a b c d,body k a b c d=some r→AB P u (S a b c d) (Jd J Q)):AB P (.loop u) σ Q:=by
 refine AB.loop (fun n s=>∃a b c d,CG s (S a b c d)∧Go.Proofs.YtolgdkhlelfpoaaGreat.Wy body n a b c d=some r) BA ⟨a0,j,m,q,I,h⟩ ?_;rintro n s ⟨a,b,c,d,f,z⟩;refine Ce f ?_;cases n with
 |zero=>cases z
 |succ n=>exact round _ (Go.Proofs.YtolgdkhlelfpoaaGreat.Wy body n) (fun σ' a b c d L M=>⟨n,WH n,a,b,c,d,L,M⟩) a b c d z
def zJ {A B C D E Rr:Type} (body:(A→B→C→D→E→Option Rr)→A→B→C→D→E→Option Rr):Nat→A→B→C→D→E→Option Rr
 |0,_,_,_,_,_=>none
 |n+1,a,b,c,d,e=>body (zJ body n) a b c d e
def aB0 {P:Program} {σ:Ap} {Q:Exit→Ap→Prop} {z:Code} {A B C D E Rr:Type} (S:A→B→C→D→E→Ap) (body:(A→B→C→D→E→Option Rr)→A→B→C→D→E→Option Rr) (r:Rr) (a0:A) (j:B) (m:C) (q:D) (u:E) (L:CG σ (S a0 j m q u)) (h:Go.Proofs.YtolgdkhlelfpoaaGreat.zJ body BA a0 j m q u=some r)
 (round:∀(J:Ap→Prop) (k:A→B→C→D→E→Option Rr),(∀σ' a b c d e,CG σ' (S a b c d e)→k a b c d e=some r→J σ')→∀a b c d e,body k a b c d e=some r→AB P z (S a b c d e) (Jd J Q)):AB P (.loop z) σ Q:=by
 refine AB.loop (fun n s=>∃a b c d e,CG s (S a b c d e)∧Go.Proofs.YtolgdkhlelfpoaaGreat.zJ body n a b c d e=some r) BA ⟨a0,j,m,q,u,L,h⟩ ?_;rintro n s ⟨a,b,c,d,e,f,I⟩;refine Ce f ?_;cases n with
 |zero=>cases I
 |succ n=>exact round _ (Go.Proofs.YtolgdkhlelfpoaaGreat.zJ body n) (fun σ' a b c d e M O=>⟨n,WH n,a,b,c,d,e,M,O⟩) a b c d e I
def Dn {A B C D E F Rr:Type} (body:(A→B→C→D→E→F→Option Rr)→A→B→C→D→E→F→Option Rr):Nat→A→B→C→D→E→F→Option Rr
 |0,_,_,_,_,_,_=>none
 |n+1,a,b,c,d,e,f=>body (Dn body n) a b c d e f
def AB.Dn {P:Program} {σ:Ap} {Q:Exit→Ap→Prop} {L:Code} {A B C D E F Rr:Type} (S:A→B→C→D→E→F→Ap) (body:(A→B→C→D→E→F→Option Rr)→A→B→C→D→E→F→Option Rr) (r:Rr) (a0:A) (m:B) (q:C) (u:D) (z:E) (I:F) (O:CG σ (S a0 m q u z I)) (h:Go.Proofs.YtolgdkhlelfpoaaGreat.Dn body BA a0 m q u z I=some r)
 (round:∀(J:Ap→Prop) (k:A→B→C→D→E→F→Option Rr),(∀σ' a b c d e f,CG σ' (S a b c d e f)→k a b c d e f=some r→J σ')→∀a b c d e f,body k a b c d e f=some r→AB P L (S a b c d e f) (Jd J Q)):AB P (.loop L) σ Q:=by
 refine AB.loop (fun n s=>∃a b c d e f,CG s (S a b c d e f)∧Go.Proofs.YtolgdkhlelfpoaaGreat.Dn body n a b c d e f=some r) BA ⟨a0,m,q,u,z,I,O,h⟩ ?_;rintro n s ⟨a,b,c,d,e,f,j,M⟩;refine Ce j ?_;cases n with
 |zero=>cases M
 |succ n=>exact round _ (Go.Proofs.YtolgdkhlelfpoaaGreat.Dn body n) (fun σ' a b c d e f U Y=>⟨n,WH n,a,b,c,d,e,f,U,Y⟩) a b c d e f M
def WA {A B C D E F G Rr:Type} (body:(A→B→C→D→E→F→G→Option Rr)→A→B→C→D→E→F→G→Option Rr):Nat→A→B→C→D→E→F→G→Option Rr
 |0,_,_,_,_,_,_,_=>none
 |n+1,a,b,c,d,e,f,g=>body (WA body n) a b c d e f g
def AB.WA {P:Program} {σ:Ap} {Q:Exit→Ap→Prop} {M:Code} {A B C D E F G Rr:Type} (S:A→B→C→D→E→F→G→Ap) (body:(A→B→C→D→E→F→G→Option Rr)→A→B→C→D→E→F→G→Option Rr) (r:Rr) (a0:A) (m:B) (q:C) (u:D) (z:E) (I:F) (L:G) (U:CG σ (S a0 m q u z I L)) (h:Go.Proofs.YtolgdkhlelfpoaaGreat.WA body BA a0 m q u z I L=some r)
 (round:∀(J:Ap→Prop) (k:A→B→C→D→E→F→G→Option Rr),(∀σ' a b c d e f g,CG σ' (S a b c d e f g)→k a b c d e f g=some r→J σ')→∀a b c d e f g,body k a b c d e f g=some r→AB P M (S a b c d e f g) (Jd J Q)):AB P (.loop M) σ Q:=by
 refine AB.loop (fun n s=>∃a b c d e f g,CG s (S a b c d e f g)∧Go.Proofs.YtolgdkhlelfpoaaGreat.WA body n a b c d e f g=some r) BA ⟨a0,m,q,u,z,I,L,U,h⟩ ?_;rintro n s ⟨a,b,c,d,e,f,g,j,O⟩;refine Ce j ?_;cases n with
 |zero=>cases O
 |succ n=>exact round _ (Go.Proofs.YtolgdkhlelfpoaaGreat.WA body n) (fun σ' a b c d e f g Y Z=>⟨n,WH n,a,b,c,d,e,f,g,Y,Z⟩) a b c d e f g O
section
variable {P : Program} {o : Oper} {es : List BI} {α : Type}
def alY {b:Nat} {z:α} {n c:Int} {r:List α} (h:Ia b z n c=some r):(0≤n∧n≤c∧(b:Int)*c≤140737488355328)∧r=List.replicate n.toNat z:=by
 unfold Ia at h;split at h
 ·exact⟨‹_›,(CJ h).symm⟩
 cases h
def Z5 {x y:Operand} {t e:TypeId} {size f:Nat} {j:Value} {n c:Int} {r:List α} (enc:α→D) (z:α) (h:Ia f z n c=some r) (hE:Fe P t e size f) (hz:(P.info? e).bind (·.zero)=some j) (h1:j.cells.all (·.oneCell')=true) (I:j.cells.size=size)
 (m:Eo j=(enc z).cells.map .d) (hb:0<f) (ho:o.op=.makeSlice t x y):Bd P o [(x,.d (AV n)),(y,.d (AV c))] es (.aS es.length) (es++[.arr e size (List.map enc r)]):=
 .eff fun C ok H a w hm hn=>by
  obtain⟨⟨h0,Y,hbc⟩,rfl⟩:=alY h;have hx:=(ER hn).1.lit;have J:=(ER hn).2.lit;simp only at hx J;obtain⟨i,z',hi,hz',hs,Z,_⟩:=hE.info;have hzv:i.zero=some j:=by rw[hi]at hz;simpa using hz
  have L:c≤9223372036854775807:=by
   have h2:(1:Int)*c≤(f:Int)*c:=Int.mul_le_mul_of_nonneg_right AA AA;omega
  have hr:=run_make (P:=P) w t e i j hE.und hi hzv .i64 .i64 n c h0 Y (by rw[Z];omega) L;rw[hs]at hr
  let cells:=madeCells j.cells (c.toNat*size)
  have M:=hE.pos;have q:cells.size=c.toNat*size:=size_madeCells _ _;have O:(Eo j).length=size:=by simp[Eo,I]
  have s:∀y∈List.map enc (List.replicate n.toNat z),y.cells.length=size:=by
   intro y J;simp only[List.map_replicate,List.mem_replicate]at J;rw[J.2,←O,m];simp
  have u:=Qe s;have hlen:(List.map enc (List.replicate n.toNat z)).length=n.toNat:=BM
  rw[hlen]at u;have ayi:n.toNat*size≤c.toNat*size:=J5 _ AA
  have hrs:∀{ok:Nat→Prop} {w:World} {H:List Bc},FB ok w H (flat (List.map enc (List.replicate n.toNat z))) (cells.toList.take (n.toNat*size)):=by
   intro ok w H;refine⟨by rw[u,Gt,RG,q];omega,fun k hk=>?_⟩;rw[u]at hk;have hd:=aAb k size;have hq:k/size<n.toNat:=pX (by rwa [TL]at hk);have hm':k % size<size:=aH _ M;have e0:k=k/size*size+k % size:=by rw[TL];exact hd.symm
   have e1:(flat (List.map enc (List.replicate n.toNat z))).getD k .junk=.d ((enc z).cells.getD (k % size) DL):=by
    have hg:=flat_get s (k/size) (k % size) (by rw[hlen];exact hq) hm';rw[←e0]at hg;rw[hg];congr 3;simp[List.getD,hq]
   have hcl:(enc z).cells.length=size:=by rw[←O,m];simp
   have e2:(Ac.d ((enc z).cells.getD (k % size) DL))=(Eo j).getD (k % size) .junk:=by
    rw[m];have :k % size<(enc z).cells.length:=AA
    simp[List.getD,this]
   have U:k % size<j.cells.size:=AA
   have e3:(cells.toList.take (n.toNat*size)).getD k undef=j.cells[k % size]:=by
    have hk2:k<c.toNat*size:=AA
    have e:cells.toList=(List.range (c.toNat*size)).map fun i=>j.cells[i % j.cells.size]! :=by
     show(madeCells j.cells (c.toNat*size)).toList=_;simp[madeCells]
    rw[e];simp only[List.getD,Ll hk];simp[hk2,I];rw[iG j.cells (k % size) U]
   rw[e1,e2,e3];have e4:(Eo j).getD (k % size) .junk=.d (NH j.cells[k % size]):=by simp[Eo,List.getD,U]
   rw[e4];exact⟨lN ((PK.1 h1) _ BM),.d _ _ (eI _)⟩
  obtain⟨h2,h3⟩:=hm.push (.cells cells e) ⟨.slice (some ⟨w.heap.size,0,none⟩) n.toNat c.toNat,size⟩ (.arr e size (List.map enc (List.replicate n.toNat z))) (fun b hb=>by simpa[DC]using hb.symm) (by
   refine⟨rfl,s,cells.toList.take (n.toNat*size),⟨?_,.inr ⟨w.heap.size,c.toNat,cells,by rw[hlen],EH _,Wv w _,by rw[hlen];omega,vU,dD q.symm,by rw[hlen]⟩⟩,hrs⟩
   rw[hlen,Gt,RG,q];omega)
  refine⟨.slice (some ⟨w.heap.size,0,none⟩) n.toNat c.toNat,_,ok,_,.inl ?_,h3,Names.push _ _,h2,.aS _ _ _ _ size (by rw[←hm.hlen];simp)⟩;simp only[execOp,ho,hx,J,Eh,hr,Ep,FM];rfl
def gCopy (l m:List α):List α:=m.take l.length++l.drop m.length
def amR {x y:Operand} {t e:TypeId} {size bytes k:Nat} (enc:α→D) (l m:List α) (hE:Fe P t e size bytes) (hk:es[k]? =some (.arr e size (List.map enc l))) (hc:∀a,(enc a).cells.length=size) (ho:o.op=.call { callee:=.builtin .copy,args:= #[x,y],argTypes:= #[t,t] }):
 Bd P o [(x,.aS k),(y,.d (Ai enc m))] es .junk (es.set k (.arr e size (List.map enc (gCopy l m)))):=
 .eff fun C ok H a w hm hn=>by
  have hx:=(ER hn).1;have hy:=(ER hn).2;simp only at hx hy;obtain⟨h,hh,hok⟩:=FY hm.ent hm.hlen hk;have hxv:=Nj hx hh;obtain⟨i,z',hi,hz',hs,hby,_⟩:=hE.info;have hu:(underlying t).run P w=.ok (.slice e) w:=aDK
  have hsz:(sizeOf e).run P w=.ok size w:=aCQ
  have O:∀(q:List α),∀y∈q.map enc,y.cells.length=size:=fun q y hy=>aGv
  have hyR:DT ok w (.sl (m.map enc)) (a.eval y):=by cases hy with |d _ _ h=>exact h
  obtain⟨f,M,axu⟩:=dW H hyR (O m);obtain⟨h1,h2,ys,U,hrs⟩:=hok;have Y:(m.map enc).length=m.length:=BM
  have hll:(l.map enc).length=l.length:=BM
  have hnl:f.length=m.length*size:=by rw[M.len,Y]
  let n:=Nat.min m.length l.length
  have Z:(Builtin.lenOf (a.eval y)).run P w=.ok m.length w:=by
   rcases M.at_ with⟨ad,c,e1,_⟩|⟨c,e1,e2⟩
   ·rw[e1];simp[Builtin.lenOf]
   rw[e1];rw[Y]at e2;simp[Builtin.lenOf,e2]
  have z:(Builtin.firstCells size n (a.eval y)).run P w=.ok (f.take (n*size)).toArray w:=by
   rcases M.at_ with⟨ad,c,e1,hcells⟩|⟨c,e1,e2⟩
   ·rw[e1];refine run_firstCells_some (P:=P) w size n ad _ c (f.take (n*size)) ?_ ?_
    ·rw[Gt,hnl];have :n*size≤m.length*size:=J5 _ (Nat.min_le_left _ _);omega
    intro j v hj;rw[iV]at hj;split at hj
    ·exact hcells j v hj
    cases hj
   rw[e1];rw[Y]at e2;have :f=[]:=GR (by rw[hnl,e2];simp);simp[Builtin.firstCells,this]
  have hone:∀u∈f.take (n*size),u.oneCell'=true:=fun u hu=>M.one u (ou hu);have hn1:n≤m.length:=Nat.min_le_left _ _;have hn2:n≤l.length:=Nat.min_le_right _ _
  have s:(f.take (n*size)).length=n*size:=by
   rw[Gt,hnl];have :n*size≤m.length*size:=J5 _ hn1;omega
  have hgc:gCopy l m=m.take n++l.drop n:=by
   unfold gCopy;by_cases hle:m.length≤l.length
   ·have e1:n=m.length:=iw hle;rw[e1,Pv hle,Il]
   have e1:n=l.length:=Nat.min_eq_right AA;rw[e1,yO AA,QX]
  have I:(gCopy l m).length=l.length:=by rw[hgc];simp;omega
  rcases U.2 with⟨hv,hl0⟩|⟨g,cap,J,hv,_,hg,hncap,hcm,hcs,htake⟩
  ·
   rw[hll]at hl0;have hn0:n=0:=AA
   have hl:l=[]:=GR hl0;have hge:gCopy l m=l:=by rw[hgc,hn0];simp
   rw[hge]
   have hset:es.set k (.arr e size (List.map enc l))=es:=by
    apply bQ;intro j;by_cases hj:k=j
    ·subst hj;have hkl:=(F6.1 hk).1;rw[List.getElem?_set_self hkl,hk]
    rw[VI hj]
   rw[hset];refine⟨goInt n,w,ok,H,.inl ?_,.refl _ _,.refl _,hm,.junk _⟩;have e0:Nat.min m.length 0=n:=by rw[hn0];simp
   have hf0:(Builtin.firstCells size 0 (a.eval y)).run P w=.ok #[] w:=by rw[hn0]at z;simpa using z
   simp[execOp,ho,resolve,invoke,builtin,Builtin.copy_,hxv,hv,hu,Z,hsz,hf0,hn0]
  ·rw[hll]at hv hncap htake;have hlt:g<w.heap.size:=(FN.1 hg).1
   have hfit:n*size≤J.size:=by
    exact EZ (J5 _ AA) hcs
   have hst:=aF8 (P:=P) g 0 e (f.take (n*size)) 0 J w hg (by rw[s];omega) hone;have arv:∀y∈(gCopy l m).map enc,y.cells.length=size:=O _
   obtain⟨h3,h4⟩:=hm.upd (e:=.arr e size (List.map enc (gCopy l m))) (w':=w.setRow g (J.toList.take (0+0)++f.take (n*size)++J.toList.drop (0+0+(f.take (n*size)).length)).toArray) hk rfl hh (by rw[hv];rfl) rfl rfl rfl aIM (fun c hc=>aHx _ _ _ _ hc) (fun hg'=>by
    refine⟨h1,arv,f.take (n*size)++ys.drop (n*size),?_,?_⟩
    ·refine⟨?_,.inr ⟨g,cap,_,by rw[Cb,I];exact hv,EH _,jO w g J _ e (0,0) hg,by rw[Cb,I];exact hncap,hcm,?_,?_⟩⟩
     ·simp only[Dz,s,Jt,U.1,Cb,I];have :n*size≤l.length*size:=J5 _ hn2;omega
     ·simp only[O6,Opn,J4,Ik,s];simp only[dY,Dz,s,Jt,RG];rw[show n*size+(J.size-n*size)=J.size by omega];exact hcs
     simp only[O6,Opn,J4,Ik,s,zq];rw[Cb,I,←htake];rw[aIF,s,Pv (by rw[s];exact J5 _ hn2)];congr 1;rw[List.drop_take]
    have ha:=axu.mono hg' (Names.refl H);have hb:=hrs.mono hg' (Names.refl H);have axv:=Qe (O l);have axw:=Qe (O m);have avr:=Qe arv;have ayj:n*size≤l.length*size:=J5 _ hn2;have ayk:n*size≤m.length*size:=J5 _ hn1;refine⟨by simp only[avr,Dz,s,Jt,U.1,Cb,I];omega,fun j hj=>?_⟩;rw[avr,Cb,I]at hj;have hpos:=hE.pos;have e0:j=j/size*size+j % size:=by rw[TL];exact(aAb j size).symm
    have hq:j/size<l.length:=pX (by rwa [TL]at hj);have hr:j % size<size:=aH _ hpos;have hg3:=flat_get arv (j/size) (j % size) (by rw[Cb,I];exact hq) hr;rw[←e0]at hg3;by_cases hjn:j<n*size
    ·have hqn:j/size<n:=pX (by rwa [TL]at hjn);have hg2:=flat_get (O m) (j/size) (j % size) (by rw[Y];omega) hr;rw[←e0]at hg2
     have L:((gCopy l m).map enc).getD (j/size) DL=(m.map enc).getD (j/size) DL:=by
      rw[hgc];simp only[List.getD,L6];rw[G6 E5,XE,Ll hqn]
     rw[hg3,L,←hg2]
     have e5:(f.take (n*size)++ys.drop (n*size)).getD j undef=f.getD j undef:=by
      simp only[List.getD];rw[G6 (by rw[s];exact hjn),Ll hjn]
     rw[e5];exact ha.2 j (by rw[axw,Y];omega)
    have hqn:n≤j/size:=(Nat.le_div_iff_mul_le hpos).2 AA;have hg1:=flat_get (O l) (j/size) (j % size) (by rw[hll];exact hq) hr;rw[←e0]at hg1
    have L:((gCopy l m).map enc).getD (j/size) DL=(l.map enc).getD (j/size) DL:=by
     rw[hgc];have hlt':(m.take n).length=n:=E5
     simp only[List.getD,L6];rw[Io (by rw[Cb,hlt'];exact hqn),Cb,hlt',XZ,OQ];congr 2;omega
    rw[hg3,L,←hg1]
    have e5:(f.take (n*size)++ys.drop (n*size)).getD j undef=ys.getD j undef:=by
     simp only[List.getD];rw[Io (by rw[s];omega),s,OQ];congr 2;omega
    rw[e5]
    exact hb.2 j (by rw[axv,hll];omega))
   refine⟨goInt n,_,ok,H,.inl ?_,h4,.refl _,h3,.junk _⟩;have e0:Nat.min m.length l.length=n:=rfl;simp[execOp,ho,resolve,invoke,builtin,Builtin.copy_,hxv,hv,hu,Z,hsz,e0,z];rw[hst];simp
end
def Bg (s:ByteArray):List Int:=s.data.toList.map fun c=>(c.toNat:Int)
def Gg (s:ByteArray):(Bg s).length=s.size:=by unfold Bg;rw[Cb,RG];rfl
section
variable {P : Program} {o : Oper} {es : List BI} {α : Type}
def rV :∀(l:List Int),flat (l.map CV)=l.map fun n=>.d (CV n)
 | []=>rfl
 |n::l=>by rw[Jr,UD,rV l];rfl
def ahP {w:World} {t u ty e:TypeId} {i:TypeInfo} (Z:P.underlying t=some (.slice e)) (hu:P.underlying u=some .string) (hi:P.info? e=some i) (hz:i.zero=some (.int .u8 0)) (f:i.size=1) (U:i.bytes=1)
 {v:Value} {n:Nat} {xs:List Value} (m:lH w e 1 v n xs) (s:ByteArray) (L:n+s.size≤maxLen) (I:n+s.size≤140737488355328):
 ∃v' w',(Builtin.append_ #[t,u] ty #[v,.string s]).run P w=.ok v' w'∧lH w' e 1 v' (n+s.size) (xs++Lib.strCells s)∧w.grownBy w' v.ownBlock∧(∀O,DC v'=some O→DC v=some O∨w.heap.size≤O):=by
 have J:xs.length=n:=by simpa using m.1
 have hlen:(xs++Lib.strCells s).length=(n+s.size)*1:=by rw[Dz,J,aCw,Xj]
 rcases m.2 with⟨rfl,rfl⟩|⟨g,cap,Y,rfl,_,hg,hnc,M,hcs,q⟩
 ·have hx:xs=[]:=GR J;subst hx;obtain⟨v',w',q1,q2,q3,q4⟩:=Lib.run_append_own_string (P:=P) w w.heap.size t u ty e i Z hu hi hz f U _ 0 [] (sZ w w.heap.size e 1) s L I (Dy _);refine⟨v',w',q1,.of q2,q3,fun O j=>.inr ?_⟩;rcases q2.2 with⟨rfl,_⟩|⟨g2,_,_,rfl,hle,_⟩
  ·simp[DC]at j
  simp[DC]at j;subst j;exact hle
 rw[Xj]at hcs q;by_cases z:n+s.size≤cap
 ·have hr:=Lib.run_append_room_string (P:=P) w t u ty e i Z hu hi f g n cap Y hg s z AA;refine⟨_,_,hr,⟨hlen,.inr ⟨g,cap,_,rfl,EH _,jO w g Y _ e _ hg,z,M,?_,?_⟩⟩,⟨rfl,rfl,rfl,BM,fun k _ hk=>setRow_other w g k _ (fun e=>hk (by simp[Value.ownBlock,e]))⟩,fun O j=>.inl j⟩
  ·simp only[dY,Dz,Gt,Jt,RG,aCw];omega
  rw[q,←hlen];exact aCC
 have hr:=Lib.run_append_grow_string (P:=P) w t u ty e i (.int .u8 0) Z hu hi hz ⟨g,0,none⟩ n cap xs (by rw[f];simpa using J) (m.cells (g:=g) rfl) s AA (by unfold maxLen at L;omega) (by rw[U];exact growslice_fits AA AA);have hge:=grownCap_ge w (n+s.size) cap e;have M:grownCap w (n+s.size) cap e≤maxLen:=grownCap_le_maxLen w (n+s.size) cap e L;refine⟨_,_,hr,⟨hlen,.inr ⟨w.heap.size,_,_,rfl,EH _,Wv w.drew _,hge,M,dD ?_,?_⟩⟩,⟨rfl,rfl,rfl,BM,fun k hk _=>Iz w.drew _ k hk⟩,fun O j=>.inr (by simp[DC]at j;omega)⟩
 ·have hz1:(Value.int IntKind.u8 0).cells.size=1:=rfl;simp only[Array.size_append,dY,size_zeroCells,hz1,J,aCw];omega
 simp only[Array.toList_append,Gy];rw[←Gy,←hlen];exact aCC
def alb {s x:Operand} {t u e:TypeId} {k:Nat} {l r:List Int} {f:ByteArray} (h:DN 1 l (Bg f)=some r) (hE:Fe P t e 1 1) (hz:(P.info? e).bind (·.zero)=some (.int .u8 0)) (hu:P.underlying u=some .string) (hk:es[k]? =some (.arr e 1 (List.map CV l)))
 (ho:o.op=.call { callee:=.builtin .append,args:= #[s,x],argTypes:= #[t,u] }):Bd P o [(s,.aS k),(x,.d (CO f))] es (.aS es.length) (es.set k .dead++[.arr e 1 (List.map CV r)]):=
 .eff fun C ok H a w Z hn=>by
  obtain⟨rfl,hlen⟩:=tC h;rw[Gg,Xj]at hlen;have hs:=(ER hn).1;have hx:=(ER hn).2.lit;simp only at hs hx;obtain⟨hd,hh,hok⟩:=FY Z.ent Z.hlen hk;have hsv:=Nj hs hh;obtain⟨h1,h2,ys,m,hrs⟩:=hok;obtain⟨i,z',hi,hz',hs1,hby,_⟩:=hE.info;have hz2:i.zero=some (.int .u8 0):=by rw[hi]at hz;simpa using hz
  have I:(l.map CV).length=l.length:=BM
  have J:(l.map CV).length+f.size≤maxLen:=by rw[I];unfold maxLen;omega
  obtain⟨v',w',hr,z,L,M⟩:=ahP (P:=P) (ty:=o.type) hE.und hu hi hz2 hs1 hby m f J (by rw[I];exact hlen)
  obtain⟨h3,h4⟩:=Z.turn (h':=⟨v',1⟩) (e:=.arr e 1 (List.map CV (l++Bg f))) hk rfl hh L.os L.tape L.output L.size (fun c hc hne=>L.block c hc (by rw[aE9 m];exact fun e=>hne e.symm)) (fun g O=>⟨mJ z O,M g O⟩) (fun hgr=>by
   refine⟨rfl,fun y hy=>by obtain⟨q,_,rfl⟩:=F8.1 hy;rfl,ys++Lib.strCells f,?_,?_⟩
   ·have e:(List.map CV (l++Bg f)).length=(l.map CV).length+f.size:=by simp[Gg]
    rw[e];exact z
   have U:=hrs.mono hgr (Names.push H [⟨v',1⟩]);have hfl:(flat (l.map CV)).length=l.length:=by rw[rV];simp
   have hcl:(Lib.strCells f)=(Bg f).map (.int .u8):=by unfold Lib.strCells Bg;rw[pz];rfl
   rw[L6,ZR,rV (Bg f),hcl];refine⟨by rw[Dz,Dz,U.1,Cb,Cb],fun i hi=>?_⟩;by_cases j:i<(flat (l.map CV)).length
   ·have e1:(flat (l.map CV)++(Bg f).map fun n=>Ac.d (CV n)).getD i .junk=(flat (l.map CV)).getD i .junk:=by simp[List.getD,G6 j]
    have e2:(ys++(Bg f).map (Value.int .u8)).getD i undef=ys.getD i undef:=by simp[List.getD,G6 (by rw[U.1];exact j:i<ys.length)]
    rw[e1,e2];exact U.2 i j
   have Y:i-(flat (l.map CV)).length<(Bg f).length:=by rw[Dz,Cb]at hi;omega
   have e1:(flat (l.map CV)++(Bg f).map fun n=>Ac.d (CV n)).getD i .junk=.d (CV (Bg f)[i-(flat (l.map CV)).length]):=by simp[List.getD,Io (SN j),Y]
   have e2:(ys++(Bg f).map (Value.int .u8)).getD i undef=.int .u8 (Bg f)[i-(flat (l.map CV)).length]:=by simp[List.getD,Io (by rw[U.1];omega:ys.length≤i),U.1,Y]
   rw[e1,e2]
   exact⟨rfl,.d _ _ (.lit _)⟩)
  have hH:(H++[(⟨v',1⟩:Bc)])[es.length]? =some ⟨v',1⟩:=by rw[←Z.hlen];simp
  refine⟨v',w',ok,_,.inl ?_,h4,Names.push _ _,h3,?_⟩
  ·simp[execOp,ho,resolve,invoke,builtin,hx,hsv,hr]
  rcases z.2 with⟨rfl,_⟩|⟨g',c',_,rfl,_⟩
  ·exact .aS _ _ _ _ 1 hH
  exact .aS _ _ _ _ 1 hH
def agM {x:Operand} {u z e:TypeId} {s:ByteArray} (M:P.underlying u=some .string) (hd:P.underlying z=some (.slice e)) (O:P.underlying e=some (.int .u8)) (U:o.op=.convert u z x):Bd P o [(x,.d (CO s))] es (.d (Ai CV (Bg s))) es:=
 .eff fun C ok H a w Y Z=>by
  have L:=(JC Z).lit;simp only at L;have hr:=run_bytes_of_string (P:=P) w u z e s M hd O;obtain⟨h1,h2⟩:=Y.drew;obtain⟨h3,h4⟩:=h1.fresh (.cells (bytesRow s (grownCap w s.size 0 e)) e ((bytesRow s (grownCap w s.size 0 e)).size,(bytesRow s (grownCap w s.size 0 e)).size+1));refine⟨.slice (some ⟨w.heap.size,0,none⟩) s.size (grownCap w s.size 0 e),_,_,H,.inl ?_,h2.trans h4,.refl _,h3,.d _ _ ?_⟩
  ·simp only[execOp,U,L,Eh,hr,Ep,FM]
  have f:((Bg s).map CV).length=s.size:=by simp[Gg]
  have m:∀i,i<s.size→(w.drew.alloc (.cells (bytesRow s (grownCap w s.size 0 e)) e ((bytesRow s (grownCap w s.size 0 e)).size,(bytesRow s (grownCap w s.size 0 e)).size+1))).cell? ⟨w.heap.size,0+(i*1+0),none⟩=some (.int .u8 ((s.data.toList.getD i 0).toNat)):=by
   intro i hi;have hb:(w.drew.alloc (.cells (bytesRow s (grownCap w s.size 0 e)) e ((bytesRow s (grownCap w s.size 0 e)).size,(bytesRow s (grownCap w s.size 0 e)).size+1))).heap[w.heap.size]? =some (.cells (bytesRow s (grownCap w s.size 0 e)) e ((bytesRow s (grownCap w s.size 0 e)).size,(bytesRow s (grownCap w s.size 0 e)).size+1)):=Wv w.drew _;rw[Ik,Xj,O6];have q:i<s.data.size:=hi
   have hg:(bytesRow s (grownCap w s.size 0 e))[i]? =some (.int .u8 ((s.data.toList.getD i 0).toNat)):=by
    unfold bytesRow;rw[XD NS];simp[dc q,List.getD]
   unfold World.cell?;simp only[hb];simpa using hg
  have J:∀i,i<s.size→((Bg s).map CV).getD i DL=CV ((s.data.toList.getD i 0).toNat):=by
   intro i hi;have q:i<s.data.size:=hi;simp[Bg,List.getD,dc q]
  have z0:∀j,j<1→j=0:=fun j I=>AA
  have :=DT.sl (ok:=fun b=>ok b∨b=w.drew.heap.size) (w:=w.drew.alloc (.cells (bytesRow s (grownCap w s.size 0 e)) e ((bytesRow s (grownCap w s.size 0 e)).size,(bytesRow s (grownCap w s.size 0 e)).size+1))) ((Bg s).map CV) w.heap.size 0 (grownCap w s.size 0 e) 1 (by rw[f];exact grownCap_ge w s.size 0 e) (fun _ _=>.inr rfl)
   (fun i hi=>by rw[f]at hi;rw[J i hi];rfl)
   (fun i hi j I=>by rw[f]at hi;rw[z0 j I,J i hi];rfl)
   (fun i hi j I=>by rw[f]at hi;rw[z0 j I,m i hi];rfl)
   (fun i hi j I=>by rw[f]at hi;rw[z0 j I];unfold cellAt;rw[m i hi,J i hi];exact .lit _)
  rw[f]at this;exact this
def Du (op:BinOp) (k:IntKind) (x y:Int):Int:=
 match op with
 | .and=>k.wrap ((BitVec.ofInt k.bits x&&& BitVec.ofInt k.bits y).toNat)
 | .or=>k.wrap ((BitVec.ofInt k.bits x|||BitVec.ofInt k.bits y).toNat)
 | .xor=>k.wrap ((BitVec.ofInt k.bits x^^^BitVec.ofInt k.bits y).toNat)
 |_=>k.wrap ((BitVec.ofInt k.bits x&&& ~~~(BitVec.ofInt k.bits y)).toNat)
def O5 {t t':TypeId} {x y:Operand} {k:IntKind} {u v:Int} (f:o.op=.binOp .and t x y t'):Bd P o [(x,.d (.lit (.int k u))),(y,.d (.lit (.int k v)))] es (.d (.lit (.int k (Du .and k u v)))) es:=
 Ed f (fun w=>aBo) ⟨rfl,rfl⟩
def Ux {t t':TypeId} {x y:Operand} {k:IntKind} {u v:Int} (f:o.op=.binOp .or t x y t'):Bd P o [(x,.d (.lit (.int k u))),(y,.d (.lit (.int k v)))] es (.d (.lit (.int k (Du .or k u v)))) es:=
 Ed f (fun w=>aBo) ⟨rfl,rfl⟩
def aIr {t t':TypeId} {x y:Operand} {k:IntKind} {u v:Int} (f:o.op=.binOp .xor t x y t'):Bd P o [(x,.d (.lit (.int k u))),(y,.d (.lit (.int k v)))] es (.d (.lit (.int k (Du .xor k u v)))) es:=
 Ed f (fun w=>aBo) ⟨rfl,rfl⟩
def aer {t t':TypeId} {x y:Operand} {k:IntKind} {u v:Int} (f:o.op=.binOp .andNot t x y t'):Bd P o [(x,.d (.lit (.int k u))),(y,.d (.lit (.int k v)))] es (.d (.lit (.int k (Du .andNot k u v)))) es:=
 Ed f (fun w=>aBo) ⟨rfl,rfl⟩
def Y8 (k:IntKind) (x:Int):Int:=Du .xor k (if k.signed then -1 else k.max) x
def ads {t:TypeId} {x:Operand} {k:IntKind} {u:Int} (f:o.op=.unOp .xor t x):Bd P o [(x,.d (.lit (.int k u)))] es (.d (.lit (.int k (Y8 k u)))) es:=
 aHa f (fun w=>by simp[Op.unary,Op.intBits,Y8,Du])
def Kv (op:BinOp) (k:IntKind) (x y:Int):Option Int:=
 if y<0 then none else some (match op with | .shl=>k.wrap (x*2^(min y.toNat k.bits))|_=>x.fdiv (2^(min y.toNat k.bits)))
def zS {t t':TypeId} {x y:Operand} {k k':IntKind} {u v r:Int} (h:Kv .shl k u v=some r) (f:o.op=.binOp .shl t x y t'):Bd P o [(x,.d (.lit (.int k u))),(y,.d (.lit (.int k' v)))] es (.d (.lit (.int k r))) es:=by
 unfold Kv at h;split at h
 ·cases h
 rename_i j;obtain rfl:=CJ h;exact Ed f (fun w=>by simp[binOp,Op.shift,j]) ⟨rfl,rfl⟩
def aDc {t t':TypeId} {x y:Operand} {k k':IntKind} {u v r:Int} (h:Kv .shr k u v=some r) (f:o.op=.binOp .shr t x y t'):Bd P o [(x,.d (.lit (.int k u))),(y,.d (.lit (.int k' v)))] es (.d (.lit (.int k r))) es:=by
 unfold Kv at h;split at h
 ·cases h
 rename_i j;obtain rfl:=CJ h;exact Ed f (fun w=>by simp[binOp,Op.shift,j]) ⟨rfl,rfl⟩
def gI (k:IntKind) (a b:Int):Option Int:=if b=0 then none else some (k.wrap (a.tdiv b))
def Uu (a b:Int):Option Int:=if b=0 then none else some (a.tmod b)
def ajH {t t':TypeId} {x y:Operand} {k:IntKind} {u v r:Int} (h:gI k u v=some r) (f:o.op=.binOp .quo t x y t'):Bd P o [(x,.d (.lit (.int k u))),(y,.d (.lit (.int k v)))] es (.d (.lit (.int k r))) es:=by
 unfold gI at h;split at h
 ·cases h
 rename_i j;obtain rfl:=CJ h;exact Ed f (fun w=>by simp[binOp,Op.intDiv,j]) ⟨rfl,rfl⟩
def aEC {t t':TypeId} {x y:Operand} {k:IntKind} {u v r:Int} (h:Uu u v=some r) (f:o.op=.binOp .rem t x y t'):Bd P o [(x,.d (.lit (.int k u))),(y,.d (.lit (.int k v)))] es (.d (.lit (.int k r))) es:=by
 unfold Uu at h;split at h
 ·cases h
 rename_i j;obtain rfl:=CJ h;exact Ed f (fun w=>by simp[binOp,Op.intDiv,j]) ⟨rfl,rfl⟩
end
section
variable {P : Program} {o : Oper} {es : List BI} {α : Type}
def aLS {ok:Nat→Prop} {w:World} {H:List Bc} {h:Bc} {e size k i off:Nat} {xs:List D} {v:Value} (M:H[k]? =some h) (q:EW ok w H h (.arr e size xs)) (hi:i<xs.length) (O:R ok w H (.kK k i off) v):
 ∃g cap f ys,h.v=.slice (some ⟨g,0,none⟩) xs.length cap∧w.heap[g]? =some (.cells f e (0,0))∧xs.length≤cap∧cap≤maxLen∧xs.length*size≤f.size∧cap*size≤f.size∧f.toList.take (xs.length*size)=ys∧ys.length=xs.length*size∧FB ok w H (flat xs) ys∧(∀x∈xs,x.cells.length=size)∧v=.pointer (some ⟨g,i*size+off,none⟩):=by
 obtain⟨I,U,ys,⟨Y,Z⟩,h5⟩:=q;rcases Z with⟨m,h7⟩|⟨g,cap,f,m,h7,h8,J,u,j,z⟩
 ·omega
 refine⟨g,cap,f,ys,m,h8,J,u,EZ (J5 _ J) j,j,z,Y,h5,U,?_⟩;cases O with
 |kK _ _ _ b n c s L=>
  rw[M]at L;obtain rfl:=CJ L;simp only[aT,Ju,Addr.mk.injEq]at m;simp only at I;rw[m.1.1,I]
def aaW {size n i j:Nat} (hi:i<n) (f:j<size):i*size+j<n*size:=
 calc i*size+j<i*size+size:=AA
  _=(i+1)*size:=by rw[Sl]
  _≤n*size:=J5 _ hi
def QW {x:Operand} {t:TypeId} {agg:Bool} {k n i off e size:Nat} {y:D} (enc:α→D) {l:List α} {a:α} (hy:y=Nu agg (enc a).cells off n) (hk:es[k]? =some (.arr e size (List.map enc l))) (ha:l[i]? =some a) (hT:Dc P t agg n) (hn:off+n≤(enc a).cells.length) (h1:agg=false→n=1)
 (ho:o.op=.load t x):Bd P o [(x,.kK k i off)] es (.d y) es:=
 .pure fun ok H ac w J hl O=>by
  have hx:=JC O;simp only at hx;subst hy;obtain⟨h,hh,U⟩:=FY J hl hk;obtain⟨u,L⟩:=F6.1 ha;have f:i<(List.map enc l).length:=Og
  obtain⟨g,cap,m,ys,e1,e2,e3,e4,e5,e5',e6,e7,e8,Y,Z⟩:=aLS hh U f hx;have z:(List.map enc l).getD i DL=enc a:=by simp[List.getD,u,L]
  have hsz:(enc a).cells.length=size:=by
   refine Y _ ?_;exact F8.2 ⟨a,by rw[←L];exact EC u,rfl⟩
  have hfl:=Qe Y
  have q:∀j,j<size→w.cell? ⟨g,i*size+j,none⟩=some (ys.getD (i*size+j) undef):=by
   intro j I;have s:=aaW f I;have hcur:(List.map enc l).length*size≤m.size:=e5;have h15:i*size+j<m.size:=AA
   have e11:ys.getD (i*size+j) undef=m[i*size+j]'(h15):=by
    rw[←e6];have h14:i*size+j<l.length*size:=PV
    simp[List.getD,Ll h14,show i*size+j<m.size by omega]
   rw[e11];simp[World.cell?,e2,show i*size+j<m.size by omega]
  have M:∀j,j<size→((enc a).cells.getD j DL).leaf=true∧DT ok w ((enc a).cells.getD j DL) (ys.getD (i*size+j) undef):=by
   intro j I;have s:=e8.2 (i*size+j) (by rw[hfl];exact aaW f I);rw[flat_get Y i j f I,z]at s;refine⟨s.1,?_⟩;cases s.2 with |d _ _ h=>exact h
  obtain⟨v,hr,hD⟩:=aAI (ok:=ok) (w:=w) (b:=g) (p:=i*size) (cs:=(enc a).cells) hT hn h1 (fun j I=>(M j AA).1) (fun j I=>by rw[q j AA];rfl) (fun j I=>by unfold cellAt;rw[q j AA];exact(M j AA).2);exact⟨v,by simp only[execOp,ho,Z,Eh,hr,Ep,FM],.d _ _ hD⟩
def Xf {t:TypeId} {x y:Operand} {k i off n e size:Nat} (enc:α→D) {l:List α} {a a':α} {v:Ac} (hk:es[k]? =some (.arr e size (List.map enc l))) (ha:l[i]? =some a) (hl:v.cells.all Ac.leaf=true) (hs:∀w,(sizeOf t).run P w=.ok n w) (hn:v.cells.length=n)
 (hle:off+n≤(enc a).cells.length) (hset:(enc a').cells.map Ac.d=setAt ((enc a).cells.map Ac.d) off v.cells) (hc:∀b,(enc b).cells.length=size) (ho:o.op=.store t x y):
 Bd P o [(x,.kK k i off),(y,v)] es .junk (es.set k (.arr e size (List.map enc (l.set i a')))):=
 .eff fun C ok H s w hm hn'=>by
  have h1:=(ER hn').1;have h2:=(ER hn').2;simp only at h1 h2;obtain⟨h,hh,hok⟩:=FY hm.ent hm.hlen hk;obtain⟨M,hia⟩:=F6.1 ha;have axx:i<(List.map enc l).length:=by simpa using M
  have hok1:=hok.1;obtain⟨g,cap,f,ys,e1,e2,e3,e4,e5,e5',e6,e7,e8,e9,e10⟩:=aLS hh hok axx h1;have m:=h2.ac6 hl;have hll:(List.map enc l).length=l.length:=BM
  rw[hll]at e1 e3 e6 e7;have hea:(enc a).cells.length=size:=hc a;have O:(s.eval y).cells.toList.length=n:=by rw[m.1,hn]
  have hsz:(s.eval y).cells.size=n:=ni
  have hcur:l.length*size≤f.size:=by simpa using e5
  have hend:i*size+off+n≤l.length*size:=by
   have :(i+1)*size≤l.length*size:=J5 _ M;rw[Sl]at this;omega
  have hst:=aF8 (P:=P) g (i*size+off) e (s.eval y).cells.toList 0 f w e2 (by rw[O];omega) (fun u hu=>by
   obtain⟨j,z,rfl⟩:=Gj hu;have h5:=m.2 j (by rw[←m.1];exact z);have :=h5.2.leaf h5.1
   rwa [uS z]at this)
  simp only[O6]at hst;have J:∀(q:List α),∀y∈q.map enc,y.cells.length=size:=fun q y hy=>aGv
  obtain⟨h3,h4⟩:=hm.upd (e:=.arr e size (List.map enc (l.set i a'))) (w':=w.setRow g (f.toList.take (i*size+off)++(s.eval y).cells.toList++f.toList.drop (i*size+off+(s.eval y).cells.toList.length)).toArray) hk rfl hh (by rw[e1];rfl) rfl rfl rfl aIM (fun c hc=>aHx _ _ _ _ hc) (fun hg'=>by
   have esz:(setAt f.toList (i*size+off) (s.eval y).cells.toList).length=f.toList.length:=QU (by have :=f.length_toList;omega);refine⟨hok1,J _,setAt ys (i*size+off) (s.eval y).cells.toList,⟨?_,.inr ⟨g,cap,_,by simp;exact e1,EH _,jO w g f _ e (0,0) e2,by simpa using e3,e4,?_,?_⟩⟩,?_⟩
   ·rw[QU AA];simpa using e7
   ·have h9:(setAt f.toList (i*size+off) (s.eval y).cells.toList).toArray.size=f.size:=by rw[dY,esz];simp
    show _≤(setAt f.toList (i*size+off) (s.eval y).cells.toList).toArray.size;rw[h9];exact e5'
   ·rw[zq];show(setAt f.toList (i*size+off) (s.eval y).cells.toList).take _=_;rw[←e6];have hlen':(List.map enc (l.set i a')).length=l.length:=BM
    rw[hlen'];apply bQ;intro j;have hcl:=f.length_toList;by_cases z:j<l.length*size
    ·have a1:((setAt f.toList (i*size+off) (s.eval y).cells.toList).take (l.length*size))[j]? =some ((setAt f.toList (i*size+off) (s.eval y).cells.toList).getD j undef):=by
      rw[Ll z];simp[List.getD,show j<(setAt f.toList (i*size+off) (s.eval y).cells.toList).length by rw[esz];omega]
     have tl:(f.toList.take (l.length*size)).length=l.length*size:=E5
     have sl:(setAt (f.toList.take (l.length*size)) (i*size+off) (s.eval y).cells.toList).length=l.length*size:=by rw[QU AA,tl]
     have a2:(setAt (f.toList.take (l.length*size)) (i*size+off) (s.eval y).cells.toList)[j]? =some ((setAt (f.toList.take (l.length*size)) (i*size+off) (s.eval y).cells.toList).getD j undef):=by
      simp[List.getD,show j<(setAt (f.toList.take (l.length*size)) (i*size+off) (s.eval y).cells.toList).length by omega]
     rw[a1,a2,Vg AA,Vg AA];congr 1;split
     ·rfl
     simp[List.getD,Ll z]
    have tl:(f.toList.take (l.length*size)).length=l.length*size:=E5
    have sl:(setAt (f.toList.take (l.length*size)) (i*size+off) (s.eval y).cells.toList).length=l.length*size:=by rw[QU AA,tl]
    rw[Kq E5,Kq AA]
   have hb:=e8.mono hg' (Names.refl H);have hcr:=m.mono hg' (Names.refl H);have hfl:=Qe (J l);have U:=Qe (J (l.set i a'));refine⟨by rw[QU AA,e7,U];simp,fun j z=>?_⟩;rw[U]at z;simp only[Cb,WY]at z
   have Y:0<size:=by
    rcases Z7 size with h0|h0
    ·rw[h0,Nat.mul_zero]at z;omega
    exact h0
   have e0:j=j/size*size+j % size:=by rw[TL];exact(aAb j size).symm
   have hq:j/size<l.length:=pX (by rwa [TL]at z);have hr:j % size<size:=aH _ Y
   have Z:j/size=i↔i*size≤j∧j<i*size+size:=by
    rw[Nat.div_eq_iff Y,TL];omega
   rw[O]at hb hcr;generalize j/size=qd at e0 hq Z;generalize j % size=I at e0 hr;have hg3:=flat_get (J (l.set i a')) qd I (by simpa using hq) hr;rw[←e0]at hg3;have hg1:=flat_get (J l) qd I (by simpa using hq) hr;rw[←e0]at hg1;rw[hg3,Vg AA,O];by_cases L:qd=i
   ·have hnew:(List.map enc (l.set i a')).getD (qd) DL=enc a':=by rw[L];simp[List.getD,M]
    have hold:(List.map enc l).getD (qd) DL=enc a:=by rw[L];simp[List.getD,M,hia]
    rw[hnew];have ayl:(enc a').cells.length=size:=hc a'
    have e11:Ac.d ((enc a').cells.getD (I) DL)=(setAt ((enc a).cells.map Ac.d) off v.cells).getD (I) .junk:=by
     rw[←hset];simp[List.getD,show I<(enc a').cells.length by omega]
    rw[e11,Vg (by rw[Cb,hn];exact hle),hn];have hji:j=i*size+I:=by rw[←L];exact e0
    by_cases hin:off≤I∧I<off+n
    ·rw[Ch hin,Ch AA];have :j-(i*size+off)=I-off:=AA
     rw[this];exact hcr.2 _ AA
    rw[D8 hin,D8 AA];have e12:((enc a).cells.map Ac.d).getD (I) .junk=.d ((enc a).cells.getD (I) DL):=by simp[List.getD,show I<(enc a).cells.length by omega]
    rw[e12,←hold,←hg1];exact hb.2 j (by rw[hfl];simpa using z)
   have hsame:(List.map enc (l.set i a')).getD (qd) DL=(List.map enc l).getD (qd) DL:=by
    simp[List.getD,VI (Ne.symm L)]
   have hnot:¬(i*size+off≤j∧j<i*size+off+n):=by
    rintro⟨ha1,ha2⟩;exact L (Z.2 ⟨AA,AA⟩)
   rw[D8 hnot,hsame,←hg1]
   exact hb.2 j (by rw[hfl];simpa using z))
  refine⟨undef,_,ok,H,.inr ⟨rfl,?_⟩,h4,.refl _,h3,.junk _⟩;simp only[execOp,ho,e10,Instr.storeAt,Instr.sureAddr,storeVar,Eh,FM,Ep,hs,hsz,ne_eq,not_true_eq_false,Ip,hst]
end
def Ac.PN (k:Nat) (cs:List D):Ac→Ac
 | .ptr j off=>if j=k then .d (.ref cs off)else .ptr j off
 |x=>x
def Ap.PN (σ:Ap) (k:Nat) (cs:List D):Ap:=⟨σ.slots.map (Ac.PN k cs),σ.ents.set k .dead,σ.base⟩
def TM {σ:Ap} (k:Nat) {cs:List Ac} (hk:σ.ents[k]? =some (.box cs)) (hd:cs.all Ac.yI=true):∀C ok H a w,Holds C ok H σ a w→∃ok',Holds C ok' H (σ.PN k (I4 cs)) a w:=by
 intro C ok H a w f;obtain⟨h,L,hok⟩:=FY f.mem.ent f.mem.hlen hk;have u:k<σ.ents.length:=(F6.1 hk).1;obtain⟨b0,M,hf,hx,hc⟩:=aEH hok hd
 let ok':Nat→Prop:=fun b=>ok b∨DC h.v=some b
 have J:=fun b m=>f.mem.blk k _ h b hk rfl L m;have hg:Dw ok w ok' w:=fun b m=>⟨.inl m,rfl⟩
 refine⟨ok',⟨f.mem.fr,fun b m=>.inl (f.mem.wE b m),?_,?_,f.mem.names,by simp[Ap.PN,f.mem.hlen],?_,?_,?_⟩,by simp[Ap.PN,f.size],f.defers.mono hg,f.base,?_⟩
 ·rintro b (m|m)
  ·exact f.mem.wF b m
  exact .inr (J b m).2.2
 ·rintro b (m|m)
  ·exact f.mem.jG b m
  exact(J b m).2.1
 ·intro j e' h' he z;rcases Kw u he with⟨rfl,rfl⟩|⟨_,I⟩
  ·trivial
  exact(f.mem.ent j e' h' I z).mono hg (.refl _) (fun _ _ _=>rfl)
 ·intro j e' h' b he hl z m;rcases Kw u he with⟨rfl,rfl⟩|⟨hne,I⟩
  ·cases hl
  have h3:=f.mem.blk j e' h' b I hl z m;refine⟨fun q=>?_,h3.2⟩;rcases q with q|q
  ·exact h3.1 q
  exact hne (f.mem.CW j k e' _ h' h b I hk hl rfl z L m q)
 ·intro i j e1 e2 h1 h2 b he1 he2 O U hh1 hh2 hb1 hb2;rcases Kw u he1 with⟨rfl,rfl⟩|⟨_,Y⟩
  ·cases O
  rcases Kw u he2 with⟨rfl,rfl⟩|⟨_,Z⟩
  ·cases U
  exact f.mem.CW i j e1 e2 h1 h2 b Y Z O U hh1 hh2 hb1 hb2
 intro t ht;simp only[Ap.PN,Cb]at ht
 have e1:(σ.PN k (I4 cs)).slots.getD t .junk=(σ.slots.getD t .junk).PN k (I4 cs):=by
  simp only[Ap.PN];exact TB _ _ _ ht
 rw[e1];have hR:=(f.slot t ht).mono hg (Names.refl H);generalize σ.slots.getD t .junk=x at hR ⊢;generalize a.tmps.getD t undef=v at hR ⊢;cases x with
 |ptr j off=>
  simp only[Ac.PN];split
  ·rename_i hj;subst hj;cases hR with
   |ptr _ _ b s hH=>
    rw[L]at hH;obtain rfl:=CJ hH;simp at M;subst M;have :=DT.ref (ok:=ok') (w:=w) (I4 cs) off b 0 (fun _=>.inr rfl) hf hx (fun j hj=>(hc j hj).mono hg);rw[Ik]at this;exact .d _ _ this
  exact hR
 |_=>exact hR
section
variable {P : Program} {o : Oper} {es : List BI} {α β γ : Type}
def kZ {ok:Nat→Prop} {w:World} {H:List Bc} {a:Act}:∀{xs:List Operand} {vs:List Ac},xs.length=vs.length→(∀n∈Ei xs vs,R ok w H n.2 (a.eval n.1))→∀i,i<vs.length→R ok w H (vs.getD i .junk) ((xs.map a.eval).getD i undef)
 | [],[],_,_,i,hi=>MS
 | [],_::_,h,_,_,_=>H8
 |_::_,[],h,_,_,_=>H8
 |x::xs,v::vs,h,f,0,_=>by simpa using f (x,v) (by simp[Ei])
 |x::xs,v::vs,h,f,i+1,hi=>by
  have :=kZ Jp (fun n j=>f n (by simp[Ei,j])) i FZ;simpa using this
def VE {fn:Fn} {f:Array Operand} (j:List D) (m:f.toList.length=j.length) (u:o.op=.makeFunc fn #[] f):Bd P o (Ei f.toList (j.map .d)) es (.d (.fn fn [] j)) es:=
 .pure fun ok H a w _ _ z=>by
  refine⟨.func fn #[] (f.map a.eval),by simp[execOp,u,Instr.makeFunc],.d _ _ (.fn fn [] j #[] _ rfl UO (fun i hi=>MS) (fun i hi=>?_))⟩;have s:=kZ (xs:=f.toList) (vs:=j.map .d) UO z i FZ;have I:(j.map Ac.d).getD i .junk=.d (j.getD i DL):=KR
  have q:i<f.size:=by have :f.size=j.length:=UO
                      omega
  have J:(f.toList.map a.eval).getD i undef=(f.map a.eval).getD i undef:=by simp[List.getD,Array.getD,q]
  rw[I,J]at s;cases s with |d _ _ h=>exact h
def aJX {f:FuncId} {C:Dv} {ok:Nat→Prop} {H:List Bc} {w:World} (J:CX C ok H es w) {s:List D} {q:Ac} (Y:Ak P f (s.map .d) [] q []) (m:Array Value) (Z:m.size=s.length) (M:∀i,i<s.length→DT ok w (s.getD i DL) (m.getD i undef)) (z:q.up [] es.length=q):
 Calls P f m w fun e w'=>∃v ok' H',e=.returned v∧Dw ok w ok' w'∧Names H H'∧CX C ok' H' es w'∧R ok' w' H' q v:=by
 have O:CX ⟨w,ok,[],[]⟩ ok [] [] w:=
  ⟨.refl _ _,fun _ h=>h,fun _ h=>.inl h,J.jG,.refl _,rfl,fun k e h u _=>lW,fun k e h b u=>lW,fun k k' e e' h h' b u=>lW⟩
 refine(Y ok [] [] w m O dI (fun i hi=>?_)).mono ?_
 ·have I:i<s.length:=FZ
  have e1:(s.map Ac.d).getD i .junk=.d (s.getD i DL):=by simp[List.getD,I]
  rw[e1];exact .d _ _ (M i I)
 rintro e w' ⟨v,ok',H',rfl,j,hR⟩;have U:H'=[]:=GR j.hlen
 obtain⟨h1,h2⟩:=J.change (ok':=ok') (H':=H) (es':=es) (w':=w') (fun _=>False) j.fr.os j.fr.tape j.fr.output j.fr.size (fun b L _=>j.fr.block b L BM) (fun _ h=>h.elim) j.wE (fun b L=>by
  rcases j.wF b L with h|h|h
  ·exact .inl h
  ·exact .inr ⟨h,j.jG b L⟩
  simp at h) (.refl _) J.hlen (fun k e h u hh=>.inl ⟨u,hh,fun _ _ _ h=>h⟩)
 refine⟨v,ok',H,rfl,h2,.refl _,h1,?_⟩;have :=adI (srcs:=[]) (H:=H) (Hc:=[]) (H':=H') rfl (fun i k h=>H8) (fun k v M=>by simp at M) hR;rw[J.hlen,z,U]at this;simpa using this
def aKx {f:FuncId} {x:Operand} {ops:Array Operand} {ats:Array TypeId} (j cs:List D) {m:Ac} (hr:Ak P f ((j++cs).map .d) [] m []) (hf:DV P f=true) (hl:ops.toList.length=j.length) (z:m.up [] es.length=m)
 (ho:o.op=.call { callee:=.value x,args:=ops,argTypes:=ats }):Bd P o ((x,.d (.fn (.func f) [] cs))::Ei ops.toList (j.map .d)) es m es:=by
 intro C ok H a w Q hm hn;have L:=hn (x,.d (.fn (.func f) [] cs)) BM;simp only at L;have s:=kZ (xs:=ops.toList) (vs:=j.map .d) qQ (fun n M=>hn n (G9 _ M));generalize hv:a.eval x=v at L;cases L with
 |d _ _ h=>
  cases h with
  |fn _ _ _ vs us O U h1 h2=>
   have Y:vs= #[]:=Xt ni;subst Y;unfold Oper.wp
   have he:(execOp a.eval o).run P w=.ok (.enter f ((ops.map a.eval)++us)) w:=by
    have :=Qq hf (ops.map a.eval++us) w;simp[execOp,ho,resolve,hv,Deferred.ofValue,invoke,this]
   rw[he,Xd];have I:(ops.map a.eval).size=j.length:=qQ
   refine(aJX hm hr _ (by simp[I,U]) (fun i hi=>?_) z).mono ?_
   ·by_cases q:i<j.length
    ·have J:=s i NS;have e1:(j.map Ac.d).getD i .junk=.d (j.getD i DL):=aAE
     have u:i<ops.size:=aJU
     have e2:(ops.toList.map a.eval).getD i undef=(ops.map a.eval++us).getD i undef:=by
      simp[List.getD,Gh,XD,u]
     have Z:(j++cs).getD i DL=j.getD i DL:=by simp[List.getD,G6 q]
     rw[e1,e2]at J;rw[Z];cases J with |d _ _ h=>exact h
    have u:i-j.length<cs.length:=aE2
    have Z:(j++cs).getD i DL=cs.getD (i-j.length) DL:=by simp[List.getD,Io (SN q)]
    have e4:(ops.map a.eval++us).getD i undef=us.getD (i-j.length) undef:=by
     simp only[Gh];rw[aFG AA,I]
    rw[Z,e4];exact h2 _ u
   rintro e w' ⟨v,ok',H',rfl,J,h4,h5,h6⟩;exact⟨v,ok',H',rfl,J,h4,h5,h6⟩
def Qp (P:Program) (j:α→D) (m:β→D) (d:D) (g:α→Option β):Prop:=∃f cs,d=.fn (.func f) [] cs∧DV P f=true∧∀a b,g a=some b→Ak P f (([j a]++cs).map .d) [] (.d (m b)) []
def XH (P:Program) (j:α→D) (m:β→D) (q:γ→D) (d:D) (g:α→β→Option γ):Prop:=∃f cs,d=.fn (.func f) [] cs∧DV P f=true∧∀a b c,g a b=some c→Ak P f (([j a,m b]++cs).map .d) [] (.d (q c)) []
def ny {x y:Operand} {ats:Array TypeId} {j:α→D} {m:β→D} {d:D} {g:α→Option β} {a:α} {b:β} (hd:Qp P j m d g) (h:g a=some b) (q:o.op=.call { callee:=.value x,args:= #[y],argTypes:=ats }):
 Bd P o [(x,.d d),(y,.d (j a))] es (.d (m b)) es:=by
 obtain⟨f,cs,rfl,s,u⟩:=hd;exact aKx [j a] cs (u a b h) s rfl rfl q
def Yp {x y z:Operand} {ats:Array TypeId} {j:α→D} {m:β→D} {q:γ→D} {d:D} {g:α→β→Option γ} {a:α} {b:β} {c:γ} (hd:XH P j m q d g) (h:g a b=some c) (s:o.op=.call { callee:=.value x,args:= #[y,z],argTypes:=ats }):
 Bd P o [(x,.d d),(y,.d (j a)),(z,.d (m b))] es (.d (q c)) es:=by
 obtain⟨f,cs,rfl,u,I⟩:=hd;exact aKx [j a,m b] cs (I a b c h) u rfl rfl s
end
end Go.Proofs.YtolgdkhlelfpoaaGreat
end
