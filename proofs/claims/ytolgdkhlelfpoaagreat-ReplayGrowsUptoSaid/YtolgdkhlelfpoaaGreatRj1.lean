/- Part 1 of what the laws' proofs lean on: states of the walk, typed functions of the program and their laws (short forms written by wip/shrink.py; no condition). -/
import Derived.Test.YtolgdkhlelfpoaaGreatRows
import Derived.WalkKit
import Derived.WalkSpells
import Derived.WalkLawsBesides
import Derived.Lib.Hide
import Derived.Laws.AppendOwnNone
import Derived.Laws.CopyOwn
import Derived.Lib.AppendStr
import Derived.Laws.IdiomStrings
import Derived.Laws.BitsAllLaws
import Derived.OrdersIn
import Derived.ControlIn
import Derived.TacticsIn
import Derived.ArgAppend
import Derived.RangeFuncLeaves
import Derived.RangeFuncRecord
import Derived.Laws.StructEq
import Derived.Laws.BytesString
import Derived.Lib.OwnBridge
import Derived.Sort.OwnSortedInts
import Derived.Lib.SliceRun
import Derived.ProofKit
import Derived.Deep.Slices
import Derived.Lib.SlicesCompact
import Derived.Test.YtolgdkhlelfpoaaGreatProg
import Derived.Shelf.Small.Bits
import Derived.Shelf.Small.Strs
import Derived.Shelf.Small.Wraps
import Derived.Shelf.Strconv.Itoa0
import Derived.Shelf.Strings.Search1
import Derived.Shelf.Strings.Search2
import Derived.Shelf.Strings.Cut
import Derived.Shelf.LaysM
import Derived.Shelf.Strings.Shaped
import Derived.Shelf.Sort.Plain
import Derived.Shelf.Slices.Turned
import Derived.Ground.Names2Prog
import Derived.Shelf.Slices.Clone
import Derived.Shelf.Slices.CompactI
import Derived.Shelf.Slices.SearchI
import Derived.Shelf.Slices.Cells
import Derived.Shelf.Slices.In.SortNone
import Derived.Shelf.Slices.Empties
import Derived.Ground.SlgnProg
import Derived.Shelf.SlicesE.Clone
import Derived.RangeFuncIn
import Derived.Scope
import Derived.Tactics
import Derived.Tactics2
import Derived.Defers
import Derived.Recover
import Derived.Laws.Pointers
import Derived.Shelf.SlLaysF0
import Derived.Shelf.SlSortCmp.NoneTotal
import Derived.Laws.IdiomRangeMap
import Derived.Laws.Small
import Derived.Laws.IdiomCopy
import Derived.Lib.Overlaps
import Derived.Lib.AppendZerosOnto
import Derived.Shelf.Spec.SlicesInsertGrow
import Derived.Laws.Bits64
import Derived.Lib.Bytealg
import Derived.JoinedCond
set_option linter.defProp false
set_option linter.unnecessarySimpa false
set_option linter.unusedVariables false
set_option linter.unusedSimpArgs false
namespace Go.Proofs.YtolgdkhlelfpoaaGreat
open Go.RowKit
def Af:=@Option.bind_some
def BO:=@cond_false
def Dx:=@List.length_append
def CP:=@Bool.and_eq_true
def CO:=@Option.some.inj
def Dl:=@List.getElem?_eq_getElem
def BR:=@congrArg
def Ch:=@List.length_map
def Bh:=@cond_true
def FC:=@List.getElem?_eq_some_iff
def Ee:=@Nat.le_of_ble_eq_true
def Dk:=@List.all_eq_true
def FN:=@Array.getElem?_eq_some_iff
def GY:=@List.eq_nil_of_length_eq_zero
def Fr:=@List.getElem?_append_left
def GU:=@Array.getD_eq_getD_getElem?
def PE:=@List.length_singleton
def F7:=@List.mem_map
def Dn:=@Nat.le_trans
def FB:=@List.mem_cons_self
def Ep:=@Go.Result.andThen_ok
def Eh:=@List.getElem_mem
def G9:=@List.mem_cons_of_mem
def Dw:=@Nat.le_refl
def JB:=@Array.getElem?_setIfInBounds_ne
def ES:=@Bool.not_true
def FK:=@List.length_cons
def MH:=@Nat.add_assoc
def EF:=@Nat.zero_le
def Fl:=@decide_eq_true_eq
def Ew:=@List.mem_cons
def Ir:=@List.getElem?_append_right
def Cb:=@if_pos
def Ei:=@Go.Sem.run_bind
def P7:=@Nat.add_comm
def Fa:=@List.foldl_cons
def GR:=@List.not_mem_nil
def D9:=@if_neg
def Hf:=@List.getElem_of_mem
def G7:=@List.mem_filter
def Gm:=@List.any_eq_true
def Gu:=@List.append_assoc
def Gf:=@List.mem_append
def Ho:=@List.mem_singleton
def Gx:=@List.length_take
def FT:=@Go.Sem.run_pure
def KQ:=@List.pairwise_iff_getElem
def G8:=@Bool.true_and
def Iu:=@Nat.mul_le_mul_right
def Gv:=@decide_eq_false
def OX:=@Array.all_eq_true_iff_forall_mem
def IY:=@List.getElem?_map
def LZ:=@List.getElem?_take_of_lt
def HY:=@Option.map_some
def IJ:=@Go.Proofs.Tryz.underlying3
def Jp:=@List.getElem?_eq_none
def JI:=@of_decide_eq_false
def He:=@decide_eq_true
def I9:=@List.map_append
def NI:=@List.drop_eq_getElem_cons
def J4:=@List.nil_append
def Io:=@Go.RowKit.Below.heap_alloc
def RD:=@List.take_succ_eq_append_getElem
def Jq:=@Option.some.injEq
def Jb:=@Bool.not_eq_true
def Jc:=@List.length_drop
def Nh:=@List.length_nil
def NH:=@Array.getElem?_modify
def Ns:=@List.take_of_length_le
def KW:=@List.flatMap_cons
def Jy:=@List.take_length
def Nk:=@List.length_filter_le
def Ie:=@Nat.zero_add
abbrev BI:=IntKind.i64.wrap
def kn (n:Int):BI n=(n+9223372036854775808)%18446744073709551616-9223372036854775808:=Go.IntKind.wrap_i64 n
def Jr:=@List.nodup_cons
def Ri:=@List.mem_of_find?_eq_some
def JD:=@List.map_cons
def Lc:=@Option.getD_some
def Na:=@List.filterMap_cons
def Jm:=@Bool.not_false
def QM:=@Go.MapKept.run_getObj_map
def NQ:=@Go.Proofs.Tryz.underlying55
def Nz:=@List.getElem?_drop
def Rz:=@Option.isSome_iff_exists
def KU:=@Bool.false_or
def PD:=@List.pairwise_cons
def KN:=@Bool.or_false
def QN:=@Array.length_toList
def UN:=@Classical.byContradiction
def O6:=@Go.Proofs.Tryz.underlying9
def TQ:=@Option.map_eq_some_iff
def XL:=@Array.eq_empty_of_size_eq_zero
def WG:=@Array.getElem?_append_left
def MV:=@Bool.and_true
def PK:=@of_decide_eq_true
def Vb:=@List.getElem?_set_ne
def Qi:=@List.mem_filterMap
def VB:=@Go.World.putObj_heap_same
def QG:=@List.drop_length
def VF:=@List.take_append_drop
def Qp:=@Bool.not_eq_true'
def X9:=@Go.World.putObj_heap_other
def X5:=@decide_eq_false_iff_not
def P5:=@Go.Oper.wpIn_mono
def Tm:=@List.mem_of_getElem?
def SE:=@Bool.false_eq_true
def SS:=@Option.toList_some
def NS:=@Bool.or_true
def RI:=@Nat.le_of_not_lt
def Qj:=@List.mem_flatMap
def Um:=@List.filter_sublist
def Ru:=@List.findIdx_cons
def Si:=@Go.Proofs.Tryz.underlying49
def OM:=@Nat.add_zero
def Qa:=@Bool.eq_iff_iff
def UM:=@Nat.lt_of_lt_of_le
def Jl:=@if_false
def TD:=@List.getElem_map
def Ro:=@List.foldlM_cons
def OZ:=@Nat.le_of_eq
def oW:=@List.takeWhile_append_dropWhile
def Xp:=@List.findIdx_lt_length
def UL:=@List.take_add_one
def UK:=@Go.Proofs.Tryz.underlying51
def S9:=@List.append_nil
def dU:=@Array.getElem?_eq_getElem
def Ws:=@List.filter_append
def U6:=@Go.Proofs.Tryz.underlying4
def Qx:=@Prod.mk.injEq
def Nb:=@Go.wpS_region
def eu:=@Option.bind_eq_some_iff
def Vw:=@Int.toNat_natCast
def Us:=@List.length_set
def U3:=@List.find?_cons
def KD:=@if_true
def Y5:=@beq_eq_false_iff_ne
def lq:=@List.getD_eq_getElem?_getD
def Wq:=@Nat.lt_succ_self
def Vs:=@List.filter_cons
def Vl:=@beq_self_eq_true
def XW:=@Nat.eq_zero_or_pos
def dG:=@List.filterMap_append
def fH:=@Array.toArray_toList
def PX:=@beq_iff_eq
def Sl:=@Nat.succ_mul
def TP:=@Nat.mul_comm
def Zz:=@List.mem_of_mem_take
def Zr:=@List.pairwise_append
def ZJ:=@Go.World.alloc_heap_new
def WL:=@List.sum_append
def YQ:=@List.foldl_append
def Vo:=@Go.heap_alloc_new
def Z9:=@List.ext_getElem
def Y3:=@List.cons_append
def kW:=@Array.getElem?_toList
def YR:=@Go.Oper.upon_enter
def ZH:=@Go.Proofs.Tryz.zeroValue3
def Y7:=@Go.run_equalIn_int
def WY:=@List.map_take
def aBl:=@List.nodup_iff_pairwise_ne
def fU:=@Go.Value.slice.injEq
def Zk:=@List.size_toArray
def dP:=@List.ext_getElem?
def qE:=@Nat.div_lt_of_lt_mul
def kC:=@Bool.or_eq_false_iff
def aI3:=@List.set_eq_take_append_cons_drop
def Xj:=@List.nodup_nil
def Nu:=@Go.wpS_seq
def YM:=@Go.wp_region_list
def dn:=@Go.IntKind.wrap_u64
def ig:=@List.map_congr_left
def pI:=@List.filter_eq_self
def zn:=@List.getElem?_cons_succ
def Y6:=@List.map_drop
def YA:=@List.any_cons
def ji:=@List.getElem?_take
def Rx:=@Go.wpIn_mono
def ZM:=@Bool.or_eq_true
def ak:=@Go.Proofs.Tryz.zeroValue4
def kN:=@Array.ext_getElem?
def bT:=@beq_false_of_ne
def dL:=@Go.IntKind.wrap_u8
def XG:=@Nat.add_mul
def aBQ:=@List.drop_of_length_le
def rG:=@List.findIdx_le_length
def qB:=@Function.comp_def
def nX:=@Nat.lt_trichotomy
def jX:=@List.nodup_append
def iw:=@Go.Proofs.Tryz.underlying22
def kY:=@List.find?_append
def kS:=@List.filter_congr
def lI:=@bne_self_eq_false
def Ze:=@List.mem_range
def Xh:=@Go.Proofs.Tryz.sizeOf3
def aE5:=@Array.getElem?_setIfInBounds
def Yl:=@Nat.lt_or_ge
def aGr:=@Array.getElem?_append_right
def iK:=@Go.Proofs.Tryz.underlying5
def aBo:=@List.mem_of_mem_drop
def aC8:=@List.mem_append_left
def aDg:=@Array.toList_setIfInBounds
def ZN:=@Go.Oper.semAt_eq
def YJ:=@Nat.mul_one
def XT:=@Go.Proofs.Tryz.isAgg3
def zf:=@List.toList_toArray
def aC7:=@List.length_pos_iff
def aFT:=@Array.mapM_eq_mapM_toList
def iH:=@Nat.min_eq_left
def mO:=@Go.Proofs.Tryz.zeroValue5
def gq:=@Go.Proofs.Tryz.zeroValue9
def qo:=@List.take_left'
def ZI:=@List.map_map
def bZ:=@Go.Proofs.Tryz.sizeOf4
def aBR:=@Go.Proofs.Tryz.underlying226
def fD:=@Go.Addr.add_lit
def jY:=@List.drop_zero
def aCJ:=@Nat.exists_eq_add_of_le
def aI7:=@List.getElem?_replicate
def aE9:=@List.getElem?_cons_zero
def aI6:=@List.pairwise_singleton
def tZ:=@Go.World.ownsRow_nil
def aBw:=@Go.Proofs.Tryz.underlying89
def yA:=@Go.Proofs.Tryz.zeroValue226
def aBq:=@Go.Proofs.Tryz.underlying24
def aAq:=@List.any_eq_false
def aag:=@List.findIdx?_eq_some_iff_getElem
def aIC:=@List.filter_eq_nil_iff
def aHp:=@List.dropWhile_sublist
def dz:=@Go.Proofs.Tryz.isAgg4
def aEZ:=@ByteArray.size_extract
def aFj:=@List.length_pos_of_mem
def qw:=@List.all_cons
def yx:=@Go.Proofs.Tryz.zeroValue89
def Xd:=@Array.ext
def aI9:=@Nat.eq_of_beq_eq_true
def aFr:=@Go.Lib.wpList_append_run
def aHG:=@List.mem_append_right
def aGE:=@Bool.and_eq_false_iff
def Mem:=@Go.wpIn_region_any
def Fin:=@Nat.div_add_mod
def ah:=@Nat.mod_lt
def aH0:=@Array.ext'
def mD:=@getElem!_pos
def kF:=@Go.Proofs.Tryz.sizeOf5
def jJ:=@Go.Proofs.Tryz.sizeOf9
def aKb:=@List.Nodup.length_le_of_subset
def wW:=@List.range_succ
def zJ:=@List.find?_some
def aFH:=@Go.callsIn_of_wp_marks
def aFF:=@Go.Lib.strCells_length
def aDe:=@Array.getElem?_push
def aDL:=@List.reverse_append
def rH:=@Go.run_underlying
def aAy:=@Go.Proofs.Tryz.sizeOf226
def oq:=@Go.setRow_heap
def mW:=@Go.Sem.run_map
def jr:=@Go.Proofs.Tryz.isAgg5
def og:=@Go.Proofs.Tryz.isAgg9
def aIr:=@Nat.min_def
def aCP:=@Go.run_loadCells_list
def aCQ:=@Int.natCast_nonneg
def aHf:=@Go.MapKept.heap_alloc
def aCe:=@List.find?_eq_none
def aFO:=@Nat.eq_or_lt_of_le
def aLM:=@List.dropWhile_cons_of_pos
def adx:=@List.dropWhile_cons_of_neg
def vg:=@Go.callsD_of_wpS
def aLI:=@Int.fdiv_eq_ediv_of_nonneg
def acv:=@Int.tmod_eq_emod_of_nonneg
def aCr:=@Bool.not_eq_false
def aDn:=@Go.run_storeCells_at
def aHy:=@List.getElem_take
def adn:=@List.mem_take_iff_getElem
def aaW:=@List.getElem?_zip_eq_some
def aC9:=@Go.wpIn_region_list
def aGJ:=@List.take_append
def fB:=@or_false
def aGo:=@Go.World.size_alloc
def yQ:=@List.map_set
def ZP:=@Go.wpS_cond
def aDX:=@List.getElem_zip
def aDI:=@List.map_reverse
def aEe:=@List.cons.injEq
def yY:=@Nat.one_mul
def aFa:=@List.take_left
def aEL:=@List.drop_drop
def aCN:=@List.take_zero
def aCU:=@List.take_take
def aCW:=@Nat.mul_le_mul
end Go.Proofs.YtolgdkhlelfpoaaGreat
namespace Go.Proofs.YtolgdkhlelfpoaaGreat
open Go.RowKit
abbrev Aw:=Value.int .i64
end Go.Proofs.YtolgdkhlelfpoaaGreat
namespace Go.Proofs.YtolgdkhlelfpoaaGreat
open Go.RowKit
def A8 {p:Prop} (h:p:=by kernel_rfl):p:=h
def AL {p:Prop} (h:p:=by omega):p:=h
def CS {p:Prop} (h:p:=by cases h;exact .ret (EK [])):p:=h
def CM {p:Prop} (h:p:=by cases h;kernel_rfl):p:=h
def BK {p:Prop} (h:p:=by simp):p:=h
def BX {p:Prop} (h:p:=by decide):p:=h
def OB {p:Prop} (h:p:=by cases h;exact .ret (EK [(0,true)])):p:=h
def KH {p:Prop} (h:p:=by simpa using q):p:=h
def E8 {p:Prop} (h:p:=by simp;omega):p:=h
def FX {p:Prop} (h:p:=by simpa using hi):p:=h
def Rt {p:Prop} (h:p:=by have :=I (k+1) y (by simpa using q);simpa[MH,P7 1 k]using this):p:=h
def L6 {p:Prop} (h:p:=by cases h;exact .ret (EK [(2,true)])):p:=h
def VZ {p:Prop} (h:p:=by rw[←CU h];exact⟨[],[(0,true)],trivial,by kernel_rfl,by kernel_rfl,by kernel_rfl⟩):p:=h
def Ij {p:Prop} (h:p:=by simp only[PE];omega):p:=h
def WJ {p:Prop} (h:p:=by cases h;exact .ret (EK [(0,true),(1,true),(2,true),(3,true)])):p:=h
def ac2 {p:Prop} (h:p:=by rw[←CU h];exact⟨[Di G6,Ah false],[],⟨⟨0,Ag (Aq G6),true,29,by kernel_rfl,by kernel_rfl,by kernel_rfl,DZ,Ee (by kernel_rfl),(by intro j;cases j),by kernel_rfl⟩,Ti (by kernel_rfl),trivial⟩,by kernel_rfl,by kernel_rfl,by kernel_rfl⟩):p:=h
def aKp {p:Prop} (h:p:=by rw[←CU h];exact⟨[Di q,Ah true],[],⟨⟨0,Ag (Aq q),true,29,by kernel_rfl,by kernel_rfl,by kernel_rfl,DZ,Ee (by kernel_rfl),(by intro j;cases j),by kernel_rfl⟩,Ti (by kernel_rfl),trivial⟩,by kernel_rfl,by kernel_rfl,by kernel_rfl⟩):p:=h
def PS {p:Prop} (h:p:=by cases h;exact .ret (EK [(1,true)])):p:=h
def Oh {p:Prop} (h:p:=by obtain⟨a,_,rfl⟩:=F7.1 f;rfl):p:=h
def Ky {p:Prop} (h:p:=by simp[List.getD,hi]):p:=h
def JL {p:Prop} (h:p:=by rw[Dx];omega):p:=h
def Gw {p:Prop} (h:p:=by simp at h):p:=h
def Jf {p:Prop} (h:p:=by simpa using h):p:=h
def nO {p:Prop} (h:p:=by have :=z (k+1) y (by simpa using q);simpa[MH,P7 1 k]using this):p:=h
def qy {p:Prop} (h:p:=by have :=O (k+1) y (by simpa using q);simpa[MH,P7 1 k]using this):p:=h
def jU {p:Prop} (h:p:=by have :=hl (k+1) (by simpa using hk);simpa[MH,P7 1 k]using this):p:=h
def nM {p:Prop} (h:p:=by have :=J (k+1) y (by simpa using q);simpa[MH,P7 1 k]using this):p:=h
def qY {p:Prop} (h:p:=by have :=U (k+1) y (by simpa using q);simpa[MH,P7 1 k]using this):p:=h
def KX {p:Prop} (h:p:=by simpa using hl):p:=h
def KT {p:Prop} (h:p:=by decide+kernel):p:=h
def Gt {p:Prop} (h:p:=by cases h):p:=h
def Md {p:Prop} (h:p:=by simpa using u):p:=h
def QK {p:Prop} (h:p:=by intro f;cases f):p:=h
def nJ {p:Prop} (h:p:=by have :=hl (k+1);simpa[MH,P7 1 k]using this):p:=h
def WH {p:Prop} (h:p:=by first|exact u|kernel_rfl):p:=h
def YV {p:Prop} (h:p:=by obtain⟨a,_,rfl⟩:=F7.1 hx;rfl):p:=h
def TU {p:Prop} (h:p:=by intro hh;cases hh):p:=h
def acR {p:Prop} (h:p:=by rw[←CU h];exact⟨[],[(0,true),(1,true),(2,true),(3,true)],trivial,by kernel_rfl,by kernel_rfl,by kernel_rfl⟩):p:=h
def Qb {p:Prop} (h:p:=by simp at u;omega):p:=h
def Ou {p:Prop} (h:p:=by simpa using j):p:=h
def Zq {p:Prop} (h:p:=by simp[Act.eval,Array.replicate]):p:=h
def MN {p:Prop} (h:p:=by simp at hi):p:=h
def Xe {p:Prop} (h:p:=by simp only[Dx,PE];omega):p:=h
def aLS {p:Prop} (h:p:=by subst e;have h:=i;exact .a 2<|AQ h fun u m h=>.mg 12 3 (Ah u) (.bi m)<|.aW<|by cases h;kernel_rfl):p:=h
def VU {p:Prop} (h:p:=by simp only[Nh];omega):p:=h
def PY {p:Prop} (h:p:=by simpa using e):p:=h
def QF {p:Prop} (h:p:=by rw[kn];omega):p:=h
def RJ {p:Prop} (h:p:=by simpa using f):p:=h
def Ur {p:Prop} (h:p:=by rw[GV]at h;exact h):p:=h
def aBx {p:Prop} (h:p:=by cases h;exact .ret (EK [(0,false),(1,true)])):p:=h
def Qw {p:Prop} (h:p:=by simpa using z):p:=h
def NW {p:Prop} (h:p:=by rw[arq];rfl):p:=h
def aAh {p:Prop} (h:p:=by have :BA=9223372036854775808:=rfl;omega):p:=h
def yu {p:Prop} (h:p:=by have :=hinj j j' o o' t s ho' q hd';omega):p:=h
def mX {p:Prop} (h:p:=by simpa using(hl 0 (by simp)).symm):p:=h
def um {p:Prop} (h:p:=by simp[Array.getD,hil]at hf ⊢;exact hf):p:=h
def lJ {p:Prop} (h:p:=by obtain⟨a,_,rfl⟩:=F7.1 j;rfl):p:=h
def VJ {p:Prop} (h:p:=by simpa using s):p:=h
def xJ {p:Prop} (h:p:=by cases h;exact .ret (EK [(3,true)])):p:=h
def Oo {p:Prop} (h:p:=by simp[hi]):p:=h
def aI0 {p:Prop} (h:p:=by rw[alloc_eq_grow,alloc_eq_grow,grow_grow];rfl):p:=h
def Qv {p:Prop} (h:p:=by simp[flat]):p:=h
def aE7 {p:Prop} (h:p:=by by_cases h:(s.size:Int)>32<;>simp[h]<;>omega):p:=h
def aHq {p:Prop} (h:p:=by by_cases h:(s.size:Int)<1<;>simp[h]<;>omega):p:=h
def zq {p:Prop} (h:p:=by simp only[aIr];split<;>omega):p:=h
def gV {p:Prop} (h:p:=by rw[GV];exact pO f):p:=h
def jo {p:Prop} (h:p:=by simpa using(hl 0).symm):p:=h
def bQ {p:Prop} (h:p:=by rw[aI5 f z];simp):p:=h
def s0 {p:Prop} (h:p:=by simpa using z 0 x (by simp)):p:=h
def SH {p:Prop} (h:p:=by simp at f):p:=h
def aAF {p:Prop} (h:p:=by simpa using I 0 x (by simp)):p:=h
def aeO {p:Prop} (h:p:=by intro j;cases j):p:=h
def aE8 {p:Prop} (h:p:=by obtain⟨b,_,rfl⟩:=F7.1 hy;exact hc b):p:=h
def ac0 {p:Prop} (h:p:=by show CW C ok H (U ops.size).ents w;rw[hE];exact hmem):p:=h
def xH {p:Prop} (h:p:=by simp[binOp,Op.intBits,E5]):p:=h
def aDT {p:Prop} (h:p:=by rw[L rfl b (by rw[j];rfl)];exact q):p:=h
def aEd {p:Prop} (h:p:=by cases h;exact .ret (EK [(4,true)])):p:=h
def aJ8 {p:Prop} (h:p:=by rw[Ch]at hi;rw[Td _ _ _ hi];exact Rs m j q (h i hi)):p:=h
def aMJ {p:Prop} (h:p:=by subst e;have h:=i;exact D5.aW<|by cases h;kernel_rfl):p:=h
def sU {p:Prop} (h:p:=by simp[Act.eval,Act.put]):p:=h
def gX {p:Prop} (h:p:=by simpa using J):p:=h
def aFQ {p:Prop} (h:p:=by simpa using I 0 σ.ents (by simp)):p:=h
def aFx {p:Prop} (h:p:=by simpa using J 0 σ.ents (by simp)):p:=h
def iG {p:Prop} (h:p:=by rw[←j.hlen];simp):p:=h
def acB {p:Prop} (h:p:=by rw[Ch]at hi;rw[Td _ _ _ hi];exact(h i hi).rV π):p:=h
def ay {p:Prop} (h:p:=by simpa using m):p:=h
def iy {p:Prop} (h:p:=by simp[List.getD,j]):p:=h
def aJp {p:Prop} (h:p:=by rw[L]at ho';obtain rfl:=CO ho';exact(M m hm).1):p:=h
def uK {p:Prop} (h:p:=by intro m;cases m):p:=h
def pF {p:Prop} (h:p:=by rw[f]at h;exact h):p:=h
def aAN {p:Prop} (h:p:=by simp[Op.bytesLess]at h):p:=h
def oZ {p:Prop} (h:p:=by intro h;cases h):p:=h
def Vp {p:Prop} (h:p:=by simp at q):p:=h
def adI {p:Prop} (h:p:=by simpa using(by omega:i<(ops.map a.eval).size)):p:=h
def wR {p:Prop} (h:p:=by rw[World.cell?,f];rfl):p:=h
def aBa {p:Prop} (h:p:=by constructor<;>omega):p:=h
def oC {p:Prop} (h:p:=by simpa using he):p:=h
def asy {p:Prop} (h:p:=by simpa using hk):p:=h
def aEt {p:Prop} (h:p:=by rw[Dx];simp only[PE];omega):p:=h
def aAB {p:Prop} (h:p:=by unfold maxLen;omega):p:=h
def aIh {p:Prop} (h:p:=by cases h;exact .ret (EK [(0,true),(1,true)])):p:=h
def aFR {p:Prop} (h:p:=by simp[sizeOf,typeInfo,hi,hs]):p:=h
def xq {p:Prop} (h:p:=by rw[Dx];simp;omega):p:=h
def ZK {p:Prop} (h:p:=by rw[hl];rfl):p:=h
def jf {p:Prop} (h:p:=by simpa using q2):p:=h
def X4 {p:Prop} (h:p:=by rw[m,←s]):p:=h
def jS {p:Prop} (h:p:=by simpa using Z):p:=h
def aBy {p:Prop} (h:p:=by simp[underlying,hu]):p:=h
def aHw {p:Prop} (h:p:=by first|exact I|kernel_rfl):p:=h
def WU {p:Prop} (h:p:=by simp[f]):p:=h
def ad9 {p:Prop} (h:p:=by simp[Value.cells,List.getD,Array.getD,u]):p:=h
def Y9 {p:Prop} (h:p:=by simp[hl]):p:=h
def aDr {p:Prop} (h:p:=by have :=eq_of_beq h;omega):p:=h
def aID {p:Prop} (h:p:=by rw[apz];exact hdf.mono hgr):p:=h
def uQ {p:Prop} (h:p:=by simp[underlying,j]):p:=h
def rJ {p:Prop} (h:p:=by rw[←f.hlen];simp):p:=h
def vX {p:Prop} (h:p:=by simp[List.getD,q]):p:=h
def jg {p:Prop} (h:p:=by simpa using M):p:=h
def aEy {p:Prop} (h:p:=by rw[hb1];exact(FC.1 M).1):p:=h
def aeA {p:Prop} (h:p:=by unfold Nw at f;rw[Dl hl]at f;exact f):p:=h
def aGF {p:Prop} (h:p:=by simp[Array.getD,h1,hi']):p:=h
def aHk {p:Prop} (h:p:=by simp[underlying,hE.und]):p:=h
def aDp {p:Prop} (h:p:=by rw[BH.YH]at J;exact J):p:=h
def aJQ {p:Prop} (h:p:=by obtain⟨a,_,rfl⟩:=F7.1 hy;exact hc a):p:=h
def Yw {p:Prop} (h:p:=by cases h'):p:=h
def yH {p:Prop} (h:p:=by simp[Array.getD]):p:=h
def aDU {p:Prop} (h:p:=by rw[size_put];exact hsz):p:=h
def abD {p:Prop} (h:p:=by simp[stepG,stepG.exec,Frame.atR]):p:=h
def aIH {p:Prop} (h:p:=by simp[List.getD,Vb e]):p:=h
def aEE {p:Prop} (h:p:=by simp[ev,List.getD,hy]):p:=h
def xg {p:Prop} (h:p:=by simpa using hi1):p:=h
def yN {p:Prop} (h:p:=by simp[flat]at hi):p:=h
def aFV {p:Prop} (h:p:=by simp[List.getD,Fr e]):p:=h
def aCL {p:Prop} (h:p:=by simpa[DC]using q.symm):p:=h
def zl {p:Prop} (h:p:=by rw[J4];omega):p:=h
def ad6 {p:Prop} (h:p:=by rw[j];rfl):p:=h
def Zt {p:Prop} (h:p:=by simp[j]):p:=h
def SPr {p:Prop} (h:p:=by simpa using h2):p:=h
def aAE {p:Prop} (h:p:=by rw[Ch];omega):p:=h
def aHa {p:Prop} (h:p:=by simp[r,List.getD,hy]):p:=h
def aCK {p:Prop} (h:p:=by rw[hev];exact hmem):p:=h
def aDs {p:Prop} (h:p:=by rw[yw];exact hh.base):p:=h
def aDB {p:Prop} (h:p:=by simp[World.setRow]):p:=h
def aCo {p:Prop} (h:p:=by rw[hs];exact f.len):p:=h
def sD {p:Prop} (h:p:=by simpa using I):p:=h
def tq {p:Prop} (h:p:=by apply aH0;simp):p:=h
def jB {p:Prop} (h:p:=by rw[e];rfl):p:=h
def aAi {p:Prop} (h:p:=by simp[go_sem]):p:=h
def vI {p:Prop} (h:p:=by rw[GV];exact h):p:=h
def aF9 {p:Prop} (h:p:=by simp[underlying,ht]):p:=h
def aBD {p:Prop} (h:p:=by simpa using U):p:=h
def aHm {p:Prop} (h:p:=by simp[execOp,f];rfl):p:=h
def aEU {p:Prop} (h:p:=by rw[Dx]at hi;omega):p:=h
def aHs {p:Prop} (h:p:=by simp[BA];omega):p:=h
def aIA {p:Prop} (h:p:=by rw[kn];simp;omega):p:=h
def aHL {p:Prop} (h:p:=by simpa using this):p:=h
def aE4 {p:Prop} (h:p:=by rw[Ch];exact hi):p:=h
def aEh {p:Prop} (h:p:=by simpa using hee):p:=h
def wC {p:Prop} (h:p:=by simp[qR,e]):p:=h
def kT {p:Prop} (h:p:=by simp at u):p:=h
def jP {p:Prop} (h:p:=by simp at J):p:=h
def aCY {p:Prop} (h:p:=by rw[s]at f;omega):p:=h
def aHv {p:Prop} (h:p:=by intro u;cases u):p:=h
end Go.Proofs.YtolgdkhlelfpoaaGreat
namespace Go.Proofs.YtolgdkhlelfpoaaGreat
open Go.RowKit
def Bd {p:Prop} (h:p:=by exact fun h=>AX<|CS):p:=h
def Ey {p:Prop} (h:p:=by exact AO.exit<|AX<|CS):p:=h
def ND {p:Prop} (h:p:=by exact AO.skip<|AX<|CS):p:=h
def TK {p:Prop} (h:p:=by exact Jv A8<|Jv A8<|Jv A8<|Jv A8<|trivial):p:=h
def OL {p:Prop} (h:p:=by exact AO.exit<|AX<|OB):p:=h
def aAZ {p:Prop} (h:p:=by exact .nil<|Or.inl ⟨(),(CU h).symm,(⟨[],[],trivial,A8,A8,A8⟩)⟩):p:=h
def aaH {p:Prop} (h:p:=by exact .aW<|AX<|AO.ret<|by rw[←CU h];exact⟨[Di ({ aO with Content:=f })],[],⟨⟨1,Ag (Aq ({ aO with Content:=f })),true,29,A8,A8,A8,DZ,Ee A8,uK,A8⟩,trivial⟩,A8,A8,A8⟩):p:=h
def aIi {p:Prop} (h:p:=by exact fun h=>AO.ret<|⟨.inr rfl,(Qz j).slots,(.ready,none),.normal,A8,rfl,(K3 _ ⟨u,z,Ad 16 32 [(2,true),(6,true)],h⟩)⟩):p:=h
def aLq {p:Prop} (h:p:=by exact AO.ret<|⟨.inr rfl,(RZ mY f).slots,(.ready,none),.normal,A8,rfl,(K3 _ ⟨M,v8,Ad 21 80 [(0,true),(1,true)],h⟩)⟩):p:=h
def xY {p:Prop} (h:p:=by exact .nil<|j _ _ _ (Ad 16 449 [(0,true)]) h):p:=h
def Xa {p:Prop} (h:p:=by exact AX<|AX<|CS):p:=h
def aHX {p:Prop} (h:p:=by exact fun h=>AO.exit<|K4 _ ⟨Ad 18 2 [],h⟩):p:=h
def aeI {p:Prop} (h:p:=by exact AO.skip<|Or.inl ⟨(),(CU h).symm,(⟨[],[],trivial,A8,A8,A8⟩)⟩):p:=h
def SA {p:Prop} (h:p:=by exact .aY<|Ae h Bd fun h=>ND):p:=h
def xw {p:Prop} (h:p:=by exact AX<|Ae h Bd fun h=>ND):p:=h
end Go.Proofs.YtolgdkhlelfpoaaGreat
section
namespace Go.Proofs.YtolgdkhlelfpoaaGreat
open Go.RowKit
def addr_add (b o j:Nat):(⟨b,o,none⟩:Addr).add j=⟨b,o+j,none⟩:=by
 unfold Addr.add;split<;>simp_all
section
variable {P : Program} {ops : Array Oper} {rest : List Oper} {o : Oper} {a : Act} {w : World} {Q : Exit → Act → World → Prop}
def ahP (w:World) (ty:TypeId) (b off:Nat) (cs:Array Value) (q:(isAgg ty).run P w=.ok true w) (s:(sizeOf ty).run P w=.ok cs.size w)
 (u:∀j,j<cs.size→w.cell? ⟨b,off+j,none⟩=some (cs.getD j undef)):(loadVar ty ⟨b,off,none⟩).run P w=.ok (.agg cs) w:=by
 have hl:(loadCells ⟨b,off,none⟩ cs.toList.length).run P w=.ok cs.toList.toArray w:=
  aCP (P:=P) w ⟨b,off,none⟩ cs.toList (fun j v f=>by
   rw[addr_add]
   have m:j<cs.size:=by
    have :=(FC.1 f).1;simpa using this
   rw[u j m];simp only[kW]at f;simp[Array.getD,m]at f ⊢
   exact f)
 simp only[QN,fH]at hl;simp only[loadVar,Ei,q,s,Ep,KD,hl,FT]
end
inductive D where
 |lit (v:Value)
 |agg (cs:List D)
 |sl (es:List D)
 |ref (cs:List D) (off:Nat)
 |fn (f:Fn) (first cap:List D)
 |LG (t:TypeId) (x:D)
def D.cells:D→List D
 | .agg cs=>cs
 |x=>[x]
def D.leaf:D→Bool
 | .lit v=>v.oneCell'
 | .agg _=>false
 |_=>true
abbrev DR :D:=.lit undef
abbrev cellAt (w:World) (b o:Nat):Value:=(w.cell? ⟨b,o,none⟩).getD undef
inductive DT (ok:Nat→Prop) (w:World):D→Value→Prop
 |lit (v:Value):DT ok w (.lit v) v
 |agg (cs:List D) (vs:Array Value) (hl:vs.size=cs.length) (hf:∀i,i<cs.length→(cs.getD i DR).leaf=true)
  (h:∀i,i<cs.length→DT ok w (cs.getD i DR) (vs.getD i undef)):DT ok w (.agg cs) (.agg vs)
 |sl0 (ad:Option Addr) (cap:Nat):DT ok w (.sl []) (.slice ad 0 cap)
 |sl (es:List D) (b off cap size:Nat) (hcap:es.length≤cap) (hok:0<es.length→0<size→ok b) (hs:∀i,i<es.length→(es.getD i DR).cells.length=size)
  (hf:∀i,i<es.length→∀j,j<size→((es.getD i DR).cells.getD j DR).leaf=true)
  (hx:∀i,i<es.length→∀j,j<size→(w.cell? ⟨b,off+(i*size+j),none⟩).isSome=true)
  (hc:∀i,i<es.length→∀j,j<size→DT ok w ((es.getD i DR).cells.getD j DR) (cellAt w b (off+(i*size+j)))):
  DT ok w (.sl es) (.slice (some ⟨b,off,none⟩) es.length cap)
 |ref (cs:List D) (off b o:Nat) (hok:0<cs.length→ok b) (hf:∀i,i<cs.length→(cs.getD i DR).leaf=true)
  (hx:∀j,j<cs.length→(w.cell? ⟨b,o+j,none⟩).isSome=true)
  (hc:∀j,j<cs.length→DT ok w (cs.getD j DR) (cellAt w b (o+j))):DT ok w (.ref cs off) (.pointer (some ⟨b,o+off,none⟩))
 |fn (f:Fn) (first cap:List D) (vs us:Array Value) (hl:vs.size=first.length) (hm:us.size=cap.length)
  (h:∀i,i<first.length→DT ok w (first.getD i DR) (vs.getD i undef)) (h':∀i,i<cap.length→DT ok w (cap.getD i DR) (us.getD i undef)):
  DT ok w (.fn f first cap) (.func f vs us)
 |LG (t:TypeId) (x:D) (v:Value) (h:DT ok w x v):DT ok w (.LG t x) (.iface t v)
def Dz (ok:Nat→Prop) (w:World) (ok':Nat→Prop) (w':World):Prop:=∀b,ok b→ok' b∧w'.heap[b]? =w.heap[b]?
def Dz.refl (ok:Nat→Prop) (w:World):Dz ok w ok w:=fun _ h=>⟨h,rfl⟩
def Dz.trans {ok f j:Nat→Prop} {w q s:World} (h:Dz ok w f q) (k:Dz f q j s):Dz ok w j s:=
 fun b m=>⟨(k b (h b m).1).1,((k b (h b m).1).2).trans (h b m).2⟩
def Dz.cell {ok ok':Nat→Prop} {w w':World} (h:Dz ok w ok' w') {b o:Nat} (f:ok b):w'.cell? ⟨b,o,none⟩=w.cell? ⟨b,o,none⟩:=
 World.cell?_of_block (w:=w) (a:=⟨b,o,none⟩) (h b f).2
def DT.mono {ok ok':Nat→Prop} {w w':World} (u:Dz ok w ok' w') {x:D} {v:Value} (h:DT ok w x v):DT ok' w' x v:=by
 induction h with
 |lit v=>exact .lit v
 |agg cs vs hl z _ s=>exact .agg cs vs hl z s
 |sl0 ad cap=>exact .sl0 ad cap
 |sl es b off cap size I m U z J _ s=>
  have O:∀i j,i<es.length→j<size→ok b:=fun i j hi q=>m AL AL;refine .sl es b off cap size I (fun L Y=>(u b (m L Y)).1) U z (fun i hi j q=>?_) (fun i hi j q=>?_)
  ·rw[u.cell (O i j hi q)];exact J i hi j q
  unfold cellAt;rw[u.cell (O i j hi q)];exact s i hi j q
 |ref cs off b o m z J _ s=>
  refine .ref cs off b o (fun L=>(u b (m L)).1) z (fun j q=>?_) (fun j q=>?_)
  ·rw[u.cell (m AL)];exact J j q
  unfold cellAt;rw[u.cell (m AL)];exact s j q
 |fn f first cap vs us hl Z _ _ s M=>exact .fn f first cap vs us hl Z s M
 |LG t x v _ s=>exact .LG t x v s
def DT.shrink {ok ok':Nat→Prop} {w:World} (L:∀b o,ok b→(w.cell? ⟨b,o,none⟩).isSome=true→ok' b) {x:D} {v:Value} (h:DT ok w x v):DT ok' w x v:=by
 induction h with
 |lit v=>exact .lit v
 |agg cs vs hl q _ j=>exact .agg cs vs hl q j
 |sl0 ad cap=>exact .sl0 ad cap
 |sl es b off cap size s m I q u _ j=>exact .sl es b off cap size s (fun z M=>L b _ (m z M) (u 0 z 0 M)) I q u j
 |ref cs off b o m q u _ j=>exact .ref cs off b o (fun z=>L b _ (m z) (u 0 z)) q u j
 |fn f first cap vs us hl O _ _ j J=>exact .fn f first cap vs us hl O j J
 |LG t x v _ j=>exact .LG t x v j
def DT.leaf {ok:Nat→Prop} {w:World} {x:D} {v:Value} (h:DT ok w x v) (hl:x.leaf=true):v.oneCell'=true:=by
 cases h<;>first|rfl|exact hl|(simp[D.leaf]at hl)
inductive Ac where
 |d (x:D)
 |ptr (k off:Nat)
 |aS (k:Nat)
 |kE (k i off:Nat)
 |fn (f:Fn) (first cap:List Ac)
 |mp (k:Nat)
 |clip (xs:List D)
 |uo (k:Nat)
 |eF (vs:List Ac)
 |ag (vs:List Ac)
 |junk
def Ac.leaf:Ac→Bool
 | .d x=>x.leaf
 | .eF _| .ag _| .junk=>false
 |_=>true
def Ac.cells:Ac→List Ac
 | .d x=>x.cells.map .d
 | .ag xs=>xs
 |x=>[x]
inductive BH where
 |dead
 |box (cs:List Ac)
 |arr (e:TypeId) (size:Nat) (es:List D)
 |map (es:List (Value×D))
 |bg (es:List (Value×D))
 |iter (es:List (Value×D)) (vis:List Nat)
 |loop (tm:Array Value) (slots:List Ac) (rc:Array Tmp×Code×Code) (st:LoopState) (pe:Option Code)
def BH.live:BH→Bool
 | .dead=>false
 |_=>true
structure Ba where
 v:Value
 size:Nat:=0
inductive R (ok:Nat→Prop) (w:World) (H:List Ba):Ac→Value→Prop
 |d (x:D) (v:Value) (h:DT ok w x v):R ok w H (.d x) v
 |ptr (k off b s:Nat) (h:H[k]? =some ⟨.pointer (some ⟨b,0,none⟩),s⟩):R ok w H (.ptr k off) (.pointer (some ⟨b,off,none⟩))
 |aS (k:Nat) (ad:Option Addr) (n cap s:Nat) (h:H[k]? =some ⟨.slice ad n cap,s⟩):R ok w H (.aS k) (.slice ad n cap)
 |kE (k i off b n cap s:Nat) (h:H[k]? =some ⟨.slice (some ⟨b,0,none⟩) n cap,s⟩):R ok w H (.kE k i off) (.pointer (some ⟨b,i*s+off,none⟩))
 |fn (f:Fn) (first cap:List Ac) (vs us:Array Value) (hl:vs.size=first.length) (hm:us.size=cap.length) (h:∀i,i<first.length→R ok w H (first.getD i .junk) (vs.getD i undef))
  (h':∀i,i<cap.length→R ok w H (cap.getD i .junk) (us.getD i undef)):R ok w H (.fn f first cap) (.func f vs us)
 |mp (k:Nat) (v:Value) (s:Nat) (hl:v.oneCell'=true) (h:H[k]? =some ⟨v,s⟩):R ok w H (.mp k) v
 |clip (xs:List D) (ad:Option Addr) (h:DT ok w (.sl xs) (.slice ad xs.length xs.length)):R ok w H (.clip xs) (.slice ad xs.length xs.length)
 |uo (k:Nat) (ad:Option Addr) (n cap s:Nat) (h:H[k]? =some ⟨.slice ad n cap,s⟩):R ok w H (.uo k) (.slice ad n n)
 |eF (xs:List Ac) (vs:Array Value) (hl:vs.size=xs.length) (h:∀i,i<xs.length→R ok w H (xs.getD i .junk) (vs.getD i undef)):R ok w H (.eF xs) (.tuple vs)
 |ag (xs:List Ac) (vs:Array Value) (hl:vs.size=xs.length) (hf:∀i,i<xs.length→(xs.getD i .junk).leaf=true) (h:∀i,i<xs.length→R ok w H (xs.getD i .junk) (vs.getD i undef)):R ok w H (.ag xs) (.agg vs)
 |junk (v:Value):R ok w H .junk v
def Names (H H':List Ba):Prop:=∀(k:Nat) (v:Ba),H[k]? =some v→H'[k]? =some v
def Names.refl (H:List Ba):Names H H:=fun _ _ h=>h
def Names.trans {H H1 H2:List Ba} (h:Names H H1) (k:Names H1 H2):Names H H2:=fun i v f=>k i v (h i v f)
def Names.push (H H':List Ba):Names H (H++H'):=fun k v h=>by
 rw[Fr (FC.1 h).1];exact h
def R.mono {ok ok':Nat→Prop} {w w':World} {H H':List Ba} (u:Dz ok w ok' w') (j:Names H H') {x:Ac} {v:Value} (h:R ok w H x v):R ok' w' H' x v:=by
 induction h with
 |d x v h=>exact .d x v (h.mono u)
 |ptr k off b s h=>exact .ptr k off b s (j _ _ h)
 |aS k ad n cap s h=>exact .aS k ad n cap s (j _ _ h)
 |kE k i off b n cap s h=>exact .kE k i off b n cap s (j _ _ h)
 |fn f first cap vs us hl z _ _ m q=>exact .fn f first cap vs us hl z m q
 |mp k v s hl h=>exact .mp k v s hl (j _ _ h)
 |clip xs ad h=>exact .clip xs ad (h.mono u)
 |uo k ad n cap s h=>exact .uo k ad n cap s (j _ _ h)
 |eF xs vs hl _ m=>exact .eF xs vs hl m
 |ag xs vs hl I _ m=>exact .ag xs vs hl I m
 |junk v=>exact .junk v
def R.shrink {ok ok':Nat→Prop} {w:World} (q:∀b o,ok b→(w.cell? ⟨b,o,none⟩).isSome=true→ok' b) {H:List Ba} {x:Ac} {v:Value} (h:R ok w H x v):R ok' w H x v:=by
 induction h with
 |d x v h=>exact .d x v (h.shrink q)
 |ptr k off b s h=>exact .ptr k off b s h
 |aS k ad n cap s h=>exact .aS k ad n cap s h
 |kE k i off b n cap s h=>exact .kE k i off b n cap s h
 |fn f first cap vs us hl u _ _ j m=>exact .fn f first cap vs us hl u j m
 |mp k v s hl h=>exact .mp k v s hl h
 |clip xs ad h=>exact .clip xs ad (h.shrink q)
 |uo k ad n cap s h=>exact .uo k ad n cap s h
 |eF xs vs hl _ j=>exact .eF xs vs hl j
 |ag xs vs hl z _ j=>exact .ag xs vs hl z j
 |junk v=>exact .junk v
def R.leaf {ok:Nat→Prop} {w:World} {H:List Ba} {x:Ac} {v:Value} (h:R ok w H x v) (hl:x.leaf=true):v.oneCell'=true:=by
 cases h with
 |d x v h=>exact h.leaf hl
 |eF=>simp[Ac.leaf]at hl
 |ag=>simp[Ac.leaf]at hl
 |junk=>simp[Ac.leaf]at hl
 |mp k v s hl h=>exact hl
 |_=>rfl
def FH (ok:Nat→Prop) (w:World) (H:List Ba) (xs:List Ac) (vs:List Value):Prop:=
 vs.length=xs.length∧∀i,i<xs.length→(xs.getD i .junk).leaf=true∧R ok w H (xs.getD i .junk) (vs.getD i undef)
def FH.mono {ok ok':Nat→Prop} {w w':World} {H H':List Ba} (f:Dz ok w ok' w') (j:Names H H') {xs:List Ac} {vs:List Value} (h:FH ok w H xs vs):FH ok' w' H' xs vs:=
 ⟨h.1,fun i hi=>⟨(h.2 i hi).1,(h.2 i hi).2.mono f j⟩⟩
def FH.shrink {ok ok':Nat→Prop} {w:World} (f:∀b o,ok b→(w.cell? ⟨b,o,none⟩).isSome=true→ok' b) {H:List Ba} {xs:List Ac} {vs:List Value} (h:FH ok w H xs vs):FH ok' w H xs vs:=
 ⟨h.1,fun i hi=>⟨(h.2 i hi).1,(h.2 i hi).2.shrink f⟩⟩
def flat (es:List D):List Ac:=es.flatMap fun x=>x.cells.map .d
def lG (w:World) (e:TypeId) (size:Nat) (v:Value) (n:Nat) (xs:List Value):Prop:=
 xs.length=n*size∧
 ((v=.slice none 0 0∧n=0)∨
  ∃g cap f,v=.slice (some ⟨g,0,none⟩) n cap∧0≤g∧w.heap[g]? =some (.cells f e (0,0))∧n≤cap∧cap≤maxLen∧cap*size≤f.size∧f.toList.take (n*size)=xs)
def lG.of {w:World} {base:Nat} {e:TypeId} {size:Nat} {v:Value} {n:Nat} {xs:List Value} (h:w.ownsRow base e size v n xs):lG w e size v n xs:=by
 refine⟨h.1,?_⟩;rcases h.2 with f|⟨g,cap,j,f,I,m,q,s,u,z⟩
 ·exact .inl f
 exact .inr ⟨g,cap,j,f,EF _,m,q,s,OZ u.symm,z⟩
def lG.cells {w:World} {e:TypeId} {size:Nat} {v:Value} {n:Nat} {xs:List Value} (h:lG w e size v n xs) {g:Nat} (s:v.ownBlock=some g):∀j u,xs[j]? =some u→w.cell? ((⟨g,0,none⟩:Addr).add j)=some u:=by
 intro j u q;rcases h.2 with⟨rfl,_⟩|⟨z,cap,I,rfl,_,J,_,_,_,f⟩
 ·simp[Value.ownBlock]at s
 simp[Value.ownBlock]at s;subst s;have m:(⟨z,0,none⟩:Addr).add j=⟨z,j,none⟩:=by unfold Addr.add;split<;>simp_all
 rw[m,cell_of_row w z j I e (0,0) J];rw[←f,ji]at q;split at q
 ·simpa using q
 cases q
structure JF (ok:Nat→Prop) (w:World) (es:List (Value×D)) (ms:Array MapEntry) (clock:Nat):Prop where
 len:ms.size=es.length
 ent:∀(i:Nat) (e:Value×D) (m:MapEntry),es[i]? =some e→ms[i]? =some m→m.key=e.1∧DT ok w e.2 m.val∧m.born<clock
 inc:∀(i j:Nat) (m n:MapEntry),i<j→ms[i]? =some m→ms[j]? =some n→m.born<n.born
def QA (ms:Array MapEntry) (clock:Nat):Prop:=clock=ms.size∧∀(i:Nat) (e:MapEntry),ms[i]? =some e→e.born=i
def EW (ok:Nat→Prop) (w:World) (H:List Ba) (h:Ba):BH→Prop
 | .dead=>True
 | .box cs=>∃b vs T,h.v=.pointer (some ⟨b,0,none⟩)∧w.heap[b]? =some (.cells vs T (0,0))∧FH ok w H cs vs.toList
 | .arr e size es=>h.size=size∧(∀x∈es,x.cells.length=size)∧∃xs,lG w e size h.v es.length xs∧FH ok w H (flat es) xs
 | .map es=>∃b ms clock,h.v=.map (some b)∧w.heap[b]? =some (.map ms clock)∧JF ok w es ms clock
 | .bg es=>∃b ms clock,h.v=.map (some b)∧w.heap[b]? =some (.map ms clock)∧JF ok w es ms clock∧QA ms clock
 | .iter es vis=>∃bi f ms clock seen,h.v=.pointer (some ⟨bi,0,none⟩)∧w.heap[bi]? =some (.mapIter (some f) clock seen clock)∧ok f∧w.heap[f]? =some (.map ms clock)∧JF ok w es ms clock∧
  seen.size=vis.length∧∀(j i:Nat),vis[j]? =some i→∃e,ms[i]? =some e∧seen[j]? =some e.born
 | .loop tm slots rc st m=>∃l fn D,h.v=.func (.yield l) #[] #[]∧w.heap[l]? =some (.loop { state:=st,pending:=m,fn,tmps:=tm,params:=rc.1,assign:=rc.2.1,body:=rc.2.2,defers:=D })∧tm.size=slots.length∧∀t,t<slots.length→R ok w H (slots.getD t .junk) (tm.getD t undef)
def DC :Value→Option Nat
 | .pointer (some a)=>some a.block
 | .slice (some a) _ _=>some a.block
 | .map (some b)=>some b
 | .func (.yield l) _ _=>some l
 |_=>none
structure lW (w0:World) (X:List Nat) (w:World):Prop where
 os:w.os=w0.os
 tape:w.tape=w0.tape
 output:w.output=w0.output
 size:w0.heap.size≤w.heap.size
 block:∀k,k<w0.heap.size→k∉X→w.heap[k]? =w0.heap[k]?
def lW.refl (w:World) (X:List Nat):lW w X w:=⟨rfl,rfl,rfl,Dw _,fun _ _ _=>rfl⟩
def lW.below {w0 w:World} (h:lW w0 [] w):Below w0.heap.size w0 w:=⟨h.os,h.tape,h.output,h.size,fun k f=>h.block k f BK⟩
structure Dv where
 w0:World
 ok0:Nat→Prop
 X:List Nat
 H0:List Ba
structure CW (C:Dv) (ok:Nat→Prop) (H:List Ba) (es:List BH) (w:World):Prop where
 fr:lW C.w0 C.X w
 vY:∀b,C.ok0 b→ok b
 vZ:∀b,ok b→C.ok0 b∨C.w0.heap.size≤b∨b∈C.X
 jF:∀b,ok b→b<w.heap.size
 names:Names C.H0 H
 hlen:H.length=es.length
 ent:∀(k:Nat) (e:BH) (h:Ba),es[k]? =some e→H[k]? =some h→EW ok w H h e
 blk:∀(k:Nat) (e:BH) (h:Ba) (b:Nat),es[k]? =some e→e.live=true→H[k]? =some h→DC h.v=some b→¬ok b∧b<w.heap.size∧(C.w0.heap.size≤b∨b∈C.X)
 Cm:∀(k k':Nat) (e e':BH) (h h':Ba) (b:Nat),es[k]? =some e→es[k']? =some e'→e.live=true→e'.live=true→H[k]? =some h→H[k']? =some h'→DC h.v=some b→DC h'.v=some b→k=k'
def EW.mono {ok ok':Nat→Prop} {w w':World} {H H':List Ba} {h:Ba} {e:BH} (I:Dz ok w ok' w') (U:Names H H') (L:e.live=true→∀b,DC h.v=some b→w'.heap[b]? =w.heap[b]?) (M:EW ok w H h e):EW ok' w' H' h e:=by
 cases e with
 |dead=>trivial
 |box cs=>
  obtain⟨b,vs,T,j,q,f⟩:=M;exact⟨b,vs,T,j,aDT,f.mono I U⟩
 |arr e s es=>
  obtain⟨j,q,xs,⟨f,z⟩,J⟩:=M;refine⟨j,q,xs,⟨f,?_⟩,J.mono I U⟩;rcases z with z|⟨g,cap,Y,O,Z,h8,h9⟩
  ·exact .inl z
  exact .inr ⟨g,cap,Y,O,Z,by rw[L rfl g (by rw[O];rfl)];exact h8,h9⟩
 |map es=>
  obtain⟨b,ms,clock,j,q,f⟩:=M;exact⟨b,ms,clock,j,aDT,f.len,fun i e m hi u=>⟨(f.ent i e m hi u).1,(f.ent i e m hi u).2.1.mono I,(f.ent i e m hi u).2.2⟩,f.inc⟩
 |bg es=>
  obtain⟨b,ms,clock,j,q,f,z⟩:=M;exact⟨b,ms,clock,j,aDT,⟨f.len,fun i e m hi u=>⟨(f.ent i e m hi u).1,(f.ent i e m hi u).2.1.mono I,(f.ent i e m hi u).2.2⟩,f.inc⟩,z⟩
 |iter es vis=>
  obtain⟨bi,bm,ms,clock,seen,j,q,f,z,J,O,Z⟩:=M;exact⟨bi,bm,ms,clock,seen,j,by rw[L rfl bi ad6];exact q,(I bm f).1,by rw[(I bm f).2];exact z,⟨J.len,fun i e m hi u=>⟨(J.ent i e m hi u).1,(J.ent i e m hi u).2.1.mono I,(J.ent i e m hi u).2.2⟩,J.inc⟩,O,Z⟩
 |loop tm slots rc st pe=>
  obtain⟨l,fn,D,j,q,f,z⟩:=M;exact⟨l,fn,D,j,by rw[L rfl l ad6];exact q,f,fun t ht=>(z t ht).mono I U⟩
def EW.shrink {ok ok':Nat→Prop} {w:World} (I:∀b o,ok b→(w.cell? ⟨b,o,none⟩).isSome=true→ok' b) (M:∀(b:Nat) (ms:Array MapEntry) (c:Nat),ok b→w.heap[b]? =some (.map ms c)→ok' b) {H:List Ba} {h:Ba} {e:BH} (J:EW ok w H h e):EW ok' w H h e:=by
 cases e with
 |dead=>trivial
 |box cs=>
  obtain⟨b,vs,T,j,q,f⟩:=J;exact⟨b,vs,T,j,q,f.shrink I⟩
 |arr e s es=>
  obtain⟨j,q,xs,f,z⟩:=J;exact⟨j,q,xs,f,z.shrink I⟩
 |map es=>
  obtain⟨b,ms,clock,j,q,f⟩:=J;exact⟨b,ms,clock,j,q,f.len,fun i e m hi u=>⟨(f.ent i e m hi u).1,(f.ent i e m hi u).2.1.shrink I,(f.ent i e m hi u).2.2⟩,f.inc⟩
 |bg es=>
  obtain⟨b,ms,clock,j,q,f,L⟩:=J;exact⟨b,ms,clock,j,q,⟨f.len,fun i e m hi u=>⟨(f.ent i e m hi u).1,(f.ent i e m hi u).2.1.shrink I,(f.ent i e m hi u).2.2⟩,f.inc⟩,L⟩
 |iter es vis=>
  obtain⟨bi,O,ms,clock,seen,j,q,f,L,z,U,Y⟩:=J;exact⟨bi,O,ms,clock,seen,j,q,M O ms clock f L,L,⟨z.len,fun i e m hi u=>⟨(z.ent i e m hi u).1,(z.ent i e m hi u).2.1.shrink I,(z.ent i e m hi u).2.2⟩,z.inc⟩,U,Y⟩
 |loop tm slots rc st pe=>
  obtain⟨l,fn,D,j,q,f,L⟩:=J;exact⟨l,fn,D,j,q,f,fun t Z=>(L t Z).shrink I⟩
def EW.drew {ok:Nat→Prop} {w:World} {H:List Ba} {h:Ba} {e:BH} {n:Nat} (f:EW ok w H h e):EW ok { w with drawn:=n } H h e:=
 EW.mono (w:=w) (ok:=ok) (fun _ j=>⟨j,rfl⟩) (.refl _) (fun _ _ _=>rfl) f
def Bc (P:Program) (o:Oper) (ns:List (Operand×Ac)) (es:List BH) (x:Ac) (es':List BH):Prop:=
 ∀(C:Dv) (ok:Nat→Prop) (H:List Ba) (a:Act) (w:World) (Q:Exit→Act→World→Prop),
  CW C ok H es w→(∀n∈ns,R ok w H n.2 (a.eval n.1))→
  o.wp P a w (fun a' w'=>∃v ok' H',a'=a.put o.dst v∧Dz ok w ok' w'∧Names H H'∧CW C ok' H' es' w'∧R ok' w' H' x v) Q
def Bc.pure {P:Program} {o:Oper} {ns:List (Operand×Ac)} {es:List BH} {x:Ac}
 (h:∀(ok:Nat→Prop) (H:List Ba) (a:Act) (w:World),(∀(k:Nat) (e:BH) (h:Ba),es[k]? =some e→H[k]? =some h→EW ok w H h e)→H.length=es.length→(∀n∈ns,R ok w H n.2 (a.eval n.1))→∃v,(execOp a.eval o).run P w=.ok (.value v) w∧R ok w H x v):Bc P o ns es x es:=by
 intro C ok H a w Q f j;obtain⟨v,m,q⟩:=h ok H a w f.ent f.hlen j;unfold Oper.wp;rw[m];exact⟨v,ok,H,rfl,.refl _ _,.refl _,f,q⟩
structure Ar where
 slots:List Ac
 ents:List BH
 base:Nat:=0
def Ar.get (σ:Ar):Operand→Ac
 | .tmp t=>σ.slots.getD t .junk
 | .const v=>.d (.lit v)
 | .global g=>.d (.lit (.pointer (some ⟨g,0,none⟩)))
 | .func f=>.d (.fn (.func f) [] [])
def Ar.put (σ:Ar) (d:Option Tmp) (x:Ac) (es:List BH):Ar:=
 ⟨match d with |some t=>σ.slots.set t x|none=>σ.slots,es,σ.base⟩
def Ar.pY (σ:Ar) (d:Option Tmp) (x:Ac):Ar:=
 ⟨match d with |some t=>σ.slots.set t x|none=>σ.slots,σ.ents,σ.base⟩
def Ar.Uc (σ:Ar) (d:Option Tmp) (x:Ac):σ.pY d x=σ.put d x σ.ents:=rfl
def Marks (C:Dv) (ok:Nat→Prop) (w:World) (f:List Deferred):Prop:=
 ∃Ds:List Nat,f=Ds.map (fun D=>{ target:=.collected D,args:= #[] })∧Ds.Nodup∧∀D∈Ds,ok D∧C.w0.heap.size≤D∧w.heap[D]? =some (.deferred (some []))
def Marks.nil (C:Dv) (ok:Nat→Prop) (w:World):Marks C ok w []:=⟨[],rfl,Xj,fun _ h=>Gt⟩
def Marks.mono {C:Dv} {ok ok':Nat→Prop} {w w':World} {m:List Deferred} (h:Marks C ok w m) (q:Dz ok w ok' w'):Marks C ok' w' m:=by
 obtain⟨Ds,s,u,f⟩:=h;exact⟨Ds,s,u,fun D j=>⟨(q D (f D j).1).1,(f D j).2.1,((q D (f D j).1).2).trans (f D j).2.2⟩⟩
structure Holds (C:Dv) (ok:Nat→Prop) (H:List Ba) (σ:Ar) (a:Act) (w:World):Prop where
 mem:CW C ok H σ.ents w
 size:a.tmps.size=σ.slots.length
 defers:Marks C ok w a.defers
 base:C.H0.length=σ.base
 slot:∀t,t<σ.slots.length→R ok w H (σ.slots.getD t .junk) (a.tmps.getD t undef)
def dI {l:List Ac} {t:Nat} (h:¬t<l.length):l.getD t .junk=.junk:=by
 simp[List.getD,Jp (RI h)]
def Holds.get {C:Dv} {ok:Nat→Prop} {H:List Ba} {σ:Ar} {a:Act} {w:World} (h:Holds C ok H σ a w) (x:Operand):R ok w H (σ.get x) (a.eval x):=by
 cases x with
 |tmp t=>
  show R ok w H (σ.slots.getD t .junk) (a.tmps.getD t undef);by_cases j:t<σ.slots.length
  ·exact h.slot t j
  rw[dI j];exact .junk _
 |const v=>exact .d _ _ (.lit v)
 |global g=>exact .d _ _ (.lit _)
 |func f=>exact .d _ _ (.fn (.func f) [] [] #[] #[] rfl rfl (fun i hi=>MN) (fun i hi=>MN))
def Holds.put {C:Dv} {ok ok':Nat→Prop} {H H':List Ba} {σ:Ar} {a:Act} {w w':World} (h:Holds C ok H σ a w) (d:Option Tmp) {x:Ac} {v:Value} {es':List BH}
 (j:Dz ok w ok' w') (s:Names H H') (u:CW C ok' H' es' w') (z:R ok' w' H' x v):Holds C ok' H' (σ.put d x es') (a.put d v) w':=by
 cases d with
 |none=>exact⟨u,h.size,h.defers.mono j,h.base,fun t f=>(h.slot t f).mono j s⟩
 |some d=>
  refine⟨u,by simp[Ar.put,Act.put,h.size],h.defers.mono j,h.base,fun t f=>?_⟩;simp only[Ar.put,Us]at f;simp only[Ar.put,Act.put];by_cases e:d=t
  ·subst e;have m:(σ.slots.set d x).getD d .junk=x:=by simp[List.getD,f]
   have q:(a.tmps.setIfInBounds d v).getD d undef=v:=by simp[Array.getD,h.size,f]
   rw[m,q];exact z
  have m:(σ.slots.set d x).getD t .junk=σ.slots.getD t .junk:=aIH
  have q:(a.tmps.setIfInBounds d v).getD t undef=a.tmps.getD t undef:=by simp[GU,JB e]
  rw[m,q];exact(h.slot t f).mono j s
def Ac.rV (π:List (Nat×Bool)):Ac→Ac
 | .d x=>.d x
 | .ptr k off=>match π.idxOf? (k,true)with |some j=>.ptr j off|none=>.junk
 | .aS k=>match π.idxOf? (k,true)with |some j=>.aS j|none=>.junk
 | .kE k i off=>match π.idxOf? (k,true)with |some j=>.kE j i off|none=>.junk
 | .mp k=>match π.idxOf? (k,true)with |some j=>.mp j|none=>.junk
 | .uo k=>match π.idxOf? (k,true)with |some j=>.uo j|none=>.junk
 | .clip xs=>.clip xs
 |_=>.junk
def Ac.back (π:List (Nat×Bool)):Ac→Ac
 | .fn f first cap=>.fn f (first.map (Ac.rV π)) (cap.map (Ac.rV π))
 | .eF vs=>.eF (vs.map (Ac.rV π))
 |x=>x.rV π
def BH.back (π:List (Nat×Bool)):BH→BH
 | .dead=>.dead
 | .box cs=>.box (cs.map (Ac.rV π))
 | .arr e s es=>.arr e s es
 | .map es=>.map es
 | .bg es=>.bg es
 | .iter es vis=>.iter es vis
 | .loop tm slots rc st f=>.loop tm (slots.map (Ac.back π)) rc st f
def lu {π:List (Nat×Bool)} {H:List Ba} {k j:Nat} {h:Ba} (m:π.idxOf? (k,true)=some j) (q:H[k]? =some h):(π.map fun p=>H.getD p.1 ⟨undef,0⟩)[j]? =some h:=by
 rw[List.idxOf?,aag]at m;obtain⟨f,s, -⟩:=m;have e:π[j]=(k,true):=VJ
 simp[f,e,List.getD,q]
def R.rV {ok:Nat→Prop} {w:World} {H:List Ba} (π:List (Nat×Bool)) {x:Ac} {v:Value} (h:R ok w H x v):R ok w (π.map fun p=>H.getD p.1 ⟨undef,0⟩) (x.rV π) v:=by
 cases h with
 |d x v h=>exact .d x v h
 |ptr k off b s h=>
  simp only[Ac.rV];split<;>rename_i j m
  ·exact .ptr _ off b s (lu m h)
  exact .junk _
 |aS k ad n cap s h=>
  simp only[Ac.rV];split<;>rename_i j m
  ·exact .aS _ ad n cap s (lu m h)
  exact .junk _
 |kE k i off b n cap s h=>
  simp only[Ac.rV];split<;>rename_i j m
  ·exact .kE _ i off b n cap s (lu m h)
  exact .junk _
 |mp k v s hl h=>
  simp only[Ac.rV];split<;>rename_i j m
  ·exact .mp _ v s hl (lu m h)
  exact .junk _
 |clip xs ad h=>exact .clip xs ad h
 |uo k ad n cap s h=>
  simp only[Ac.rV];split<;>rename_i j m
  ·exact .uo _ ad n cap s (lu m h)
  exact .junk _
 |fn f first cap vs us hl q h h'=>exact .junk _
 |eF xs vs hl h=>exact .junk _
 |ag xs vs hl u h=>exact .junk _
 |junk v=>exact .junk _
def Td (f:Ac→Ac) (l:List Ac) (i:Nat) (h:i<l.length):(l.map f).getD i .junk=f (l.getD i .junk):=by
 simp[List.getD,h]
def R.back {ok:Nat→Prop} {w:World} {H:List Ba} (π:List (Nat×Bool)) {x:Ac} {v:Value} (h:R ok w H x v):R ok w (π.map fun p=>H.getD p.1 ⟨undef,0⟩) (x.back π) v:=by
 cases h with
 |fn f first cap vs us hl j h h'=>
  exact .fn f _ _ vs us Y9 Zt (fun i hi=>acB) (fun i hi=>by rw[Ch]at hi;rw[Td _ _ _ hi];exact(h' i hi).rV π)
 |eF xs vs hl h=>exact .eF _ vs Y9 (fun i hi=>acB)
 |ag xs vs hl m h=>exact .junk _
 |d x v h=>exact(R.d x v h).rV π
 |ptr k off b s h=>exact(R.ptr k off b s h).rV π
 |aS k ad n cap s h=>exact(R.aS k ad n cap s h).rV π
 |kE k i off b n cap s h=>exact(R.kE k i off b n cap s h).rV π
 |mp k v s hl h=>exact(R.mp k v s hl h).rV π
 |clip xs ad h=>exact(R.clip xs ad h).rV π
 |uo k ad n cap s h=>exact(R.uo k ad n cap s h).rV π
 |junk v=>exact .junk _
def BH.backOk (π:List (Nat×Bool)):BH→Bool
 | .box cs=>cs.all fun x=>(x.rV π).leaf
 |_=>true
def Sv (base:Nat) (es:List BH) (π:List (Nat×Bool)):Bool:=
 π.all (fun p=>decide (p.1<es.length))&&decide ((π.filterMap fun p=>if p.2 then some p.1 else none).Nodup)&&((π.take base).map (·.1)==List.range base)&&π.all fun p=>(es.getD p.1 .dead).backOk π
def QS (es:List BH) (π:List (Nat×Bool)):List BH:=π.map fun p=>if p.2 then(es.getD p.1 .dead).back π else .dead
def aL7 :∀{π:List (Nat×Bool)},(π.filterMap fun p=>if p.2 then some p.1 else none).Nodup→∀(i j k:Nat),π[i]? =some (k,true)→π[j]? =some (k,true)→i=j
 | [],_,i,j,k,h,_=>Gw
 |p::π,f,i,j,k,hi,q=>by
  have m:∀(n:Nat),π[n]? =some (k,true)→k∈π.filterMap fun p=>if p.2 then some p.1 else none:=fun n h=>by
   rw[Qi];exact⟨_,Tm h,rfl⟩
  have s:(π.filterMap fun p=>if p.2 then some p.1 else none).Nodup:=by
   rw[Na]at f;split at f
   ·exact f
   exact(Jr.1 f).2
  match i,j with
  |0,0=>rfl
  |0,j+1=>
   simp at hi q;subst hi;simp only[Na,KD]at f;exact absurd (m j q) (Jr.1 f).1
  |i+1,0=>
   simp at hi q;subst q;simp only[Na,KD]at f;exact absurd (m i hi) (Jr.1 f).1
  |i+1,j+1=>rw[aL7 s i j k FX KH]
def EW.back {ok:Nat→Prop} {w:World} {H:List Ba} {h:Ba} {e:BH} (π:List (Nat×Bool)) (L:e.backOk π=true) (f:EW ok w H h e):EW ok w (π.map fun p=>H.getD p.1 ⟨undef,0⟩) h (e.back π):=by
 cases e with
 |dead=>trivial
 |box cs=>
  obtain⟨b,vs,T,j,m,q,u⟩:=f;refine⟨b,vs,T,j,m,KH,fun i hi=>?_⟩;rw[Ch]at hi;rw[Td _ _ _ hi];refine⟨?_,(u i hi).2.rV π⟩;simp only[BH.backOk,Dk]at L;exact L _ Ky
 |arr e s es=>
  obtain⟨j,m,xs,q,u,M⟩:=f;refine⟨j,m,xs,q,u,fun i hi=>⟨(M i hi).1,?_⟩⟩;have z:=(M i hi).2;have I:(flat es).getD i .junk∈flat es:=Ky
  unfold flat at I ⊢;simp only[Qj,F7]at I;obtain⟨x,_,y,_,O⟩:=I;unfold flat at z;rw[←O]at z ⊢;cases z with |d _ _ h=>exact .d _ _ h
 |map es=>exact f
 |bg es=>exact f
 |iter es vis=>exact f
 |loop tm slots rc st U=>
  obtain⟨l,fn,D,j,m,q,u⟩:=f;refine⟨l,fn,D,j,m,KH,fun t J=>?_⟩;rw[Ch]at J;rw[Td _ _ _ J];exact(u t J).back π
def aLF {π:List (Nat×Bool)} {e:BH}:(e.back π).live=e.live:=by cases e<;>rfl
def CW.norm {C:Dv} {ok:Nat→Prop} {H:List Ba} {es:List BH} {w:World} (J:CW C ok H es w) (π:List (Nat×Bool)) (O:Sv C.H0.length es π=true):
 CW C ok (π.map fun p=>H.getD p.1 ⟨undef,0⟩) (QS es π) w:=by
 unfold Sv at O;simp only[CP,Fl,PX,Dk]at O;obtain⟨⟨⟨hlt,hnd⟩,Z⟩,hbk⟩:=O
 have q:∀(j:Nat) (h:Ba),(π.map fun p=>H.getD p.1 ⟨undef,0⟩)[j]? =some h→∃p,π[j]? =some p∧p.1<es.length∧H[p.1]? =some h:=by
  intro j h f;rw[IY]at f;cases m:π[j]? with
  |none=>rw[m]at f;simp at f
  |some p=>
   rw[m]at f;have s:p.1<es.length:=hlt p (Tm m);refine⟨p,rfl,s,?_⟩;have hkH:p.1<H.length:=by rw[J.hlen];exact s
   simp[List.getD,hkH]at f ⊢;exact f
 have u:∀(j:Nat) (p:Nat×Bool) (e:BH),(QS es π)[j]? =some e→π[j]? =some p→p.1<es.length→(p.2=false∧e=.dead)∨(p.2=true∧∃L,es[p.1]? =some L∧e=L.back π∧p∈π):=by
  intro j p e f m s;unfold QS at f;rw[IY,m]at f;cases Y:p.2 with
  |false=>simp[Y]at f;exact .inl ⟨rfl,f.symm⟩
  |true=>
   simp[Y,List.getD,s]at f;exact .inr ⟨rfl,es[p.1],by simp[s],f.symm,Tm m⟩
 refine⟨J.fr,J.vY,J.vZ,J.jF,?_,by simp[QS],?_,?_,?_⟩
 ·intro k v hv;have s:k<C.H0.length:=(FC.1 hv).1;have h1:((π.take C.H0.length).map (·.1))[k]? =some k:=by rw[Z];simp[s]
  rw[IY,LZ s]at h1;have h2:=J.names k v hv;cases m:π[k]? with
  |none=>rw[m]at h1;simp at h1
  |some p=>
   rw[m]at h1;have hpk:p.1=k:=by simpa using h1
   rw[IY,m];simp[List.getD,hpk,h2]
 ·intro j e h f hh;obtain⟨p,m,s,hH⟩:=q j h hh;rcases u j p e f m s with⟨_,rfl⟩|⟨_,L,z,rfl,I⟩
  ·trivial
  refine(J.ent p.1 L h z hH).back π ?_;have :=hbk p I;simpa[List.getD,z]using this
 ·intro j e h b f hl hh Y;obtain⟨p,m,s,hH⟩:=q j h hh;rcases u j p e f m s with⟨_,rfl⟩|⟨_,L,z,rfl,I⟩
  ·cases hl
  rw[aLF]at hl;exact J.blk p.1 L h b z hl hH Y
 intro j j' e e' h h' b f hj' hl U hh hh' Y hb';obtain⟨p,m,s,hH⟩:=q j h hh;obtain⟨p',hp',hk',hH'⟩:=q j' h' hh';rcases u j p e f m s with⟨_,rfl⟩|⟨hpt,L,z,rfl,I⟩
 ·cases hl
 rcases u j' p' e' hj' hp' hk' with⟨_,rfl⟩|⟨M,e0',axE,rfl,hmem'⟩
 ·cases U
 rw[aLF]at hl U;have hkk:=J.Cm p.1 p'.1 L e0' h h' b z axE hl U hH hH' Y hb';obtain⟨k,bb⟩:=p;obtain⟨k',bb'⟩:=p';simp only at hkk hpt M;subst hkk;subst hpt;subst M;exact aL7 hnd j j' k m hp'
def Je (π:List (Nat×Bool)):List Bool→List Ac→List Ac
 |_,[]=>[]
 |true::m,x::xs=>x.back π::Je π m xs
 |false::m,_::xs=>.junk::Je π m xs
 | [],_::xs=>.junk::Je π [] xs
def aAt (π:List (Nat×Bool)):∀(m:List Bool) (l:List Ac),(Je π m l).length=l.length
 |_,[]=>by unfold Je;rfl
 |true::m,x::xs=>by simp[Je,aAt π m xs]
 |false::m,x::xs=>by simp[Je,aAt π m xs]
 | [],x::xs=>by simp[Je,aAt π [] xs]
def aAU (π:List (Nat×Bool)):∀(m:List Bool) (l:List Ac) (t:Nat),(Je π m l).getD t .junk=(l.getD t .junk).back π∨(Je π m l).getD t .junk=.junk
 |_,[],t=>by unfold Je;right;simp
 |true::m,x::xs,0=>by left;simp[Je]
 |false::m,x::xs,0=>by right;simp[Je]
 | [],x::xs,0=>by right;simp[Je]
 |true::m,x::xs,t+1=>by simpa[Je]using aAU π m xs t
 |false::m,x::xs,t+1=>by simpa[Je]using aAU π m xs t
 | [],x::xs,t+1=>by simpa[Je]using aAU π [] xs t
def rP (σ S:Ar):Prop:=∃(m:List Bool) (π:List (Nat×Bool)),Sv σ.base σ.ents π=true∧S=⟨Je π m σ.slots,QS σ.ents π,σ.base⟩
def Holds.axF {C:Dv} {ok:Nat→Prop} {H:List Ba} {σ S:Ar} {a:Act} {w:World} (h:Holds C ok H σ a w) (j:rP σ S):∃H',Holds C ok H' S a w:=by
 obtain⟨m,π,f,rfl⟩:=j;refine⟨π.map fun p=>H.getD p.1 ⟨undef,0⟩,h.mem.norm π (h.base▸f),by simp[aAt,h.size],h.defers,h.base,fun t q=>?_⟩;rcases aAU π m σ.slots t with e|e
 ·simp only[e];exact(h.get (.tmp t)).back π
 simp only[e];exact .junk _
def CJ (σ S:Ar):Prop:=∀(C:Dv) (ok:Nat→Prop) (H:List Ba) (a:Act) (w:World),Holds C ok H σ a w→∃ok' H',Holds C ok' H' S a w
def rP.sub {σ S:Ar} (h:rP σ S):CJ σ S:=fun _ ok _ _ _ f=>let⟨H',h'⟩:=f.axF h;⟨ok,H',h'⟩
def afK {σ S:Ar} (f:Ar) (h:∀C ok H a w,Holds C ok H σ a w→∃ok',Holds C ok' H f a w) (k:CJ f S):CJ σ S:=fun C _ H a w j=>let⟨ok',h'⟩:=h C _ H a w j;k C ok' H a w h'
section
variable {P : Program} {ops : Array Oper} {Q : Exit → Act → World → Prop}
def toCome (f:Array Bool):Nat:=(f.toList.filter (!·)).length
def toCome_set {f:Array Bool} {i:Nat} (hi:i<f.size) (h:f.getD i true=false):toCome (f.setIfInBounds i true)+1=toCome f:=by
 unfold toCome;have hl:f.toList[i]' FX=false:=by simpa[Array.getD,hi]using h
 have e:f.toList=f.toList.take i++false::f.toList.drop (i+1):=by
  rw[←hl,List.getElem_cons_drop,VF]
 have j:(f.setIfInBounds i true).toList=f.toList.take i++true::f.toList.drop (i+1):=by
  rw[aDg,aI3,Cb FX]
 rw[j]
 conv=>rhs;rw[e]
 simp[Ws];omega
def written (ops:Array Oper):List Tmp:=ops.toList.filterMap (·.dst)
def Tv (ops:Array Oper):Bool:=(List.range ops.size).all fun i=>(List.range ops.size).all fun j=>i==j||match(ops[i]?).bind (·.dst),(ops[j]?).bind (·.dst)with
 |some d,some f=>d != f
 |_,_=>true
def TG (ops:Array Oper) (n:Nat):Bool:=(written ops).all fun d=>decide (d<n)
def aGi (h:Tv ops=true):∀(i j:Nat) (o f:Oper) (d:Tmp),ops[i]? =some o→ops[j]? =some f→o.dst=some d→f.dst=some d→i=j:=by
 intro i j o f d m q s u;unfold Tv at h;rw[Dk]at h;have hi:i<ops.size:=(FN.1 m).1;have z:j<ops.size:=(FN.1 q).1;have :=h i FX;rw[Dk]at this;have :=this j Qw;rw[m,q]at this;simp[s,u]at this;exact this
def aDz {i:Nat} {o:Oper} {d:Tmp} (h:ops[i]? =some o) (hd:o.dst=some d):d∈written ops:=by
 unfold written;rw[Qi]
 exact⟨o,by
  have⟨hi,f⟩:=FN.1 h
  rw[←f];exact Array.getElem_mem_toList hi,hd⟩
def aIP {a:Act} {d:Tmp} {v:Value} (h:d<a.tmps.size):(a.put (some d) v).tmps.getD d undef=v:=by
 simp[Act.put,Array.getD,h]
def aGY {a:Act} {d t:Tmp} {v:Value} (h:d≠t):(a.put (some d) v).tmps.getD t undef=a.tmps.getD t undef:=by
 simp[Act.put,GU,JB h]
def size_put {a:Act} {d:Option Tmp} {v:Value}:(a.put d v).tmps.size=a.tmps.size:=by cases d<;>simp[Act.put]
def apz {a:Act} {d:Option Tmp} {v:Value}:(a.put d v).defers=a.defers:=by cases d<;>rfl
end
def Ut (ops:Array Oper) (σ:Ar) (g:Option (Nat×Bool)):Prop:=g=none∨
 ∃j f d b,g=some (j,f)∧(ops[j]?).bind (·.dst)=some d∧σ.slots.getD d .junk=.d (.lit (.bool b))∧b=f
def Vr (ops:Array Oper) (σ:Ar) (g:Option (Nat×Bool)):Prop:=
 ∃j f d v,g=some (j,f)∧(ops[j]?).bind (·.dst)=some d∧σ.slots.getD d .junk=.d (.lit v)∧(v=.bool (!f)∨v=undef)
def afg {ops:Array Oper} {σ:Ar} {g:Option (Nat×Bool)} (j:Nat) (f:Bool) (d:Nat) (b:Bool) (m:g=some (j,f)) (hd:(ops[j]?).bind (·.dst)=some d) (q:σ.slots.getD d .junk=.d (.lit (.bool b))) (s:b= !f):Vr ops σ g:=⟨j,f,d,_,m,hd,q,.inl (by rw[s])⟩
def ai2 {ops:Array Oper} {σ:Ar} {g:Option (Nat×Bool)} (j:Nat) (f:Bool) (d:Nat) (m:g=some (j,f)) (hd:(ops[j]?).bind (·.dst)=some d) (q:σ.slots.getD d .junk=.d (.lit undef)):Vr ops σ g:=⟨j,f,d,_,m,hd,q,.inr rfl⟩
def R.bool {ok:Nat→Prop} {w:World} {H:List Ba} {u v:Value} (h:R ok w H (.d (.lit u)) v):v=u:=by
 cases h with |d _ _ h=>cases h;rfl
def aoz {C:Dv} {ok:Nat→Prop} {H:List Ba} {σ:Ar} {a:Act} {w:World} (h:Holds C ok H σ a w) {ops:Array Oper} {j d:Nat} {v:Value}
 (q:(ops[j]?).bind (·.dst)=some d) (f:σ.slots.getD d .junk=.d (.lit v)):yielded ops a.tmps j=(match v with | .bool b=>some b|_=>none):=by
 have hd:d<σ.slots.length:=by
  apply UN;intro s;rw[dI s]at f;cases f
 have m:=(f▸h.slot d hd).bool
 have u:a.tmps[d]? =some v:=by
  have :d<a.tmps.size:=by rw[h.size];exact hd
  simp[Array.getD,this]at m;simp[this,m]
 unfold yielded;rw[q];simp only[Af,u];cases v<;>rfl
def aqQ {C:Dv} {ok:Nat→Prop} {H:List Ba} {σ:Ar} {a:Act} {w:World} (h:Holds C ok H σ a w) {ops:Array Oper} {j d:Nat} {b:Bool}
 (q:(ops[j]?).bind (·.dst)=some d) (f:σ.slots.getD d .junk=.d (.lit (.bool b))):yielded ops a.tmps j=some b:=by
 have hd:d<σ.slots.length:=by
  apply UN;intro s;rw[dI s]at f;cases f
 have m:=(f▸h.slot d hd).bool
 have u:a.tmps[d]? =some (.bool b):=by
  have :d<a.tmps.size:=by rw[h.size];exact hd
  simp[Array.getD,this]at m;simp[this,m]
 unfold yielded;rw[q];simp only[Af,u]
def Np {C:Dv} {ok:Nat→Prop} {H:List Ba} {σ:Ar} {a:Act} {w:World} (h:Holds C ok H σ a w) {ops:Array Oper} {o:Oper} (f:Ut ops σ o.guard):Region.wanted o (yielded ops a.tmps)=true:=by
 unfold Region.wanted;rcases f with f|⟨j,m,d,b,f,q,s,rfl⟩
 ·rw[f]
 rw[f];show(yielded ops a.tmps j==some b)=true;rw[aqQ h q s];simp
def aI5 {C:Dv} {ok:Nat→Prop} {H:List Ba} {σ:Ar} {a:Act} {w:World} (h:Holds C ok H σ a w) {ops:Array Oper} {o:Oper} (m:Vr ops σ o.guard):Region.wanted o (yielded ops a.tmps)=false:=by
 unfold Region.wanted;obtain⟨j,f,d,v,m,q,s,u⟩:=m;rw[m];show(yielded ops a.tmps j==some f)=false;rw[aoz h q s];rcases u with rfl|rfl
 ·simp
 rfl
def needs (σ:Ar):List (Operand×Ac)→Prop
 | []=>True
 |n::ns=>σ.get n.1=n.2∧needs σ ns
def NY {σ:Ar}:∀{ns:List (Operand×Ac)},needs σ ns→∀n∈ns,σ.get n.1=n.2
 | [],_,n,h=>Gw
 |m::ns,f,n,h=>by
  rcases Ew.1 h with rfl|h
  ·exact f.1
  exact NY f.2 n h
def tmpsOf (o:Oper):List Tmp:=o.op.operands.toList.filterMap fun | .tmp t=>some t|_=>none
def LP (ns:List (Operand×Ac)):List Tmp:=ns.filterMap fun n=>match n.1 with | .tmp t=>some t|_=>none
def Py (P:Program) (ops:Array Oper) (σ:Ar) (x:Ac) (E:List BH) (bar:Bool) (o:Oper):Prop:=
 ((∃ns,Bc P o ns σ.ents x E∧needs σ ns∧(LP ns).all (tmpsOf o).contains=true∧Ut ops σ o.guard)∨(x=.d (.lit undef)∧E=σ.ents∧Vr ops σ o.guard))∧(bar=false→E=σ.ents)
def aa3 {P:Program} {ops:Array Oper} {σ:Ar} {x:Ac} {o:Oper} {ns:List (Operand×Ac)} (h:Bc P o ns σ.ents x σ.ents) (f:needs σ ns) (j:Ut ops σ o.guard) (m:(LP ns).all (tmpsOf o).contains=true):Py P ops σ x σ.ents false o:=
 ⟨.inl ⟨ns,h,f,m,j⟩,fun _=>rfl⟩
def Hq (ro:Option Nat):Fence:={ fn:=fun _=>True,depth:=none,alive:=false,round:=ro }
def zG {ro:Option Nat} {n:Nat} {P:Program} {f:FuncId} {args:Array Value} {w:World} {R:Ending→World→Prop}:CallsIn (Hq ro) n P f args w R↔Calls P f args w R:=
 callsIn_wide (n:=n)
def agV {ro:Option Nat} {n:Nat} {P:Program} {f:String} {args:Array Value} {w:World} {R:Value→World→Prop} (h:Rows P f args w R):RowsIn (Hq ro) n P f args w R:=
 fun c cs _=>let⟨v,w',r,s⟩:=h c cs;⟨v,w',r,(stepsIn_wide (P:=P)).2 s⟩
def Bc.atF {P:Program} {o:Oper} {ns:List (Operand×Ac)} {es es':List BH} {x:Ac} (h:Bc P o ns es x es') {C:Dv} {ok:Nat→Prop} {H:List Ba} {a:Act} {w:World} (m:CW C ok H es w) (q:∀n∈ns,R ok w H n.2 (a.eval n.1)):∀c,o.op≠ .defer c:=by
 intro c s;have f:=h C ok H a w (fun _ _ _=>False) m q;unfold Oper.wp execOp at f;rw[s]at f;simp only[Ei]at f;cases j:(resolve a.eval c o.type).run P w with
 |ok d w'=>
  rw[j]at f;simp only[Result.andThen]at f;obtain⟨v,_,_,u,_⟩:=f;have :=BR (fun a=>a.defers.length) u;cases z:o.dst<;>simp[Act.put,z]at this
 |halt x w'=>
  rw[j]at f;cases x<;>exact f
def Bc.YC {P:Program} {o:Oper} {ns:List (Operand×Ac)} {es es':List BH} {x:Ac} (h:Bc P o ns es x es') (ro:Option Nat) (C:Dv) (ok:Nat→Prop) (H:List Ba) (a:Act) (w:World) (Q:Exit→Act→World→Prop)
 (j:CW C ok H es w) (m:∀n∈ns,R ok w H n.2 (a.eval n.1)):
 o.wpIn (Hq ro) 0 P a w (fun a' w'=>∃v ok' H',a'=a.put o.dst v∧Dz ok w ok' w'∧Names H H'∧CW C ok' H' es' w'∧R ok' w' H' x v) Q:=by
 have f:=h C ok H a w Q j m;refine⟨fun _ _=>trivial,?_⟩;rw[ZN _ _ _ (h.atF j m)];unfold Oper.wp at f;generalize(execOp a.eval o).run P w=r at f;cases r with
 |ok n w'=>
  cases n<;>first
   |exact f
   |exact f.elim
   |exact⟨fun h=>Gt,zG.2 f⟩
   |exact⟨fun h=>Gt,agV f⟩
 |halt x w'=>cases x<;>exact f
inductive Chain (P:Program) (ops:Array Oper):List Oper→Ar→Ar→Prop
 |nil (σ:Ar):Chain P ops [] σ σ
 |op {o:Oper} {rest:List Oper} {σ σ':Ar} {ns:List (Operand×Ac)} {x:Ac} (d:Option Tmp) (h:Bc P o ns σ.ents x σ.ents) (hn:needs σ ns) (hg:Ut ops σ o.guard) (hd:o.dst=d)
  (k:Chain P ops rest (σ.pY d x) σ'):Chain P ops (o::rest) σ σ'
 |oe {o:Oper} {rest:List Oper} {σ σ':Ar} {ns:List (Operand×Ac)} {x:Ac} {es':List BH} (d:Option Tmp) (E:List BH) (h:Bc P o ns σ.ents x es') (he:es'=E) (hn:needs σ ns) (hg:Ut ops σ o.guard) (hd:o.dst=d)
  (k:Chain P ops rest (σ.put d x E) σ'):Chain P ops (o::rest) σ σ'
 |skip {o:Oper} {rest:List Oper} {σ σ':Ar} (d:Option Tmp) (hg:Vr ops σ o.guard) (hd:o.dst=d) (k:Chain P ops rest (σ.pY d (.d (.lit undef))) σ'):Chain P ops (o::rest) σ σ'
 |any {o:Oper} {rest:List Oper} {σ σ':Ar} {x:Ac} (d:Option Tmp) (h:Py P ops σ x σ.ents false o) (hd:o.dst=d) (k:Chain P ops rest (σ.pY d x) σ'):Chain P ops (o::rest) σ σ'
 |ZE {o:Oper} {rest:List Oper} {σ σ':Ar} {x:Ac} {E:List BH} {bar:Bool} (d:Option Tmp) (h:Py P ops σ x E bar o) (hd:o.dst=d) (k:Chain P ops rest (σ.put d x E) σ'):Chain P ops (o::rest) σ σ'
 |conv {rest:List Oper} {σ σ':Ar} (σ2:Ar) (h:∀C ok H a w,Holds C ok H σ a w→∃ok',Holds C ok' H σ2 a w) (k:Chain P ops rest σ2 σ'):Chain P ops rest σ σ'
def Chain.sound {P:Program} {ops:Array Oper} {l:List Oper} {σ σ':Ar} (h:Chain P ops l σ σ') {ro:Option Nat} {C:Dv} {H0:List Ba} {Q:Exit→Act→World→Prop}:
 ∀{ok:Nat→Prop} {H:List Ba} {a:Act} {w:World},Holds C ok H σ a w→Names H0 H→(∀ok' H' a' w',Holds C ok' H' σ' a' w'→Names H0 H'→Q .normal a' w')→wpListIn (Hq ro) 0 P ops Q l a w:=by
 induction h with
 |nil σ=>intro ok H a w f J q;exact q ok H a w f J
 | @op o rest σ σ' ns x d L J z hd k I=>
   intro ok H a w f j q;subst hd;unfold wpListIn;rw[Cb (Np f z)];refine P5 ?_ (L.YC ro C ok H a w Q f.mem (fun n s=>NY J n s▸f.get n.1));rintro a' w' ⟨v,ok',H',rfl,u,m,M,O⟩;exact I (f.put o.dst u m M O) (j.trans m) q
 | @oe o rest σ σ' ns x es' d E L Z J z hd k I=>
   intro ok H a w f j q;subst hd;subst Z;unfold wpListIn;rw[Cb (Np f z)];refine P5 ?_ (L.YC ro C ok H a w Q f.mem (fun n s=>NY J n s▸f.get n.1));rintro a' w' ⟨v,ok',H',rfl,u,m,M,O⟩;exact I (f.put o.dst u m M O) (j.trans m) q
 | @skip o rest σ σ' d z hd k I=>
   intro ok H a w f j q;subst hd;unfold wpListIn;rw[D9 bQ];exact⟨fun _ _=>trivial,I (f.put o.dst (.refl _ _) (.refl _) f.mem (.d _ _ (.lit _))) j q⟩
 | @any o rest σ σ' x d U hd k I=>
   intro ok H a w f j q;subst hd;unfold wpListIn;rcases U.1 with⟨ns,L,J,_,z⟩|⟨rfl,_,z⟩
   ·rw[Cb (Np f z)];refine P5 ?_ (L.YC ro C ok H a w Q f.mem (fun n s=>NY J n s▸f.get n.1));rintro a' w' ⟨v,ok',H',rfl,u,m,M,O⟩;exact I (f.put o.dst u m M O) (j.trans m) q
   rw[D9 bQ];exact⟨fun _ _=>trivial,I (f.put o.dst (.refl _ _) (.refl _) f.mem (.d _ _ (.lit _))) j q⟩
 | @ZE o rest σ σ' x E bar d U hd k I=>
   intro ok H a w f j q;subst hd;unfold wpListIn;rcases U.1 with⟨ns,L,J,_,z⟩|⟨rfl,rfl,z⟩
   ·rw[Cb (Np f z)];refine P5 ?_ (L.YC ro C ok H a w Q f.mem (fun n s=>NY J n s▸f.get n.1));rintro a' w' ⟨v,ok',H',rfl,u,m,M,O⟩;exact I (f.put o.dst u m M O) (j.trans m) q
   rw[D9 bQ];exact⟨fun _ _=>trivial,I (f.put o.dst (.refl _ _) (.refl _) f.mem (.d _ _ (.lit _))) j q⟩
 |conv σ2 hc k I=>
  intro ok H a w f j q;obtain⟨ok',Y⟩:=hc C ok H a w f;exact I Y j q
def OC :Code→Bool
 | .seq a b=>OC a&&OC b
 | .cond _ a b=>OC a&&OC b
 | .block _ a=>OC a
 | .loop a=>OC a
 | .scope a=>OC a
 | .rangeFunc .. =>false
 |_=>true
def kK (ro:Option Nat) (c:Code):Prop:=ro=none∨OC c=true
def kK.two {ro:Option Nat} {c x y:Code} (h:kK ro c) (e:OC c=(OC x&&OC y)):kK ro x∧kK ro y:=by
 rcases h with h|h
 ·exact⟨.inl h,.inl h⟩
 rw[e,CP]at h;exact⟨.inr h.1,.inr h.2⟩
def afp (P:Program) (c:Code) (σ:Ar) (Q:Exit→Ar→Prop):Prop:=
 ∀(ro:Option Nat),kK ro c→∀(C:Dv) (ok:Nat→Prop) (H:List Ba) (a:Act) (w:World),Holds C ok H σ a w→c.wpIn (Hq ro) 0 P (fun e a' w'=>∃ok' H' σ',Holds C ok' H' σ' a' w'∧Q e σ') a w
structure AO (P:Program) (c:Code) (σ:Ar) (Q:Exit→Ar→Prop):Prop where
 run:afp P c σ Q
section
variable {P : Program} {σ σ' : Ar} {Q : Exit → Ar → Prop}
def AO.mono {c:Code} {Q':Exit→Ar→Prop} (h:AO P c σ Q) (f:∀e σ,Q e σ→Q' e σ):AO P c σ Q':=
 ⟨fun ro j C ok H a w m=>Rx (h.run ro j C ok H a w m) fun _ _ _ ⟨ok',H',σ',q,s⟩=>⟨ok',H',σ',q,f _ _ s⟩⟩
def AO.region {id:Nat} {ops:Array Oper} (h:Chain P ops ops.toList σ σ') (f:Q .normal σ'):AO P (.region id ops false) σ Q:=⟨fun ro _ C ok H a w j=>
 aC9 (h.sound j (.refl H) fun ok' H' a' w' m _=>⟨ok',H',σ',m,f⟩)⟩
def AO.skip (h:Q .normal σ):AO P .skip σ Q:=⟨fun _ _ _ ok H a w f=>wpIn_skip ⟨ok,H,σ,f,h⟩⟩
def AO.label {l:Nat} (h:Q .normal σ):AO P (.label l) σ Q:=⟨fun _ _ _ ok H a w f=>wpIn_label ⟨ok,H,σ,f,h⟩⟩
def AO.exit {i:Nat} (h:Q (.exit i) σ):AO P (.exit i) σ Q:=⟨fun _ _ _ ok H a w f=>wpIn_exit ⟨ok,H,σ,f,h⟩⟩
def AO.ret (h:Q .ret σ):AO P .ret σ Q:=⟨fun _ _ _ ok H a w f=>wpIn_ret ⟨ok,H,σ,f,h⟩⟩
def Jh (K:Ar→Prop) (Q:Exit→Ar→Prop):Exit→Ar→Prop
 | .normal,σ=>K σ
 |e,σ=>Q e σ
def AO.seq {x y:Code} (K:Ar→Prop) (q:AO P x σ (Jh K Q)) (s:∀σ',K σ'→AO P y σ' Q):AO P (.seq x y) σ Q:=⟨fun ro f C ok H a w u=>
 wpIn_seq (Rx (q.run ro (f.two rfl).1 C ok H a w u) (by
  rintro e a' w' ⟨ok',H',σ',j,m⟩;cases e with
  |normal=>exact(s σ' m).run ro (f.two rfl).2 C ok' H' a' w' j
  |_=>exact⟨ok',H',σ',j,m⟩))⟩
def AO.seq1 {x y:Code} (f:Ar) (j:AO P x σ (Jh (fun σ'=>σ'=f) Q)) (m:AO P y f Q):AO P (.seq x y) σ Q:=AO.seq _ j (fun _ e=>e▸m)
def AO.cond {c:Operand} {x y:Code} (b:Bool) (m:σ.get c=.d (.lit (.bool b))) (q:b=true→AO P x σ Q) (s:b=false→AO P y σ Q):AO P (.cond c x y) σ Q:=by
 refine⟨fun ro j C ok H a w f=>?_⟩;have e:=(m▸f.get c).bool;exact wpIn_cond_split e (fun h=>(q h).run ro (j.two rfl).1 C ok H a w f) (fun h=>(s h).run ro (j.two rfl).2 C ok H a w f)
def acH (i:Nat) (Q:Exit→Ar→Prop):Exit→Ar→Prop
 | .exit j,σ=>if j=i then Q .normal σ else Q (.exit j) σ
 |e,σ=>Q e σ
def AO.block {i:Nat} {c:Code} (h:AO P c σ (acH i Q)):AO P (.block i c) σ Q:=⟨fun ro s C ok H a w u=>
 wpIn_block (Rx (h.run ro s C ok H a w u) (by
  rintro e a' w' ⟨ok',H',σ',m,f⟩;cases e with
  |exit j=>
   show if j=i then _ else _
   simp only[acH]at f;split<;>rename_i q
   ·rw[Cb q]at f;exact⟨ok',H',σ',m,f⟩
   rw[D9 q]at f;exact⟨ok',H',σ',m,f⟩
  |_=>exact⟨ok',H',σ',m,f⟩))⟩
def af6 {ro:Option Nat} {P:Program} {Q:Exit→Act→World→Prop} {c:Code} (I:Nat→Act→World→Prop)
 (round:∀n a w,I n a w→c.wpIn (Hq ro) 0 P (Exit.then (fun a' w'=>∃m,m<n∧I m a' w') Q) a w):∀n a w,I n a w→(Code.loop c).wpIn (Hq ro) 0 P Q a w:=by
 intro n a w U b k cs u z J
 have key:∀n a w,I n a w→∃e a' w',Q e a' w'∧ArrivesIn (Machine.fenced P (Hq ro)) P (lone (b.atR a (.code c::.inLoop c::k)) cs w) b k cs e a' w':=by
  intro n
  induction n using Nat.strongRecOn with
  |_ n Y=>
   intro a w Z;obtain⟨e,q,s,f,harr⟩:=round n a w Z b (.inLoop c::k) cs u z J;cases e with
   |normal=>
    obtain⟨m,L,M⟩:=f;obtain⟨e₂,a₂,w₂,O,j⟩:=Y m L q s M;exact⟨e₂,a₂,w₂,O,.of_steps (StepsIn.trans harr (.one (fenced_calm z J rfl) stepR_inLoop)) j⟩
   |exit id=>exact⟨_,q,s,f,.pass (x:=.inLoop c) rfl (fun _ _=>.inl BK) harr⟩
   |goto l=>exact⟨_,q,s,f,.pass (x:=.inLoop c) rfl (fun _ _=>.inl BK) harr⟩
   |ret=>exact⟨_,q,s,f,.pass (x:=.inLoop c) rfl (fun _ _=>.inl BK) harr⟩
   |panic ch=>exact⟨_,q,s,f,.pass (x:=.inLoop c) rfl (fun _ _=>.inl BK) harr⟩
   |outgrown=>exact⟨_,q,s,f,.pass (x:=.inLoop c) rfl (fun _ _=>.inl BK) harr⟩
 obtain⟨e,a',w',f,harr⟩:=key n a w U;exact⟨e,a',w',f,.of_steps (.one (fenced_calm z J rfl) stepR_loop) harr⟩
def AO.loop {c:Code} (I:Nat→Ar→Prop) (n:Nat) (h:I n σ) (round:∀n σ,I n σ→AO P c σ (Jh (fun σ'=>∃m,m<n∧I m σ') Q)):AO P (.loop c) σ Q:=by
 refine⟨fun ro u C ok H a w f=>?_⟩;refine af6 (fun n a w=>∃ok H σ,Holds C ok H σ a w∧I n σ) ?_ n a w ⟨ok,H,σ,f,h⟩;rintro n a w ⟨ok,H,σ,f,z⟩;refine Rx ((round n σ z).run ro u C ok H a w f) ?_;rintro e a' w' ⟨ok',H',σ',q,s⟩;cases e with
 |normal=>obtain⟨m,J,j⟩:=s;exact⟨m,J,ok',H',σ',q,j⟩
 |_=>exact⟨ok',H',σ',q,s⟩
end
def CZ {P:Program} {σ S:Ar} {Q:Exit→Ar→Prop} {c:Code} (f:CJ σ S) (h:AO P c S Q):AO P c σ Q:=⟨fun ro j C ok H a w m=>by
 obtain⟨ok',H',h'⟩:=f C ok H a w m
 exact h.run ro j C ok' H' a w h'⟩
section
variable {P : Program} {ops : Array Oper} {Q : Exit → Act → World → Prop}
def wX {F:Fence} {n:Nat} (I:Array Bool→Act→World→Prop) (f:∀l a w,I l a w→l.size=ops.size)
 (q:∀l a w,I l a w→∀i,i∈Region.ready .any ops l→wpOpIn F n P ops Q i (fun a' w'=>I (l.setIfInBounds i true) a' w') a w)
 (m:∀l a w,I l a w→Region.ready .any ops l=[]→Q .normal a w):
 ∀(BA:Nat) l a w,toCome l≤BA→I l a w→wpAnyIn F n P .any ops Q BA l a w:=by
 intro BA
 induction BA with
 |zero=>
  intro l a w J u
  have L:Region.ready .any ops l=[]:=by
   unfold Region.ready;rw[aIC];intro i hi;have s:i<l.size:=by rw[f l a w u];simpa using hi
   have M:l.toList.filter (!·)=[]:=GY (by unfold toCome at J;omega);rw[aIC]at M;have :=M (l[i]) BK;have z:l[i]=true:=aHL
   simp[Array.getD,s,z]
  exact⟨L,m l a w u L⟩
 |succ BA O=>
  intro l a w J u;refine⟨m l a w u,fun i hi=>?_⟩;have j:=hi;unfold Region.ready at j;rw[G7]at j;have s:i<l.size:=by rw[f l a w u];simpa using j.1
  have U:l.getD i true=false:=by
   have :=j.2;simp only[CP,Qp]at this;exact this.1
  have Y:=toCome_set s U;exact wpOpIn_mono (fun a' w' h=>O _ a' w' AL h) (q l a w u i hi)
end
def Fe (o:Oper) (j:Nat):Bool:=o.after.toList.any fun e=>decide (e.on=j)&&Region.binds .any e
def UJ (ops:Array Oper):Bool:=(List.range ops.size).all fun i=>match ops[i]? with
 |some o=>((List.range ops.size).all fun j=>match(ops[j]?).bind (·.dst)with
  |some d=> !(tmpsOf o).contains d||Fe o j||(match ops[j]? with |some f=>Fe f i|none=>false)
  |none=>true)&&(match o.guard with |some (j,_)=>Fe o j|none=>true)
 |none=>true
inductive El (P:Program) (ops:Array Oper):List Oper→Ar→List Ac→List (List BH)→List Bool→Ar→Prop
 |nil (σ:Ar):El P ops [] σ [] [] [] σ
 |op {o:Oper} {rest:List Oper} {σ σ':Ar} {ns:List (Operand×Ac)} {x:Ac} {rs:List Ac} {ess:List (List BH)} {bs:List Bool} (d:Option Tmp) (h:Bc P o ns σ.ents x σ.ents) (hn:needs σ ns)
  (hg:Ut ops σ o.guard) (hd:o.dst=d) (ht:(LP ns).all (tmpsOf o).contains=true) (k:El P ops rest (σ.pY d x) rs ess bs σ'):El P ops (o::rest) σ (x::rs) (σ.ents::ess) (false::bs) σ'
 |oe {o:Oper} {rest:List Oper} {σ σ':Ar} {ns:List (Operand×Ac)} {x:Ac} {es':List BH} {rs:List Ac} {ess:List (List BH)} {bs:List Bool} (d:Option Tmp) (E:List BH) (h:Bc P o ns σ.ents x es') (he:es'=E) (hn:needs σ ns)
  (hg:Ut ops σ o.guard) (hd:o.dst=d) (ht:(LP ns).all (tmpsOf o).contains=true) (k:El P ops rest (σ.put d x E) rs ess bs σ'):El P ops (o::rest) σ (x::rs) (E::ess) (true::bs) σ'
 |any {o:Oper} {rest:List Oper} {σ σ':Ar} {x:Ac} {rs:List Ac} {ess:List (List BH)} {bs:List Bool} (d:Option Tmp) (h:Py P ops σ x σ.ents false o) (hd:o.dst=d) (k:El P ops rest (σ.pY d x) rs ess bs σ'):El P ops (o::rest) σ (x::rs) (σ.ents::ess) (false::bs) σ'
 |ZE {o:Oper} {rest:List Oper} {σ σ':Ar} {x:Ac} {E:List BH} {bar:Bool} {rs:List Ac} {ess:List (List BH)} {bs:List Bool} (d:Option Tmp) (h:Py P ops σ x E bar o) (hd:o.dst=d) (k:El P ops rest (σ.put d x E) rs ess bs σ'):El P ops (o::rest) σ (x::rs) (E::ess) (bar::bs) σ'
 |skip {o:Oper} {rest:List Oper} {σ σ':Ar} {rs:List Ac} {ess:List (List BH)} {bs:List Bool} (d:Option Tmp) (hg:Vr ops σ o.guard) (hd:o.dst=d) (k:El P ops rest (σ.pY d (.d (.lit undef))) rs ess bs σ'):El P ops (o::rest) σ (.d (.lit undef)::rs) (σ.ents::ess) (false::bs) σ'
section
variable {P : Program} {ops : Array Oper} {es : List BH}
def EJ (ops:Array Oper) (σ0:Ar) (r:Nat→Ac) (ev:Nat→List BH):Nat→Ar
 |0=>σ0
 |i+1=>match ops[i]? with
  |some o=>(EJ ops σ0 r ev i).put o.dst (r i) (ev i)
  |none=>EJ ops σ0 r ev i
def El.facts {l:List Oper} {σ σ':Ar} {rs:List Ac} {ess:List (List BH)} {bs:List Bool} (h:El P ops l σ rs ess bs σ') (σ0:Ar) (r:Nat→Ac) (ev:Nat→List BH) (bar:Nat→Bool):∀i,(∀k:Nat,l[k]? =ops[i+k]?)→i+l.length=ops.size→σ=EJ ops σ0 r ev i→
 (∀(k:Nat) y,rs[k]? =some y→r (i+k)=y)→(∀(k:Nat) y,ess[k]? =some y→ev (i+k)=y)→(∀(k:Nat) y,bs[k]? =some y→bar (i+k)=y)→
 (∀j (o:Oper),i≤j→ops[j]? =some o→Py P ops (EJ ops σ0 r ev j) (r j) (ev j) (bar j) o)∧σ'=EJ ops σ0 r ev ops.size:=by
 induction h with
 |nil σ=>
  intro i hl u s z _ _;have :i=ops.size:=Md
  subst this;refine⟨fun j o M ho=>?_,s⟩;have :=(FN.1 ho).1;omega
 | @op o rest σ σ' ns x rs ess bs d ho hn hg hd ht k U=>
   intro i hl u s z I O;subst hd;have J:ops[i]? =some o:=jo
   have L:r i=x:=s0
   have m:ev i=σ.ents:=aFQ
   obtain⟨Y,Z⟩:=U (i+1) (fun k=>nJ) Qb (by
    rw[Ar.Uc];simp only[EJ,J,L,m];rw[←s]) (fun k y q=>nO)
    (fun k y q=>Rt) (fun k y q=>qy)
   refine⟨fun j o' M f=>?_,Z⟩;by_cases e:i=j
   ·subst e;rw[J]at f;obtain rfl:=CO f;exact⟨.inl ⟨ns,by rw[L,m,←s];exact ho,s▸hn,ht,s▸hg⟩,fun _=>X4⟩
   exact Y j o' AL f
 | @oe o rest σ σ' ns x es' rs ess bs d E ho hE hn hg hd ht k U=>
   intro i hl u s z I O;subst hd;subst hE;have J:ops[i]? =some o:=jo
   have L:r i=x:=s0
   have m:ev i=es':=by simpa using I 0 es' BK
   have hbr:bar i=true:=by simpa using O 0 true BK
   obtain⟨Y,Z⟩:=U (i+1) (fun k=>nJ) Qb (by
    simp only[EJ,J,L,m];rw[←s]) (fun k y q=>nO)
    (fun k y q=>Rt) (fun k y q=>qy)
   refine⟨fun j o' M f=>?_,Z⟩;by_cases e:i=j
   ·subst e;rw[J]at f;obtain rfl:=CO f;exact⟨.inl ⟨ns,by rw[L,m,←s];exact ho,s▸hn,ht,s▸hg⟩,fun hf=>by rw[hbr]at hf;cases hf⟩
   exact Y j o' AL f
 | @any o rest σ σ' x rs ess bs d hs hd k U=>
   intro i hl u s z I O;subst hd;have J:ops[i]? =some o:=jo
   have L:r i=x:=s0
   have m:ev i=σ.ents:=aFQ
   obtain⟨Y,Z⟩:=U (i+1) (fun k=>nJ) Qb (by
    rw[Ar.Uc];simp only[EJ,J,L,m];rw[←s]) (fun k y q=>nO)
    (fun k y q=>Rt) (fun k y q=>qy)
   refine⟨fun j o' M f=>?_,Z⟩;by_cases e:i=j
   ·subst e;rw[J]at f;obtain rfl:=CO f;refine⟨?_,fun _=>X4⟩;rw[L,m,←s];exact hs.1
   exact Y j o' AL f
 | @ZE o rest σ σ' x E br rs ess bs d hs hd k U=>
   intro i hl u s z I O;subst hd;have J:ops[i]? =some o:=jo
   have L:r i=x:=s0
   have m:ev i=E:=by simpa using I 0 E BK
   have hbr:bar i=br:=by simpa using O 0 br BK
   obtain⟨Y,Z⟩:=U (i+1) (fun k=>nJ) Qb (by
    simp only[EJ,J,L,m];rw[←s]) (fun k y q=>nO)
    (fun k y q=>Rt) (fun k y q=>qy)
   refine⟨fun j o' M f=>?_,Z⟩;by_cases e:i=j
   ·subst e;rw[J]at f;obtain rfl:=CO f;rw[L,m,hbr,←s];exact hs
   exact Y j o' AL f
 | @skip o rest σ σ' rs ess bs d hg hd k U=>
   intro i hl u s z I O;subst hd;have J:ops[i]? =some o:=jo
   have L:r i=.d (.lit undef):=by simpa using z 0 (.d (.lit undef)) BK
   have m:ev i=σ.ents:=aFQ
   obtain⟨Y,Z⟩:=U (i+1) (fun k=>nJ) Qb (by
    rw[Ar.Uc];simp only[EJ,J,L,m];rw[←s]) (fun k y q=>nO)
    (fun k y q=>Rt) (fun k y q=>qy)
   refine⟨fun j o' M f=>?_,Z⟩;by_cases e:i=j
   ·subst e;rw[J]at f;obtain rfl:=CO f;exact⟨.inr ⟨L,X4,s▸hg⟩,fun _=>X4⟩
   exact Y j o' AL f
def Rj {σ0:Ar} {r:Nat→Ac} {ev:Nat→List BH} {t:Nat}:∀i,(∀j (o:Oper),j<i→ops[j]? =some o→o.dst≠some t)→(EJ ops σ0 r ev i).slots.getD t .junk=σ0.slots.getD t .junk
 |0,_=>rfl
 |i+1,h=>by
  have f:=Rj (σ0:=σ0) (r:=r) (ev:=ev) i (fun j o u m=>h j o AL m);simp only[EJ];split
  ·rename_i o m;have q:=h i o AL m;cases hd:o.dst with
   |none=>exact f
   |some d=>
    have s:d≠t:=fun e=>q (by rw[hd,e]);show((EJ ops σ0 r ev i).slots.set d (r i)).getD t .junk=_;rw[←f];simp[List.getD,Vb s]
  exact f
def SI {σ0:Ar} {r:Nat→Ac} {ev:Nat→List BH}:∀i,(EJ ops σ0 r ev i).slots.length=σ0.slots.length
 |0=>rfl
 |i+1=>by
  simp only[EJ];split
  ·rename_i o f;cases hd:o.dst with
   |none=>exact SI i
   |some d=>show((EJ ops σ0 r ev i).slots.set d (r i)).length=_;rw[Us];exact SI i
  exact SI i
def yw {σ0:Ar} {r:Nat→Ac} {ev:Nat→List BH}:∀i,(EJ ops σ0 r ev i).base=σ0.base
 |0=>rfl
 |i+1=>by
  simp only[EJ];split
  ·exact yw i
  exact yw i
def TM {σ0:Ar} {r:Nat→Ac} {ev:Nat→List BH} (f:∀(i j:Nat) (o m:Oper) (d:Tmp),ops[i]? =some o→ops[j]? =some m→o.dst=some d→m.dst=some d→i=j) {t j:Nat} {o:Oper} (q:ops[j]? =some o) (hd:o.dst=some t) (J:t<σ0.slots.length):
 ∀i,j<i→(EJ ops σ0 r ev i).slots.getD t .junk=r j
 |0,h=>AL
 |i+1,h=>by
  by_cases e:j=i
  ·subst e;simp only[EJ,q,hd];have hl:t<(EJ ops σ0 r ev j).slots.length:=by rw[SI];exact J
   show((EJ ops σ0 r ev j).slots.set t (r j)).getD t .junk=_;simp[List.getD,hl]
  have s:=TM (r:=r) (ev:=ev) f q hd J i AL;simp only[EJ];split
  ·rename_i m u;cases z:m.dst with
   |none=>exact s
   |some d=>
    have I:d≠t:=fun e'=>e (f j i o m t q u hd (by rw[z,e']));show((EJ ops σ0 r ev i).slots.set d (r i)).getD t .junk=_;rw[←s];simp[List.getD,Vb I]
  exact s
def aHt (h:UJ ops=true):∀(i:Nat) (o:Oper),ops[i]? =some o→(∀(j:Nat) (q:Oper) (d:Tmp),ops[j]? =some q→q.dst=some d→d∈tmpsOf o→Fe o j=true∨Fe q i=true)∧(∀j b,o.guard=some (j,b)→Fe o j=true):=by
 intro i o u;unfold UJ at h;rw[Dk]at h;have hi:i<ops.size:=(FN.1 u).1;have s:=h i FX;rw[u]at s;simp only[CP,Dk]at s;refine⟨fun j q d m hd z=>?_,fun j b I=>?_⟩
 ·have J:j<ops.size:=(FN.1 m).1;have f:=s.1 j gX;rw[m]at f;simp only[Af,hd,ZM,Qp]at f;rcases f with(f|f)|f
  ·have :(tmpsOf o).contains d=true:=Qw
   rw[this]at f;cases f
  ·exact .inl f
  exact .inr f
 have f:=s.2;rw[I]at f;exact f
def VT (ops:Array Oper) (bs:List Bool):Bool:=(List.range ops.size).all fun i=> !(bs.getD i false)||
 (((List.range i).all fun j=>(List.range (i+1)).any fun m=>decide (j<m)&&(match ops[m]? with |some o=>Fe o j|none=>false))&&
  ((List.range ops.size).all fun k=> !decide (i<k)||(List.range k).any fun m=>decide (i≤m)&&(match ops[k]? with |some o=>Fe o m|none=>false)))
def U2 {bs:List Bool} (h:VT ops bs=true) {i:Nat} (hi:i<ops.size) (L:bs.getD i false=true) {D:Nat→Prop} (hd:∀(j:Nat) (o:Oper),ops[j]? =some o→D j→∀m,Fe o m=true→D m)
 (M:∀(o:Oper),ops[i]? =some o→∀m,Fe o m=true→D m):∀j,j<i→D j:=by
 unfold VT at h;rw[Dk]at h;have u:=h i FX;simp only[L,ES,KU,CP,Dk]at u
 have key:∀n j,i-j≤n→j<i→D j:=by
  intro n
  induction n with
  |zero=>intro j O z;omega
  |succ n U=>
   intro j O z;have I:=u.1 j Qw;rw[Gm]at I;obtain⟨m,Y,J⟩:=I;simp only[Ze]at Y;simp only[CP,Fl]at J;obtain⟨h6,f⟩:=J;have q:m<ops.size:=AL
   have s:ops[m]? =some ops[m]:=by simp[q]
   rw[s]at f;by_cases e:m=i
   ·subst e;exact M _ s j f
   exact hd m _ s (U m AL AL) j f
 exact fun j Z=>key (i-j) j (Dw _) Z
def Fn1 {bs:List Bool} (h:VT ops bs=true) {i:Nat} (hi:i<ops.size) (U:bs.getD i false=true) {D:Nat→Prop} (hd:∀(j:Nat) (o:Oper),ops[j]? =some o→D j→∀m,Fe o m=true→D m):
 ∀k,i<k→∀(o:Oper),ops[k]? =some o→(∀m,Fe o m=true→D m)→D i:=by
 unfold VT at h;rw[Dk]at h;have I:=h i FX;simp only[U,ES,KU,CP,Dk]at I;intro k
 induction k using Nat.strongRecOn with
 |_ k Y=>
  intro u o J f;have Z:k<ops.size:=(FN.1 J).1;have L:=I.2 k jS;simp only[u,decide_true,ES,KU,Gm]at L;obtain⟨m,M,O⟩:=L;simp only[Ze]at M;simp only[CP,Fl,J]at O;obtain⟨h6,h7⟩:=O;have q:=f m h7;by_cases e:m=i
  ·subst e;exact q
  have z:m<ops.size:=AL
  have s:ops[m]? =some ops[m]:=by simp[z]
  exact Y m M AL _ s (hd m _ s q)
def Tq (ops:Array Oper):Bool:=(List.range ops.size).all fun i=>match ops[i]? with
 |some o=>o.after.toList.all fun(e:Edge)=> !Region.binds .any e||decide (e.on<i)
 |none=>true
def aFL (h:Tq ops=true):∀(i:Nat) (o:Oper),ops[i]? =some o→∀e∈o.after.toList,Region.binds .any e=true→e.on<i:=by
 intro i o f e j m;unfold Tq at h;rw[Dk]at h;have hi:i<ops.size:=(FN.1 f).1;have :=h i FX;rw[f]at this;rw[Dk]at this;have :=this e j;simpa[m]using this
def AO.draw {id:Nat} {σ σ':Ar} {Q:Exit→Ar→Prop} {rs:List Ac} {ess:List (List BH)} {bs:List Bool} (hm:P.follows .mixedOrders=true) (Y:(Tq ops&&Tv ops&&TG ops σ.slots.length&&UJ ops)=true) (Z:VT ops bs=true)
 (h:El P ops ops.toList σ rs ess bs σ') (hQ:Q .normal σ'):AO P (.region id ops true) σ Q:=by
 refine⟨fun ro _ C ok H a w hh=>?_⟩;simp only[CP]at Y;obtain⟨⟨⟨he,hd⟩,hs⟩,hc⟩:=Y;have LK:=aFL he;have hinj:=aGi hd;have Y:=aHt hc
 have ET:∀(i:Nat) (o:Oper) (d:Tmp),ops[i]? =some o→o.dst=some d→d<σ.slots.length:=by
  intro i o d h1 h2;unfold TG at hs;rw[Dk]at hs;simpa using hs d (aDz h1 h2)
 let r:Nat→Ac:=fun i=>rs.getD i .junk
 let ev:Nat→List BH:=fun i=>ess.getD i []
 let bar:Nat→Bool:=fun i=>bs.getD i false
 obtain⟨Fv,hend⟩:=h.facts σ r ev bar 0 (fun k=>BK) BK rfl (fun k y hy=>aHa) (fun k y hy=>aEE) (fun k y hy=>by simp[bar,List.getD,hy])
 let U:Nat→Ar:=EJ ops σ r ev
 have hU:∀i,i<ops.size→(U (i+1)).ents=ev i:=by
  intro i hi;have M:ops[i]? =some ops[i]:=Oo
  show(EJ ops σ r ev (i+1)).ents=_;simp only[EJ,M];rfl
 have hconst:∀n lo,(∀b,lo≤b→b<lo+n→bar b=false)→lo+n≤ops.size→(U (lo+n)).ents=(U lo).ents:=by
  intro n
  induction n with
  |zero=>intro lo _ _;rfl
  |succ n ih=>
   intro lo z hle;have h1:=ih lo (fun b h1 h2=>z b h1 AL) AL;have hi:lo+n<ops.size:=AL
   have M:ops[lo+n]? =some ops[lo+n]:=Oo
   have h2:=(Fv (lo+n) _ AL M).2 (z (lo+n) AL AL);rw[←MH,hU _ hi,h2];exact h1
 have J:∀lo hi,lo≤hi→hi≤ops.size→(∀b,lo≤b→b<hi→bar b=false)→(U hi).ents=(U lo).ents:=by
  intro lo hi h1 h2 h3;obtain⟨n,rfl⟩:=aCJ h1;exact hconst n lo h3 h2
 refine Mem hm ?_
 let I:Array Bool→Act→World→Prop:=fun l a w=>l.size=ops.size∧∃ok H m,m≤ops.size∧(∀b,bar b=true→b<ops.size→(l.getD b false=true↔b<m))∧CW C ok H (U m).ents w∧a.tmps.size=σ.slots.length∧Marks C ok w a.defers∧
  (∀t,t<σ.slots.length→(∀(j:Nat) (o:Oper),ops[j]? =some o→o.dst=some t→l.getD j false=false)→R ok w H (σ.slots.getD t .junk) (a.tmps.getD t undef))∧
  (∀(i:Nat) (o:Oper) (d:Tmp),ops[i]? =some o→o.dst=some d→l.getD i false=true→R ok w H (r i) (a.tmps.getD d undef))∧
  (∀(j:Nat) (o:Oper),ops[j]? =some o→l.getD j false=true→∀i,Fe o i=true→l.getD i false=true)
 refine wX I (fun l a w h=>h.1) ?_ ?_ ops.size _ _ _ ?_ ?_
 ·rintro l a w ⟨h1,ok,H,m,IQ,u,hmem0,hsz,hdf,h5,h6,h7⟩ i hi;unfold Region.ready at hi;rw[G7]at hi;obtain⟨hi1,hi2⟩:=hi;have hi':i<ops.size:=xg
  have M:ops[i]? =some ops[i]:=by simp[hi']
  simp only[CP]at hi2;have LM:=hi2.2;rw[M]at LM;simp only[HY,Lc]at LM;have abA:=fun e he=>(OX.1 LM) e he
  have hdone:∀j,Fe ops[i] j=true→l.getD j false=true∧j<i:=by
   intro j s;unfold Fe at s;rw[Gm]at s;obtain⟨e,hee,s⟩:=s;simp only[CP,Fl]at s;have :=abA e aEh;simp only[s.2,ES,KU]at this;rw[s.1]at this;exact⟨this,s.1▸LK i _ M e hee s.2⟩
  have L:l.getD i false=false:=by
   have h8:=hi2.1;have hil:i<l.size:=AL
   simp[Array.getD,hil]at h8 ⊢;exact h8
  have O:∀(j:Nat) (o:Oper),ops[j]? =some o→l.getD j false=true→∀m,Fe o m=true→l.getD m false=true:=fun j o s hl m hm=>h7 j o s hl m hm
  have hmem:CW C ok H (U i).ents w:=by
   have hE:(U i).ents=(U m).ents:=by
    by_cases him:i≤m
    ·refine(J i m him IQ (fun b h2 h3=>?_)).symm;rw[←Jb];intro z;have hbl:=(u b z AL).2 h3;by_cases e:b=i
     ·subst e;rw[L]at hbl;cases hbl
     have hob:ops[b]? =some (ops[b]' AL):=by simp[show b<ops.size by omega]
     have :=U2 Z (show b<ops.size by omega) z (D:=fun j=>l.getD j false=true) O (fun o M m hm=>O b o M hbl m hm) i AL;rw[L]at this;cases this
    refine J m i AL AL (fun b h2 h3=>?_);rw[←Jb];intro z;have :=Fn1 Z (show b<ops.size by omega) z (D:=fun j=>l.getD j false=true) O i h3 _ M (fun m hm=>(hdone m hm).1);exact absurd ((u b z AL).1 this) AL
   rw[hE];exact hmem0
  have hread:∀t,t∈tmpsOf ops[i]→R ok w H ((EJ ops σ r ev i).slots.getD t .junk) (a.tmps.getD t undef):=by
   intro t ht;by_cases hw:∃(j:Nat) (o:Oper),ops[j]? =some o∧o.dst=some t
   ·obtain⟨j,o,s,q⟩:=hw;rcases(Y i _ M).1 j o t s q ht with hce|hce
    ·obtain⟨hdj,hji⟩:=hdone j hce;rw[TM hinj s q (ET j o t s q) i hji];exact h6 j o t s q hdj
    have hij:i<j:=by
     unfold Fe at hce;rw[Gm]at hce;obtain⟨e,hee,hce⟩:=hce;simp only[CP,Fl]at hce;exact hce.1▸LK j _ s e hee hce.2
    rw[Rj i (fun j' o' hj' ho' hd'=>yu)];refine h5 t (ET j o t s q) (fun j' o' ho' hd'=>?_);have hjj:=hinj j j' o o' t s ho' q hd';subst hjj;rw[←Jb];intro hd;rw[h7 j o s hd i hce]at L;cases L
   have hw':∀(j:Nat) (o:Oper),ops[j]? =some o→o.dst≠some t:=fun j o h1 h2=>hw ⟨j,o,h1,h2⟩;rw[Rj i (fun j o _ s=>hw' j o s)];by_cases htn:t<σ.slots.length
   ·exact h5 t htn (fun j o s q=>absurd q (hw' j o s))
   rw[dI htn];exact .junk _
  have Qs:∀j d v,Fe ops[i] j=true→(ops[j]?).bind (·.dst)=some d→(EJ ops σ r ev i).slots.getD d .junk=.d (.lit v)→yielded ops a.tmps j=(match v with | .bool b=>some b|_=>none):=by
   intro j d v s q z;cases hoj:ops[j]? with
   |none=>rw[hoj]at q;simp at q
   |some oj=>
    rw[hoj]at q;simp only[Af]at q;obtain⟨hdj,hji⟩:=hdone j s;have hdn:=ET j oj d hoj q;rw[TM hinj hoj q hdn i hji]at z;have hv:=(z▸h6 j oj d hoj q hdj).bool
    have hs:a.tmps[d]? =some v:=by
     have :d<a.tmps.size:=by rw[hsz];exact hdn
     simp[Array.getD,this]at hv;simp[this,hv]
    unfold yielded;rw[hoj];simp only[Af,q,hs];cases v<;>rfl
  have hput:∀(x:Ac) (v:Value) (ok':Nat→Prop) (H':List Ba) (w':World),x=r i→Dz ok w ok' w'→Names H H'→CW C ok' H' (ev i) w'→R ok' w' H' x v→I (l.setIfInBounds i true) (a.put ops[i].dst v) w':=by
   intro x v ok' H' w' hx hgr hnm hmem' hR;subst hx
   have hother:∀(d t:Nat),ops[i].dst=some d→d≠t→(a.put ops[i].dst v).tmps.getD t undef=a.tmps.getD t undef:=by
    intro d t hd hne;rw[hd];exact aGY hne
   obtain⟨m',afR,YD,afS⟩:∃m',m'≤ops.size∧(∀b,bar b=true→b<ops.size→((l.setIfInBounds i true).getD b false=true↔b<m'))∧CW C ok' H' (U m').ents w':=by
    have hget:∀b,b≠i→(l.setIfInBounds i true).getD b false=l.getD b false:=fun b z=>by
     simp only[GU,JB (Ne.symm z)]
    have afT:(l.setIfInBounds i true).getD i false=true:=aGF
    cases hbi:bar i with
    |false=>
     refine⟨m,IQ,fun b z hbs=>?_,?_⟩
     ·have hne:b≠i:=fun e=>by subst e;rw[hbi]at z;cases z
      rw[hget b hne];exact u b z hbs
     have h2:=(Fv i _ AL M).2 hbi;rw[h2]at hmem'
     have hE:(U i).ents=(U m).ents:=by
      by_cases him:i≤m
      ·refine(J i m him IQ (fun b h2 h3=>?_)).symm;rw[←Jb];intro z;have hbl:=(u b z AL).2 h3;by_cases e:b=i
       ·subst e;rw[L]at hbl;cases hbl
       have :=U2 Z (show b<ops.size by omega) z (D:=fun j=>l.getD j false=true) O (fun o M m hm=>O b o M hbl m hm) i AL;rw[L]at this;cases this
      refine J m i AL AL (fun b h2 h3=>?_);rw[←Jb];intro z;have :=Fn1 Z (show b<ops.size by omega) z (D:=fun j=>l.getD j false=true) O i h3 _ M (fun m hm=>(hdone m hm).1);exact absurd ((u b z AL).1 this) AL
     rw[←hE];exact hmem'
    |true=>
     refine⟨i+1,AL,fun b z hbs=>?_,by rw[hU i hi'];exact hmem'⟩;by_cases e:b=i
     ·subst e;rw[afT];simp
     rw[hget b e];constructor
     ·intro hbl;apply UN;intro hn;have :=U2 Z hbs z (D:=fun j=>l.getD j false=true) O (fun o M m hm=>O b o M hbl m hm) i AL;rw[L]at this;cases this
     intro hlt;exact U2 Z hi' hbi (D:=fun j=>l.getD j false=true) O (fun o ho' m hm=>by rw[M]at ho';obtain rfl:=CO ho';exact(hdone m hm).1) b AL
   refine⟨by simp[h1],ok',H',m',afR,YD,afS,aDU,aID,?_,?_,?_⟩
   ·intro t ht hno
    have hne:ops[i].dst≠some t:=by
     intro e;have :=hno i _ M e;simp[Array.getD,h1,hi']at this
    have hold:(a.put ops[i].dst v).tmps.getD t undef=a.tmps.getD t undef:=by
     cases hdi:ops[i].dst with
     |none=>rfl
     |some d=>exact hdi▸hother d t hdi (fun e=>hne (by rw[hdi,e]))
    rw[hold];refine(h5 t ht (fun j o s q=>?_)).mono hgr hnm;have hij:i≠j:=fun e=>by subst e;rw[M]at s;obtain rfl:=CO s;exact hne q
    have :=hno j o s q;simpa only[GU,JB hij]using this
   ·intro k o d hk hkd hl;by_cases hik:i=k
    ·subst hik;rw[M]at hk;obtain rfl:=CO hk;rw[hkd,aIP (by rw[hsz];exact ET i _ d M hkd)];exact hR
    have hl':l.getD k false=true:=by
     simp only[GU,JB hik]at hl ⊢;exact hl
    have :=(h6 k o d hk hkd hl').mono hgr hnm;cases hdst:ops[i].dst with
    |none=>exact this
    |some d'=>
     have hne:d'≠d:=fun e=>hik (hinj i k _ _ d' M hk hdst (e▸hkd));rw[←hdst,hother d' d hdst hne];exact this
   intro j o s hl k hk;have hil:i<l.size:=AL
   by_cases hik:i=k
   ·subst hik;simp[Array.getD,hil]
   have hkk:l.getD k false=true:=by
    by_cases hij:i=j
    ·subst hij;rw[M]at s;obtain rfl:=CO s;exact(hdone k hk).1
    have hl':l.getD j false=true:=by
     simp only[GU,JB hij]at hl ⊢;exact hl
    exact h7 j o s hl' k hk
   simp only[GU,JB hik]at hkk ⊢;exact hkk
  unfold wpOpIn;rw[M];show if Region.wanted ops[i] (yielded ops a.tmps)=true then _ else _
  rcases(Fv i ops[i] AL M).1 with⟨ns,hop,ZF,hnt,hg⟩|⟨hx,hev,hg⟩
  ·have hwant:Region.wanted ops[i] (yielded ops a.tmps)=true:=by
    unfold Region.wanted;rcases hg with hg|⟨j,want,d,b,hg,s,z,rfl⟩
    ·rw[hg]
    rw[hg];show(yielded ops a.tmps j==some b)=true;rw[Qs j d _ ((Y i _ M).2 j b hg) s z];simp
   rw[Cb hwant];refine P5 ?_ (hop.YC ro C ok H a w _ hmem (fun n hn=>?_))
   ·rintro a' w' ⟨v,ok',H',rfl,hgr,hnn,hm',hx⟩;exact hput _ v ok' H' w' rfl hgr hnn hm' hx
   have hnv:=NY ZF n hn;obtain⟨x,y⟩:=n;simp only at hnv ⊢;subst hnv;cases x with
   |tmp t=>
    refine hread t ?_;rw[Dk]at hnt
    have :t∈LP ns:=by
     unfold LP;rw[Qi];exact⟨_,hn,rfl⟩
    simpa using hnt t this
   |const v=>exact .d _ _ (.lit v)
   |global g=>exact .d _ _ (.lit _)
   |func f=>exact .d _ _ (.fn (.func f) [] [] #[] #[] rfl rfl (fun i hi=>MN) (fun i hi=>MN))
  have hwant:Region.wanted ops[i] (yielded ops a.tmps)=false:=by
   unfold Region.wanted;obtain⟨j,want,d,v,hg,s,z,hv⟩:=hg;rw[hg];show(yielded ops a.tmps j==some want)=false;rw[Qs j d _ ((Y i _ M).2 j want hg) s z];rcases hv with rfl|rfl
   ·simp
   rfl
  rw[D9 (by rw[hwant];simp)];exact⟨fun _ _=>trivial,hput _ _ ok H w hx.symm (.refl _ _) (.refl _) aCK (.d _ _ (.lit _))⟩
 ·rintro l a w ⟨h1,ok,H,m,IQ,u,hmem,hsz,hdf,h5,h6,h7⟩ hr
  have hall:∀n i,i<n→i<ops.size→l.getD i false=true:=by
   intro n
   induction n with
   |zero=>intro i hi;omega
   |succ n ih=>
    intro i hi hi2;by_cases hn:i<n
    ·exact ih i hn hi2
    have hin:i=n:=AL
    subst hin;rw[←aCr];intro hf;have M:ops[i]? =some ops[i]:=by simp[hi2]
    have hmem:i∈Region.ready .any ops l:=by
     unfold Region.ready;rw[G7];refine⟨by simpa using hi2,?_⟩;have hil:i<l.size:=AL
     have hf':l.getD i true=false:=um
     rw[hf',M];simp only[Jm,G8,HY,Lc];rw[OX];intro e he;cases hbe:Region.binds .any e with
     |false=>simp
     |true=>
      have hlt:=LK i _ M e oC hbe;rw[ih e.on AL AL];simp
    rw[hr]at hmem;simp at hmem
  refine⟨ok,H,σ',?_,hQ⟩;subst hend
  have hE:(U ops.size).ents=(U m).ents:=J m ops.size IQ (Dw _) (fun b h2 h3=>by
   rw[←Jb];intro z
   exact absurd ((u b z h3).1 (hall (b+1) b AL h3)) AL)
  refine⟨ac0,by rw[SI];exact hsz,hdf,aDs,fun t ht=>?_⟩;rw[SI]at ht;by_cases hw:∃(j:Nat) (o:Oper),ops[j]? =some o∧o.dst=some t
  ·obtain⟨j,o,s,q⟩:=hw;have hjn:j<ops.size:=(FN.1 s).1;rw[TM hinj s q ht ops.size hjn];exact h6 j o t s q (hall (j+1) j AL hjn)
  have hw':∀(j:Nat) (o:Oper),ops[j]? =some o→o.dst≠some t:=fun j o h1 h2=>hw ⟨j,o,h1,h2⟩;rw[Rj ops.size (fun j o _ s=>hw' j o s)];exact h5 t ht (fun j o s q=>absurd q (hw' j o s))
 ·unfold toCome;simp
 refine⟨BK,ok,H,0,EF _,fun b z _=>yH,?_,hh.size,hh.defers.mono (fun b z=>⟨z,rfl⟩),fun t ht _=>?_,fun i o d _ _ hl=>?_,fun j o _ hl=>?_⟩
 ·exact⟨⟨hh.mem.fr.os,hh.mem.fr.tape,hh.mem.fr.output,hh.mem.fr.size,hh.mem.fr.block⟩,hh.mem.vY,hh.mem.vZ,hh.mem.jF,hh.mem.names,hh.mem.hlen,fun k e h h1 h2=>(hh.mem.ent k e h h1 h2).drew,hh.mem.blk,hh.mem.Cm⟩
 ·exact R.mono (w:=w) (ok:=ok) (w':={ w with drawn:=w.drawn+1 }) (fun b z=>⟨z,rfl⟩) (.refl _) (hh.slot t ht)
 ·simp[Array.getD]at hl
 simp[Array.getD]at hl
end
def Am (P:Program) (f:FuncId) (args:List Ac) (E:List BH) (m:Ac) (E':List BH):Prop:=
 ∀(ok:Nat→Prop) (X:List Nat) (H:List Ba) (w:World) (j:Array Value),CW ⟨w,ok,X,H⟩ ok H E w→j.size=args.length→(∀i,i<args.length→R ok w H (args.getD i .junk) (j.getD i undef))→
  Calls P f j w fun e w'=>∃v ok' H',e=.returned v∧CW ⟨w,ok,X,H⟩ ok' H' E' w'∧R ok' w' H' m v
def Holds.anp {C:Dv} {ok:Nat→Prop} {H:List Ba} {σ:Ar} {a:Act} {w:World} (h:Holds C ok H σ a w) (t:Nat):R ok w H (σ.slots.getD t .junk) (a.tmps.getD t undef):=h.get (.tmp t)
def Ar.enter (args:List Ac) (n:Nat) (E:List BH):Ar:=⟨args++List.replicate (n-args.length) .junk,E,E.length⟩
def R.lit {ok:Nat→Prop} {w:World} {H:List Ba} {u v:Value} (h:R ok w H (.d (.lit u)) v):v=u:=by
 cases h with |d _ _ h=>cases h;rfl
structure Dc (P:Program) (t:TypeId) (agg:Bool) (size:Nat):Prop where
 agg:∀w,(isAgg t).run P w=.ok agg w
 size:∀w,(sizeOf t).run P w=.ok size w
def aGG (P:Program) (t:TypeId) (agg:Bool) (size:Nat):Bool:=
 (match P.underlying t with |some (.struct _)|some (.array _ _)=>agg|some _=> !agg|none=>false)&&(match P.info? t with |some i=>decide (i.size=size)|none=>false)
def Ej {P:Program} {t:TypeId} {agg:Bool} {size:Nat} (h:aGG P t agg size=true):Dc P t agg size:=by
 unfold aGG at h;simp only[CP]at h;refine⟨fun w=>?_,fun w=>?_⟩
 ·have j:=h.1;cases m:P.underlying t with
  |none=>rw[m]at j;cases j
  |some d=>
   rw[m]at j;have e:(underlying t).run P w=.ok d w:=by simp[underlying,m]
   simp only[isAgg,Ei,e,Ep];cases d<;>cases agg<;>simp_all
 have f:=h.2;cases hi:P.info? t with
 |none=>rw[hi]at f;cases f
 |some i=>
  rw[hi]at f;have :i.size=size:=RJ
  simp[sizeOf,typeInfo,hi,this]
section
variable {P : Program} {o : Oper} {es : List BH}
def J6 {α:Type} {p:α→Prop} {a:α} (h:∀n∈[a],p n):p a:=h a BK
def EN {α:Type} {p:α→Prop} {a b:α} (h:∀n∈[a,b],p n):p a∧p b:=⟨h a BK,h b BK⟩
def aep {x:Operand} {v:Ac} (f:o.op=.move x):Bc P o [(x,v)] es v es:=
 .pure fun _ _ a _ _ _ j=>⟨a.eval x,by simp[execOp,f],j (x,v) BK⟩
def akF {x:Operand} {v:Ac} (f:o.op=.assign x):Bc P o [(x,v)] es v es:=
 .pure fun _ _ a _ _ _ j=>⟨a.eval x,by simp[execOp,f],j (x,v) BK⟩
def apc {c x y:Operand} {v:Ac} (b:Bool) (j:b=true) (m:o.op=.pick c x y):Bc P o [(c,.d (.lit (.bool b))),(x,v)] es v es:=
 .pure fun _ _ a _ _ _ f=>⟨a.eval x,by
  have :=(EN f).1.lit;simp only at this
  simp[execOp,m,this,asBool,j],(EN f).2⟩
def aoA {c x y:Operand} {v:Ac} (b:Bool) (j:b=false) (m:o.op=.pick c x y):Bc P o [(c,.d (.lit (.bool b))),(y,v)] es v es:=
 .pure fun _ _ a _ _ _ f=>⟨a.eval y,by
  have :=(EN f).1.lit;simp only at this
  simp[execOp,m,this,asBool,j],(EN f).2⟩
def DY {op:BinOp} {t t':TypeId} {x y:Operand} {u v r:Value} (q:o.op=.binOp op t x y t') (h:∀w,(binOp op t u v).run P w=.ok r w) (s:u.oneCell'=true∧u matches .int _ _| .string _| .bool _):
 Bc P o [(x,.d (.lit u)),(y,.d (.lit v))] es (.d (.lit r)) es:=
 .pure fun _ _ a w _ _ f=>⟨r,by
  have j:=(EN f).1.lit;have m:=(EN f).2.lit;simp only at j m
  have z:(eqGuard op t x y u v).run P w=.ok () w:=by
   unfold eqGuard;cases u<;>simp at s<;>(cases op<;>simp[pure,Sem.run_pure'])
  simp only[execOp,q,j,m,Ei,z,h w,Ep,FT],.d _ _ (.lit _)⟩
def aFb {op:UnOp} {t:TypeId} {x:Operand} {u r:Value} (j:o.op=.unOp op t x) (h:∀w,(Op.unary op u).run P w=.ok r w):Bc P o [(x,.d (.lit u))] es (.d (.lit r)) es:=
 .pure fun _ _ a w _ _ m=>⟨r,by
  have f:=(J6 m).lit;simp only at f
  simp only[execOp,j,f,Ei,h w,Ep,FT],.d _ _ (.lit _)⟩
def ad8 {s t:TypeId} {x:Operand} {u r:Value} (j:o.op=.convert s t x) (h:∀w,(convert s t u).run P w=.ok r w):Bc P o [(x,.d (.lit u))] es (.d (.lit r)) es:=
 .pure fun _ _ a w _ _ m=>⟨r,by
  have f:=(J6 m).lit;simp only at f
  simp only[execOp,j,f,Ei,h w,Ep,FT],.d _ _ (.lit _)⟩
def apx {x:Operand} {i:Nat} {xs:List Ac} {v:Ac} (s:o.op=.extract x i) (z:xs[i]? =some v):Bc P o [(x,.eF xs)] es v es:=
 .pure fun ok H a w _ _ I=>by
  have j:=J6 I;simp only at j;generalize J:a.eval x=u at j;cases j with
  |eF _ vs hl h=>
   obtain⟨hi,m⟩:=FC.1 z;have q:=h i hi;have L:xs.getD i .junk=v:=by simp[List.getD,hi,m]
   have f:i<vs.size:=AL
   have M:vs.getD i undef=vs[i]:=by simp[Array.getD,f]
   rw[L,M]at q;exact⟨vs[i],by simp[execOp,s,J,Instr.extract,f],q⟩
def amv {x:Operand} {t e:TypeId} {xs:List D} (s:P.underlying t=some (.slice e)) (j:o.op=.call { callee:=.builtin .len,args:= #[x],argTypes:= #[t] }):
 Bc P o [(x,.d (.sl xs))] es (.d (.lit (.int .i64 xs.length))) es:=
 .pure fun ok H a w _ _ z=>by
  have f:=J6 z;simp only at f;generalize m:a.eval x=u at f;have q:(underlying t).run P w=.ok (.slice e) w:=by simp[underlying,s]
  refine⟨_,?_,.d _ _ (.lit _)⟩;cases f with
  |d _ _ h=>
   cases h with
   |sl0 ad cap=>simp[execOp,j,resolve,invoke,builtin,Builtin.len_,m,q,goInt]
   |sl _ b off cap size=>simp[execOp,j,resolve,invoke,builtin,Builtin.len_,m,q,goInt]
def aiO {x:Operand} {t:TypeId} {s:ByteArray} (j:P.underlying t=some .string) (m:o.op=.call { callee:=.builtin .len,args:= #[x],argTypes:= #[t] }):
 Bc P o [(x,.d (.lit (.string s)))] es (.d (.lit (.int .i64 s.size))) es:=
 .pure fun ok H a w _ _ q=>by
  have f:=(J6 q).lit;simp only at f;have u:(underlying t).run P w=.ok .string w:=uQ
  exact⟨_,by simp[execOp,m,resolve,invoke,builtin,Builtin.len_,f,u,goInt],.d _ _ (.lit _)⟩
def FV {es:List BH} {H:List Ba} {ok:Nat→Prop} {w:World} (m:∀(k:Nat) (e:BH) (h:Ba),es[k]? =some e→H[k]? =some h→EW ok w H h e) (hl:H.length=es.length) {k:Nat} {e:BH} (j:es[k]? =some e):
 ∃h,H[k]? =some h∧EW ok w H h e:=by
 have f:k<H.length:=by rw[hl];exact(FC.1 j).1
 exact⟨H[k],WU,m k e _ j WU⟩
def ag1 {x:Operand} {t e e':TypeId} {k s:Nat} {xs:List D} (M:es[k]? =some (.arr e' s xs)) (O:P.underlying t=some (.slice e)) (U:o.op=.call { callee:=.builtin .len,args:= #[x],argTypes:= #[t] }):
 Bc P o [(x,.aS k)] es (.d (.lit (.int .i64 xs.length))) es:=
 .pure fun ok H a w f hl Y=>by
  have j:=J6 Y;simp only at j;generalize Z:a.eval x=u at j;have hu:(underlying t).run P w=.ok (.slice e) w:=by simp[underlying,O]
  obtain⟨h,hh,m⟩:=FV f hl M;refine⟨_,?_,.d _ _ (.lit _)⟩;cases j with
  |aS _ ad n cap s' J=>
   rw[hh]at J;obtain rfl:=CO J;obtain⟨_,_,ys,⟨_,q⟩,_⟩:=m
   have z:n=xs.length:=by
    rcases q with⟨I,h3⟩|⟨g,L,cur,I,_⟩
    ·simp at I;omega
    simp at I;omega
   subst z;simp[execOp,U,resolve,invoke,builtin,Builtin.len_,Z,hu,goInt]
structure DF (P:Program) (t:TypeId) (f off:Nat):Prop where
 run:∀(b o:Nat) w,(Instr.fieldAt t (.pointer (some ⟨b,o,none⟩)) f).run P w=.ok (.pointer (some ⟨b,o+off,none⟩)) w
def aaz (P:Program) (t:TypeId) (f off:Nat):Bool:=
 match P.underlying t with
 |some (.struct m)=>match m[f]? with
  |some j=>decide (j.offset=off)&&(match P.info? j.type with |some i=>decide (i.size≠0)|none=>false)
  |none=>false
 |_=>false
def DL {P:Program} {t:TypeId} {f off:Nat} (h:aaz P t f off=true):DF P t f off:=by
 unfold aaz at h;refine⟨fun b o w=>?_⟩;split at h
 ·rename_i q s;split at h
  ·rename_i u z;simp only[CP,Fl]at h;obtain⟨I,j⟩:=h;split at j
   ·rename_i i hi;have J:(sizeOf u.type).run P w=.ok i.size w:=by simp[sizeOf,typeInfo,hi]
    have L:i.size≠0:=Ou
    have m:(underlying t).run P w=.ok (.struct q) w:=by simp[underlying,s]
    simp[Instr.fieldAt,m,z,Instr.sureAddr,fieldPlace,J,L,addr_add,I]
   cases j
  cases h
 cases h
def anD {x:Operand} {t:TypeId} {f off j:Nat} {cs:List D} (z:DF P t f off) (I:o.op=.fieldAddr t x f):Bc P o [(x,.d (.ref cs j))] es (.d (.ref cs (j+off))) es:=
 .pure fun ok H a w _ _ J=>by
  have m:=J6 J;simp only at m;generalize L:a.eval x=u at m;cases m with
  |d _ _ h=>
   cases h with
   |ref _ _ b p q s M O=>
    refine⟨.pointer (some ⟨b,p+(j+off),none⟩),?_,.d _ _ (.ref cs (j+off) b p q s M O)⟩;simp only[execOp,I,L,Ei,z.run,Ep,FT,MH]
def aii {x:Operand} {t:TypeId} {f off k j:Nat} (q:DF P t f off) (z:o.op=.fieldAddr t x f):Bc P o [(x,.ptr k j)] es (.ptr k (j+off)) es:=
 .pure fun ok H a w _ _ I=>by
  have m:=J6 I;simp only at m;generalize J:a.eval x=u at m;cases m with
  |ptr _ _ b s h=>
   refine⟨.pointer (some ⟨b,j+off,none⟩),?_,.ptr _ _ b s h⟩;simp only[execOp,z,J,Ei,q.run,Ep,FT]
def ajR {x:Operand} {t:TypeId} {f off k i j:Nat} (q:DF P t f off) (z:o.op=.fieldAddr t x f):Bc P o [(x,.kE k i j)] es (.kE k i (j+off)) es:=
 .pure fun ok H a w _ _ I=>by
  have m:=J6 I;simp only at m;generalize J:a.eval x=u at m;cases m with
  |kE _ _ _ b n cap s h=>
   refine⟨.pointer (some ⟨b,i*s+(j+off),none⟩),?_,.kE _ _ _ b n cap s h⟩;simp only[execOp,z,J,Ei,q.run,Ep,FT,MH]
def al8 {x y:Operand} {t e:TypeId} {k:IntKind} {i:Int} {xs:List D} {s:D} {agg:Bool} {size:Nat} (ht:P.underlying t=some (.slice e)) (hT:Dc P e agg size) (h0:0≤i) (hi:xs[i.toNat]? =some s) (z:s.cells.length=size)
 (ho:o.op=.indexAddr t x y):Bc P o [(x,.d (.sl xs)),(y,.d (.lit (.int k i)))] es (.d (.ref s.cells 0)) es:=
 .pure fun ok H a w _ _ U=>by
  have I:=(EN U).1;have Y:=(EN U).2.lit;simp only at I Y;generalize he:a.eval x=u at I;have hu:(underlying t).run P w=.ok (.slice e) w:=aF9
  obtain⟨m,J⟩:=FC.1 hi;cases I with
  |d _ _ h=>
   cases h with
   |sl0 ad cap=>simp at m
   |sl _ b off cap f Z L M hf hx hc=>
    have hd:xs.getD i.toNat DR=s:=by simp[List.getD,m,J]
    have O:f=size:=by rw[←M _ m,hd,z]
    subst O;refine⟨.pointer (some ⟨b,off+i.toNat*f+0,none⟩),?_,.d _ _ (.ref s.cells 0 b (off+i.toNat*f) (fun h=>L AL (by rw[z]at h;exact h)) ?_ ?_ ?_)⟩
    ·have hlen:0≤i∧i<(xs.length:Int):=⟨h0,AL⟩
     simp only[execOp,ho,he,Y,Instr.indexAt,asIntOf,Ei,FT,hu,Ep,Sem.run_ite,hlen,and_self,KD,hT.size,addr_add,OM]
    ·intro j q;rw[z]at q;rw[←hd];exact hf _ m j q
    ·intro j q;rw[z]at q;rw[MH];exact hx _ m j q
    intro j q;rw[z]at q;rw[MH,←hd];exact hc _ m j q
def asb {x y:Operand} {t e e':TypeId} {kd:IntKind} {i:Int} {k size:Nat} {xs:List D} {agg:Bool} (U:es[k]? =some (.arr e' size xs)) (Y:P.underlying t=some (.slice e)) (Z:Dc P e agg size) (h0:0≤i) (hi:i.toNat<xs.length)
 (ho:o.op=.indexAddr t x y):Bc P o [(x,.aS k),(y,.d (.lit (.int kd i)))] es (.kE k i.toNat 0) es:=
 .pure fun ok H a w j hl z=>by
  have m:=(EN z).1;have I:=(EN z).2.lit;simp only at m I;generalize he:a.eval x=u at m;have hu:(underlying t).run P w=.ok (.slice e) w:=by simp[underlying,Y]
  obtain⟨h,J,q⟩:=FV j hl U;cases m with
  |aS _ ad n cap s' L=>
   rw[J]at L;obtain rfl:=CO L;obtain⟨M,_,ys,⟨_,s⟩,_⟩:=q;simp only at M;subst M;rcases s with⟨f,h3⟩|⟨g,O,cur,f,_⟩
   ·omega
   simp only[fU]at f;obtain⟨rfl,rfl,rfl⟩:=f;refine⟨.pointer (some ⟨g,i.toNat*s'+0,none⟩),?_,.kE _ _ _ _ _ _ _ J⟩;have hlen:0≤i∧i<(xs.length:Int):=⟨h0,AL⟩
   simp only[execOp,ho,he,I,Instr.indexAt,asIntOf,Ei,FT,hu,Ep,Sem.run_ite,hlen,and_self,KD,Z.size,addr_add,Ie,OM]
def aoP {x y:Operand} {t:TypeId} {k:IntKind} {i:Int} {s:ByteArray} {c:UInt8} (q:P.underlying t=some .string) (u:0≤i) (hi:s[i.toNat]? =some c) (z:o.op=.index t x y):
 Bc P o [(x,.d (.lit (.string s))),(y,.d (.lit (.int k i)))] es (.d (.lit (.int .u8 c.toNat))) es:=
 .pure fun ok H a w _ _ f=>by
  have j:=(EN f).1.lit;have m:=(EN f).2.lit;simp only at j m;have I:(underlying t).run P w=.ok .string w:=by simp[underlying,q]
  exact⟨_,by simp only[execOp,z,j,m,Instr.index,asIntOf,Ei,FT,I,Ep,u,KD,hi],.d _ _ (.lit _)⟩
def Hr (l:List Ac):List D:=l.map fun | .d x=>x|_=>DR
def Ac.yF:Ac→Bool
 | .d _=>true
 |_=>false
def R.toD {ok:Nat→Prop} {w:World} {H:List Ba} {x:Ac} {v:Value} (h:R ok w H x v) (hd:x.yF=true):DT ok w ((fun | .d x=>x|_=>DR) x) v:=by
 cases h with
 |d _ _ h=>exact h
 |_=>simp[Ac.yF]at hd
def Nc (agg:Bool) (cs:List D) (off n:Nat):D:=if agg then .agg ((cs.drop off).take n)else cs.getD off DR
def aA6 {P:Program} {ok:Nat→Prop} {w:World} {t:TypeId} {agg:Bool} {n b p off:Nat} {cs:List D} (I:Dc P t agg n) (Y:off+n≤cs.length) (L:agg=false→n=1)
 (M:∀i,i<cs.length→(cs.getD i DR).leaf=true) (O:∀j,j<cs.length→(w.cell? ⟨b,p+j,none⟩).isSome=true) (J:∀j,j<cs.length→DT ok w (cs.getD j DR) (cellAt w b (p+j))):
 ∃v,(Instr.loadAt t (.pointer (some ⟨b,p+off,none⟩))).run P w=.ok v w∧DT ok w (Nc agg cs off n) v:=by
 have f:∀j,j<cs.length→w.cell? ⟨b,p+j,none⟩=some (cellAt w b (p+j)):=by
  intro j q;have :=O j q;obtain⟨u,U⟩:=Rz.1 this;simp[cellAt,U]
 cases agg with
 |false=>
  have :=L rfl;subst this;refine⟨cellAt w b (p+off),?_,J off AL⟩;have z:=f off AL;simp[Instr.loadAt,Instr.sureAddr,loadVar,I.agg,z]
 |true=>
  let vs:Array Value:=((List.range n).map fun j=>cellAt w b (p+(off+j))).toArray
  have m:vs.size=n:=by simp[vs]
  have s:∀j,j<n→vs.getD j undef=cellAt w b (p+(off+j)):=by
   intro j q;simp[vs,Array.getD,q]
  refine⟨.agg vs,?_,?_⟩
  ·simp only[Instr.loadAt,Instr.sureAddr,Ei,FT,Ep]
   have h:=ahP (P:=P) w t b (p+off) vs (I.agg w) (by rw[m];exact I.size w) (fun j q=>by
    rw[m]at q;rw[s j q,MH]
    exact f (off+j) AL)
   exact h
  simp only[Nc,KD];have hlen:((cs.drop off).take n).length=n:=E8
  have z:∀i,i<n→((cs.drop off).take n).getD i DR=cs.getD (off+i) DR:=by
   intro i hi;simp[List.getD,LZ hi,Nz]
  refine .agg _ vs (by rw[hlen,m]) (fun i hi=>?_) (fun i hi=>?_)
  ·rw[hlen]at hi;rw[z i hi];exact M _ AL
  rw[hlen]at hi;rw[z i hi,s i hi];exact J _ AL
def anf {x:Operand} {t:TypeId} {agg:Bool} {n off:Nat} {cs:List D} (m:Dc P t agg n) (q:off+n≤cs.length) (s:agg=false→n=1) (z:o.op=.load t x):
 Bc P o [(x,.d (.ref cs off))] es (.d (Nc agg cs off n)) es:=
 .pure fun ok H a w _ _ j=>by
  have f:=J6 j;simp only at f;generalize I:a.eval x=u at f;cases f with
  |d _ _ h=>
   cases h with
   |ref _ _ b p J L M O=>
    obtain⟨v,U,hd⟩:=aA6 m q s L M O;exact⟨v,by simp only[execOp,z,I,Ei,U,Ep,FT],.d _ _ hd⟩
def jR (l:List Ac):(Hr l).length=l.length:=by simp[Hr]
def adG {l:List Ac} {i:Nat} (h:i<l.length):(Hr l).getD i DR=(fun | .d x=>x|_=>DR) (l.getD i .junk):=by
 simp[Hr,List.getD,h]
def aFk {ok:Nat→Prop} {w:World} {H:List Ba} {h:Ba} {cs:List Ac} (J:EW ok w H h (.box cs)) (hd:cs.all Ac.yF=true):
 ∃b,h.v=.pointer (some ⟨b,0,none⟩)∧(∀i,i<(Hr cs).length→((Hr cs).getD i DR).leaf=true)∧(∀j,j<(Hr cs).length→(w.cell? ⟨b,0+j,none⟩).isSome=true)∧(∀j,j<(Hr cs).length→DT ok w ((Hr cs).getD j DR) (cellAt w b (0+j))):=by
 obtain⟨b,vs,T,L,M,O,s⟩:=J;rw[Dk]at hd
 have f:∀j,j<cs.length→w.cell? ⟨b,0+j,none⟩=some (vs.toList.getD j undef):=by
  intro j m;rw[Ie];have q:j<vs.size:=by simpa using(by omega:j<vs.toList.length)
  simp[World.cell?,M,q,List.getD]
 refine⟨b,L,fun i hi=>?_,fun j m=>?_,fun j m=>?_⟩
 ·rw[jR]at hi;rw[adG hi];have u:=(s i hi).1;have z:=hd (cs.getD i .junk) Ky;cases I:cs.getD i .junk with
  |d x=>rw[I]at u;exact u
  |_=>rw[I]at z;simp[Ac.yF]at z
 ·rw[jR]at m;rw[f j m];rfl
 rw[jR]at m;rw[adG m];unfold cellAt;rw[f j m];exact(s j m).2.toD (hd (cs.getD j .junk) (by simp[List.getD,m]))
def arZ {x:Operand} {t:TypeId} {agg:Bool} {k n off:Nat} {cs:List Ac} (L:es[k]? =some (.box cs)) (hd:cs.all Ac.yF=true) (M:Dc P t agg n) (O:off+n≤cs.length) (U:agg=false→n=1) (Y:o.op=.load t x):
 Bc P o [(x,.ptr k off)] es (.d (Nc agg (Hr cs) off n)) es:=
 .pure fun ok H a w j hl m=>by
  have f:=J6 m;simp only at f;generalize Z:a.eval x=u at f;obtain⟨h,hh,q⟩:=FV j hl L;obtain⟨b,z,hf,hx,hc⟩:=aFk q hd;cases f with
  |ptr _ _ b' s I=>
   rw[hh]at I;obtain rfl:=CO I;simp at z;subst z;obtain⟨v,J,hD⟩:=aA6 M (by rw[jR];exact O) U hf hx hc;rw[Ie]at J;exact⟨v,by simp only[execOp,Y,Z,Ei,J,Ep,FT],.d _ _ hD⟩
def aIx {x:Operand} {t:TypeId} {k off:Nat} {cs:List Ac} {v:Ac} (O:es[k]? =some (.box cs)) (U:cs[off]? =some v) (Y:Dc P t false 1) (Z:o.op=.load t x):Bc P o [(x,.ptr k off)] es v es:=
 .pure fun ok H a w m hl z=>by
  have j:=J6 z;simp only at j;generalize he:a.eval x=u at j;obtain⟨h,hh,b,vs,T,J,h2,h3,h4⟩:=FV m hl O;cases j with
  |ptr _ _ b' s L=>
   rw[hh]at L;obtain rfl:=CO L;simp at J;subst J;obtain⟨q,I⟩:=FC.1 U;have M:=(h4 off q).2;have e1:cs.getD off .junk=v:=by simp[List.getD,q,I]
   have f:off<vs.size:=by simpa using(by omega:off<vs.toList.length)
   have e2:vs.toList.getD off undef=vs[off]:=by simp[List.getD,f]
   rw[e1,e2]at M;refine⟨vs[off],?_,M⟩;have hc:w.cell? ⟨b',off,none⟩=some vs[off]:=by simp[World.cell?,h2,f]
   simp[execOp,Z,he,Instr.loadAt,Instr.sureAddr,loadVar,Y.agg,hc]
end
def CW.change {C:Dv} {ok ok':Nat→Prop} {H H':List Ba} {es es':List BH} {w w':World} (j:CW C ok H es w) (B:Nat→Prop)
 (hos:w'.os=w.os) (L:w'.tape=w.tape) (hout:w'.output=w.output) (m:w.heap.size≤w'.heap.size)
 (I:∀b,b<w.heap.size→¬B b→w'.heap[b]? =w.heap[b]?) (hB:∀b,B b→b<w.heap.size→¬ok b∧(C.w0.heap.size≤b∨b∈C.X))
 (hok:∀b,ok b→ok' b) (J:∀b,ok' b→ok b∨(w.heap.size≤b∧b<w'.heap.size)) (s:Names H H') (hlen:H'.length=es'.length)
 (u:∀(k:Nat) (e:BH) (h:Ba),es'[k]? =some e→H'[k]? =some h→
  (es[k]? =some e∧H[k]? =some h∧(e.live=true→∀b,DC h.v=some b→¬B b))∨
  (EW ok' w' H' h e∧(e.live=true→∀b,DC h.v=some b→¬ok' b∧b<w'.heap.size∧(C.w0.heap.size≤b∨b∈C.X)∧
   ∀(k':Nat) (e':BH) (h':Ba),k'≠k→es'[k']? =some e'→e'.live=true→H'[k']? =some h'→DC h'.v≠some b))):
 CW C ok' H' es' w'∧Dz ok w ok' w':=by
 have hg:Dz ok w ok' w':=fun b f=>⟨hok b f,I b (j.jF b f) (fun q=>(hB b q (j.jF b f)).1 f)⟩
 refine⟨⟨⟨hos.trans j.fr.os,L.trans j.fr.tape,hout.trans j.fr.output,Dn j.fr.size m,fun k hk hx=>?_⟩,fun b f=>hok b (j.vY b f),?_,?_,j.names.trans s,hlen,?_,?_,?_⟩,hg⟩
 ·have hkw:k<w.heap.size:=UM hk j.fr.size;rw[I k hkw (fun f=>(hB k f hkw).2.elim (fun h=>AL) hx)];exact j.fr.block k hk hx
 ·intro b f;rcases J b f with h|⟨h,_⟩
  ·exact j.vZ b h
  exact .inr (.inl (Dn j.fr.size h))
 ·intro b f;rcases J b f with h|⟨_,h⟩
  ·exact UM (j.jF b h) m
  exact h
 ·intro k e h Y Z;rcases u k e h Y Z with⟨z,h2,h3⟩|⟨z,_⟩
  ·exact(j.ent k e h z h2).mono hg s (fun hl b f=>I b (j.blk k e h b z hl h2 f).2.1 (h3 hl b f))
  exact z
 ·intro k e h b Y hl Z f;rcases u k e h Y Z with⟨z,h2,h3⟩|⟨_,z⟩
  ·have :=j.blk k e h b z hl h2 f;refine⟨fun q=>?_,UM this.2.1 m,this.2.2⟩;rcases J b q with h4|⟨h4,_⟩
   ·exact this.1 h4
   omega
  exact⟨(z hl b f).1,(z hl b f).2.1,(z hl b f).2.2.1⟩
 intro k k' e e' h h' b Y he' hl M Z hh' f q;apply UN;intro O;rcases u k e h Y Z with⟨z,h2,h3⟩|⟨_,z⟩
 ·rcases u k' e' h' he' hh' with⟨U,h2',h3'⟩|⟨_,U⟩
  ·exact O (j.Cm k k' e e' h h' b z U hl M h2 h2' f q)
  exact(U M b q).2.2.2 k e h O Y hl Z f
 exact(z hl b f).2.2.2 k' e' h' (fun e=>O e.symm) he' M hh' q
def xO {α:Type} {l:List α} {i:Nat} {z:α} (h:i<l.length):l.getD i z=l[i]:=by simp[List.getD,h]
def Uh {α:Type} {l:List α} {a x:α} {k:Nat} (h:(l++[a])[k]? =some x):l[k]? =some x∨(k=l.length∧x=a):=by
 by_cases j:k<l.length
 ·rw[Fr j]at h;exact .inl h
 have f:=(FC.1 h).1;simp at f;have :k=l.length:=AL
 subst this;simp at h;exact .inr ⟨rfl,h.symm⟩
def CW.push {C:Dv} {ok:Nat→Prop} {H:List Ba} {es:List BH} {w:World} (f:CW C ok H es w) (o:Obj) (h:Ba) (e:BH) (z:∀b,DC h.v=some b→b=w.heap.size)
 (he:EW ok (w.alloc o) (H++[h]) h e):CW C ok (H++[h]) (es++[e]) (w.alloc o)∧Dz ok w ok (w.alloc o):=by
 refine f.change (fun _=>False) rfl rfl rfl BK (fun b z _=>Io _ _ _ z) (fun _ h=>h.elim) (fun _ h=>h) (fun _ h=>.inl h) (Names.push _ _) (by simp[f.hlen]) ?_;intro k e' h' I m;rcases Uh I with u|⟨u,h2⟩
 ·left;refine⟨u,?_,fun _ _ _ h=>h⟩;have J:k<H.length:=by rw[f.hlen];exact(FC.1 u).1
  rwa [Fr J]at m
 subst h2;have J:k=H.length:=by rw[f.hlen];exact u
 subst J;simp at m;subst m;refine .inr ⟨he,fun _ b L=>?_⟩;obtain rfl:=z b L;refine⟨fun q=>absurd (f.jF _ q) AL,BK,.inl f.fr.size,fun k' M O U Y hl j s=>?_⟩;rcases Uh Y with q|⟨q,_⟩
 ·have Z:k'<H.length:=by rw[f.hlen];exact(FC.1 q).1
  rw[Fr Z]at j;exact absurd (f.blk k' M O _ q hl j s).2.1 AL
 rw[←f.hlen]at q;exact U q
def CW.fresh {C:Dv} {ok:Nat→Prop} {H:List Ba} {es:List BH} {w:World} (f:CW C ok H es w) (o:Obj):
 CW C (fun b=>ok b∨b=w.heap.size) H es (w.alloc o)∧Dz ok w (fun b=>ok b∨b=w.heap.size) (w.alloc o):=by
 refine f.change (fun _=>False) rfl rfl rfl BK (fun b j _=>Io _ _ _ j) (fun _ h=>h.elim) (fun _ h=>.inl h) (fun b h=>?_) (.refl _) f.hlen ?_
 ·rcases h with h|rfl
  ·exact .inl h
  exact .inr ⟨Dw _,BK⟩
 intro k e h m q;exact .inl ⟨m,q,fun _ _ _ h=>h⟩
def CW.drew {C:Dv} {ok:Nat→Prop} {H:List Ba} {es:List BH} {w:World} (f:CW C ok H es w):CW C ok H es w.drew∧Dz ok w ok w.drew:=
 f.change (fun _=>False) rfl rfl rfl (Dw _) (fun _ _ _=>rfl) (fun _ h=>h.elim) (fun _ h=>h) (fun _ h=>.inl h) (.refl _) f.hlen fun _ _ _ j m=>.inl ⟨j,m,fun _ _ _ h=>h⟩
def EW.dead {ok:Nat→Prop} {w:World} {H:List Ba} {h:Ba}:EW ok w H h .dead:=trivial
def R.ada {ok:Nat→Prop} {w:World} {H:List Ba} {x:Ac} {v:Value} (h:R ok w H x v) (hl:x.cells.all Ac.leaf=true):FH ok w H x.cells v.cells.toList:=by
 rw[Dk]at hl;cases h with
 |d x v h=>
  cases h with
  |agg cs vs M J O=>
   refine⟨by simp[Ac.cells,D.cells,Value.cells,M],fun i hi=>?_⟩;simp only[Ac.cells,D.cells,Ch]at hi;have U:(Ac.cells (.d (.agg cs))).getD i .junk=.d (cs.getD i DR):=by simp[Ac.cells,D.cells,List.getD,hi]
   have u:i<vs.size:=AL
   have L:(Value.cells (.agg vs)).toList.getD i undef=vs.getD i undef:=ad9
   rw[U,L];exact⟨J i hi,.d _ _ (O i hi)⟩
  |lit v=>
   have m:=hl (.d (.lit v)) (by simp[Ac.cells,D.cells]);have e:v.cells= #[v]:=by cases v<;>first|rfl|(simp[Ac.leaf,D.leaf,Value.oneCell']at m)
   refine⟨by simp[Ac.cells,D.cells,e],fun i hi=>?_⟩;simp[Ac.cells,D.cells]at hi;subst hi;rw[e];exact⟨m,.d _ _ (.lit v)⟩
  |sl0 ad cap=>
   refine⟨rfl,fun i hi=>?_⟩;simp[Ac.cells,D.cells]at hi;subst hi;exact⟨rfl,.d _ _ (.sl0 ad cap)⟩
  |sl es b off cap size m q z I Y Z=>
   refine⟨rfl,fun i hi=>?_⟩;simp[Ac.cells,D.cells]at hi;subst hi;exact⟨rfl,.d _ _ (.sl es b off cap size m q z I Y Z)⟩
  |ref cs off b o m q z I=>
   refine⟨rfl,fun i hi=>?_⟩;simp[Ac.cells,D.cells]at hi;subst hi;exact⟨rfl,.d _ _ (.ref cs off b o m q z I)⟩
  |fn f first cap vs us m q z I=>
   refine⟨rfl,fun i hi=>?_⟩;simp[Ac.cells,D.cells]at hi;subst hi;exact⟨rfl,.d _ _ (.fn f first cap vs us m q z I)⟩
  |LG t x v m=>
   refine⟨rfl,fun i hi=>?_⟩;simp[Ac.cells,D.cells]at hi;subst hi;exact⟨rfl,.d _ _ (.LG t x v m)⟩
 |ptr k off b s h=>
  exact⟨rfl,fun i hi=>by simp[Ac.cells]at hi;subst hi;exact⟨rfl,.ptr k off b s h⟩⟩
 |aS k ad n cap s h=>
  exact⟨rfl,fun i hi=>by simp[Ac.cells]at hi;subst hi;exact⟨rfl,.aS k ad n cap s h⟩⟩
 |kE k i off b n cap s h=>
  exact⟨rfl,fun j hi=>by simp[Ac.cells]at hi;subst hi;exact⟨rfl,.kE k i off b n cap s h⟩⟩
 |fn f first cap vs us m q z I=>
  exact⟨rfl,fun i hi=>by simp[Ac.cells]at hi;subst hi;exact⟨rfl,.fn f first cap vs us m q z I⟩⟩
 |mp k v s hl h=>
  have e:v.cells= #[v]:=by cases v<;>first|rfl|(simp[Value.oneCell']at hl)
  exact⟨by simp[Ac.cells,e],fun j hi=>by simp[Ac.cells]at hi;subst hi;rw[e];exact⟨rfl,.mp k v s hl h⟩⟩
 |clip xs ad h=>exact⟨rfl,fun i hi=>by simp[Ac.cells]at hi;subst hi;exact⟨rfl,.clip xs ad h⟩⟩
 |uo k ad n cap s h=>exact⟨rfl,fun i hi=>by simp[Ac.cells]at hi;subst hi;exact⟨rfl,.uo k ad n cap s h⟩⟩
 |eF xs vs m q=>have :=hl (.eF xs) (by simp[Ac.cells]);simp[Ac.leaf]at this
 |ag xs vs m J q=>
  refine⟨by simp[Ac.cells,Value.cells,m],fun i hi=>?_⟩;have u:i<vs.size:=by rw[m];exact hi
  have L:(Value.cells (.agg vs)).toList.getD i undef=vs.getD i undef:=ad9
  rw[L];exact⟨J i hi,q i hi⟩
 |junk v=>have :=hl .junk (by simp[Ac.cells]);simp[Ac.leaf]at this
section
variable {P : Program} {o : Oper} {es : List BH}
def aBH (w:World):∀b,DC (Ba.v ⟨.pointer (some ⟨w.heap.size,0,none⟩),0⟩)=some b→b=w.heap.size:=fun b f=>by simpa[DC]using f.symm
def Bc.eff {ns:List (Operand×Ac)} {x:Ac} {es':List BH}
 (h:∀(C:Dv) (ok:Nat→Prop) (H:List Ba) (a:Act) (w:World),CW C ok H es w→(∀n∈ns,R ok w H n.2 (a.eval n.1))→
  ∃v w' ok' H',((execOp a.eval o).run P w=.ok (.value v) w'∨(v=undef∧(execOp a.eval o).run P w=.ok .skip w'))∧Dz ok w ok' w'∧Names H H'∧CW C ok' H' es' w'∧R ok' w' H' x v):Bc P o ns es x es':=by
 intro C ok H a w Q u z;obtain⟨v,w',ok',H',f,j,m,q,s⟩:=h C ok H a w u z;unfold Oper.wp;rcases f with f|⟨rfl,f⟩
 ·rw[f];exact⟨v,ok',H',rfl,j,m,q,s⟩
 rw[f];exact⟨undef,ok',H',rfl,j,m,q,s⟩
def afG {t:TypeId} {x:Operand} {v:Ac} (hl:v.cells.all Ac.leaf=true) (q:o.op=.box t x):Bc P o [(x,v)] es (.ptr es.length 0) (es++[.box v.cells]):=
 .eff fun C ok H a w j s=>by
  have m:=J6 s;simp only at m
  have f:EW ok (w.alloc (.cells (a.eval x).cells t)) (H++[⟨.pointer (some ⟨w.heap.size,0,none⟩),0⟩]) ⟨.pointer (some ⟨w.heap.size,0,none⟩),0⟩ (.box v.cells):=
   ⟨w.heap.size,(a.eval x).cells,t,rfl,Vo w _,(m.ada hl).mono (fun b f=>⟨f,Io _ _ _ (j.jF b f)⟩) (Names.push _ _)⟩
  obtain⟨u,z⟩:=j.push (.cells (a.eval x).cells t) ⟨.pointer (some ⟨w.heap.size,0,none⟩),0⟩ _ (aBH w) f;refine⟨_,_,ok,_,.inl ?_,z,Names.push _ _,u,.ptr _ _ w.heap.size 0 iG⟩;simp[execOp,q,Instr.box,newVar,newRow]
def NP :Value→D
 | .slice none 0 0=>.sl []
 |v=>.lit v
def Zu {ok:Nat→Prop} {w:World} (v:Value):DT ok w (NP v) v:=by
 unfold NP;split
 ·exact .sl0 none 0
 exact .lit v
def qA {v:Value} (h:v.oneCell'=true):(NP v).leaf=true:=by
 unfold NP;split
 ·rfl
 exact h
def Eo (z:Value):List Ac:=z.cells.toList.map fun v=>.d (NP v)
def af9 {t:TypeId} {z:Value} (m:(P.info? t).bind (·.zero)=some z) (hl:z.cells.all (·.oneCell')=true) (q:o.op=.alloc t):Bc P o [] es (.ptr es.length 0) (es++[.box (Eo z)]):=
 .eff fun C ok H a w j M=>by
  have s:EW ok (w.alloc (.cells z.cells t)) (H++[⟨.pointer (some ⟨w.heap.size,0,none⟩),0⟩]) ⟨.pointer (some ⟨w.heap.size,0,none⟩),0⟩ (.box (Eo z)):=by
   refine⟨w.heap.size,z.cells,t,rfl,Vo w _,by simp[Eo],fun i hi=>?_⟩;simp only[Eo,Ch,QN]at hi;have u:(Eo z).getD i .junk=.d (NP z.cells[i]):=by simp[Eo,List.getD,hi]
   have I:z.cells.toList.getD i undef=z.cells[i]:=Ky
   rw[u,I];exact⟨qA ((OX.1 hl) _ BK),.d _ _ (Zu _)⟩
  obtain⟨J,L⟩:=j.push (.cells z.cells t) ⟨.pointer (some ⟨w.heap.size,0,none⟩),0⟩ _ (aBH w) s;refine⟨_,_,ok,_,.inl ?_,L,Names.push _ _,J,.ptr _ _ w.heap.size 0 iG⟩;obtain⟨i,hi,f⟩:=eu.1 m;simp[execOp,q,Instr.alloc,zeroValue,typeInfo,hi,f,newVar,newRow]
def KR {l:List BH} {k j:Nat} {a x:BH} (f:k<l.length) (h:(l.set k a)[j]? =some x):(j=k∧x=a)∨(j≠k∧l[j]? =some x):=by
 by_cases e:k=j
 ·subst e;simp[f]at h;exact .inl ⟨rfl,h.symm⟩
 rw[Vb e]at h;exact .inr ⟨fun h'=>e h'.symm,h⟩
def CW.upd {C:Dv} {ok:Nat→Prop} {H:List Ba} {w w':World} (I:CW C ok H es w) {k:Nat} {J e:BH} {h:Ba} {b:Nat} (hk:es[k]? =some J) (s:J.live=true) (hh:H[k]? =some h) (hb:DC h.v=some b)
 (hos:w'.os=w.os) (u:w'.tape=w.tape) (L:w'.output=w.output) (hsize:w'.heap.size=w.heap.size)
 (q:∀c,c≠b→w'.heap[c]? =w.heap[c]?) (he:Dz ok w ok w'→EW ok w' H h e):CW C ok H (es.set k e) w'∧Dz ok w ok w':=by
 have M:=I.blk k J h b hk s hh hb;have hg:Dz ok w ok w':=fun c f=>⟨f,q c (fun e=>M.1 (e▸f))⟩
 refine I.change (fun c=>c=b) hos u L AL (fun c _ f=>q c f) (fun c f _=>by subst f;exact⟨M.1,M.2.2⟩) (fun _ h=>h) (fun _ h=>.inl h) (.refl _) (by simp[I.hlen]) ?_;intro j e' h' hj m;have O:k<es.length:=(FC.1 hk).1;rcases KR O hj with⟨rfl,rfl⟩|⟨z,U⟩
 ·rw[hh]at m;obtain rfl:=CO m;refine .inr ⟨he hg,fun _ c f=>?_⟩;rw[hb]at f;obtain rfl:=CO f;refine⟨M.1,AL,M.2.2,fun k' e'' h'' z hk' hl' Y Z=>z ?_⟩;rcases KR O hk' with⟨rfl,_⟩|⟨_,hk''⟩
  ·rfl
  exact I.Cm k' j e'' J h'' h b hk'' hk hl' s Y hh Z hb
 refine .inl ⟨U,m,fun hl c f hcb=>z ?_⟩;subst hcb;exact I.Cm j k e' J h' h c U hk hl s m hh f hb
def aE0 (w:World) (g:Nat) (cs:Array Value) (k:Nat) (h:k≠g):(w.setRow g cs).heap[k]? =w.heap[k]? :=setRow_other w g k cs h
def setAt {α:Type} (cs:List α) (off:Nat) (ys:List α):List α:=cs.take off++ys++cs.drop (off+ys.length)
def QJ {α:Type} {cs ys:List α} {off:Nat} (h:off+ys.length≤cs.length):(setAt cs off ys).length=cs.length:=by simp[setAt];omega
def X6 {α:Type} {cs ys:List α} {off:Nat} (h:off+ys.length≤cs.length) (i:Nat) (z:α):(setAt cs off ys).getD i z=if off≤i∧i<off+ys.length then ys.getD (i-off) z else cs.getD i z:=by
 unfold setAt;have f:(cs.take off).length=off:=E8
 by_cases hi:i<off
 ·rw[D9 AL];simp only[List.getD];rw[Gu,Fr AL,LZ hi]
 by_cases j:i<off+ys.length
 ·rw[Cb AL];simp only[List.getD];rw[Gu,Ir AL,f,Fr AL]
 rw[D9 AL];simp only[List.getD];rw[Ir E8,Nz];congr 2;simp;omega
def ace {t:TypeId} {x y:Operand} {k off n:Nat} {cs:List Ac} {v:Ac} (hk:es[k]? =some (.box cs)) (hl:v.cells.all Ac.leaf=true) (hs:∀w,(sizeOf t).run P w=.ok n w) (hn:v.cells.length=n) (hle:off+n≤cs.length) (ho:o.op=.store t x y):
 Bc P o [(x,.ptr k off),(y,v)] es .junk (es.set k (.box (setAt cs off v.cells))):=
 .eff fun C ok H a w M q=>by
  have O:=(EN q).1;have h2:=(EN q).2;simp only at O h2;generalize he:a.eval x=u at O;obtain⟨h,hh,U⟩:=FV M.ent M.hlen hk;obtain⟨b,vs,T,hb,j,z,I⟩:=U;have f:=h2.ada hl;cases O with
  |ptr _ _ J s hH=>
   rw[hh]at hH;obtain rfl:=CO hH;simp at hb;subst hb;have m:(a.eval y).cells.toList.length=n:=by rw[f.1,hn]
   have ayv:vs.size=cs.length:=Qw
   have Y:(a.eval y).cells.size=n:=ay
   have hst:=aDn (P:=P) J off T (a.eval y).cells.toList 0 vs w j (by rw[m];omega) (fun u hu=>by
    obtain⟨i,hi,rfl⟩:=Hf hu;have L:=f.2 i (by rw[←f.1];exact hi);have :=L.2.leaf L.1
    rwa [xO hi]at this)
   simp only[OM]at hst;have hlt:J<w.heap.size:=(FN.1 j).1
   obtain⟨h3,h4⟩:=M.upd (e:=.box (setAt cs off v.cells)) (w':=w.setRow J (vs.toList.take off++(a.eval y).cells.toList++vs.toList.drop (off+(a.eval y).cells.toList.length)).toArray) hk rfl hh rfl rfl rfl rfl aDB (fun c hc=>aE0 _ _ _ _ hc) (fun hg=>by
    refine⟨J,_,T,rfl,oq w J vs _ T (0,0) j,?_,fun i hi=>?_⟩
    ·have Z:(vs.toList.take off++(a.eval y).cells.toList++vs.toList.drop (off+(a.eval y).cells.toList.length))=setAt vs.toList off (a.eval y).cells.toList:=rfl;rw[Z,zf,QJ (by have :=vs.length_toList;omega),QJ AL];simpa using z
    have Z:(vs.toList.take off++(a.eval y).cells.toList++vs.toList.drop (off+(a.eval y).cells.toList.length))=setAt vs.toList off (a.eval y).cells.toList:=rfl;rw[QJ AL]at hi;rw[Z,zf,X6 (by have :=vs.length_toList;omega),X6 AL,m,hn];split
    ·have L:=f.2 (i-off) AL;exact⟨L.1,L.2.mono hg (.refl _)⟩
    exact⟨(I i hi).1,(I i hi).2.mono hg (.refl _)⟩)
   refine⟨undef,_,ok,H,.inr ⟨rfl,?_⟩,h4,.refl _,h3,.junk _⟩;simp only[execOp,ho,he,Instr.storeAt,Instr.sureAddr,storeVar,Ei,FT,Ep,hs,Y,ne_eq,not_true_eq_false,Jl,hst]
end
def UD (x:D) (es:List D):flat (x::es)=x.cells.map .d++flat es:=Qv
def cD (xs ys:List D):flat (xs++ys)=flat xs++flat ys:=Qv
def Ph {size:Nat}:∀{es:List D},(∀x∈es,x.cells.length=size)→(flat es).length=es.length*size
 | [],_=>Qv
 |x::es,h=>by
  rw[UD,Dx,Ch,h x BK,Ph (fun y f=>h y (G9 _ f)),FK,Sl,P7]
def flat_get {size:Nat}:∀{es:List D},(∀x∈es,x.cells.length=size)→∀i j,i<es.length→j<size→(flat es).getD (i*size+j) .junk=.d ((es.getD i DR).cells.getD j DR)
 | [],_,i,j,hi,_=>MN
 |x::es,h,0,j,_,m=>by
  have f:=h x BK;rw[UD,Nat.zero_mul,Ie];simp only[List.getD];rw[Fr (by simp[f,m])];have q:j<x.cells.length:=AL
  simp[q]
 |x::es,h,i+1,j,hi,m=>by
  have f:=h x BK;have s:=flat_get (fun y u=>h y (G9 _ u)) i j FX m;rw[UD];simp only[List.getD]at s ⊢;rw[Ir (by simp[f,Sl];omega)];have e:(i+1)*size+j-(x.cells.map Ac.d).length=i*size+j:=by simp[f,Sl];omega
  rw[e,s];simp
section
variable {P : Program} {o : Oper} {es : List BH}
structure VK (w:World) (v:Value) (m size:Nat) (news:List Value):Prop where
 len:news.length=m*size
 one:∀u∈news,u.oneCell'=true
 at_:(∃ad c,v=.slice (some ad) m c∧∀(j:Nat) (u:Value),news[j]? =some u→w.cell? (ad.add j)=some u)∨(∃c,v=.slice none 0 c∧m=0)
def aK {ok:Nat→Prop} {w:World} (H:List Ba) {ys:List D} {v:Value} {size:Nat} (h:DT ok w (.sl ys) v) (Y:∀x∈ys,x.cells.length=size):
 ∃m,VK w v ys.length size m∧FH ok w H (flat ys) m:=by
 cases h with
 |sl0 ad cap=>
  refine⟨[],⟨BK,BK,?_⟩,Qv,fun i hi=>yN⟩;cases ad with
  |none=>exact .inr ⟨cap,rfl,rfl⟩
  |some ad=>exact .inl ⟨ad,cap,rfl,fun j u h=>Gw⟩
 |sl _ b off cap f hcap hok Z hf hx hc=>
  by_cases hy:ys=[]
  ·subst hy;refine⟨[],⟨BK,BK,.inl ⟨⟨b,off,none⟩,cap,rfl,fun j u h=>Gw⟩⟩,Qv,fun i hi=>yN⟩
  have s:0<ys.length:=aC7.2 hy;have hsz:f=size:=by rw[←Z 0 s];exact Y _ (by simp[List.getD,s])
  subst hsz;have hl:=Ph Y
  have key:∀k,k<ys.length*f→∃i j,k=i*f+j∧i<ys.length∧j<f:=by
   intro k q
   have hp:0<f:=by
    rcases XW f with h0|h0
    ·rw[h0,Nat.mul_zero]at q;omega
    exact h0
   exact⟨k/f,k % f,by rw[TP];exact(Fin k f).symm,qE (by rwa [TP]at q),ah _ hp⟩
  let m:List Value:=(List.range (ys.length*f)).map fun k=>cellAt w b (off+k)
  have z:m.length=ys.length*f:=by simp[m]
  have J:∀k,k<ys.length*f→m.getD k undef=cellAt w b (off+k):=by
   intro k q;simp[m,List.getD,q]
  have I:FH ok w H (flat ys) m:=by
   refine⟨by rw[z,hl],fun k q=>?_⟩;rw[hl]at q;obtain⟨i,j,rfl,hi,L⟩:=key k q;rw[flat_get Y i j hi L,J _ q];exact⟨hf i hi j L,.d _ _ (hc i hi j L)⟩
  refine⟨m,⟨z,fun u hu=>?_,.inl ⟨⟨b,off,none⟩,cap,rfl,fun k u q=>?_⟩⟩,I⟩
  ·obtain⟨k,q,rfl⟩:=Hf hu;have h5:=I.2 k (by rw[←I.1];exact q);have :=h5.2.leaf h5.1
   rwa [xO q]at this
  obtain⟨M,rfl⟩:=FC.1 q;rw[addr_add];have O:k<ys.length*f:=by rw[←z];exact M
  obtain⟨i,j,e,hi,L⟩:=key k O;have U:=hx i hi j L;rw[←e]at U;obtain⟨u',hu'⟩:=Rz.1 U;have :=J k O;rw[xO M]at this;rw[this];simp[cellAt,hu']
structure Fg (P:Program) (t e:TypeId) (size bytes:Nat):Prop where
 und:P.underlying t=some (.slice e)
 info:∃i z,P.info? e=some i∧i.zero=some z∧i.size=size∧i.bytes=bytes∧z.cells.size=size
 pos:0<size
def aJM (P:Program) (t e size f:Nat):Bool:=
 (match P.underlying t with |some (.slice e')=>decide (e'=e)|_=>false)&&(match P.info? e with |some i=>decide (i.size=size)&&decide (i.bytes=f)&&(match i.zero with |some z=>decide (z.cells.size=size)|none=>false)|none=>false)&&decide (0<size)
def KF {P:Program} {t e size f:Nat} (h:aJM P t e size f=true):Fg P t e size f:=by
 unfold aJM at h;simp only[CP,Fl]at h;obtain⟨⟨j,m⟩,s⟩:=h;refine⟨?_,?_,s⟩
 ·split at j
  ·rename_i e' u;rw[u];simp at j;rw[j]
  cases j
 split at m
 ·rename_i i hi;simp only[CP,Fl]at m;obtain⟨⟨I,J⟩,q⟩:=m;split at q
  ·rename_i z L;exact⟨i,z,hi,L,I,J,KH⟩
  cases q
 cases m
def arl {w:World} {t e:TypeId} {ty:TypeId} {size L:Nat} (hE:Fg P t e size L) {v:Value} {n:Nat} {xs:List Value} (I:w.ownsRow 0 e size v n xs) {x:Value} {m:Nat} {q:List Value} (f:VK w x m size q)
 (hb:(n+m)*L≤140737488355328) (hn:n+m≤maxLen):
 ∃v' w',(Builtin.append_ #[t,t] ty #[v,x]).run P w=.ok v' w'∧w'.ownsRow 0 e size v' (n+m) (xs++q)∧w.grownBy w' v.ownBlock∧(∀g,DC v'=some g→DC v=some g∨w.heap.size≤g):=by
 obtain⟨i,z,hi,hz,hs,U,hzs⟩:=hE.info;rcases f.at_ with⟨ad,c,rfl,s⟩|⟨c,rfl,rfl⟩
 ·obtain⟨v',w',hr,ho',hg,hnil⟩:=run_append_own (P:=P) w 0 t ty e i z size L hE.und hi hz hs U hzs hE.pos v n xs I ad m c q f.len s f.one hn hb (EF _);refine⟨v',w',hr,ho',hg,fun g M=>?_⟩;rcases I.2 with⟨rfl,rfl⟩|⟨g0,cap,Y,rfl,hbg,hg0,hnc,hcm,hcs,htake⟩
  ·have hx:xs=[]:=GY (by simpa using I.1);subst hx;obtain⟨v2,w2,J,ho2,_,_⟩:=run_append_own (P:=P) w w.heap.size t ty e i z size L hE.und hi hz hs U hzs hE.pos _ 0 [] (tZ w w.heap.size e size) ad m c q f.len s f.one hn hb (Dw _);rw[hr]at J;simp only[Result.ok.injEq]at J;obtain⟨rfl,rfl⟩:=J;rcases ho2.2 with⟨rfl,_⟩|⟨g',_,_,rfl,hle,_⟩
   ·simp[DC]at M
   simp[DC]at M;subst M;exact .inr hle
  by_cases O:n+m≤cap
  ·have hfit:n*i.size+q.length≤Y.size:=by rw[f.len,hcs,hs,←XG];exact Iu _ O
   have J:=run_append_room (P:=P) w t ty e i hE.und hi g0 n cap Y hg0 ad m c q aCo s f.one O hfit;rw[hr]at J;simp only[Result.ok.injEq]at J;obtain⟨rfl,rfl⟩:=J;exact .inl M
  have Z:∀(j:Nat) (u:Value),xs[j]? =some u→w.cell? ((⟨g0,0,none⟩:Addr).add j)=some u:=I.cells (g:=g0) rfl;have J:=run_append_grow (P:=P) w t ty e i z hE.und hi hz ⟨g0,0,none⟩ n cap xs (by rw[hs];exact I.1) Z ad m c q aCo s AL (by unfold maxLen at hn;omega) (growslice_fits AL (by rw[U];exact hb));rw[hr]at J;simp only[Result.ok.injEq]at J;obtain⟨rfl,rfl⟩:=J;simp[DC]at M;subst M;exact .inr (Dw _)
 have hnews:q=[]:=GY (by simpa using f.len);subst hnews;refine⟨v,w,?_,sD,⟨rfl,rfl,rfl,Dw _,fun _ _ _=>rfl⟩,fun g hg=>.inl hg⟩;rcases I.2 with⟨rfl,rfl⟩|⟨g,cap,Y,rfl,_,_,hnc,_⟩
 ·simp[Builtin.append_,rH hE.und,sizeOf,typeInfo,hi,Builtin.lenOf,Builtin.firstCells]
 simp[Builtin.append_,rH hE.und,sizeOf,typeInfo,hi,Builtin.lenOf,Builtin.firstCells,hnc,storeCells]
def aEQ {w:World} {t e:TypeId} {ty:TypeId} {size s:Nat} (hE:Fg P t e size s) {v:Value} {n:Nat} {xs:List Value} (q:lG w e size v n xs) {x:Value} {m:Nat} {j:List Value} (f:VK w x m size j)
 (hb:(n+m)*s≤140737488355328) (hn:n+m≤maxLen):
 ∃v' w',(Builtin.append_ #[t,t] ty #[v,x]).run P w=.ok v' w'∧lG w' e size v' (n+m) (xs++j)∧w.grownBy w' v.ownBlock∧(∀g,DC v'=some g→DC v=some g∨w.heap.size≤g):=by
 rcases q.2 with h|⟨g,cap,M,rfl,h0,Z,hnc,hcm,hcs,O⟩
 ·obtain⟨v',w',h1,h2,U,h4⟩:=arl (ty:=ty) hE ⟨q.1,.inl h⟩ f hb hn;exact⟨v',w',h1,.of h2,U,h4⟩
 obtain⟨i,z,hi,hz,hs,hby,hzs⟩:=hE.info;have hlen:(xs++j).length=(n+m)*size:=by rw[Dx,q.1,f.len,XG]
 rcases f.at_ with⟨ad,c,rfl,I⟩|⟨c,rfl,rfl⟩
 ·by_cases u:n+m≤cap
  ·have L:n*i.size+j.length≤M.size:=by
    rw[f.len,hs,←XG];exact Dn (Iu _ u) hcs
   have hr:=run_append_room (P:=P) w t ty e i hE.und hi g n cap M Z ad m c j aCo I f.one u L;rw[hs]at hr L;refine⟨_,_,hr,⟨hlen,.inr ⟨g,cap,_,rfl,EF _,oq w g M _ e _ Z,u,hcm,?_,?_⟩⟩,⟨rfl,rfl,rfl,BK,fun k _ hk=>setRow_other w g k _ (fun e=>hk (by simp[Value.ownBlock,e]))⟩,fun g' J=>.inl J⟩
   ·simp only[Zk,Dx,Gx,Jc,QN];omega
   rw[O,←hlen];exact aFa
  obtain⟨v',w',h1,h2,U⟩:=run_append_arg_grows (P:=P) w t ty e i z size s hE.und hi hz hs hby hzs hE.pos ⟨g,0,none⟩ n cap xs q.1 (q.cells (g:=g) rfl) ad m c j f.len I AL hn hb;refine⟨v',w',h1,.of h2,⟨U.os,U.tape,U.output,U.size,fun k hk _=>U.block k hk BK⟩,fun g' J=>.inr ?_⟩;rcases h2.2 with⟨rfl,_⟩|⟨g2,_,_,rfl,hle2,_⟩
  ·simp[DC]at J
  simp[DC]at J;subst J;exact hle2
 have Y:j=[]:=GY (by simpa using f.len);subst Y;refine⟨.slice (some ⟨g,0,none⟩) n cap,w,?_,KH,⟨rfl,rfl,rfl,Dw _,fun _ _ _=>rfl⟩,fun g hg=>.inl hg⟩;simp[Builtin.append_,rH hE.und,sizeOf,typeInfo,hi,Builtin.lenOf,Builtin.firstCells,hnc,storeCells]
def CW.turn {C:Dv} {ok:Nat→Prop} {H:List Ba} {w w':World} (f:CW C ok H es w) {k:Nat} {Y e:BH} {h h':Ba} (hk:es[k]? =some Y) (J:Y.live=true) (hh:H[k]? =some h)
 (hos:w'.os=w.os) (L:w'.tape=w.tape) (Z:w'.output=w.output) (M:w.heap.size≤w'.heap.size)
 (z:∀c,c<w.heap.size→DC h.v≠some c→w'.heap[c]? =w.heap[c]?) (hb':∀g,DC h'.v=some g→g<w'.heap.size∧(DC h.v=some g∨w.heap.size≤g))
 (he:Dz ok w ok w'→EW ok w' (H++[h']) h' e):CW C ok (H++[h']) (es.set k .dead++[e]) w'∧Dz ok w ok w':=by
 have h0:=fun b hb=>f.blk k Y h b hk J hh hb;have hkl:k<es.length:=(FC.1 hk).1;have hg:Dz ok w ok w':=fun c u=>⟨u,z c (f.jF c u) (fun e=>(h0 c e).1 u)⟩
 refine f.change (fun c=>DC h.v=some c) hos L Z M z (fun c u _=>⟨(h0 c u).1,(h0 c u).2.2⟩) (fun _ h=>h) (fun _ h=>.inl h) (Names.push _ _) (by simp[f.hlen]) ?_;intro j e' hj' hj q;rcases Uh hj with h1|⟨h1,h2⟩
 ·have hjl:j<H.length:=by rw[f.hlen];simpa using(FC.1 h1).1
  rw[Fr hjl]at q;rcases KR hkl h1 with⟨rfl,rfl⟩|⟨O,h3⟩
  ·exact .inr ⟨trivial,fun h=>Gt⟩
  refine .inl ⟨h3,q,fun hl c u hcb=>O ?_⟩;exact f.Cm j k e' Y hj' h c h3 hk hl J q hh u hcb
 subst h2;have hk2:j=H.length:=by rw[f.hlen];simpa using h1
 subst hk2;simp at q;subst q;refine .inr ⟨he hg,fun _ c u=>?_⟩;obtain⟨h3,m⟩:=hb' c u;refine⟨fun hok=>?_,h3,?_,fun k' e'' h'' O hk' U s I=>?_⟩
 ·rcases m with m|m
  ·exact(h0 c m).1 hok
  have :=f.jF c hok;omega
 ·rcases m with m|m
  ·exact(h0 c m).2.2
  exact .inl (Dn f.fr.size m)
 rcases Uh hk' with h5|⟨h5,_⟩
 ·have hkl':k'<H.length:=by rw[f.hlen];simpa using(FC.1 h5).1
  rw[Fr hkl']at s;rcases KR hkl h5 with⟨rfl,rfl⟩|⟨hne',h6⟩
  ·cases U
  rcases m with m|m
  ·exact hne' (f.Cm k' k e'' Y h'' h c h6 hk U J s hh I m)
  have :=(f.blk k' e'' h'' c h6 U s I).2.1;omega
 simp at h5;exact O (by rw[h5,f.hlen])
def qG {w:World} {e size n:Nat} {v:Value} {xs:List Value} (h:lG w e size v n xs) {g:Nat} (f:DC v=some g):g<w.heap.size:=by
 rcases h.2 with⟨rfl,_⟩|⟨m,_,_,rfl,_,j,_⟩
 ·simp[DC]at f
 simp[DC]at f;subst f;exact(FN.1 j).1
def aHe {w:World} {e size n:Nat} {v:Value} {xs:List Value} (h:lG w e size v n xs):v.ownBlock=DC v:=by
 rcases h.2 with⟨rfl,_⟩|⟨f,_,_,rfl,_⟩<;>rfl
def O8 {ok:Nat→Prop} {w:World} {H:List Ba} {k:Nat} {v:Value} {h:Ba} (j:R ok w H (.aS k) v) (m:H[k]? =some h):v=h.v:=by
 cases j with
 |aS _ ad n cap s f=>rw[m]at f;rw[CO f]
def ali {C:Dv} {ok:Nat→Prop} {H:List Ba} {w:World} (Y:CW C ok H es w) {t ty e:TypeId} {size j k:Nat} {xs ys:List D} (hE:Fg P t e size j) (hk:es[k]? =some (.arr e size xs))
 {v x:Value} (hv:R ok w H (.aS k) v) {f:List Value} (I:VK w x ys.length size f) (s:FH ok w H (flat ys) f) (Z:∀y∈ys,y.cells.length=size) (hb:(xs.length+ys.length)*j≤140737488355328) (hn:xs.length+ys.length≤maxLen):
 ∃v' w' H',(Builtin.append_ #[t,t] ty #[v,x]).run P w=.ok v' w'∧Dz ok w ok w'∧Names H H'∧CW C ok H' (es.set k .dead++[.arr e size (xs++ys)]) w'∧R ok w' H' (.aS es.length) v':=by
 obtain⟨h,hh,hok⟩:=FV Y.ent Y.hlen hk;obtain rfl:=O8 hv hh;obtain⟨h1,h2,z,q,hrs⟩:=hok;obtain⟨v',w',hr,u,J,L⟩:=aEQ (P:=P) (ty:=ty) hE q I hb hn
 obtain⟨h3,h4⟩:=Y.turn (h':=⟨v',size⟩) (e:=.arr e size (xs++ys)) hk rfl hh J.os J.tape J.output J.size (fun c hc hne=>J.block c hc (by rw[aHe q];exact fun e=>hne e.symm)) (fun g M=>⟨qG u M,L g M⟩) (fun O=>by
  refine⟨rfl,fun y hy=>?_,z++f,Md,?_⟩
  ·rcases Gf.1 hy with h|h
   ·exact h2 y h
   exact Z y h
  have U:=hrs.mono O (Names.push H [⟨v',size⟩]);have a2:=s.mono O (Names.push H [⟨v',size⟩]);rw[cD];refine⟨by rw[Dx,Dx,U.1,a2.1],fun i hi=>?_⟩;by_cases m:i<(flat xs).length
  ·have e1:(flat xs++flat ys).getD i .junk=(flat xs).getD i .junk:=by simp[List.getD,Fr m]
   have e2:(z++f).getD i undef=z.getD i undef:=by simp[List.getD,Fr (by rw[U.1];exact m:i<z.length)]
   rw[e1,e2];exact U.2 i m
  have hi3:i-(flat xs).length<(flat ys).length:=aEU
  have e1:(flat xs++flat ys).getD i .junk=(flat ys).getD (i-(flat xs).length) .junk:=by simp[List.getD,Ir (RI m)]
  have e2:(z++f).getD i undef=f.getD (i-(flat xs).length) undef:=by simp[List.getD,Ir (by rw[U.1];omega:z.length≤i),U.1]
  rw[e1,e2];exact a2.2 _ hi3)
 refine⟨v',w',_,hr,h4,Names.push _ _,h3,?_⟩;have hH:(H++[(⟨v',size⟩:Ba)])[es.length]? =some ⟨v',size⟩:=by rw[←Y.hlen];simp
 rcases u.2 with⟨rfl,_⟩|⟨g',c',_,rfl,_⟩
 ·exact .aS _ _ _ _ size hH
 exact .aS _ _ _ _ size hH
def aoH {s x:Operand} {t e:TypeId} {size f k:Nat} {xs ys:List D} (hE:Fg P t e size f) (M:es[k]? =some (.arr e size xs)) (j:∀y∈ys,y.cells.length=size)
 (O:(xs.length+ys.length)*f≤140737488355328) (U:xs.length+ys.length≤maxLen) (Y:o.op=.call { callee:=.builtin .append,args:= #[s,x],argTypes:= #[t,t] }):
 Bc P o [(s,.aS k),(x,.d (.sl ys))] es (.aS es.length) (es.set k .dead++[.arr e size (xs++ys)]):=
 .eff fun C ok H a w Z m=>by
  have I:=(EN m).1;have J:=(EN m).2;simp only at I J;have u:DT ok w (.sl ys) (a.eval x):=by cases J with |d _ _ h=>exact h
  obtain⟨L,q,z⟩:=aK H u j;obtain⟨v',w',H',hr,r1,r2,r3,r4⟩:=ali (ty:=o.type) Z hE M I q z j O U;refine⟨v',w',ok,H',.inl ?_,r1,r2,r3,r4⟩;simp[execOp,Y,resolve,invoke,builtin,hr]
def aEO {C:Dv} {ok:Nat→Prop} {H:List Ba} {w:World} (j:CW C ok H es w) (e:TypeId) (size:Nat):
 CW C ok (H++[⟨.slice none 0 0,size⟩]) (es++[.arr e size []]) w∧R ok w (H++[⟨.slice none 0 0,size⟩]) (.aS es.length) (.slice none 0 0):=by
 obtain⟨h,_⟩:=j.change (ok':=ok) (w':=w) (H':=H++[⟨.slice none 0 0,size⟩]) (es':=es++[.arr e size []]) (fun _=>False) rfl rfl rfl (Dw _) (fun _ _ _=>rfl) (fun _ h=>h.elim) (fun _ h=>h) (fun _ h=>.inl h) (Names.push _ _) (by simp[j.hlen]) (by
  intro k e' h' q f;rcases Uh q with m|⟨m,u⟩
  ·have s:k<H.length:=by rw[j.hlen];exact(FC.1 m).1
   rw[Fr s]at f;exact .inl ⟨m,f,fun _ _ _ h=>h⟩
  subst u;have s:k=H.length:=by rw[j.hlen];exact m
  subst s;simp at f;subst f
  exact .inr ⟨⟨rfl,BK,[],⟨BK,.inl ⟨rfl,rfl⟩⟩,Qv,fun i hi=>yN⟩,fun _ b z=>by simp[DC]at z⟩)
 exact⟨h,.aS _ _ _ _ size iG⟩
def Cc (e:TypeId) (size:Nat) (f:o.op=.assign (.const (.slice none 0 0))):Bc P o [] es (.aS es.length) (es++[.arr e size []]):=
 .eff fun C ok H a w j _=>by
  obtain⟨m,q⟩:=aEO j e size;exact⟨.slice none 0 0,w,ok,_,.inl aHm,.refl _ _,Names.push _ _,m,q⟩
def agc (f:o.op=.assign (.const (.slice none 0 0))):Bc P o [] es (.d (.sl [])) es:=
 .pure fun _ _ a w _ _ _=>⟨.slice none 0 0,aHm,.d _ _ (.sl0 none 0)⟩
def asN (f:o.op=.move (.const (.slice none 0 0))):Bc P o [] es (.d (.sl [])) es:=
 .pure fun _ _ a w _ _ _=>⟨.slice none 0 0,aHm,.d _ _ (.sl0 none 0)⟩
end
def acp (off:Nat):∀(vs:List Value) (i:Nat) (cells:Array Value),off+i+vs.length≤cells.size→
 ((vs.zipIdx i).foldl (fun cs (p:Value×Nat)=>cs.setIfInBounds (off+p.2) p.1) cells).toList=setAt cells.toList (off+i) vs
 | [],i,cells,h=>by simp[setAt]
 |v::vs,i,cells,h=>by
  simp only[FK]at h;rw[List.zipIdx_cons,Fa];rw[acp off vs (i+1) _ E8];simp only[aDg];have f:off+i<cells.toList.length:=E8
  unfold setAt;rw[aI3,Cb f];have j:(cells.toList.take (off+i)).length=off+i:=E8
  have m:(List.take (off+i) cells.toList++v::List.drop (off+i+1) cells.toList).take (off+(i+1))=cells.toList.take (off+i)++[v]:=by
   rw[aGJ,j,Ns AL];have :off+(i+1)-(off+i)=1:=AL
   rw[this];simp
  have q:(List.take (off+i) cells.toList++v::List.drop (off+i+1) cells.toList).drop (off+(i+1)+vs.length)=cells.toList.drop (off+i+(vs.length+1)):=by
   rw[List.drop_append,j,aBQ AL];have :off+(i+1)+vs.length-(off+i)=vs.length+1:=AL
   rw[this];simp[aEL];congr 1;omega
  rw[m,q];simp
def LD :List (Nat×Operand)→List Ac→List (Operand×Ac)
 |(_,x)::f,v::vs=>(x,v)::LD f vs
 |_,_=>[]
def Ld (place:Nat→Option (Nat×Nat)) (n:Nat):List (Nat×Operand)→List Ac→Bool
 |(i,_)::f,v::vs=>(match place i with |some (off,s)=>decide (v.cells.length=s)&&decide (off+s≤n)&&v.cells.all Ac.leaf|none=>false)&&Ld place n f vs
 | [],[]=>true
 |_,_=>false
def Iz (place:Nat→Option (Nat×Nat)):List Ac→List (Nat×Operand)→List Ac→List Ac
 |cs,(i,_)::f,v::vs=>Iz place (setAt cs ((place i).getD (0,0)).1 v.cells) f vs
 |cs,_,_=>cs
def FH.setAt {ok:Nat→Prop} {w:World} {H:List Ba} {cs ys:List Ac} {vs us:List Value} {off:Nat} (h:FH ok w H cs vs) (k:FH ok w H ys us) (f:off+ys.length≤cs.length):FH ok w H (setAt cs off ys) (setAt vs off us):=by
 refine⟨by rw[QJ (by rw[h.1,k.1];exact f),QJ f,h.1],fun i hi=>?_⟩;rw[QJ f]at hi;rw[X6 f,X6 (by rw[h.1,k.1];exact f),k.1];split
 ·exact k.2 _ AL
 exact h.2 i hi
def lV {ok:Nat→Prop} {w:World} {H:List Ba} {place:Nat→Option (Nat×Nat)} {a:Act}:∀(j:List (Nat×Operand)) (vs:List Ac) (cs:List Ac) (cells:Array Value),FH ok w H cs cells.toList→Ld place cs.length j vs=true→
 (∀n∈LD j vs,R ok w H n.2 (a.eval n.1))→∃f,Instr.fill place cells (j.map fun p=>(p.1,a.eval p.2))=some f∧FH ok w H (Iz place cs j vs) f.toList
 | [],[],cs,cells,z,_,_=>⟨cells,rfl,z⟩
 | [],_::_,_,_,_,h,_=>by simp[Ld]at h
 |_::_,[],_,_,_,h,_=>by simp[Ld]at h
 |(i,x)::j,v::vs,cs,cells,z,h,L=>by
  simp only[Ld,CP]at h;obtain⟨m,U⟩:=h;cases I:place i with
  |none=>rw[I]at m;cases m
  |some os=>
   obtain⟨off,s⟩:=os;rw[I]at m;simp only[CP,Fl]at m;obtain⟨⟨h3,h4⟩,Y⟩:=m;have M:FH ok w H v.cells (a.eval x).cells.toList:=(L (x,v) (by simp[LD])).ada Y;have Z:(a.eval x).cells.size=s:=by have :=M.1;simp at this;omega
   have O:cells.size=cs.length:=by simpa using z.1
   have q:((a.eval x).cells.zipIdx.foldl (fun cs (p:Value×Nat)=>cs.setIfInBounds (off+p.2) p.1) cells).toList=setAt cells.toList off (a.eval x).cells.toList:=by
    rw[←Array.foldl_toList,Array.toList_zipIdx];exact acp off (a.eval x).cells.toList 0 cells E8
   have u:=z.setAt M (off:=off) AL;rw[←q]at u;obtain⟨f,hc,hR⟩:=lV j vs (setAt cs off v.cells) _ u (by rw[QJ AL];exact U) (fun n J=>L n (by simp[LD,J]));refine⟨f,?_,?_⟩
   ·simp only[JD,Instr.fill,I];rw[D9 E8];exact hc
   simp only[Iz,I,Lc];exact hR
def OO (z:Value) (n:Nat):List Ac:=(List.range n).map fun k=>(Eo z).getD (k % z.cells.size) .junk
def afV {ok:Nat→Prop} {w:World} {H:List Ba} {z:Value} {n:Nat} (hl:z.cells.all (·.oneCell')=true) (m:0<z.cells.size):FH ok w H (OO z n) (((Array.range n).map (z.cells[· % z.cells.size]!)).toList):=by
 refine⟨by simp[OO],fun i hi=>?_⟩;have f:i<n:=by simpa[OO]using hi
 have j:i % z.cells.size<z.cells.size:=ah _ m;have q:(OO z n).getD i .junk=.d (NP z.cells[i % z.cells.size]):=by simp[OO,Eo,List.getD,f,j]
 have s:(((Array.range n).map (z.cells[· % z.cells.size]!)).toList).getD i undef=z.cells[i % z.cells.size]:=by simp[List.getD,f,j]
 rw[q,s];exact⟨qA ((OX.1 hl) _ BK),.d _ _ (Zu _)⟩
def aG0 {ok:Nat→Prop} {w:World} {H:List Ba} {z:Value} (hl:z.cells.all (·.oneCell')=true):FH ok w H (Eo z) z.cells.toList:=by
 refine⟨by simp[Eo],fun i hi=>?_⟩;simp only[Eo,Ch,QN]at hi;have f:(Eo z).getD i .junk=.d (NP z.cells[i]):=by simp[Eo,List.getD,hi]
 have j:z.cells.toList.getD i undef=z.cells[i]:=Ky
 rw[f,j];exact⟨qA ((OX.1 hl) _ BK),.d _ _ (Zu _)⟩
def aD7 {P:Program} {w:World}:∀(l:List Field),(∀f∈l,(P.info? f.type).isSome=true)→
 (l.mapM fun f=>(do pure (f.offset,←sizeOf f.type):Sem (Nat×Nat))).run P w=.ok (l.map fun f=>(f.offset,P.cellsOf f.type)) w
 | [],_=>rfl
 |f::l,h=>by
  obtain⟨i,hi⟩:=Rz.1 (h f BK);have j:=aD7 (P:=P) (w:=w) l (fun g m=>h g (by simp[m]));have q:(sizeOf f.type).run P w=.ok i.size w:=by simp[sizeOf,typeInfo,hi]
  have s:P.cellsOf f.type=i.size:=by simp[Program.cellsOf,hi]
  simp only[List.mapM_cons,Ei,q,Ep,FT,j,JD,s]
structure Hz (P:Program) (t:TypeId) (places:List (Nat×Nat)) (z:Value):Prop where
 fields:∃fs,P.underlying t=some (.struct fs)∧(∀f∈fs.toList,(P.info? f.type).isSome=true)∧(fs.toList.map fun f=>(f.offset,P.cellsOf f.type))=places
 zero:(P.info? t).bind (·.zero)=some z
 one:z.cells.all (·.oneCell')=true
def aMp (P:Program) (t:TypeId) (j:List (Nat×Nat)):Bool:=
 match P.underlying t with
 |some (.struct m)=>m.toList.all (fun f=>(P.info? f.type).isSome)&&decide ((m.toList.map fun f=>(f.offset,P.cellsOf f.type))=j)
 |_=>false
def Jg {P:Program} {t:TypeId} {f:List (Nat×Nat)} {z:Value} (h:aMp P t f=true) (j:(P.info? t).bind (·.zero)=some z) (m:z.cells.all (·.oneCell')=true):Hz P t f z:=by
 unfold aMp at h;split at h
 ·rename_i q s;simp only[CP,Dk,Fl]at h;exact⟨⟨q,s,h.1,h.2⟩,j,m⟩
 cases h
section
variable {P : Program} {o : Oper} {es : List BH}
def sJ {t:TypeId} {z:Value} (j:(P.info? t).bind (·.zero)=some z) (w:World):(zeroValue t).run P w=.ok z w:=by
 obtain⟨i,hi,f⟩:=eu.1 j;simp[zeroValue,typeInfo,hi,f]
def abO {l:List Ac} (h:l.all Ac.yF=true):l=(Hr l).map .d:=by
 rw[Dk]at h;unfold Hr;rw[ZI]
 conv=>lhs;rw[←List.map_id l]
 refine ig fun x f=>?_;have :=h x f;cases x<;>first|rfl|(simp[Ac.yF]at this)
def afF {t:TypeId} {m:Array (Nat×Operand)} {j:List (Nat×Nat)} {z:Value} (Y:Hz P t j z) (vs:List Ac) (Z:Ld (fun(i:Nat)=>j[i]?) (Eo z).length m.toList vs=true) (ho:o.op=.build t m):
 Bc P o (LD m.toList vs) es (.ag (Iz (fun(i:Nat)=>j[i]?) (Eo z) m.toList vs)) es:=
 .pure fun ok H a w _ _ hn=>by
  obtain⟨⟨O,hu,hf,u⟩,hz,h1⟩:=Y;have I:=sJ (P:=P) hz w;have J:(underlying t).run P w=.ok (.struct O) w:=aBy
  have hm:(O.mapM fun f=>(do pure (f.offset,←sizeOf f.type):Sem (Nat×Nat))).run P w=.ok j.toArray w:=by
   rw[aFT];rw[mW,aD7 _ hf,u];rfl
  obtain⟨q,hc,s⟩:=lV (place:=fun(i:Nat)=>j[i]?) m.toList vs (Eo z) z.cells (aG0 (ok:=ok) (w:=w) (H:=H) h1) Z hn;refine⟨.agg q,?_,.ag _ _ (by simpa using s.1) (fun i hi=>(s.2 i hi).1) (fun i hi=>?_)⟩
  rotate_left
  ·have U:=(s.2 i hi).2;have L:i<q.size:=by have :=s.1;simp at this;omega
   have M:q.toList.getD i undef=q.getD i undef:=by simp[List.getD,Array.getD,L]
   rw[M]at U;exact U
  have e:(m.map fun(i,x)=>(i,a.eval x)).toList=m.toList.map fun p=>(p.1,a.eval p.2):=BK
  have M:(fun(i:Nat)=>j.toArray[i]?)=(fun(i:Nat)=>j[i]?):=by funext i;simp
  simp only[execOp,ho,Instr.build,Ei,I,J,hm,Ep];rw[e,M,hc];rfl
def aq8 {t:TypeId} {m:Array (Nat×Operand)} {j:List (Nat×Nat)} {z:Value} (hS:Hz P t j z) (vs:List Ac) (hp:Ld (fun(i:Nat)=>j[i]?) (Eo z).length m.toList vs=true)
 (hd:(Iz (fun(i:Nat)=>j[i]?) (Eo z) m.toList vs).all Ac.yF=true) (ho:o.op=.build t m):
 Bc P o (LD m.toList vs) es (.d (.agg (Hr (Iz (fun(i:Nat)=>j[i]?) (Eo z) m.toList vs)))) es:=
 .pure fun ok H a w _ _ hn=>by
  obtain⟨⟨Y,hu,hf,s⟩,hz,h1⟩:=hS;have u:=sJ (P:=P) hz w;have I:(underlying t).run P w=.ok (.struct Y) w:=aBy
  have hm:(Y.mapM fun f=>(do pure (f.offset,←sizeOf f.type):Sem (Nat×Nat))).run P w=.ok j.toArray w:=by
   rw[aFT];rw[mW,aD7 _ hf,s];rfl
  obtain⟨q,hc,J⟩:=lV (place:=fun(i:Nat)=>j[i]?) m.toList vs (Eo z) z.cells (aG0 (ok:=ok) (w:=w) (H:=H) h1) hp hn;refine⟨.agg q,?_,.d _ _ ?_⟩
  ·have e:(m.map fun(i,x)=>(i,a.eval x)).toList=m.toList.map fun p=>(p.1,a.eval p.2):=BK
   have e2:(fun(i:Nat)=>j.toArray[i]?)=(fun(i:Nat)=>j[i]?):=by funext i;simp
   simp only[execOp,ho,Instr.build,Ei,u,I,hm,Ep];rw[e,e2,hc];rfl
  rw[abO hd]at J;generalize Hr (Iz (fun(i:Nat)=>j[i]?) (Eo z) m.toList vs)=xs at J ⊢;obtain⟨Z,L⟩:=J;simp only[Ch]at Z L
  have hg:∀i,i<xs.length→(xs.map Ac.d).getD i .junk=.d (xs.getD i DR):=by
   intro i hi;simp[List.getD,hi]
  have M:q.size=xs.length:=jS
  refine .agg xs q M ?_ ?_<;>intro i hi
  ·have :=(L i hi).1;rw[hg i hi]at this;exact this
  have O:=(L i hi).2;rw[hg i hi]at O;have U:i<q.size:=AL
  have e:q.toList.getD i undef=q.getD i undef:=by simp[List.getD,Array.getD,U]
  rw[e]at O;cases O with |d _ _ h=>exact h
def agZ {ok:Nat→Prop} {w:World} {H:List Ba} {ys:List D} {size b:Nat} {cells:Array Value} {e:TypeId} {fr:Nat×Nat} (m:∀y∈ys,y.cells.length=size) (J:w.heap[b]? =some (.cells cells e fr)) (q:ok b) (s:FH ok w H (flat ys) cells.toList):
 DT ok w (.sl ys) (.slice (some ⟨b,0,none⟩) ys.length ys.length):=by
 have hl:=Ph m;have u:cells.size=ys.length*size:=by have :=s.1;simp at this;omega
 have L:∀i,i<ys.length→ys.getD i DR∈ys:=fun i hi=>Ky
 have z:∀i j,i<ys.length→j<size→i*size+j<ys.length*size:=by
  intro i j hi f
  calc i*size+j<i*size+size:=AL
   _=(i+1)*size:=by rw[Sl]
   _≤ys.length*size:=Iu _ hi
 have I:∀i j,i<ys.length→j<size→w.cell? ⟨b,0+(i*size+j),none⟩=some (cells.toList.getD (i*size+j) undef):=by
  intro i j hi f;have :=z i j hi f;rw[Ie];simp[World.cell?,J,u,this,List.getD]
 refine .sl ys b 0 ys.length size (Dw _) (fun _ _=>q) (fun i hi=>m _ (L i hi)) (fun i hi j f=>?_) (fun i hi j f=>?_) (fun i hi j f=>?_)
 ·have :=(s.2 (i*size+j) (by rw[hl];exact z i j hi f)).1;rw[flat_get m i j hi f]at this;exact this
 ·rw[I i j hi f];rfl
 have :=(s.2 (i*size+j) (by rw[hl];exact z i j hi f)).2;rw[flat_get m i j hi f]at this;unfold cellAt;rw[I i j hi f];cases this with |d _ _ h=>exact h
def ab1 {t e:TypeId} {size m len:Nat} {z:Value} (hE:Fg P t e size m) (hz:(P.info? e).bind (·.zero)=some z) (h1:z.cells.all (·.oneCell')=true) (M:z.cells.size=size) (hlen:len*size≤16777216) {f:Array (Nat×Operand)} {vs:List Ac}
 (hp:Ld (fun i=>some (i*size,size)) (len*size) f.toList vs=true) {ok:Nat→Prop} {w:World} {H:List Ba} {a:Act} (hn:∀n∈LD f.toList vs,R ok w H n.2 (a.eval n.1)):
 ∃cells,(Instr.buildSlice t len (f.map fun(i,x)=>(i,a.eval x))).run P w=.ok (.slice (some ⟨w.heap.size,0,none⟩) len len) (w.alloc (.cells cells e))∧FH ok w H (Iz (fun i=>some (i*size,size)) (OO z (len*size)) f.toList vs) cells.toList:=by
 obtain⟨i,z',hi,_,hs,_,_⟩:=hE.info;have O:=sJ (P:=P) hz w;have q:(sizeOf e).run P w=.ok size w:=aFR
 have s:(underlying t).run P w=.ok (.slice e) w:=aHk
 have e0:(f.map fun(i,x)=>(i,a.eval x)).toList=f.toList.map fun p=>(p.1,a.eval p.2):=BK
 have U:(OO z (len*size)).length=len*size:=by simp[OO]
 have u:0<z.cells.size:=by rw[M];exact hE.pos
 obtain⟨j,Y,hR⟩:=lV (place:=fun i=>some (i*size,size)) f.toList vs (OO z (len*size)) _ (afV (ok:=ok) (w:=w) (H:=H) (n:=len*size) h1 u) (by rw[U];exact hp) hn;refine⟨j,?_,hR⟩;have I:¬(len*size>2^24):=AL
 by_cases J:len*size=0
 ·have Z:(Array.range (len*size)).map (fun k=>(z.cells[k % z.cells.size]! :Value))= #[]:=by rw[J];simp
  rw[Z]at Y;have L:(Array.range (len*size)).map (fun k=>((#[]:Array Value)[k % (#[]:Array Value).size]! :Value))= #[]:=by rw[J];simp
  simp only[Instr.buildSlice,Ei,s,Ep,q,I,Jl,Sem.run_ite,J,KD,FT];simp only[J]at L;rw[L,e0,Y];rfl
 simp only[Instr.buildSlice,Ei,s,Ep,q,I,Jl,Sem.run_ite,J,O,FT];rw[e0,Y];rfl
def aqS {t e:TypeId} {size j len:Nat} {z:Value} (hE:Fg P t e size j) (J:(P.info? e).bind (·.zero)=some z) (L:z.cells.all (·.oneCell')=true) (s:z.cells.size=size) (hlen:len*size≤16777216) {f:Array (Nat×Operand)} (vs:List Ac) (ys:List D)
 (M:Ld (fun i=>some (i*size,size)) (len*size) f.toList vs=true) (u:Iz (fun i=>some (i*size,size)) (OO z (len*size)) f.toList vs=flat ys) (hl:ys.length=len) (m:ys.all (fun y=>decide (y.cells.length=size))=true) (O:o.op=.buildSlice t len f):
 Bc P o (LD f.toList vs) es (.d (.sl ys)) es:=
 .eff fun C ok H a w U Y=>by
  obtain⟨cells,Z,q⟩:=ab1 hE J L s hlen M Y;rw[u]at q;obtain⟨h2,I⟩:=U.fresh (.cells cells e);refine⟨.slice (some ⟨w.heap.size,0,none⟩) len len,_,_,H,.inl ?_,I,.refl _,h2,.d _ _ ?_⟩
  ·simp only[execOp,O,Ei,Z,Ep,FT]
  rw[←hl];exact agZ (H:=H) (fun y u=>by rw[Dk]at m;simpa using m y u) (Vo w _) (.inr rfl) (q.mono I (.refl _))
def aLf {t e:TypeId} {size j len:Nat} {z:Value} (hE:Fg P t e size j) (Y:(P.info? e).bind (·.zero)=some z) (Z:z.cells.all (·.oneCell')=true) (L:z.cells.size=size) (hlen:len*size≤16777216) {f:Array (Nat×Operand)} (vs:List Ac) (ys:List D)
 (hp:Ld (fun i=>some (i*size,size)) (len*size) f.toList vs=true) (M:Iz (fun i=>some (i*size,size)) (OO z (len*size)) f.toList vs=flat ys) (hl:ys.length=len) (q:ys.all (fun y=>decide (y.cells.length=size))=true) (ho:o.op=.buildSlice t len f):
 Bc P o (LD f.toList vs) es (.aS es.length) (es++[.arr e size ys]):=
 .eff fun C ok H a w O hn=>by
  obtain⟨cells,hr,m⟩:=ab1 hE Y Z L hlen hp hn;rw[M]at m;have s:∀y∈ys,y.cells.length=size:=fun y M=>by rw[Dk]at q;simpa using q y M
  have hfl:=Ph s;have u:cells.size=ys.length*size:=by have :=m.1;simp at this;omega
  have I:=hE.pos
  have U:ys.length≤16777216:=by
   have :ys.length*1≤ys.length*size:=Nat.mul_le_mul_left _ I;rw[hl]at this ⊢;omega
  obtain⟨h2,h3⟩:=O.push (.cells cells e) ⟨.slice (some ⟨w.heap.size,0,none⟩) len len,size⟩ (.arr e size ys) (fun b J=>by simpa[DC]using J.symm) (by
   refine⟨rfl,s,cells.toList,⟨Md,.inr ⟨w.heap.size,len,cells,by rw[hl],EF _,Vo w _,AL,aAB,OZ (by rw[u,hl]),?_⟩⟩,?_⟩
   ·rw[Ns E8]
   exact m.mono (fun b J=>⟨J,Io _ _ _ (O.jF b J)⟩) (Names.push _ _))
  refine⟨.slice (some ⟨w.heap.size,0,none⟩) len len,_,ok,_,.inl ?_,h3,Names.push _ _,h2,.aS _ _ _ _ size (by rw[←O.hlen];simp)⟩;simp only[execOp,ho,Ei,hr,Ep,FT]
end
section
variable {P : Program} {ops : Array Oper} {Q : Exit → Act → World → Prop} {φ : Nat → Value → World → Prop} {W : World} {a0 : Act} {i : Nat}
variable {d : Option Tmp} {t : TypeId} {p : String} {af : Array Edge} {g : Option (Nat × Bool)}
def Enters (P:Program) (f:FuncId):Prop:=∀args w,(callFunc f args).run P w=.ok (.enter f args) w
def enters_of {f:FuncId} {fn:Func} {c:Code} (m:P.funcs[f]? =some fn) (j:(fn.name== "runtime.NumGoroutine")=false) (q:fn.body=some c):Enters P f:=by
 intro args w;have s:fn.name≠ "runtime.NumGoroutine" :=Ou
 simp[callFunc,m,s,q]
def DX (P:Program) (f:FuncId):Bool:=match P.funcs[f]? with
 |some fn=> !(fn.name== "runtime.NumGoroutine")&&fn.body.isSome
 |none=>false
def Qq {f:FuncId} (h:DX P f=true):Enters P f:=by
 unfold DX at h;cases j:P.funcs[f]? with
 |none=>rw[j]at h;cases h
 |some fn=>
  rw[j]at h;simp only[CP,Qp]at h;obtain⟨c,m⟩:=Rz.1 h.2;exact enters_of j h.1 m
def iR {o:Oper} {a:Act} {f:FuncId} {ats:Array TypeId} {ayD:Array Operand} (j:o.op=.call { callee:=.value (.func f),args:=ayD,argTypes:=ats }):execOp a.eval o=callFunc f (ayD.map a.eval):=by
 have m:a.eval (.func f)=.func (.func f) #[] #[]:=rfl;unfold execOp;simp[j,resolve,Deferred.ofValue,invoke,m]
end
inductive DV where
 |ent (k:Nat)
 |nil (size:Nat)
def DV.hd (H:List Ba):DV→Ba
 | .ent k=>H.getD k ⟨undef,0⟩
 | .nil s=>⟨.slice none 0 0,s⟩
def Ac.Qu (srcs:List DV) (n:Nat):Ac→Ac
 | .d x=>.d x
 | .ptr k off=>match srcs[k]? with |some (.ent j)=>.ptr j off|some (.nil _)=>.junk|none=>.ptr (n+(k-srcs.length)) off
 | .aS k=>match srcs[k]? with |some (.ent j)=>.aS j|some (.nil _)=>.junk|none=>.aS (n+(k-srcs.length))
 | .kE k i off=>match srcs[k]? with |some (.ent j)=>.kE j i off|some (.nil _)=>.junk|none=>.kE (n+(k-srcs.length)) i off
 | .mp k=>match srcs[k]? with |some (.ent j)=>.mp j|some (.nil _)=>.junk|none=>.mp (n+(k-srcs.length))
 | .uo k=>match srcs[k]? with |some (.ent j)=>.uo j|some (.nil _)=>.junk|none=>.uo (n+(k-srcs.length))
 | .clip xs=>.clip xs
 |_=>.junk
def Ac.up (srcs:List DV) (n:Nat):Ac→Ac
 | .eF xs=>.eF (xs.map (Ac.Qu srcs n))
 | .fn f fi ca=>.fn f (fi.map (Ac.Qu srcs n)) (ca.map (Ac.Qu srcs n))
 |x=>x.Qu srcs n
def aDG (srcs:List DV):Ac→Ac→Prop
 | .d x,y=>y=.d x
 | .ptr k off,y=>∃i,y=.ptr i off∧srcs[i]? =some (.ent k)
 | .mp k,y=>∃i,y=.mp i∧srcs[i]? =some (.ent k)
 |_,_=>False
def pq (srcs:List DV):List Ac→List Ac→Prop
 |x::xs,y::ys=>aDG srcs x y∧pq srcs xs ys
 | [],[]=>True
 |_,_=>False
def lT {srcs:List DV}:∀{xs ys:List Ac},pq srcs xs ys→xs.length=ys.length
 | [],[],_=>rfl
 |_::xs,_::ys,h=>by simp[lT h.2]
 | [],_::_,h=>h.elim
 |_::_,[],h=>h.elim
def aCT {srcs:List DV}:∀{xs ys:List Ac},pq srcs xs ys→∀i,i<ys.length→aDG srcs (xs.getD i .junk) (ys.getD i .junk)
 | [],[],_,i,hi=>MN
 |_::xs,_::ys,h,0,_=>by simpa using h.1
 |_::xs,_::ys,h,i+1,hi=>by simpa using aCT h.2 i FX
 | [],_::_,h,_,_=>h.elim
 |_::_,[],h,_,_=>h.elim
def ac5 (srcs:List DV):Ac→Ac→Prop
 | .fn f fi ca,y=>∃j m,y=.fn f j m∧pq srcs fi j∧pq srcs ca m
 | .d x,y=>y=.d x∨(∃i s,x=.lit (.slice none 0 0)∧y=.aS i∧srcs[i]? =some (.nil s))∨(x=.lit (.slice none 0 0)∧y=.d (.sl []))
 | .aS k,y=>∃i,y=.aS i∧srcs[i]? =some (.ent k)
 | .ptr k off,y=>∃i,y=.ptr i off∧srcs[i]? =some (.ent k)
 | .mp k,y=>∃i,y=.mp i∧srcs[i]? =some (.ent k)
 |_,_=>False
def BH.closed:BH→Bool
 | .box cs=>cs.all Ac.yF
 | .loop .. =>false
 |_=>true
def EW.any {ok:Nat→Prop} {w:World} {H H2:List Ba} {h:Ba} {e:BH} (j:EW ok w H h e) (u:e.closed=true):EW ok w H2 h e:=by
 cases e with
 |dead=>trivial
 |box cs=>
  obtain⟨b,vs,T,z,I,J,q⟩:=j;refine⟨b,vs,T,z,I,J,fun i hi=>⟨(q i hi).1,?_⟩⟩;have m:=(q i hi).2;simp only[BH.closed,Dk]at u;have f:=u (cs.getD i .junk) Ky;cases M:cs.getD i .junk with
  |d x=>rw[M]at m;cases m with |d _ _ h=>exact .d _ _ h
  |_=>rw[M]at f;simp[Ac.yF]at f
 |arr e s es=>
  obtain⟨z,I,xs,J,q,m⟩:=j;refine⟨z,I,xs,J,q,fun i hi=>⟨(m i hi).1,?_⟩⟩;have f:=(m i hi).2;have L:(flat es).getD i .junk∈flat es:=Ky
  unfold flat at L ⊢;simp only[Qj,F7]at L;obtain⟨x,_,y,_,O⟩:=L;unfold flat at f;rw[←O]at f ⊢;cases f with |d _ _ h=>exact .d _ _ h
 |map es=>exact j
 |bg es=>exact j
 |iter es vis=>exact j
 |loop=>cases u
def BH.up (srcs:List DV) (n:Nat):BH→BH
 | .box cs=>.box (cs.map (Ac.Qu srcs n))
 |e=>e
def Ac.aj2 (srcs:List DV):Ac→Bool
 | .d _=>true
 | .mp k=>match srcs[k]? with |some (.ent _)=>true|_=>false
 | .ptr k _=>match srcs[k]? with |some (.ent _)=>true|_=>false
 |_=>false
def BH.afU (srcs:List DV):BH→Bool
 | .box cs=>cs.all (Ac.aj2 srcs)
 | .loop .. =>false
 |_=>true
def BH.ahp (srcs:List DV) (n:Nat):BH→Bool
 | .box cs=>cs.all fun x=>x.yF||(x.Qu srcs n).leaf
 | .loop .. =>false
 |_=>true
def BH.YH (srcs:List DV) (n:Nat) (e:BH):(e.up srcs n).live=e.live:=by cases e<;>rfl
def aaj {srcs:List DV} {n:Nat} {x:Ac} (h:x.yF=true):x.Qu srcs n=x:=by cases x<;>first|rfl|cases h
def BH.apJ {srcs:List DV} {n:Nat} {e:BH} (h:e.closed=true):e.up srcs n=e:=by
 cases e with
 |box cs=>
  simp only[BH.closed,Dk]at h;show BH.box (cs.map (Ac.Qu srcs n))=BH.box cs
  rw[show cs.map (Ac.Qu srcs n)=cs from by
   conv=>rhs;rw[←List.map_id cs]
   exact ig fun x f=>aaj (h x f)]
 |_=>rfl
def aIg {srcs:List DV} {n:Nat}:∀{E:List BH},E.all BH.closed=true→E.map (BH.up srcs n)=E
 | [],_=>rfl
 |e::E,h=>by
  simp only[qw,CP]at h;rw[JD,BH.apJ h.1,aIg h.2]
def alC {srcs:List DV} {n:Nat} {e:BH} (h:e.closed=true):e.ahp srcs n=true:=by
 cases e with
 |box cs=>
  simp only[BH.closed,BH.ahp,Dk]at h ⊢;intro x f;rw[h x f];rfl
 |loop=>cases h
 |_=>rfl
def EW.down {ok:Nat→Prop} {w:World} {H Hc:List Ba} {h:Ba} {srcs:List DV} {n:Nat} {e:BH} (J:∀(j:Nat) (s:DV),srcs[j]? =some s→Hc[j]? =some (DV.hd H s)) (hd:e.afU srcs=true) (u:EW ok w H h (e.up srcs n)):EW ok w Hc h e:=by
 cases e with
 |dead=>trivial
 |arr=>exact u.any rfl
 |map=>exact u
 |bg=>exact u
 |iter=>exact u
 |loop=>cases hd
 |box cs=>
  obtain⟨b,vs,T,L,M,O,U⟩:=u;refine⟨b,vs,T,L,M,by rw[O,Ch],fun i hi=>?_⟩;obtain⟨z,m⟩:=U i aE4;rw[Td _ _ _ hi]at m z;simp only[BH.afU,Dk]at hd;have f:=hd (cs.getD i .junk) Ky;generalize cs.getD i .junk=x at m f z ⊢;generalize vs.toList.getD i undef=v at m ⊢;cases x with
  |d x=>exact⟨z,by cases m with |d _ _ h=>exact .d _ _ h⟩
  |mp k=>
   refine⟨rfl,?_⟩;simp only[Ac.aj2]at f;simp only[Ac.Qu]at m;cases q:srcs[k]? with
   |none=>rw[q]at f;cases f
   |some s=>
    cases s with
    |nil _=>rw[q]at f;cases f
    |ent j=>
     rw[q]at m;cases m with
     |mp _ _ s hl I=>
      refine .mp k _ s hl ?_;rw[J k _ q];simp[DV.hd,List.getD,I]
  |ptr k off=>
   refine⟨rfl,?_⟩;simp only[Ac.aj2]at f;simp only[Ac.Qu]at m;cases q:srcs[k]? with
   |none=>rw[q]at f;cases f
   |some s=>
    cases s with
    |nil _=>rw[q]at f;cases f
    |ent j=>
     rw[q]at m;cases m with
     |ptr _ _ b s I=>
      refine .ptr k off b s ?_;rw[J k _ q];simp[DV.hd,List.getD,I]
  |_=>simp[Ac.aj2]at f
def KA (srcs:List DV) (es E':List BH):List BH:=
 (es.zipIdx.map fun(e,j)=>match srcs.findIdx? (fun s=>match s with | .ent k=>k==j| .nil _=>false)with |some i=>(E'.getD i .dead).up srcs es.length|none=>e)++(E'.drop srcs.length).map (BH.up srcs es.length)
def Pj (srcs:List DV) (es E E':List BH):Bool:=
 decide (srcs.length=E.length)&&decide (srcs.length≤E'.length)&&E.all (BH.afU srcs)&&E'.all (BH.ahp srcs es.length)&&
 decide ((srcs.filterMap fun s=>match s with | .ent k=>some k| .nil _=>none).Nodup)&&
 ((srcs.zip E').all fun p=>match p.1 with | .ent _=>true| .nil _=> !p.2.live)&&(srcs.all fun s=>match s with | .ent k=>decide (k<es.length)&&(es.getD k .dead).live| .nil _=>true)
def oL (srcs:List DV) (es:List BH):List BH→Prop
 |E=>∀(i:Nat) (s:DV),srcs[i]? =some s→match s with | .ent k=>(E[i]?).map (BH.up srcs es.length)=es[k]? | .nil sz=>∃e,E[i]? =some (.arr e sz [])
def Rs {ok:Nat→Prop} {w:World} {H Hc H':List Ba} {srcs:List DV} {x:Ac} {v:Value} (O:Hc=srcs.map (DV.hd H)) (I:∀(i k:Nat),srcs[i]? =some (.ent k)→k<H.length) (U:Names Hc H') (h:R ok w H' x v):R ok w (H++H'.drop srcs.length) (x.Qu srcs H.length) v:=by
 have key:∀(k:Nat) (hd:Ba),H'[k]? =some hd→(∀(j:Nat),srcs[k]? =some (.ent j)→(H++H'.drop srcs.length)[j]? =some hd)∧(srcs[k]? =none→(H++H'.drop srcs.length)[H.length+(k-srcs.length)]? =some hd):=by
  intro k hd L;refine⟨fun j M=>?_,fun J=>?_⟩
  ·have z:=I k j M;have u:Hc[k]? =some (H.getD j ⟨undef,0⟩):=by rw[O,IY,M];rfl
   have q:=U _ _ u;rw[L]at q;rw[Fr z];simp[List.getD,z]at q;simp[z,q]
  have Y:srcs.length≤k:=gX
  rw[Ir AL,Nz];have :srcs.length+(H.length+(k-srcs.length)-H.length)=k:=AL
  rw[this,L]
 cases h with
 |d x v h=>exact .d x v h
 |ptr k off b s h=>
  obtain⟨u,q⟩:=key k _ h;simp only[Ac.Qu];split<;>rename_i m
  ·exact .ptr _ off b s (u _ m)
  ·exact .junk _
  exact .ptr _ off b s (q m)
 |aS k ad n cap s h=>
  obtain⟨u,q⟩:=key k _ h;simp only[Ac.Qu];split<;>rename_i m
  ·exact .aS _ ad n cap s (u _ m)
  ·exact .junk _
  exact .aS _ ad n cap s (q m)
 |kE k i off b n cap s h=>
  obtain⟨u,q⟩:=key k _ h;simp only[Ac.Qu];split<;>rename_i m
  ·exact .kE _ i off b n cap s (u _ m)
  ·exact .junk _
  exact .kE _ i off b n cap s (q m)
 |mp k v s hl h=>
  obtain⟨u,q⟩:=key k _ h;simp only[Ac.Qu];split<;>rename_i m
  ·exact .mp _ v s hl (u _ m)
  ·exact .junk _
  exact .mp _ v s hl (q m)
 |clip xs ad h=>exact .clip xs ad h
 |uo k ad n cap s h=>
  obtain⟨u,q⟩:=key k _ h;simp only[Ac.Qu];split<;>rename_i m
  ·exact .uo _ ad n cap s (u _ m)
  ·exact .junk _
  exact .uo _ ad n cap s (q m)
 |fn f first cap vs us hl Z h h'=>exact .junk _
 |eF xs vs hl h=>exact .junk _
 |ag xs vs hl hf h=>exact .junk _
 |junk v=>exact .junk _
def aMz {ok:Nat→Prop} {w:World} {H Hc H':List Ba} {srcs:List DV} {x:Ac} {v:Value} (m:Hc=srcs.map (DV.hd H)) (j:∀(i k:Nat),srcs[i]? =some (.ent k)→k<H.length) (q:Names Hc H') (h:R ok w H' x v):R ok w (H++H'.drop srcs.length) (x.up srcs H.length) v:=by
 cases h with
 |eF xs vs hl h=>exact .eF _ vs Y9 (fun i hi=>aJ8)
 |ag xs vs hl z h=>exact .junk _
 |d x v h=>exact Rs m j q (.d x v h)
 |ptr k off b s h=>exact Rs m j q (.ptr k off b s h)
 |aS k ad n cap s h=>exact Rs m j q (.aS k ad n cap s h)
 |kE k i off b n cap s h=>exact Rs m j q (.kE k i off b n cap s h)
 |mp k v s hl h=>exact Rs m j q (.mp k v s hl h)
 |clip xs ad h=>exact Rs m j q (.clip xs ad h)
 |uo k ad n cap s h=>exact Rs m j q (.uo k ad n cap s h)
 |fn f first cap vs us hl u h h'=>exact .fn f _ _ vs us Y9 (by simp[u]) (fun i hi=>aJ8) (fun i hi=>by rw[Ch]at hi;rw[Td _ _ _ hi];exact Rs m j q (h' i hi))
 |junk v=>exact .junk _
def EW.upw {ok:Nat→Prop} {w:World} {H Hc H':List Ba} {h:Ba} {srcs:List DV} {n:Nat} {e:BH} (s:Hc=srcs.map (DV.hd H)) (m:∀(i k:Nat),srcs[i]? =some (.ent k)→k<H.length) (u:Names Hc H') (hl:H.length=n) (q:e.ahp srcs n=true) (f:EW ok w H' h e):
 EW ok w (H++H'.drop srcs.length) h (e.up srcs n):=by
 cases e with
 |dead=>trivial
 |arr=>exact f.any rfl
 |map=>exact f
 |bg=>exact f
 |iter=>exact f
 |loop=>cases q
 |box cs=>
  obtain⟨b,vs,T,z,I,J,L⟩:=f;refine⟨b,vs,T,z,I,by rw[J,Ch],fun i hi=>?_⟩;rw[Ch]at hi;obtain⟨M,O⟩:=L i hi;simp only[BH.ahp,Dk]at q;have j:=q (cs.getD i .junk) Ky;rw[Td _ _ _ hi];refine⟨?_,by have :=Rs s m u O;rwa [hl]at this⟩;rcases Bool.or_eq_true_iff.1 j with j|j
  ·rw[aaj j];exact M
  exact j
def Ef :List Operand→List Ac→List (Operand×Ac)
 |x::xs,v::vs=>(x,v)::Ef xs vs
 |_,_=>[]
def Kt (srcs:List DV):List Ac→List Ac→Prop
 |x::xs,y::ys=>ac5 srcs x y∧Kt srcs xs ys
 | [],[]=>True
 |_,_=>False
def aeX {srcs:List DV}:∀{xs ys:List Ac},Kt srcs xs ys→xs.length=ys.length
 | [],[],_=>rfl
 |_::xs,_::ys,h=>by simp[aeX h.2]
 | [],_::_,h=>h.elim
 |_::_,[],h=>h.elim
def ar1 {srcs:List DV} {ops:List Operand}:∀{xs ys:List Ac},ops.length=xs.length→Kt srcs xs ys→∀i,i<ys.length→∃o x,ops[i]? =some o∧(o,x)∈Ef ops xs∧ac5 srcs x (ys.getD i .junk):=by
 induction ops with
 |nil=>
  intro xs ys hl h i hi;cases xs with
  |nil=>cases ys with |nil=>simp at hi|cons _ _=>exact h.elim
  |cons _ _=>simp at hl
 |cons o ops f=>
  intro xs ys hl h i hi;cases xs with
  |nil=>simp at hl
  |cons x xs=>
   cases ys with
   |nil=>exact h.elim
   |cons y ys=>
    cases i with
    |zero=>exact⟨o,x,rfl,by simp[Ef],h.1⟩
    |succ i=>
     obtain⟨j,m,q,s,u⟩:=f KX h.2 i FX;exact⟨j,m,KH,by simp[Ef,s],Md⟩
def amZ {srcs:List DV} {H:List Ba} {b:Nat}:b∈(srcs.filterMap fun s=>match s with | .ent k=>DC (H.getD k ⟨undef,0⟩).v| .nil _=>none)↔∃k,.ent k∈srcs∧DC (H.getD k ⟨undef,0⟩).v=some b:=by
 rw[Qi];constructor
 ·rintro⟨s,f,h⟩;cases s with
  |ent k=>exact⟨k,f,h⟩
  |nil _=>cases h
 rintro⟨k,f,h⟩;exact⟨_,f,h⟩
section
variable {P : Program} {o : Oper} {es : List BH}
def abM :∀{srcs:List DV},(srcs.filterMap fun s=>match s with | .ent k=>some k| .nil _=>none).Nodup→∀(i j k:Nat),srcs[i]? =some (.ent k)→srcs[j]? =some (.ent k)→i=j
 | [],_,i,j,k,h,_=>Gw
 |s::srcs,m,i,j,k,hi,q=>by
  have f:∀(n:Nat),srcs[n]? =some (.ent k)→k∈srcs.filterMap fun s=>match s with | .ent k=>some k| .nil _=>none:=fun n h=>by
   rw[Qi];exact⟨_,Tm h,rfl⟩
  have u:(srcs.filterMap fun s=>match s with | .ent k=>some k| .nil _=>none).Nodup:=by
   cases s with
   |ent k'=>simp only[Na]at m;exact(Jr.1 m).2
   |nil _=>simpa only[Na]using m
  match i,j with
  |0,0=>rfl
  |0,j+1=>
   simp at hi q;subst hi;simp only[Na]at m;exact absurd (f j q) (Jr.1 m).1
  |i+1,0=>
   simp at hi q;subst q;simp only[Na]at m;exact absurd (f i hi) (Jr.1 m).1
  |i+1,j+1=>rw[abM u i j k FX KH]
def aLP {f:FuncId} {C:Dv} {ok:Nat→Prop} {H:List Ba} {w:World} (Z:CW C ok H es w) (srcs:List DV) {dO eH:List Ac} {E E':List BH} {res:Ac} (hr:Am P f eH E res E')
 (hb:Pj srcs es E E'=true) (hE:oL srcs es E) (ha:Kt srcs dO eH) {ops:List Operand} (hl:ops.length=dO.length) {a:Act} (hn:∀n∈Ef ops dO,R ok w H n.2 (a.eval n.1)):
 Calls P f (ops.map a.eval).toArray w fun e w'=>∃v ok' H',e=.returned v∧Dz ok w ok' w'∧Names H H'∧CW C ok' H' (KA srcs es E') w'∧R ok' w' H' (res.up srcs es.length) v:=by
 unfold Pj at hb;simp only[CP,Fl,Dk]at hb;obtain⟨⟨⟨⟨⟨⟨hb1,hb2⟩,hb3⟩,hb4⟩,hb5⟩,hb6⟩,hb7⟩:=hb;have hidx:=abM hb5
 let Hc:=srcs.map (DV.hd H)
 let X:=srcs.filterMap fun s=>match s with | .ent k=>DC (H.getD k ⟨undef,0⟩).v| .nil _=>none
 have hX:∀b,b∈X↔∃k,.ent k∈srcs∧DC (H.getD k ⟨undef,0⟩).v=some b:=fun b=>amZ
 have U:∀(i k:Nat),srcs[i]? =some (.ent k)→k<es.length∧(es.getD k .dead).live=true:=by
  intro i k hi;have :=hb7 _ (Tm hi);simpa using this
 have hlt:∀(i k:Nat),srcs[i]? =some (.ent k)→k<H.length:=fun i k hi=>by rw[Z.hlen];exact(U i k hi).1
 have hHk:∀(k:Nat),k<H.length→H[k]? =some (H.getD k ⟨undef,0⟩):=fun k hk=>by simp[List.getD,hk]
 have ahq:∀(k:Nat),k<es.length→es[k]? =some (es.getD k .dead):=fun k hk=>by simp[List.getD,hk]
 have L:∀b,b∈X→∃(i k:Nat),srcs[i]? =some (.ent k)∧DC (H.getD k ⟨undef,0⟩).v=some b∧¬ok b∧b<w.heap.size∧(C.w0.heap.size≤b∨b∈C.X):=by
  intro b hb;obtain⟨k,hk,hbk⟩:=(hX b).1 hb;obtain⟨i,hi,M⟩:=Hf hk;have hi':srcs[i]? =some (.ent k):=by simp[hi,M]
  have :=Z.blk k _ _ b (ahq k (U i k hi').1) (U i k hi').2 (hHk k (hlt i k hi')) hbk;exact⟨i,k,hi',hbk,this⟩
 have hmc:CW ⟨w,ok,X,Hc⟩ ok Hc E w:=by
  refine⟨.refl _ _,fun _ h=>h,fun _ h=>.inl h,Z.jF,.refl _,by simp[Hc,hb1],?_,?_,?_⟩
  ·intro i e h M I;have hi:i<srcs.length:=aEy
   have hcl:e.afU srcs=true:=hb3 e (Tm M);have axG:∀(j:Nat) (s:DV),srcs[j]? =some s→Hc[j]? =some (DV.hd H s):=fun j s m=>by simp[Hc,m]
   have m:srcs[i]? =some srcs[i]:=Oo
   have hd:=hE i _ m;simp only[Hc,IY,m,HY,Jq]at I;cases hsi:srcs[i]with
   |ent k=>
    rw[hsi]at hd I m;simp only[DV.hd]at I;subst I;simp only at hd;rw[M,HY]at hd;exact EW.down axG hcl (Z.ent k _ _ hd.symm (hHk k (hlt i k m)))
   |nil sz=>
    rw[hsi]at hd I;simp only[DV.hd]at I;subst I;obtain⟨e',he'⟩:=hd;rw[M]at he';obtain rfl:=CO he';exact⟨rfl,BK,[],⟨BK,.inl ⟨rfl,rfl⟩⟩,Qv,fun i hi=>yN⟩
  ·intro i e h b M J I z;have hi:i<srcs.length:=aEy
   have m:srcs[i]? =some srcs[i]:=Oo
   simp only[Hc,IY,m,HY,Jq]at I;cases hsi:srcs[i]with
   |ent k=>
    rw[hsi]at I m;simp only[DV.hd]at I;subst I;have hbX:b∈X:=(hX b).2 ⟨k,Tm m,z⟩;obtain⟨_,_,_,_,O,Y,_⟩:=L b hbX;exact⟨O,Y,.inr hbX⟩
   |nil sz=>
    rw[hsi]at I;simp only[DV.hd]at I;subst I;simp[DC]at z
  intro i j e e' h h' b M he' J aeL I hh' z aeM;have hi:i<srcs.length:=aEy
  have hj:j<srcs.length:=by rw[hb1];exact(FC.1 he').1
  have m:srcs[i]? =some srcs[i]:=Oo
  have hs':srcs[j]? =some srcs[j]:=by simp[hj]
  simp only[Hc,IY,m,HY,Jq]at I;simp only[Hc,IY,hs',HY,Jq]at hh';cases hsi:srcs[i]with
  |nil sz=>rw[hsi]at I;simp only[DV.hd]at I;subst I;simp[DC]at z
  |ent k=>
   cases hsj:srcs[j]with
   |nil sz=>rw[hsj]at hh';simp only[DV.hd]at hh';subst hh';simp[DC]at aeM
   |ent k'=>
    rw[hsi]at I m;rw[hsj]at hh' hs';simp only[DV.hd]at I hh';subst I;subst hh';have hkk:=Z.Cm k k' _ _ _ _ b (ahq k (U i k m).1) (ahq k' (U j k' hs').1) (U i k m).2 (U j k' hs').2 (hHk k (hlt i k m)) (hHk k' (hlt j k' hs')) z aeM;subst hkk;exact hidx i j k m hs'
 have hargs:∀i,i<eH.length→R ok w Hc (eH.getD i .junk) ((ops.map a.eval).toArray.getD i undef):=by
  intro i hi;obtain⟨op,x,ho,hmem,harg⟩:=ar1 hl ha i hi;have hR:=hn _ hmem
  have e:(ops.map a.eval).toArray.getD i undef=a.eval op:=by
   obtain⟨O,Y⟩:=FC.1 ho;simp[Array.getD,O,Y]
  rw[e];simp only at hR;generalize eH.getD i .junk=y at harg ⊢;generalize a.eval op=u at hR ⊢;have hHc:∀(j:Nat) (s:DV),srcs[j]? =some s→Hc[j]? =some (DV.hd H s):=fun j s m=>by simp[Hc,m]
  cases x with
  |d x=>
   rcases harg with rfl|⟨j,s,rfl,rfl,m⟩|⟨rfl,rfl⟩
   ·cases hR with |d _ _ h=>exact .d _ _ h
   ·have :=hR.lit;rw[this];exact .aS j none 0 0 s (hHc j _ m)
   have :=hR.lit;rw[this];exact .d _ _ (.sl0 none 0)
  |aS k=>
   obtain⟨j,rfl,m⟩:=harg;cases hR with
   |aS _ ad n cap s hH=>
    refine .aS j ad n cap s ?_;rw[hHc j _ m];simp[DV.hd,List.getD,hH]
  |ptr k off=>
   obtain⟨j,rfl,m⟩:=harg;cases hR with
   |ptr _ _ b s hH=>
    refine .ptr j off b s ?_;rw[hHc j _ m];simp[DV.hd,List.getD,hH]
  |mp k=>
   obtain⟨j,rfl,m⟩:=harg;cases hR with
   |mp _ _ s hl hH=>
    refine .mp j _ s hl ?_;rw[hHc j _ m];simp[DV.hd,List.getD,hH]
  |fn f fi ca=>
   obtain⟨fi',ca',rfl,O,Y⟩:=harg
   have one:∀(x y:Ac) (v:Value),aDG srcs x y→R ok w H x v→R ok w Hc y v:=by
    intro x y v hxy hx;cases x with
    |d x=>obtain rfl:=hxy;cases hx with |d _ _ h=>exact .d _ _ h
    |mp k=>
     obtain⟨j,rfl,m⟩:=hxy;cases hx with
     |mp _ _ s hl hH=>
      refine .mp j _ s hl ?_;rw[hHc j _ m];simp[DV.hd,List.getD,hH]
    |ptr k off=>
     obtain⟨j,rfl,m⟩:=hxy;cases hx with
     |ptr _ _ b s hH=>
      refine .ptr j off b s ?_;rw[hHc j _ m];simp[DV.hd,List.getD,hH]
    |_=>exact hxy.elim
   cases hR with
   |fn _ _ _ vs us hl1 hl2 h3 h4=>
    refine .fn f fi' ca' vs us (by rw[hl1,lT O]) (by rw[hl2,lT Y]) (fun i hi=>?_) (fun i hi=>?_)
    ·exact one _ _ _ (aCT O i hi) (h3 i (by rw[lT O];exact hi))
    exact one _ _ _ (aCT Y i hi) (h4 i (by rw[lT Y];exact hi))
  |_=>exact harg.elim
 refine(hr ok X Hc w _ hmc (by simp[hl,aeX ha]) hargs).mono ?_;rintro e w' ⟨v,ok',H',rfl,q,hR⟩;have hgr:Dz ok w ok' w':=fun b hb=>⟨q.vY b hb,q.fr.block b (Z.jF b hb) (fun hbX=>by obtain⟨_,_,_,_,O,_⟩:=L b hbX;exact O hb)⟩
 have ayt:srcs.length≤H'.length:=by rw[q.hlen];exact hb2
 refine⟨v,ok',H++H'.drop srcs.length,rfl,hgr,Names.push _ _,?_,by have :=aMz rfl hlt q.names hR;rwa [Z.hlen]at this⟩
 let idx:Nat→Option Nat:=fun j=>srcs.findIdx? (fun s=>match s with | .ent k=>k==j| .nil _=>false)
 have awH:∀(j i:Nat),idx j=some i→srcs[i]? =some (.ent j):=by
  intro j i h;simp only[idx,aag]at h;obtain⟨O,Y,_⟩:=h;have :srcs[i]? =some srcs[i]:=by simp[O]
  cases m:srcs[i]with
  |ent k=>rw[m]at Y this;simp at Y;rw[this,Y]
  |nil _=>rw[m]at Y;simp at Y
 have awI:∀(j:Nat),idx j=none→∀(i:Nat),srcs[i]? ≠some (.ent j):=by
  intro j h i hi;simp only[idx,List.findIdx?_eq_none_iff]at h;have :=h _ (Tm hi);simp at this
 have hlow:∀(j:Nat),j<es.length→(KA srcs es E')[j]? =some (match idx j with |some i=>(E'.getD i .dead).up srcs es.length|none=>es.getD j .dead):=by
  intro j hj;unfold KA;rw[Fr (by simpa using hj)];simp only[IY,List.getElem?_zipIdx,ahq j hj,HY,Ie];rfl
 have avw:(KA srcs es E').length=es.length+(E'.length-srcs.length):=by simp[KA]
 have hhigh:∀(j:Nat),es.length≤j→(KA srcs es E')[j]? =(E'[srcs.length+(j-es.length)]?).map (BH.up srcs es.length):=by
  intro j hj;unfold KA;rw[Ir (by simpa using hj),IY,Nz];simp
 have awJ:∀(j:Nat),j<es.length→(H++H'.drop srcs.length)[j]? =H[j]? :=fun j hj=>Fr (by rw[Z.hlen];exact hj)
 have avx:∀(j:Nat),es.length≤j→(H++H'.drop srcs.length)[j]? =H'[srcs.length+(j-es.length)]? :=by
  intro j hj;rw[Ir (by rw[Z.hlen];exact hj),Nz,Z.hlen]
 have hcls:∀(j:Nat) (e:BH) (h:Ba),(KA srcs es E')[j]? =some e→e.live=true∨True→(H++H'.drop srcs.length)[j]? =some h→
  (∃(i:Nat) (e0:BH),e=e0.up srcs es.length∧E'[i]? =some e0∧H'[i]? =some h∧((j<es.length∧srcs[i]? =some (.ent j))∨(es.length≤j∧i=srcs.length+(j-es.length))))∨(j<es.length∧es[j]? =some e∧H[j]? =some h∧∀(i:Nat),srcs[i]? ≠some (.ent j)):=by
  intro j e h M _ I;by_cases hj:j<es.length
  ·rw[hlow j hj]at M;rw[awJ j hj]at I;cases hi:idx j with
   |none=>
    rw[hi]at M;simp only[Jq]at M;exact .inr ⟨hj,by rw[ahq j hj,M],I,awI j hi⟩
   |some i=>
    rw[hi]at M;simp only[Jq]at M;have m:=awH j i hi;have hil:i<srcs.length:=(FC.1 m).1;have hiE:i<E'.length:=AL
    refine .inl ⟨i,_,M.symm,by simp[List.getD,hiE],?_,.inl ⟨hj,m⟩⟩;refine q.names i h ?_;simp only[Hc,IY,m,HY,DV.hd];simp[List.getD,I]
  rw[hhigh j AL]at M;rw[avx j AL]at I;rw[TQ]at M;obtain⟨e0,M,rfl⟩:=M;exact .inl ⟨_,_,rfl,M,I,.inr ⟨AL,rfl⟩⟩
 have hold:∀(j:Nat) (e:BH) (h:Ba) (b:Nat),es[j]? =some e→H[j]? =some h→(∀(i:Nat),srcs[i]? ≠some (.ent j))→e.live=true→DC h.v=some b→b<w.heap.size∧b∉X∧¬ok b∧(C.w0.heap.size≤b∨b∈C.X):=by
  intro j e h b M I hno J z;have O:=Z.blk j e h b M J I z;refine⟨O.2.1,fun hbX=>?_,O.1,O.2.2⟩;obtain⟨i,k,m,hbk,_⟩:=L b hbX;have :=Z.Cm j k e _ h _ b M (ahq k (U i k m).1) J (U i k m).2 I (hHk k (hlt i k m)) z hbk;subst this;exact hno i m
 have ahr:∀(i:Nat) (e:BH) (h:Ba) (b:Nat),E'[i]? =some e→H'[i]? =some h→e.live=true→DC h.v=some b→¬ok' b∧b<w'.heap.size∧(w.heap.size≤b∨b∈X):=fun i e h b M I J z=>q.blk i e h b M J I z;refine⟨⟨q.fr.os.trans Z.fr.os,q.fr.tape.trans Z.fr.tape,q.fr.output.trans Z.fr.output,Dn Z.fr.size q.fr.size,fun k hk hx=>?_⟩,fun b hb=>q.vY b (Z.vY b hb),?_,q.jF,Z.names.trans (Names.push _ _),?_,?_,?_,?_⟩
 ·have hkw:k<w.heap.size:=UM hk Z.fr.size
  rw[q.fr.block k hkw (fun hkX=>by
   obtain⟨_,_,_,_,_,_,h⟩:=L k hkX;rcases h with h|h
   ·omega
   exact hx h)]
  exact Z.fr.block k hk hx
 ·intro b hb;rcases q.vZ b hb with h|h|h
  ·exact Z.vZ b h
  ·exact .inr (.inl (Dn Z.fr.size h))
  obtain⟨_,_,_,_,_,_,h⟩:=L b h;exact .inr h
 ·rw[avw,Dx,Jc,Z.hlen,q.hlen]
 ·intro j e h M I;rcases hcls j e h M (.inr trivial) I with⟨i,e0,rfl,O,Y,_⟩|⟨_,O,Y,h3⟩
  ·exact EW.upw rfl hlt q.names Z.hlen (hb4 e0 (Tm O)) (q.ent i e0 h O Y)
  refine(Z.ent j e h O Y).mono hgr (Names.push _ _) (fun J b z=>?_);have h4:=hold j e h b O Y h3 J z;exact q.fr.block b h4.1 h4.2.1
 ·intro j e h b M J I z;rcases hcls j e h M (.inr trivial) I with⟨i,e0,rfl,O,Y,_⟩|⟨_,O,Y,h3⟩
  ·have h4:=ahr i e0 h b O Y aDp z;refine⟨h4.1,h4.2.1,?_⟩;rcases h4.2.2 with h5|h5
   ·exact .inl (Dn Z.fr.size h5)
   obtain⟨_,_,_,_,_,_,h⟩:=L b h5;exact h
  have h4:=hold j e h b O Y h3 J z;refine⟨fun hok'=>?_,UM h4.1 q.fr.size,h4.2.2.2⟩;rcases q.vZ b hok' with h5|h5|h5
  ·exact h4.2.2.1 h5
  ·have :w.heap.size≤b:=h5;omega
  exact h4.2.1 h5
 intro j j' e e' h h' b M he' J aeL I hh' z aeM;rcases hcls j e h M (.inr trivial) I with⟨i,e0,rfl,O,Y,h3⟩|⟨_,O,Y,h3⟩
 ·rcases hcls j' e' h' he' (.inr trivial) hh' with⟨i',e0',rfl,h1',h2',h3'⟩|⟨_,h1',h2',h3'⟩
  ·have hii:=q.Cm i i' e0 e0' h h' b O h1' aDp (by rw[BH.YH]at aeL;exact aeL) Y h2' z aeM;subst hii;rcases h3 with⟨_,h4⟩|⟨h4,h5⟩
   ·rcases h3' with⟨_,h4'⟩|⟨h4',h5'⟩
    ·rw[h4]at h4';simpa using h4'
    have :=(FC.1 h4).1;omega
   rcases h3' with⟨_,h4'⟩|⟨h4',h5'⟩
   ·have :=(FC.1 h4').1;omega
   omega
  have h4:=hold j' e' h' b h1' h2' h3' aeL aeM;rcases(ahr i e0 h b O Y aDp z).2.2 with h5|h5
  ·omega
  exact absurd h5 h4.2.1
 rcases hcls j' e' h' he' (.inr trivial) hh' with⟨i',e0',rfl,h1',h2',h3'⟩|⟨_,h1',h2',h3'⟩
 ·have h4:=hold j e h b O Y h3 J z;rcases(ahr i' e0' h' b h1' h2' (by rw[BH.YH]at aeL;exact aeL) aeM).2.2 with h5|h5
  ·omega
  exact absurd h5 h4.2.1
 exact Z.Cm j j' e e' h h' b O h1' J aeL Y h2' z aeM
def aKx {f:FuncId} {ops:Array Operand} {ats:Array TypeId} (srcs:List DV) {dO eH:List Ac} {E E':List BH} {j:Ac} (m:Am P f eH E j E') (q:DX P f=true) (s:Pj srcs es E E'=true) (hE:oL srcs es E) (ha:Kt srcs dO eH) (hl:ops.toList.length=dO.length)
 (u:o.op=.call { callee:=.value (.func f),args:=ops,argTypes:=ats }):Bc P o (Ef ops.toList dO) es (j.up srcs es.length) (KA srcs es E'):=by
 intro C ok H a w Q z I;unfold Oper.wp;rw[iR u,Qq q,YR];have e:ops.map a.eval=(ops.toList.map a.eval).toArray:=tq
 rw[e];refine(aLP z srcs m s hE ha hl I).mono ?_;rintro e w' ⟨v,ok',H',rfl,J,L,M,O⟩;exact⟨v,ok',H',rfl,J,L,M,O⟩
end
def AY (n:Int):D:=.lit (.int .i64 n)
def CV (n:Int):D:=.lit (.int .u8 n)
def Cj (b:Bool):D:=.lit (.bool b)
def CQ (s:ByteArray):D:=.lit (.string s)
def Ai {α:Type} (e:α→D) (l:List α):D:=.sl (l.map e)
def Ag (x:D):List Ac:=x.cells.map .d
def BJ {α:Type} (l:List α) (i:Int):Option α:=if 0≤i then l[i.toNat]? else none
def DU {α:Type} (f:Nat) (l m:List α):Option (List α):=if(l.length+m.length)*f≤140737488355328 then some (l++m)else none
def GI (s:ByteArray) (i:Int):Option Int:=if 0≤i then(s[i.toNat]?).map fun c=>(c.toNat:Int)else none
def MS {α:Type} (l:List α) (lo hi:Int):Option (List α):=if 0≤lo∧lo≤hi∧hi≤l.length then some ((l.drop lo.toNat).take (hi.toNat-lo.toNat))else none
def Lj (s:ByteArray) (lo hi:Int):Option ByteArray:=if 0≤lo∧lo≤hi∧hi≤s.size then some (s.extract lo.toNat hi.toNat)else none
def IK {α:Type} (f:Nat) (z:α) (n c:Int):Option (List α):=if 0≤n∧n≤c∧(f:Int)*c≤140737488355328 then some (List.replicate n.toNat z)else none
def IV {α:Type} {l:List α} {i:Int} {x:α} (h:BJ l i=some x):0≤i∧l[i.toNat]? =some x:=by
 unfold BJ at h;split at h
 ·exact⟨‹_›,h⟩
 cases h
def apw {α β:Type} {l:List α} {i:Nat} {x:α} (f:α→β) (h:l[i]? =some x):(l.map f)[i]? =some (f x):=by simp[h]
def iZ {α:Type} {b:Bool} {x y z:α} (f:b=true) (h:(bif b then x else y)=z):x=z:=by subst f;exact h
def oD {α:Type} {b:Bool} {x y z:α} (f:b=false) (h:(bif b then x else y)=z):y=z:=by subst f;exact h
def DN {α β:Type} {x:Option α} {f:α→Option β} {z:β} (h:x.bind f=some z):∃a,x=some a∧f a=some z:=eu.1 h
def BA :Nat:=9223372036854775808
section
variable {P : Program} {o : Oper} {es : List BH} {α : Type}
def BP {x:Operand} {t e:TypeId} (enc:α→D) (l:List α) (f:P.underlying t=some (.slice e)) (j:o.op=.call { callee:=.builtin .len,args:= #[x],argTypes:= #[t] }):
 Bc P o [(x,.d (Ai enc l))] es (.d (AY l.length)) es:=by
 have :=amv (es:=es) (xs:=l.map enc) f j;rw[Ch]at this;exact this
def O5 {x:Operand} {t e e':TypeId} {k s:Nat} (enc:α→D) (l:List α) (f:es[k]? =some (.arr e' s (l.map enc))) (j:P.underlying t=some (.slice e)) (m:o.op=.call { callee:=.builtin .len,args:= #[x],argTypes:= #[t] }):
 Bc P o [(x,.aS k)] es (.d (AY l.length)) es:=by
 have :=ag1 f j m;rw[Ch]at this;exact this
def ar4 {x:Operand} {t:TypeId} (s:ByteArray) (f:P.underlying t=some .string) (j:o.op=.call { callee:=.builtin .len,args:= #[x],argTypes:= #[t] }):
 Bc P o [(x,.d (CQ s))] es (.d (AY s.size)) es:=aiO f j
def ah5 {x y:Operand} {t e:TypeId} {k:IntKind} {i:Int} {agg:Bool} {size:Nat} (enc:α→D) {l:List α} {a:α} (h:BJ l i=some a) (f:P.underlying t=some (.slice e)) (j:Dc P e agg size) (m:(enc a).cells.length=size) (q:o.op=.indexAddr t x y):
 Bc P o [(x,.d (Ai enc l)),(y,.d (.lit (.int k i)))] es (.d (.ref (enc a).cells 0)) es:=
 al8 f j (IV h).1 (apw enc (IV h).2) m q
def LX {x y:Operand} {t e e':TypeId} {kd:IntKind} {i:Int} {k size:Nat} {agg:Bool} (enc:α→D) {l:List α} {a:α} (h:BJ l i=some a) (f:es[k]? =some (.arr e' size (l.map enc))) (j:P.underlying t=some (.slice e)) (m:Dc P e agg size) (q:o.op=.indexAddr t x y):
 Bc P o [(x,.aS k),(y,.d (.lit (.int kd i)))] es (.kE k i.toNat 0) es:=
 asb f j m (IV h).1 (by have :=(FC.1 (IV h).2).1;simpa using this) q
def as8 {s:ByteArray} {i n:Int} (h:GI s i=some n):∃c,0≤i∧s[i.toNat]? =some c∧n=c.toNat:=by
 unfold GI at h;split at h
 ·rename_i f;rw[TQ]at h;obtain⟨c,j,m⟩:=h;exact⟨c,f,j,m.symm⟩
 cases h
def IB {x y:Operand} {t:TypeId} {k:IntKind} {i n:Int} {s:ByteArray} (h:GI s i=some n) (f:P.underlying t=some .string) (j:o.op=.index t x y):
 Bc P o [(x,.d (CQ s)),(y,.d (.lit (.int k i)))] es (.d (CV n)) es:=by
 obtain⟨c,m,q,rfl⟩:=as8 h;exact aoP f m q j
def aBK {b:Nat} {l m r:List α} (h:DU b l m=some r):r=l++m∧(l.length+m.length)*b≤140737488355328:=by
 unfold DU at h;split at h
 ·exact⟨(CO h).symm, ‹_›⟩
 cases h
def aG8 {n b:Nat} (f:0<b) (h:n*b≤140737488355328):n≤maxLen:=by
 have :n*1≤n*b:=Nat.mul_le_mul_left _ f;unfold maxLen;omega
def ED {s x:Operand} {t e:TypeId} {size f k:Nat} (enc:α→D) {l m r:List α} (h:DU f l m=some r) (hE:Fg P t e size f) (q:es[k]? =some (.arr e size (l.map enc))) (u:∀a,(enc a).cells.length=size) (z:0<f)
 (I:o.op=.call { callee:=.builtin .append,args:= #[s,x],argTypes:= #[t,t] }):
 Bc P o [(s,.aS k),(x,.d (Ai enc m))] es (.aS es.length) (es.set k .dead++[.arr e size (r.map enc)]):=by
 obtain⟨rfl,j⟩:=aBK h;have :=aoH (ys:=m.map enc) hE q (fun y J=>by obtain⟨a,_,rfl⟩:=F7.1 J;exact u a) Ou (by simpa using aG8 z j) I;rw[←I9]at this;exact this
def aqE {s r:ByteArray} {lo hi:Int} (h:Lj s lo hi=some r):(0≤lo∧lo≤hi∧hi≤s.size)∧r=s.extract lo.toNat hi.toNat:=by
 unfold Lj at h;split at h
 ·exact⟨‹_›,(CO h).symm⟩
 cases h
def qR (x:Option Operand) (n:Int):List (Operand×Ac):=match x with |some y=>[(y,.d (AY n))]|none=>[]
def dS {t:TypeId} {x:Operand} {lo hi:Option Operand} {l h:Int} {s r:ByteArray} (Z:Lj s l h=some r) (hl:lo=none→l=0) (U:hi=none→h=s.size) (ht:P.underlying t=some .string) (u:o.op=.slice t x lo hi none):
 Bc P o ((x,.d (CQ s))::(qR lo l++qR hi h)) es (.d (CQ r)) es:=
 .pure fun ok H a w _ _ J=>by
  obtain⟨⟨L,h1,h2⟩,rfl⟩:=aqE Z;have j:=(J (x,.d (CQ s)) BK).lit;simp only at j;have I:(underlying t).run P w=.ok .string w:=aF9
  refine⟨.string (s.extract l.toNat h.toNat),?_,.d _ _ (.lit _)⟩;have m:∀y,lo=some y→a.eval y=.int .i64 l:=fun y e=>(J (y,.d (AY l)) wC).lit;have q:∀y,hi=some y→a.eval y=.int .i64 h:=fun y e=>(J (y,.d (AY h)) wC).lit;have Y:((0:Int)≤h∧h≤(s.size:Int)):=⟨AL,h2⟩
  have e2:((0:Int)≤l∧l≤(h.toNat:Int)):=⟨L,AL⟩
  cases lo with
  |none=>
   have M:=hl rfl;subst M;cases hi with
   |none=>
    have f:=U rfl;subst f;simp[execOp,u,j,Instr.sliceAt,Instr.slice,I,Instr.sliceBounds]
   |some y=>
    simp[execOp,u,j,Instr.sliceAt,Instr.slice,I,Instr.sliceBounds,Instr.sliceBound,q y rfl,asIntOf,Y]
  |some z=>
   cases hi with
   |none=>
    have f:=U rfl;subst f;have O:((0:Int)≤l∧l≤(s.size:Int)):=⟨L,AL⟩
    simp[execOp,u,j,Instr.sliceAt,Instr.slice,I,Instr.sliceBounds,Instr.sliceBound,m z rfl,asIntOf,O]
   |some y=>
    simp[execOp,u,j,Instr.sliceAt,Instr.slice,I,Instr.sliceBounds,Instr.sliceBound,m z rfl,q y rfl,asIntOf,Y];intro hc;have :=hc L;omega
def aKB {l r:List α} {lo hi:Int} (h:MS l lo hi=some r):(0≤lo∧lo≤hi∧hi≤l.length)∧r=(l.drop lo.toNat).take (hi.toNat-lo.toNat):=by
 unfold MS at h;split at h
 ·exact⟨‹_›,(CO h).symm⟩
 cases h
def aMf {ok:Nat→Prop} {w:World} {xs:List D} {ad:Option Addr} {cap size l h:Nat} (M:DT ok w (.sl xs) (.slice ad xs.length cap)) (hs:∀x∈xs,x.cells.length=size) (O:l≤h) (U:h≤xs.length):
 DT ok w (.sl ((xs.drop l).take (h-l))) (.slice (if cap=l then ad else ad.map (·.add (l*size))) (h-l) (cap-l)):=by
 have hlen:((xs.drop l).take (h-l)).length=h-l:=E8
 by_cases Y:h-l=0
 ·have :(xs.drop l).take (h-l)=[]:=by rw[Y];rfl
  rw[this,Y];exact .sl0 _ _
 have q:0<xs.length:=AL
 generalize hn:xs.length=n at M;cases M with
 |sl0=>simp at q
 |sl _ b off _ f Z z s hf hx hc=>
  have I:f=size:=by
   rw[←s 0 q];exact hs _ vX
  subst I;have J:cap≠l:=AL
  rw[D9 J];simp only[HY,addr_add]
  have L:∀i,i<h-l→((xs.drop l).take (h-l)).getD i DR=xs.getD (l+i) DR:=by
   intro i hi;simp[List.getD,LZ hi,Nz]
  have m:∀i j,off+l*f+(i*f+j)=off+((l+i)*f+j):=by
   intro i j;rw[XG];omega
  have :=DT.sl ((xs.drop l).take (h-l)) b (off+l*f) (cap-l) f (ok:=ok) (w:=w) (by rw[hlen];omega) (fun O U=>z (by rw[hlen]at O;omega) U) (fun i hi=>by rw[hlen]at hi;rw[L i hi];exact s _ AL)
   (fun i hi j u=>by rw[hlen]at hi;rw[L i hi];exact hf _ AL j u) (fun i hi j u=>by rw[hlen]at hi;rw[m];exact hx _ AL j u)
   (fun i hi j u=>by rw[hlen]at hi;rw[L i hi,m];exact hc _ AL j u)
  rw[hlen]at this;exact this
def aAc {t e:TypeId} {agg:Bool} {size:Nat} {x:Operand} {lo hi:Option Operand} {l h:Int} (enc:α→D) {xs r:List α} (hr:MS xs l h=some r) (hl:lo=none→l=0) (hh:hi=none→h=xs.length) (ht:P.underlying t=some (.slice e)) (J:Dc P e agg size)
 (hc:∀a,(enc a).cells.length=size) (L:o.op=.slice t x lo hi none):Bc P o ((x,.d (Ai enc xs))::(qR lo l++qR hi h)) es (.d (Ai enc r)) es:=
 .pure fun ok H a w _ _ U=>by
  obtain⟨⟨h0,h1,h2⟩,rfl⟩:=aKB hr;have Y:=U (x,.d (Ai enc xs)) BK;simp only at Y;generalize M:a.eval x=v at Y;have O:(underlying t).run P w=.ok (.slice e) w:=aF9
  have u:∀y,lo=some y→a.eval y=.int .i64 l:=fun y e=>(U (y,.d (AY l)) wC).lit;have I:∀y,hi=some y→a.eval y=.int .i64 h:=fun y e=>(U (y,.d (AY h)) wC).lit;have m:DT ok w (.sl (xs.map enc)) v:=by cases Y with |d _ _ h=>exact h
  have q:∃ad cap,v=.slice ad (xs.map enc).length cap∧(xs.map enc).length≤cap:=by
   generalize hys:xs.map enc=ys at m;cases m with
   |sl0 ad cap=>exact⟨ad,cap,rfl,EF _⟩
   |sl _ b off cap size f=>exact⟨_,cap,rfl,f⟩
  obtain⟨ad,cap,rfl,f⟩:=q;have j:=aMf (l:=l.toNat) (h:=h.toNat) m (size:=size) (fun y hy=>aE8) AL E8;rw[←Y6,←WY]at j;rw[Ch]at f;refine⟨_,?_,.d _ _ j⟩;have e1:((0:Int)≤h∧h≤(cap:Int)):=⟨AL,AL⟩
  cases lo with
  |none=>
   have Z:=hl rfl;subst Z;cases hi with
   |none=>
    have s:=hh rfl;subst s;simp[execOp,L,M,Instr.sliceAt,Instr.slice,O,Instr.sliceBounds,J.size]
   |some y=>
    simp[execOp,L,M,Instr.sliceAt,Instr.slice,O,Instr.sliceBounds,Instr.sliceBound,I y rfl,asIntOf,e1,J.size]
  |some z=>
   cases hi with
   |none=>
    have s:=hh rfl;subst s;have e2':((0:Int)≤l∧l≤(xs.length:Int)):=⟨h0,AL⟩
    simp[execOp,L,M,Instr.sliceAt,Instr.slice,O,Instr.sliceBounds,Instr.sliceBound,u z rfl,asIntOf,e2',J.size]
   |some y=>
    simp[execOp,L,M,Instr.sliceAt,Instr.slice,O,Instr.sliceBounds,Instr.sliceBound,u z rfl,I y rfl,asIntOf,e1,J.size];intro hc';have :=hc' h0;omega
def eI (P:Program) (t:TypeId) (f off:Nat) (agg:Bool) (n:Nat):Bool:=
 match P.underlying t with
 |some (.struct m)=>match m[f]? with
  |some j=>decide (j.offset=off)&&aGG P j.type agg n
  |none=>false
 |_=>false
def asn {x:Operand} {t:TypeId} {f off n:Nat} {agg:Bool} {cs:List D} (m:eI P t f off agg n=true) (hn:off+n≤cs.length) (Y:agg=false→n=1) (L:o.op=.field t x f):Bc P o [(x,.d (.agg cs))] es (.d (Nc agg cs off n)) es:=
 .pure fun ok H a w _ _ z=>by
  have I:=J6 z;simp only at I;generalize M:a.eval x=v at I;unfold eI at m;split at m
  ·rename_i Z hu;split at m
   ·rename_i j O;simp only[CP,Fl]at m;obtain⟨rfl,q⟩:=m;have q:=Ej q;have s:(underlying t).run P w=.ok (.struct Z) w:=aBy
    cases I with
    |d _ _ h=>
     cases h with
     |agg _ vs hl J U=>
      cases agg with
      |false=>
       have :=Y rfl;subst this;have u:j.offset<vs.size:=AL
       refine⟨vs[j.offset],?_,?_⟩
       ·simp[execOp,L,M,Instr.field,s,O,asAgg,part,q.agg,u]
       have :=U j.offset AL;simp[Array.getD,u]at this;exact .d _ _ this
      |true=>
       refine⟨.agg (vs.extract j.offset (j.offset+n)),?_,?_⟩
       ·simp[execOp,L,M,Instr.field,s,O,asAgg,part,q.agg,q.size]
       simp only[Nc,KD];have hlen:((cs.drop j.offset).take n).length=n:=E8
       have hg:∀i,i<n→((cs.drop j.offset).take n).getD i DR=cs.getD (j.offset+i) DR:=by
        intro i hi;simp[List.getD,LZ hi,Nz]
       refine .d _ _ (.agg _ _ (by rw[hlen];simp;omega) ?_ ?_)<;>intro i hi<;>rw[hlen]at hi<;>rw[hg i hi]
       ·exact J _ AL
       have :=U (j.offset+i) AL
       have e:(vs.extract j.offset (j.offset+n)).getD i undef=vs.getD (j.offset+i) undef:=by
        have h3:j.offset+i<vs.size:=AL
        have h4:i<(vs.extract j.offset (j.offset+n)).size:=E8
        have h5:i<min (j.offset+n) vs.size-j.offset:=AL
        simp[Array.getD,h3,h5]
       rw[e];exact this
   cases m
  cases m
def Ac.flat:Ac→Bool
 | .d (.lit _)=>true
 | .eF xs=>xs.all fun x=>match x with | .d (.lit _)=>true|_=>false
 |_=>false
def aLT (es:List BH):Ac→Ac→Prop
 | .d x,y=>y=.d x
 | .aS k,y=>∃e s xs,es[k]? =some (.arr e s xs)∧y=.d (.sl xs)
 |_,_=>False
def Yz (es:List BH):List Ac→List Ac→Prop
 |x::xs,y::ys=>aLT es x y∧Yz es xs ys
 | [],[]=>True
 |_,_=>False
def aGz :∀{xs ys:List Ac},Yz es xs ys→xs.length=ys.length
 | [],[],_=>rfl
 |_::xs,_::ys,h=>by simp[aGz h.2]
 | [],_::_,h=>h.elim
 |_::_,[],h=>h.elim
def adv {ops:List Operand}:∀{xs ys:List Ac},ops.length=xs.length→Yz es xs ys→∀i,i<ys.length→∃o x,ops[i]? =some o∧(o,x)∈Ef ops xs∧aLT es x (ys.getD i .junk):=by
 induction ops with
 |nil=>
  intro xs ys hl h i hi;cases xs with
  |nil=>cases ys with |nil=>simp at hi|cons _ _=>exact h.elim
  |cons _ _=>simp at hl
 |cons o ops f=>
  intro xs ys hl h i hi;cases xs with
  |nil=>simp at hl
  |cons x xs=>
   cases ys with
   |nil=>exact h.elim
   |cons y ys=>
    cases i with
    |zero=>exact⟨o,x,rfl,by simp[Ef],h.1⟩
    |succ i=>
     obtain⟨j,m,q,s,u⟩:=f KX h.2 i FX;exact⟨j,m,KH,by simp[Ef,s],Md⟩
def dV {ok ok':Nat→Prop} {w:World} {H:List Ba} {h:Ba} {e s:Nat} {xs:List D} (he:EW ok w H h (.arr e s xs)) (q:∀b,ok b→ok' b) (L:∀b,DC h.v=some b→ok' b):DT ok' w (.sl xs) h.v:=by
 obtain⟨h1,I,ys,⟨h3,h4⟩,Z⟩:=he;rcases h4 with⟨J,h7⟩|⟨g,cap,m,J,h7,h8,h9,h10,M,O⟩
 ·rw[GY h7,J];exact .sl0 none 0
 rw[J];have u:=L g (by rw[J];rfl);have z:=Ph I
 have U:∀i j,i<xs.length→j<s→i*s+j<xs.length*s:=by
  intro i j hi f
  calc i*s+j<i*s+s:=AL
   _=(i+1)*s:=by rw[Sl]
   _≤xs.length*s:=Iu _ hi
 have hcur:xs.length*s≤m.size:=by
  exact Dn (Iu _ h9) M
 have hc:∀i j,i<xs.length→j<s→w.cell? ⟨g,0+(i*s+j),none⟩=some (ys.getD (i*s+j) undef):=by
  intro i j hi f;have Y:=U i j hi f;rw[Ie]
  have e1:ys.getD (i*s+j) undef=m[i*s+j]' AL:=by
   rw[←O];simp[List.getD,LZ Y,show i*s+j<m.size by omega]
  rw[e1];simp[World.cell?,h8,show i*s+j<m.size by omega]
 have hg:∀i,i<xs.length→xs.getD i DR∈xs:=fun i hi=>Ky
 refine .sl xs g 0 cap s h9 (fun _ _=>u) (fun i hi=>I _ (hg i hi)) (fun i hi j f=>?_) (fun i hi j f=>?_) (fun i hi j f=>?_)
 ·have :=(Z.2 (i*s+j) (by rw[z];exact U i j hi f)).1;rw[flat_get I i j hi f]at this;exact this
 ·rw[hc i j hi f];rfl
 have :=(Z.2 (i*s+j) (by rw[z];exact U i j hi f)).2;rw[flat_get I i j hi f]at this;unfold cellAt;rw[hc i j hi f];cases this with |d _ _ h=>exact h.mono (fun b L=>⟨q b L,rfl⟩)
def aJl {f:FuncId} {ops:Array Operand} {ats:Array TypeId} {dO eH:List Ac} {z:Ac} (hr:Am P f eH [] z []) (hf:DX P f=true) (q:z.flat=true) (ha:Yz es dO eH) (hl:ops.toList.length=dO.length)
 (ho:o.op=.call { callee:=.value (.func f),args:=ops,argTypes:=ats }):Bc P o (Ef ops.toList dO) es z es:=by
 intro C ok H a w Q I hn;unfold Oper.wp;rw[iR ho,Qq hf,YR];have e:ops.map a.eval=(ops.toList.map a.eval).toArray:=tq
 rw[e]
 let J:Nat→Prop:=fun b=>b<w.heap.size
 have hmc:CW ⟨w,J,[],[]⟩ J [] [] w:=
  ⟨.refl _ _,fun _ h=>h,fun _ h=>.inl h,fun _ h=>h,.refl _,rfl,fun k e h L _=>by simp at L,fun k e h b L=>by simp at L,fun k k' e e' h h' b L=>by simp at L⟩
 refine(hr J [] [] w _ hmc (by simp[hl,aGz ha]) (fun i hi=>?_)).mono ?_
 ·obtain⟨op,x,ho',U,j⟩:=adv hl ha i hi;have O:=hn _ U
  have e:(ops.toList.map a.eval).toArray.getD i undef=a.eval op:=by
   obtain⟨h1,h2⟩:=FC.1 ho';have Y:i<ops.size:=by simpa using h1
   have Z:ops[i]=op:=SPr
   simp[Array.getD,Y,Z]
  rw[e];simp only at O;generalize eH.getD i .junk=y at j;generalize a.eval op=u at O;cases x with
  |d x=>
   obtain rfl:=j;cases O with |d _ _ h=>exact .d _ _ (h.mono (fun b M=>⟨I.jF b M,rfl⟩))
  |aS k=>
   obtain⟨e',s,xs,hk,rfl⟩:=j;obtain⟨h,hh,hok⟩:=FV I.ent I.hlen hk;obtain rfl:=O8 O hh;exact .d _ _ (dV hok (fun b M=>I.jF b M) (fun b M=>(I.blk k _ h b hk rfl hh M).2.1))
  |_=>exact j.elim
 rintro e w' ⟨v,ok',H',rfl,m,O⟩;have hblk:∀b,b<w.heap.size→¬False→w'.heap[b]? =w.heap[b]? :=fun b M _=>m.fr.block b M BK;obtain⟨h1,h2⟩:=I.change (ok':=ok) (H':=H) (es':=es) (w':=w') (fun _=>False) m.fr.os m.fr.tape m.fr.output m.fr.size hblk (fun _ h=>h.elim) (fun _ h=>h) (fun _ h=>.inl h) (.refl _) I.hlen (fun k e h L hh=>.inl ⟨L,hh,fun _ _ _ h=>h⟩);refine⟨v,ok,H,rfl,h2,.refl _,h1,?_⟩;cases O with
 |d x v h=>
  cases x with
  |lit u=>cases h;exact .d _ _ (.lit _)
  |_=>simp[Ac.flat]at q
 |eF xs vs hl' h=>
  refine .eF xs vs hl' (fun i hi=>?_);simp only[Ac.flat,Dk]at q;have Y:=q (xs.getD i .junk) Ky;have Z:=h i hi;generalize xs.getD i .junk=x at Y Z;generalize vs.getD i undef=u at Z;cases Z with
  |d y _ h5=>
   cases y with
   |lit u=>cases h5;exact .d _ _ (.lit _)
   |_=>simp at Y
  |_=>simp at Y
 |_=>simp[Ac.flat]at q
end
def Ac.thaw (k:Nat) (xs:List D):Ac→Ac
 | .aS j=>if j=k then .d (.sl xs)else .aS j
 | .kE j i off=>if j=k then .junk else .kE j i off
 |x=>x
def Ar.thaw (σ:Ar) (k:Nat) (xs:List D):Ar:=⟨σ.slots.map (Ac.thaw k xs),σ.ents.set k .dead,σ.base⟩
def LH {σ:Ar} (k:Nat) {e s:Nat} {xs:List D} (hk:σ.ents[k]? =some (.arr e s xs)):∀C ok H a w,Holds C ok H σ a w→∃ok',Holds C ok' H (σ.thaw k xs) a w:=by
 intro C ok H a w m;obtain⟨hd,L,hok⟩:=FV m.mem.ent m.mem.hlen hk;have u:k<σ.ents.length:=(FC.1 hk).1
 let ok':Nat→Prop:=fun b=>ok b∨DC hd.v=some b
 have J:=fun b f=>m.mem.blk k _ hd b hk rfl L f;have hg:Dz ok w ok' w:=fun b f=>⟨.inl f,rfl⟩
 refine⟨ok',⟨m.mem.fr,fun b f=>.inl (m.mem.vY b f),?_,?_,m.mem.names,by simp[Ar.thaw,m.mem.hlen],?_,?_,?_⟩,by simp[Ar.thaw,m.size],m.defers.mono hg,m.base,?_⟩
 ·rintro b (f|f)
  ·exact m.mem.vZ b f
  exact .inr (J b f).2.2
 ·rintro b (f|f)
  ·exact m.mem.jF b f
  exact(J b f).2.1
 ·intro j e' h' he z;rcases KR u he with⟨rfl,rfl⟩|⟨_,I⟩
  ·trivial
  exact(m.mem.ent j e' h' I z).mono hg (.refl _) (fun _ _ _=>rfl)
 ·intro j e' h' b he hl z f;rcases KR u he with⟨rfl,rfl⟩|⟨hne,I⟩
  ·cases hl
  have h3:=m.mem.blk j e' h' b I hl z f;refine⟨fun q=>?_,h3.2⟩;rcases q with q|q
  ·exact h3.1 q
  exact hne (m.mem.Cm j k e' _ h' hd b I hk hl rfl z L f q)
 ·intro i j e1 e2 h1 h2 b he1 he2 O U hh1 hh2 hb1 hb2;rcases KR u he1 with⟨rfl,rfl⟩|⟨_,Y⟩
  ·cases O
  rcases KR u he2 with⟨rfl,rfl⟩|⟨_,Z⟩
  ·cases U
  exact m.mem.Cm i j e1 e2 h1 h2 b Y Z O U hh1 hh2 hb1 hb2
 intro t ht;simp only[Ar.thaw,Ch]at ht
 have e1:(σ.thaw k xs).slots.getD t .junk=(σ.slots.getD t .junk).thaw k xs:=by
  simp only[Ar.thaw];exact Td _ _ _ ht
 rw[e1];have M:=(m.slot t ht).mono hg (Names.refl H);generalize σ.slots.getD t .junk=x at M ⊢;generalize a.tmps.getD t undef=v at M ⊢;cases x with
 |aS j=>
  simp only[Ac.thaw];split
  ·rename_i hj;subst hj;obtain rfl:=O8 M L;exact .d _ _ (dV hok (fun b f=>.inl f) (fun b f=>.inr f))
  exact M
 |kE j i off=>
  simp only[Ac.thaw];split
  ·exact .junk _
  exact M
 |_=>exact M
def AO.thaw {P:Program} {c:Code} {σ:Ar} {Q:Exit→Ar→Prop} (k:Nat) {e s:Nat} {xs:List D} (j:σ.ents[k]? =some (.arr e s xs)) (h:AO P c (σ.thaw k xs) Q):AO P c σ Q:=by
 refine⟨fun ro m C ok H a w q=>?_⟩;obtain⟨ok',f⟩:=LH k j C ok H a w q;exact h.run ro m C ok' H a w f
def Am.view {P:Program} {f:FuncId} {args:List Ac} {e s:Nat} {xs:List D} (h:Am P f args [] (.aS 0) [.arr e s xs]):Am P f args [] (.d (.sl xs)) []:=by
 intro ok X H w m J L ha;refine(h ok X H w m J L ha).mono ?_;rintro e' w' ⟨v,ok',H',rfl,j,M⟩;have O:H=[]:=GY J.hlen;have hl:H'.length=1:=j.hlen
 match H',hl with
 | [hd],_=>
   obtain rfl:=O8 M (h:=hd) rfl;have z:=j.ent 0 _ hd rfl rfl;have u:=fun b u=>j.blk 0 _ hd b rfl rfl rfl u
   let I:Nat→Prop:=fun b=>ok' b∨DC hd.v=some b
   refine⟨hd.v,I,[],rfl,⟨j.fr,fun b h=>.inl (j.vY b h),?_,?_,by intro k v U;subst O;simp at U,rfl,fun k e h q=>Vp,fun k e h b q=>Vp,fun k k' e e' h h' b q=>Vp⟩,.d _ _ (dV z (fun b h=>.inl h) (fun b h=>.inr h))⟩
   ·rintro b (h|h)
    ·exact j.vZ b h
    exact .inr (u b h).2.2
   rintro b (h|h)
   ·exact j.jF b h
   exact(u b h).2.1
def ajO (es E':List BH) (f:E'.all BH.closed=true):KA [] es E'=es++E':=by
 unfold KA;simp only[List.findIdx?_nil,Nh,jY];rw[aIg f];congr 1;apply dP;intro i;simp only[IY,List.getElem?_zipIdx];cases es[i]? <;>rfl
def aJn {P:Program} {o:Oper} {es:List BH} {f:FuncId} {ops:Array Operand} {ats:Array TypeId} {dO eH:List Ac} {j res':Ac} {E':List BH} (u:Am P f eH [] j E') (z:DX P f=true) (m:E'.all BH.closed=true)
 (ha:Kt [] dO eH) (hl:ops.toList.length=dO.length) (I:j.up [] es.length=res') (J:o.op=.call { callee:=.value (.func f),args:=ops,argTypes:=ats }):Bc P o (Ef ops.toList dO) es res' (es++E'):=by
 have :=aKx (es:=es) [] u z (by
  have q:E'.all (BH.ahp [] es.length)=true:=by
   rw[Dk]at m ⊢;exact fun e L=>alC (m e L)
  simp[Pj,q]) (fun i s h=>Gw) ha hl J
 rw[ajO _ _ m,I]at this;exact this
def aeS {P:Program} {o:Oper} {es:List BH} {f:FuncId} {ops:Array Operand} {ats:Array TypeId} {dO eH:List Ac} {j res':Ac} (m:Am P f eH [] j []) (q:DX P f=true)
 (ha:Kt [] dO eH) (hl:ops.toList.length=dO.length) (s:j.up [] es.length=res') (u:o.op=.call { callee:=.value (.func f),args:=ops,argTypes:=ats }):Bc P o (Ef ops.toList dO) es res' es:=by
 have :=aJn (es:=es) m q rfl ha hl s u;rw[S9]at this;exact this
section
variable {P : Program} {σ : Ar} {Q : Exit → Ar → Prop}
def aFv (P:Program) (σ:Ar):ResultVar→Ac→Prop
 | .tmp t,x=>x=σ.slots.getD t .junk
 | .cell t T,x=>∃k cs agg n,σ.slots.getD t .junk=.ptr k 0∧σ.ents[k]? =some (.box cs)∧cs.all Ac.yF=true∧Dc P T agg n∧n≤cs.length∧(agg=false→n=1)∧x=.d (Nc agg (Hr cs) 0 n)
def Ti {P:Program} {σ:Ar} {t:Tmp} {x:Ac} (h:x=σ.slots.getD t .junk):aFv P σ (.tmp t) x:=h
def WV (P:Program) (σ:Ar):List ResultVar→List Ac→Prop
 |r::rs,x::xs=>aFv P σ r x∧WV P σ rs xs
 | [],[]=>True
 |_,_=>False
def aA :List Ac→Ac
 | [x]=>x
 |xs=>.eF xs
def aeW (P:Program) (fn:Func) (f:Ac) (E':List BH):Exit→Ar→Prop
 | .ret,σ=>∃xs π,WV P σ fn.results.toList xs∧Sv σ.base σ.ents π=true∧f=(aA xs).back π∧E'=QS σ.ents π
 | .normal,σ=>∃xs π,WV P σ fn.results.toList xs∧Sv σ.base σ.ents π=true∧f=(aA xs).back π∧E'=QS σ.ents π
 |_,_=>False
def aH2 (tmps:Array Value):ResultVar→Sem Value
 | .tmp t=>pure (tmps.getD t undef)
 | .cell t T=>do loadVar T (←asAddr (tmps.getD t undef))
def ahT {C:Dv} {ok:Nat→Prop} {H:List Ba} {a:Act} {w:World} (h:Holds C ok H σ a w) {r:ResultVar} {x:Ac} (f:aFv P σ r x):
 ∃v,(aH2 a.tmps r).run P w=.ok v w∧R ok w H x v:=by
 cases r with
 |tmp t=>
  obtain rfl:=f;exact⟨_,rfl,h.anp t⟩
 |cell t T=>
  obtain⟨k,cs,agg,n,I,J,hd,L,hn,M,rfl⟩:=f;have m:=I▸h.anp t;obtain⟨O,U,j⟩:=FV h.mem.ent h.mem.hlen J;obtain⟨b,q,Y,Z,hc⟩:=aFk j hd;generalize hu:a.tmps.getD t undef=u at m;cases m with
  |ptr _ _ b' s z=>
   rw[U]at z;obtain rfl:=CO z;simp at q;subst q;show ∃v,((do loadVar T (←asAddr (a.tmps.getD t undef)):Sem Value)).run P w=.ok v w∧_;rw[hu];obtain⟨v,f,hD⟩:=aA6 L (off:=0) (by rw[jR];omega) M Y Z hc;refine⟨v,?_,.d _ _ hD⟩;simp only[Instr.loadAt,Instr.sureAddr,Ei,FT,Ep,Ie]at f;simp only[asAddr,Ei,FT,Ep];exact f
def aMN {C:Dv} {ok:Nat→Prop} {H:List Ba} {a:Act} {w:World} (h:Holds C ok H σ a w):∀(rs:List ResultVar) (xs:List Ac),WV P σ rs xs→
 ∃vs:List Value,(rs.mapM (aH2 a.tmps)).run P w=.ok vs w∧vs.length=xs.length∧∀i,i<xs.length→R ok w H (xs.getD i .junk) (vs.getD i undef)
 | [],[],_=>⟨[],rfl,rfl,fun i hi=>MN⟩
 | [],_::_,h'=>h'.elim
 |_::_,[],h'=>h'.elim
 |r::rs,x::xs,h'=>by
  obtain⟨v,m,q⟩:=ahT (P:=P) h h'.1;obtain⟨vs,f,hl,j⟩:=aMN h rs xs h'.2;refine⟨v::vs,?_,Y9,fun i hi=>?_⟩
  ·simp only[List.mapM_cons,Ei,m,f,Ep,FT]
  cases i with
  |zero=>exact q
  |succ i=>simpa using j i FX
def apg {C:Dv} {ok:Nat→Prop} {H:List Ba} {a:Act} {w:World} (h:Holds C ok H σ a w) {fn:Func} {xs:List Ac} (s:WV P σ fn.results.toList xs):
 ∃v,(results fn a.tmps).run P w=.ok v w∧R ok w H (aA xs) v:=by
 obtain⟨vs,m,hl,f⟩:=aMN (P:=P) h _ _ s
 have u:(results fn a.tmps).run P w=.ok (if h:vs.toArray.size=1 then vs.toArray[0]else .tuple vs.toArray) w:=by
  have e:results fn a.tmps=(do let vs ←fn.results.mapM (aH2 a.tmps);pure (if h:vs.size=1 then vs[0]else .tuple vs)):=rfl;rw[e,aFT];simp only[Ei,mW,m,Ep,FT]
 refine⟨_,u,?_⟩
 match xs,hl,f with
 | [x],hl,f=>
   have j:vs.toArray.size=1:=KX
   rw[dif_pos j];have :=f 0 BK
   have e:vs.getD 0 undef=vs.toArray[0]:=by
    have :0<vs.length:=Y9
    simp[List.getD,this]
   rw[e]at this;exact this
 | [],hl,f=>
   have j:¬vs.toArray.size=1:=by simp at hl;simp[hl]
   rw[dif_neg j];exact .eF [] _ KX (fun i hi=>MN)
 |x::y::xs,hl,f=>
  have j:¬vs.toArray.size=1:=by simp at hl;simp[hl]
  rw[dif_neg j];refine .eF _ _ KX (fun i hi=>?_);have :=f i hi;have q:i<vs.length:=AL
  have e:vs.toArray.getD i undef=vs.getD i undef:=by simp[Array.getD,List.getD,q]
  rw[e];exact this
def aq7 {w:World} {D:Nat} {x:Option (List Deferred)} (h:w.heap[D]? =some (.deferred x)) (o:Nat):w.cell? ⟨D,o,none⟩=none:=by
 unfold World.cell?;rw[h]
def Holds.take {C:Dv} {ok:Nat→Prop} {H:List Ba} {σ:Ar} {a:Act} {w:World} (Z:∀b,C.ok0 b→b<C.w0.heap.size) (h:Holds C ok H σ a w) {D:Nat} {Ds:List Nat} (hd:∀d∈Ds,ok d∧C.w0.heap.size≤d∧w.heap[d]? =some (.deferred (some [])))
 (hD:ok D∧C.w0.heap.size≤D∧w.heap[D]? =some (.deferred (some []))) (u:(D::Ds).Nodup):
 ∃ok',Holds C ok' H σ { a with defers:=Ds.map fun D=>{ target:=.collected D,args:= #[] } } (w.putObj D (.deferred none))∧∀d∈Ds,ok' d∧C.w0.heap.size≤d∧(w.putObj D (.deferred none)).heap[d]? =some (.deferred (some [])):=by
 obtain⟨h1,h2,U⟩:=hD;have j:∀b,b≠D→(w.putObj D (.deferred none)).heap[b]? =w.heap[b]? :=fun b f=>X9 f;have z:∀b o,ok b→(w.cell? ⟨b,o,none⟩).isSome=true→ok b∧b≠D:=fun b o f I=>⟨f,fun e=>by subst e;rw[aq7 U]at I;cases I⟩
 have Y:Dz (fun b=>ok b∧b≠D) w (fun b=>ok b∧b≠D) (w.putObj D (.deferred none)):=fun b f=>⟨f,j b f.2⟩
 have M:∀(k:Nat) (e:BH) (hd:Ba) (b:Nat),σ.ents[k]? =some e→e.live=true→H[k]? =some hd→DC hd.v=some b→b≠D:=fun k e hd b q hl s f O=>(h.mem.blk k e hd b q hl s f).1 (O▸h1)
 have J:∀d∈Ds,(ok d∧d≠D)∧C.w0.heap.size≤d∧(w.putObj D (.deferred none)).heap[d]? =some (.deferred (some [])):=fun d m=>by
  have L:d≠D:=fun e=>(Jr.1 u).1 (e▸m);exact⟨⟨(hd d m).1,L⟩,(hd d m).2.1,by rw[j d L];exact(hd d m).2.2⟩
 refine⟨fun b=>ok b∧b≠D,⟨⟨⟨h.mem.fr.os,h.mem.fr.tape,h.mem.fr.output,by simpa[World.putObj]using h.mem.fr.size,fun k hk hX=>by rw[j k AL];exact h.mem.fr.block k hk hX⟩,fun b f=>⟨h.mem.vY b f,fun e=>by have :=Z b f;omega⟩,fun b f=>h.mem.vZ b f.1,fun b f=>by simpa[World.putObj]using h.mem.jF b f.1,h.mem.names,h.mem.hlen,?_,?_,?_⟩,h.size,⟨Ds,rfl,(Jr.1 u).2,J⟩,h.base,fun t ht=>((h.slot t ht).shrink z).mono Y (.refl _)⟩,J⟩
 ·intro k e hd q s;exact((h.mem.ent k e hd q s).shrink z (fun b ms c f I=>⟨f,fun e=>by subst e;rw[U]at I;cases I⟩)).mono Y (.refl _) fun hl b f=>j b (M k e hd b q hl s f)
 ·intro k e hd b q hl s f;obtain⟨h4,h5,h6⟩:=h.mem.blk k e hd b q hl s f;exact⟨fun hx=>h4 hx.1,by simpa[World.putObj]using h5,h6⟩
 exact h.mem.Cm
def aEB {fn:Func} {Rr:Ending→World→Prop} {C:Dv} (m:∀b,C.ok0 b→b<C.w0.heap.size) {H:List Ba} {σ:Ar}
 (q:∀ok a w,Holds C ok H σ a w→∃v,(results fn a.tmps).run P w=.ok v w∧Rr (.returned v) w):∀(Ds:List Nat) {ok:Nat→Prop} {a:Act} {w:World},Holds C ok H σ a w→(∀d∈Ds,ok d∧C.w0.heap.size≤d∧w.heap[d]? =some (.deferred (some [])))→Ds.Nodup→
  LeavesInM (Hq none) 0 P fn a.tmps Rr (Ds.map fun D=>{ target:=.collected D,args:= #[] }) .returning w
 | [],ok,a,w,h,_,_=>q ok a w h
 |D::Ds,ok,a,w,h,hd,s=>by
  obtain⟨ok',h',f⟩:=h.take m (fun d j=>hd d (G9 _ j)) (hd D (FB ..)) s;have u:=aEB m q Ds h' f (Jr.1 s).2;exact⟨BK,.inl ⟨D,_,rfl,run_takeDeferred (hd D (FB ..)).2.2,u⟩⟩
def Am.aH {f:FuncId} {fn:Func} {c:Code} {args:List Ac} {E E':List BH} {q:Ac} (hf:P.funcs[f]? =some fn) (hb:fn.body=some c)
 (h:AO P c (.enter args fn.ntmps E) (aeW P fn q E')):Am P f args E q E':=by
 intro ok X H w j z hs ha;refine(zG (ro:=none) (n:=0)).1 (aFH hf hb trivial (Rx (h.run none (.inl rfl) ⟨w,ok,X,H⟩ ok H _ w ?_) ?_) rfl)
 ·refine⟨z,?_,.nil _ _ _,z.hlen,fun t ht=>?_⟩
  ·simp[Ar.enter,hs]
  simp only[Ar.enter];by_cases e:t<args.length
  ·have I:(args++List.replicate (fn.ntmps-args.length) Ac.junk).getD t .junk=args.getD t .junk:=aFV
   have e2:(j++Array.replicate (fn.ntmps-j.size) undef).getD t undef=j.getD t undef:=by
    simp[GU,WG (show t<j.size by omega)]
   rw[I,e2];exact ha t e
  have I:(args++List.replicate (fn.ntmps-args.length) Ac.junk).getD t .junk=.junk:=by
   simp only[List.getD,Ir (RI e),aI7];split<;>rfl
  rw[I];exact .junk _
 rintro e a' w' ⟨ok',H',σ',Z,J⟩;obtain⟨Ds,L,M,O⟩:=Z.defers
 have key:∀(x:List Ac) (π:List (Nat×Bool)),WV P σ' fn.results.toList x→Sv σ'.base σ'.ents π=true→q=(aA x).back π→E'=QS σ'.ents π→
  LeavesInM (Hq none) 0 P fn a'.tmps (fun e w'=>∃v ok' H',e=.returned v∧CW ⟨w,ok,X,H⟩ ok' H' E' w'∧R ok' w' H' q v) a'.defers .returning w':=by
  rintro x π u m rfl rfl;rw[L];refine aEB (P:=P) (C:=⟨w,ok,X,H⟩) z.jF (fun U a2 w2 s=>?_) Ds Z O M;obtain⟨v,hv,hR⟩:=apg (P:=P) s u;exact⟨v,hv,v,U,_,rfl,s.mem.norm π (s.base▸m),hR.back π⟩
 cases e with
 |ret=>obtain⟨x,π,u,m,s,Y⟩:=J;exact key x π u m s Y
 |normal=>obtain⟨x,π,u,m,s,Y⟩:=J;exact key x π u m s Y
 |_=>exact J.elim
def Aa {x y:Code} (f:AO P x σ (Jh (fun s=>AO P y s Q) Q)):AO P (.seq x y) σ Q:=AO.seq _ f (fun _ h=>h)
def DJ {x y:Code} (K:Ar→Prop) (f:∀s,K s→AO P y s Q) (j:(∀s,K s→AO P y s Q)→AO P x σ (Jh (fun s=>AO P y s Q) Q)):AO P (.seq x y) σ Q:=AO.seq _ (j f) (fun _ h=>h)
def PN {c:Operand} {x y:Code} (f:σ.get c=.d (.lit (.bool true))) (h:AO P x σ Q):AO P (.cond c x y) σ Q:=AO.cond true f (fun _=>h) (fun h=>Gt)
def MJ {c:Operand} {x y:Code} (f:σ.get c=.d (.lit (.bool false))) (h:AO P y σ Q):AO P (.cond c x y) σ Q:=AO.cond false f (fun h=>Gt) (fun _=>h)
def GK {id:Nat} {ops:Array Oper} {y:Code} {σ':Ar} {rs:List Ac} {ess:List (List BH)} {bs:List Bool} (m:P.follows .mixedOrders=true) (f:(Tq ops&&Tv ops&&TG ops σ.slots.length&&UJ ops)=true) (j:VT ops bs=true)
 (h:El P ops ops.toList σ rs ess bs σ') (q:AO P y σ' Q):AO P (.seq (.region id ops true) y) σ Q:=
 AO.seq (fun s=>s=σ') (.draw m f j h rfl) (fun _ e=>e▸q)
end
section
variable {P : Program} {o : Oper} {es : List BH}
def as7 {x:Operand} {t:TypeId} {agg:Bool} {n off:Nat} {cs:List D} {y:D} (f:y=Nc agg cs off n) (j:Dc P t agg n) (m:off+n≤cs.length) (q:agg=false→n=1) (s:o.op=.load t x):Bc P o [(x,.d (.ref cs off))] es (.d y) es:=f▸anf j m q s
def an3 {x:Operand} {t:TypeId} {agg:Bool} {k n off:Nat} {cs:List Ac} {y:D} (f:y=Nc agg (Hr cs) off n) (j:es[k]? =some (.box cs)) (hd:cs.all Ac.yF=true) (m:Dc P t agg n) (q:off+n≤cs.length) (s:agg=false→n=1) (u:o.op=.load t x):
 Bc P o [(x,.ptr k off)] es (.d y) es:=f▸arZ j hd m q s u
def alf {x:Operand} {t:TypeId} {f off n:Nat} {agg:Bool} {cs:List D} {y:D} (j:y=Nc agg cs off n) (m:eI P t f off agg n=true) (q:off+n≤cs.length) (s:agg=false→n=1) (u:o.op=.field t x f):Bc P o [(x,.d (.agg cs))] es (.d y) es:=j▸asn m q s u
def aqF {t:TypeId} {j:Array (Nat×Operand)} {f:List (Nat×Nat)} {z:Value} {y:D} (m:Hz P t f z) (vs:List Ac) (q:o.op=.build t j) (s:y=.agg (Hr (Iz (fun(i:Nat)=>f[i]?) (Eo z) j.toList vs))) (u:Ld (fun(i:Nat)=>f[i]?) (Eo z).length j.toList vs=true)
 (hd:(Iz (fun(i:Nat)=>f[i]?) (Eo z) j.toList vs).all Ac.yF=true):Bc P o (LD j.toList vs) es (.d y) es:=s▸aq8 m vs u hd q
def aez {s t:TypeId} {x:Operand} {f k:IntKind} {n:Int} (j:P.underlying s=some (.int f)) (m:P.underlying t=some (.int k)) (q:o.op=.convert s t x):Bc P o [(x,.d (.lit (.int f n)))] es (.d (.lit (.int k (k.wrap n)))) es:=
 ad8 q fun w=>by simp[convert,underlying,j,m,Conv.intToInt]
def afY {s t:TypeId} {x:Operand} {u:ByteArray} (f:P.underlying s=some .string) (j:P.underlying t=some .string) (m:o.op=.convert s t x):Bc P o [(x,.d (CQ u))] es (.d (CQ u)) es:=
 ad8 m fun w=>by simp[convert,underlying,f,j]
def ai1 {t t':TypeId} {x y:Operand} {a b:Bool} (f:P.underlying t=some .bool) (j:o.op=.binOp .eql t x y t'):Bc P o [(x,.d (Cj a)),(y,.d (Cj b))] es (.d (Cj (a==b))) es:=
 DY (u:=.bool a) (v:=.bool b) (r:=.bool (a==b)) j (fun w=>by
  show((do pure (.bool (←Op.equal t (.bool a) (.bool b))):Sem Value)).run P w=_
  simp only[Ei,run_equal_bool w t a b f,Ep,FT]) ⟨rfl,rfl⟩
def ai4 {t t':TypeId} {x y:Operand} {a b:Bool} (f:P.underlying t=some .bool) (j:o.op=.binOp .neq t x y t'):Bc P o [(x,.d (Cj a)),(y,.d (Cj b))] es (.d (Cj (!(a==b)))) es:=
 DY (u:=.bool a) (v:=.bool b) (r:=.bool (!(a==b))) j (fun w=>by
  show((do pure (.bool (!(←Op.equal t (.bool a) (.bool b)))):Sem Value)).run P w=_
  simp only[Ei,run_equal_bool w t a b f,Ep,FT]) ⟨rfl,rfl⟩
end
def bn {A Rr:Type} (body:(A→Option Rr)→A→Option Rr):Nat→A→Option Rr
 |0,_=>none
 |n+1,a=>body (bn body n) a
def Du {P:Program} {σ:Ar} {Q:Exit→Ar→Prop} {j:Code} {A Rr:Type} (S:A→Ar) (body:(A→Option Rr)→A→Option Rr) (r:Rr) (a0:A) (q:CJ σ (S a0)) (h:Go.Proofs.YtolgdkhlelfpoaaGreat.bn body BA a0=some r)
 (round:∀(J:Ar→Prop) (k:A→Option Rr),(∀σ' a,CJ σ' (S a)→k a=some r→J σ')→∀a,body k a=some r→AO P j (S a) (Jh J Q)):AO P (.loop j) σ Q:=by
 refine AO.loop (fun n s=>∃a,CJ s (S a)∧Go.Proofs.YtolgdkhlelfpoaaGreat.bn body n a=some r) BA ⟨a0,q,h⟩ ?_;rintro n s ⟨a,f,m⟩;refine CZ f ?_;cases n with
 |zero=>cases m
 |succ n=>exact round _ (Go.Proofs.YtolgdkhlelfpoaaGreat.bn body n) (fun σ' a u z=>⟨n,Wq n,a,u,z⟩) a m
def aX {A B Rr:Type} (body:(A→B→Option Rr)→A→B→Option Rr):Nat→A→B→Option Rr
 |0,_,_=>none
 |n+1,a,b=>body (aX body n) a b
def Dy {P:Program} {σ:Ar} {Q:Exit→Ar→Prop} {m:Code} {A B Rr:Type} (S:A→B→Ar) (body:(A→B→Option Rr)→A→B→Option Rr) (r:Rr) (a0:A) (j:B) (u:CJ σ (S a0 j)) (h:Go.Proofs.YtolgdkhlelfpoaaGreat.aX body BA a0 j=some r)
 (round:∀(J:Ar→Prop) (k:A→B→Option Rr),(∀σ' a b,CJ σ' (S a b)→k a b=some r→J σ')→∀a b,body k a b=some r→AO P m (S a b) (Jh J Q)):AO P (.loop m) σ Q:=by
 refine AO.loop (fun n s=>∃a b,CJ s (S a b)∧Go.Proofs.YtolgdkhlelfpoaaGreat.aX body n a b=some r) BA ⟨a0,j,u,h⟩ ?_;rintro n s ⟨a,b,f,q⟩;refine CZ f ?_;cases n with
 |zero=>cases q
 |succ n=>exact round _ (Go.Proofs.YtolgdkhlelfpoaaGreat.aX body n) (fun σ' a b z I=>⟨n,Wq n,a,b,z,I⟩) a b q
def AA {A B C Rr:Type} (body:(A→B→C→Option Rr)→A→B→C→Option Rr):Nat→A→B→C→Option Rr
 |0,_,_,_=>none
 |n+1,a,b,c=>body (AA body n) a b c
def oH {P:Program} {σ:Ar} {Q:Exit→Ar→Prop} {q:Code} {A B C Rr:Type} (S:A→B→C→Ar) (body:(A→B→C→Option Rr)→A→B→C→Option Rr) (r:Rr) (a0:A) (j:B) (m:C) (z:CJ σ (S a0 j m)) (h:Go.Proofs.YtolgdkhlelfpoaaGreat.AA body BA a0 j m=some r)
 (round:∀(J:Ar→Prop) (k:A→B→C→Option Rr),(∀σ' a b c,CJ σ' (S a b c)→k a b c=some r→J σ')→∀a b c,body k a b c=some r→AO P q (S a b c) (Jh J Q)):AO P (.loop q) σ Q:=by
 refine AO.loop (fun n s=>∃a b c,CJ s (S a b c)∧Go.Proofs.YtolgdkhlelfpoaaGreat.AA body n a b c=some r) BA ⟨a0,j,m,z,h⟩ ?_;rintro n s ⟨a,b,c,f,u⟩;refine CZ f ?_;cases n with
 |zero=>cases u
 |succ n=>exact round _ (Go.Proofs.YtolgdkhlelfpoaaGreat.AA body n) (fun σ' a b c I L=>⟨n,Wq n,a,b,c,I,L⟩) a b c u
def Wx {A B C D Rr:Type} (body:(A→B→C→D→Option Rr)→A→B→C→D→Option Rr):Nat→A→B→C→D→Option Rr
 |0,_,_,_,_=>none
 |n+1,a,b,c,d=>body (Wx body n) a b c d
def AO.Wx {P:Program} {σ:Ar} {Q:Exit→Ar→Prop} {u:Code} {A B C D Rr:Type} (S:A→B→C→D→Ar) (body:(A→B→C→D→Option Rr)→A→B→C→D→Option Rr) (r:Rr) (a0:A) (j:B) (m:C) (q:D) (I:CJ σ (S a0 j m q)) (h:Go.Proofs.YtolgdkhlelfpoaaGreat.Wx body BA a0 j m q=some r)
 (round:∀(J:Ar→Prop) (k:A→B→C→D→Option Rr),(∀σ' a b c d,CJ σ' (S a b c d)→k a b c d=some r→J σ')→∀a b c d,body k a b c d=some r→AO P u (S a b c d) (Jh J Q)):AO P (.loop u) σ Q:=by
 refine AO.loop (fun n s=>∃a b c d,CJ s (S a b c d)∧Go.Proofs.YtolgdkhlelfpoaaGreat.Wx body n a b c d=some r) BA ⟨a0,j,m,q,I,h⟩ ?_;rintro n s ⟨a,b,c,d,f,z⟩;refine CZ f ?_;cases n with
 |zero=>cases z
 |succ n=>exact round _ (Go.Proofs.YtolgdkhlelfpoaaGreat.Wx body n) (fun σ' a b c d L M=>⟨n,Wq n,a,b,c,d,L,M⟩) a b c d z
def zC {A B C D E Rr:Type} (body:(A→B→C→D→E→Option Rr)→A→B→C→D→E→Option Rr):Nat→A→B→C→D→E→Option Rr
 |0,_,_,_,_,_=>none
 |n+1,a,b,c,d,e=>body (zC body n) a b c d e
def aBB {P:Program} {σ:Ar} {Q:Exit→Ar→Prop} {z:Code} {A B C D E Rr:Type} (S:A→B→C→D→E→Ar) (body:(A→B→C→D→E→Option Rr)→A→B→C→D→E→Option Rr) (r:Rr) (a0:A) (j:B) (m:C) (q:D) (u:E) (L:CJ σ (S a0 j m q u)) (h:Go.Proofs.YtolgdkhlelfpoaaGreat.zC body BA a0 j m q u=some r)
 (round:∀(J:Ar→Prop) (k:A→B→C→D→E→Option Rr),(∀σ' a b c d e,CJ σ' (S a b c d e)→k a b c d e=some r→J σ')→∀a b c d e,body k a b c d e=some r→AO P z (S a b c d e) (Jh J Q)):AO P (.loop z) σ Q:=by
 refine AO.loop (fun n s=>∃a b c d e,CJ s (S a b c d e)∧Go.Proofs.YtolgdkhlelfpoaaGreat.zC body n a b c d e=some r) BA ⟨a0,j,m,q,u,L,h⟩ ?_;rintro n s ⟨a,b,c,d,e,f,I⟩;refine CZ f ?_;cases n with
 |zero=>cases I
 |succ n=>exact round _ (Go.Proofs.YtolgdkhlelfpoaaGreat.zC body n) (fun σ' a b c d e M O=>⟨n,Wq n,a,b,c,d,e,M,O⟩) a b c d e I
def CX {A B C D E F Rr:Type} (body:(A→B→C→D→E→F→Option Rr)→A→B→C→D→E→F→Option Rr):Nat→A→B→C→D→E→F→Option Rr
 |0,_,_,_,_,_,_=>none
 |n+1,a,b,c,d,e,f=>body (CX body n) a b c d e f
def AO.CX {P:Program} {σ:Ar} {Q:Exit→Ar→Prop} {L:Code} {A B C D E F Rr:Type} (S:A→B→C→D→E→F→Ar) (body:(A→B→C→D→E→F→Option Rr)→A→B→C→D→E→F→Option Rr) (r:Rr) (a0:A) (m:B) (q:C) (u:D) (z:E) (I:F) (O:CJ σ (S a0 m q u z I)) (h:Go.Proofs.YtolgdkhlelfpoaaGreat.CX body BA a0 m q u z I=some r)
 (round:∀(J:Ar→Prop) (k:A→B→C→D→E→F→Option Rr),(∀σ' a b c d e f,CJ σ' (S a b c d e f)→k a b c d e f=some r→J σ')→∀a b c d e f,body k a b c d e f=some r→AO P L (S a b c d e f) (Jh J Q)):AO P (.loop L) σ Q:=by
 refine AO.loop (fun n s=>∃a b c d e f,CJ s (S a b c d e f)∧Go.Proofs.YtolgdkhlelfpoaaGreat.CX body n a b c d e f=some r) BA ⟨a0,m,q,u,z,I,O,h⟩ ?_;rintro n s ⟨a,b,c,d,e,f,j,M⟩;refine CZ j ?_;cases n with
 |zero=>cases M
 |succ n=>exact round _ (Go.Proofs.YtolgdkhlelfpoaaGreat.CX body n) (fun σ' a b c d e f U Y=>⟨n,Wq n,a,b,c,d,e,f,U,Y⟩) a b c d e f M
def Wy {A B C D E F G Rr:Type} (body:(A→B→C→D→E→F→G→Option Rr)→A→B→C→D→E→F→G→Option Rr):Nat→A→B→C→D→E→F→G→Option Rr
 |0,_,_,_,_,_,_,_=>none
 |n+1,a,b,c,d,e,f,g=>body (Wy body n) a b c d e f g
def AO.Wy {P:Program} {σ:Ar} {Q:Exit→Ar→Prop} {M:Code} {A B C D E F G Rr:Type} (S:A→B→C→D→E→F→G→Ar) (body:(A→B→C→D→E→F→G→Option Rr)→A→B→C→D→E→F→G→Option Rr) (r:Rr) (a0:A) (m:B) (q:C) (u:D) (z:E) (I:F) (L:G) (U:CJ σ (S a0 m q u z I L)) (h:Go.Proofs.YtolgdkhlelfpoaaGreat.Wy body BA a0 m q u z I L=some r)
 (round:∀(J:Ar→Prop) (k:A→B→C→D→E→F→G→Option Rr),(∀σ' a b c d e f g,CJ σ' (S a b c d e f g)→k a b c d e f g=some r→J σ')→∀a b c d e f g,body k a b c d e f g=some r→AO P M (S a b c d e f g) (Jh J Q)):AO P (.loop M) σ Q:=by
 refine AO.loop (fun n s=>∃a b c d e f g,CJ s (S a b c d e f g)∧Go.Proofs.YtolgdkhlelfpoaaGreat.Wy body n a b c d e f g=some r) BA ⟨a0,m,q,u,z,I,L,U,h⟩ ?_;rintro n s ⟨a,b,c,d,e,f,g,j,O⟩;refine CZ j ?_;cases n with
 |zero=>cases O
 |succ n=>exact round _ (Go.Proofs.YtolgdkhlelfpoaaGreat.Wy body n) (fun σ' a b c d e f g Y Z=>⟨n,Wq n,a,b,c,d,e,f,g,Y,Z⟩) a b c d e f g O
section
variable {P : Program} {o : Oper} {es : List BH} {α : Type}
def aj7 {b:Nat} {z:α} {n c:Int} {r:List α} (h:IK b z n c=some r):(0≤n∧n≤c∧(b:Int)*c≤140737488355328)∧r=List.replicate n.toNat z:=by
 unfold IK at h;split at h
 ·exact⟨‹_›,(CO h).symm⟩
 cases h
def XO {x y:Operand} {t e:TypeId} {size f:Nat} {j:Value} {n c:Int} {r:List α} (enc:α→D) (z:α) (h:IK f z n c=some r) (hE:Fg P t e size f) (hz:(P.info? e).bind (·.zero)=some j) (h1:j.cells.all (·.oneCell')=true) (I:j.cells.size=size)
 (m:Eo j=(enc z).cells.map .d) (hb:0<f) (ho:o.op=.makeSlice t x y):Bc P o [(x,.d (AY n)),(y,.d (AY c))] es (.aS es.length) (es++[.arr e size (List.map enc r)]):=
 .eff fun C ok H a w hm hn=>by
  obtain⟨⟨h0,Y,hbc⟩,rfl⟩:=aj7 h;have hx:=(EN hn).1.lit;have J:=(EN hn).2.lit;simp only at hx J;obtain⟨i,z',hi,hz',hs,Z,_⟩:=hE.info;have hzv:i.zero=some j:=by rw[hi]at hz;simpa using hz
  have L:c≤9223372036854775807:=by
   have h2:(1:Int)*c≤(f:Int)*c:=Int.mul_le_mul_of_nonneg_right AL AL;omega
  have hr:=run_make (P:=P) w t e i j hE.und hi hzv .i64 .i64 n c h0 Y (by rw[Z];omega) L;rw[hs]at hr
  let cells:=madeCells j.cells (c.toNat*size)
  have M:=hE.pos;have q:cells.size=c.toNat*size:=size_madeCells _ _;have O:(Eo j).length=size:=by simp[Eo,I]
  have s:∀y∈List.map enc (List.replicate n.toNat z),y.cells.length=size:=by
   intro y J;simp only[List.map_replicate,List.mem_replicate]at J;rw[J.2,←O,m];simp
  have u:=Ph s;have hlen:(List.map enc (List.replicate n.toNat z)).length=n.toNat:=BK
  rw[hlen]at u;have ayw:n.toNat*size≤c.toNat*size:=Iu _ AL
  have hrs:∀{ok:Nat→Prop} {w:World} {H:List Ba},FH ok w H (flat (List.map enc (List.replicate n.toNat z))) (cells.toList.take (n.toNat*size)):=by
   intro ok w H;refine⟨by rw[u,Gx,QN,q];omega,fun k hk=>?_⟩;rw[u]at hk;have hd:=Fin k size;have hq:k/size<n.toNat:=qE (by rwa [TP]at hk);have hm':k % size<size:=ah _ M;have e0:k=k/size*size+k % size:=by rw[TP];exact hd.symm
   have e1:(flat (List.map enc (List.replicate n.toNat z))).getD k .junk=.d ((enc z).cells.getD (k % size) DR):=by
    have hg:=flat_get s (k/size) (k % size) (by rw[hlen];exact hq) hm';rw[←e0]at hg;rw[hg];congr 3;simp[List.getD,hq]
   have hcl:(enc z).cells.length=size:=by rw[←O,m];simp
   have e2:(Ac.d ((enc z).cells.getD (k % size) DR))=(Eo j).getD (k % size) .junk:=by
    rw[m];have :k % size<(enc z).cells.length:=AL
    simp[List.getD,this]
   have U:k % size<j.cells.size:=AL
   have e3:(cells.toList.take (n.toNat*size)).getD k undef=j.cells[k % size]:=by
    have hk2:k<c.toNat*size:=AL
    have e:cells.toList=(List.range (c.toNat*size)).map fun i=>j.cells[i % j.cells.size]! :=by
     show(madeCells j.cells (c.toNat*size)).toList=_;simp[madeCells]
    rw[e];simp only[List.getD,LZ hk];simp[hk2,I];rw[mD j.cells (k % size) U]
   rw[e1,e2,e3];have e4:(Eo j).getD (k % size) .junk=.d (NP j.cells[k % size]):=by simp[Eo,List.getD,U]
   rw[e4];exact⟨qA ((OX.1 h1) _ BK),.d _ _ (Zu _)⟩
  obtain⟨h2,h3⟩:=hm.push (.cells cells e) ⟨.slice (some ⟨w.heap.size,0,none⟩) n.toNat c.toNat,size⟩ (.arr e size (List.map enc (List.replicate n.toNat z))) (fun b hb=>by simpa[DC]using hb.symm) (by
   refine⟨rfl,s,cells.toList.take (n.toNat*size),⟨?_,.inr ⟨w.heap.size,c.toNat,cells,by rw[hlen],EF _,Vo w _,by rw[hlen];omega,aAB,OZ q.symm,by rw[hlen]⟩⟩,hrs⟩
   rw[hlen,Gx,QN,q];omega)
  refine⟨.slice (some ⟨w.heap.size,0,none⟩) n.toNat c.toNat,_,ok,_,.inl ?_,h3,Names.push _ _,h2,.aS _ _ _ _ size (by rw[←hm.hlen];simp)⟩;simp only[execOp,ho,hx,J,Ei,hr,Ep,FT];rfl
def gCopy (l m:List α):List α:=m.take l.length++l.drop m.length
def ar6 {x y:Operand} {t e:TypeId} {size bytes k:Nat} (enc:α→D) (l m:List α) (hE:Fg P t e size bytes) (hk:es[k]? =some (.arr e size (List.map enc l))) (hc:∀a,(enc a).cells.length=size) (ho:o.op=.call { callee:=.builtin .copy,args:= #[x,y],argTypes:= #[t,t] }):
 Bc P o [(x,.aS k),(y,.d (Ai enc m))] es .junk (es.set k (.arr e size (List.map enc (gCopy l m)))):=
 .eff fun C ok H a w hm hn=>by
  have hx:=(EN hn).1;have hy:=(EN hn).2;simp only at hx hy;obtain⟨h,hh,hok⟩:=FV hm.ent hm.hlen hk;have hxv:=O8 hx hh;obtain⟨i,z',hi,hz',hs,hby,_⟩:=hE.info;have hu:(underlying t).run P w=.ok (.slice e) w:=aHk
  have hsz:(sizeOf e).run P w=.ok size w:=aFR
  have O:∀(q:List α),∀y∈q.map enc,y.cells.length=size:=fun q y hy=>aE8
  have hyR:DT ok w (.sl (m.map enc)) (a.eval y):=by cases hy with |d _ _ h=>exact h
  obtain⟨f,M,axH⟩:=aK H hyR (O m);obtain⟨h1,h2,ys,U,hrs⟩:=hok;have Y:(m.map enc).length=m.length:=BK
  have hll:(l.map enc).length=l.length:=BK
  have hnl:f.length=m.length*size:=by rw[M.len,Y]
  let n:=Nat.min m.length l.length
  have Z:(Builtin.lenOf (a.eval y)).run P w=.ok m.length w:=by
   rcases M.at_ with⟨ad,c,e1,_⟩|⟨c,e1,e2⟩
   ·rw[e1];simp[Builtin.lenOf]
   rw[e1];rw[Y]at e2;simp[Builtin.lenOf,e2]
  have z:(Builtin.firstCells size n (a.eval y)).run P w=.ok (f.take (n*size)).toArray w:=by
   rcases M.at_ with⟨ad,c,e1,hcells⟩|⟨c,e1,e2⟩
   ·rw[e1];refine run_firstCells_some (P:=P) w size n ad _ c (f.take (n*size)) ?_ ?_
    ·rw[Gx,hnl];have :n*size≤m.length*size:=Iu _ (Nat.min_le_left _ _);omega
    intro j v hj;rw[ji]at hj;split at hj
    ·exact hcells j v hj
    cases hj
   rw[e1];rw[Y]at e2;have :f=[]:=GY (by rw[hnl,e2];simp);simp[Builtin.firstCells,this]
  have hone:∀u∈f.take (n*size),u.oneCell'=true:=fun u hu=>M.one u (Zz hu);have hn1:n≤m.length:=Nat.min_le_left _ _;have hn2:n≤l.length:=Nat.min_le_right _ _
  have s:(f.take (n*size)).length=n*size:=by
   rw[Gx,hnl];have :n*size≤m.length*size:=Iu _ hn1;omega
  have hgc:gCopy l m=m.take n++l.drop n:=by
   unfold gCopy;by_cases hle:m.length≤l.length
   ·have e1:n=m.length:=iH hle;rw[e1,Ns hle,Jy]
   have e1:n=l.length:=Nat.min_eq_right AL;rw[e1,aBQ AL,QG]
  have I:(gCopy l m).length=l.length:=by rw[hgc];simp;omega
  rcases U.2 with⟨hv,hl0⟩|⟨g,cap,J,hv,_,hg,hncap,hcm,hcs,htake⟩
  ·
   rw[hll]at hl0;have hn0:n=0:=AL
   have hl:l=[]:=GY hl0;have hge:gCopy l m=l:=by rw[hgc,hn0];simp
   rw[hge]
   have hset:es.set k (.arr e size (List.map enc l))=es:=by
    apply dP;intro j;by_cases hj:k=j
    ·subst hj;have hkl:=(FC.1 hk).1;rw[List.getElem?_set_self hkl,hk]
    rw[Vb hj]
   rw[hset];refine⟨goInt n,w,ok,H,.inl ?_,.refl _ _,.refl _,hm,.junk _⟩;have e0:Nat.min m.length 0=n:=by rw[hn0];simp
   have hf0:(Builtin.firstCells size 0 (a.eval y)).run P w=.ok #[] w:=by rw[hn0]at z;simpa using z
   simp[execOp,ho,resolve,invoke,builtin,Builtin.copy_,hxv,hv,hu,Z,hsz,hf0,hn0]
  ·rw[hll]at hv hncap htake;have hlt:g<w.heap.size:=(FN.1 hg).1
   have hfit:n*size≤J.size:=by
    exact Dn (Iu _ AL) hcs
   have hst:=aDn (P:=P) g 0 e (f.take (n*size)) 0 J w hg (by rw[s];omega) hone;have arx:∀y∈(gCopy l m).map enc,y.cells.length=size:=O _
   obtain⟨h3,h4⟩:=hm.upd (e:=.arr e size (List.map enc (gCopy l m))) (w':=w.setRow g (J.toList.take (0+0)++f.take (n*size)++J.toList.drop (0+0+(f.take (n*size)).length)).toArray) hk rfl hh (by rw[hv];rfl) rfl rfl rfl aDB (fun c hc=>aE0 _ _ _ _ hc) (fun hg'=>by
    refine⟨h1,arx,f.take (n*size)++ys.drop (n*size),?_,?_⟩
    ·refine⟨?_,.inr ⟨g,cap,_,by rw[Ch,I];exact hv,EF _,oq w g J _ e (0,0) hg,by rw[Ch,I];exact hncap,hcm,?_,?_⟩⟩
     ·simp only[Dx,s,Jc,U.1,Ch,I];have :n*size≤l.length*size:=Iu _ hn2;omega
     ·simp only[OM,aCN,J4,Ie,s];simp only[Zk,Dx,s,Jc,QN];rw[show n*size+(J.size-n*size)=J.size by omega];exact hcs
     simp only[OM,aCN,J4,Ie,s,zf];rw[Ch,I,←htake];rw[aGJ,s,Ns (by rw[s];exact Iu _ hn2)];congr 1;rw[List.drop_take]
    have ha:=axH.mono hg' (Names.refl H);have hb:=hrs.mono hg' (Names.refl H);have axI:=Ph (O l);have axJ:=Ph (O m);have avC:=Ph arx;have ayx:n*size≤l.length*size:=Iu _ hn2;have ayy:n*size≤m.length*size:=Iu _ hn1;refine⟨by simp only[avC,Dx,s,Jc,U.1,Ch,I];omega,fun j hj=>?_⟩;rw[avC,Ch,I]at hj;have hpos:=hE.pos;have e0:j=j/size*size+j % size:=by rw[TP];exact(Fin j size).symm
    have hq:j/size<l.length:=qE (by rwa [TP]at hj);have hr:j % size<size:=ah _ hpos;have hg3:=flat_get arx (j/size) (j % size) (by rw[Ch,I];exact hq) hr;rw[←e0]at hg3;by_cases hjn:j<n*size
    ·have hqn:j/size<n:=qE (by rwa [TP]at hjn);have hg2:=flat_get (O m) (j/size) (j % size) (by rw[Y];omega) hr;rw[←e0]at hg2
     have L:((gCopy l m).map enc).getD (j/size) DR=(m.map enc).getD (j/size) DR:=by
      rw[hgc];simp only[List.getD,I9];rw[Fr E8,WY,LZ hqn]
     rw[hg3,L,←hg2]
     have e5:(f.take (n*size)++ys.drop (n*size)).getD j undef=f.getD j undef:=by
      simp only[List.getD];rw[Fr (by rw[s];exact hjn),LZ hjn]
     rw[e5];exact ha.2 j (by rw[axJ,Y];omega)
    have hqn:n≤j/size:=(Nat.le_div_iff_mul_le hpos).2 AL;have hg1:=flat_get (O l) (j/size) (j % size) (by rw[hll];exact hq) hr;rw[←e0]at hg1
    have L:((gCopy l m).map enc).getD (j/size) DR=(l.map enc).getD (j/size) DR:=by
     rw[hgc];have hlt':(m.take n).length=n:=E8
     simp only[List.getD,I9];rw[Ir (by rw[Ch,hlt'];exact hqn),Ch,hlt',Y6,Nz];congr 2;omega
    rw[hg3,L,←hg1]
    have e5:(f.take (n*size)++ys.drop (n*size)).getD j undef=ys.getD j undef:=by
     simp only[List.getD];rw[Ir (by rw[s];omega),s,Nz];congr 2;omega
    rw[e5]
    exact hb.2 j (by rw[axI,hll];omega))
   refine⟨goInt n,_,ok,H,.inl ?_,h4,.refl _,h3,.junk _⟩;have e0:Nat.min m.length l.length=n:=rfl;simp[execOp,ho,resolve,invoke,builtin,Builtin.copy_,hxv,hv,hu,Z,hsz,e0,z];rw[hst];simp
end
def Bf (s:ByteArray):List Int:=s.data.toList.map fun c=>(c.toNat:Int)
def GV (s:ByteArray):(Bf s).length=s.size:=by unfold Bf;rw[Ch,QN];rfl
section
variable {P : Program} {o : Oper} {es : List BH} {α : Type}
def yg :∀(l:List Int),flat (l.map CV)=l.map fun n=>.d (CV n)
 | []=>rfl
 |n::l=>by rw[JD,UD,yg l];rfl
def anr {w:World} {t u ty e:TypeId} {i:TypeInfo} (Z:P.underlying t=some (.slice e)) (hu:P.underlying u=some .string) (hi:P.info? e=some i) (hz:i.zero=some (.int .u8 0)) (f:i.size=1) (U:i.bytes=1)
 {v:Value} {n:Nat} {xs:List Value} (m:lG w e 1 v n xs) (s:ByteArray) (L:n+s.size≤maxLen) (I:n+s.size≤140737488355328):
 ∃v' w',(Builtin.append_ #[t,u] ty #[v,.string s]).run P w=.ok v' w'∧lG w' e 1 v' (n+s.size) (xs++Lib.strCells s)∧w.grownBy w' v.ownBlock∧(∀O,DC v'=some O→DC v=some O∨w.heap.size≤O):=by
 have J:xs.length=n:=by simpa using m.1
 have hlen:(xs++Lib.strCells s).length=(n+s.size)*1:=by rw[Dx,J,aFF,YJ]
 rcases m.2 with⟨rfl,rfl⟩|⟨g,cap,Y,rfl,_,hg,hnc,M,hcs,q⟩
 ·have hx:xs=[]:=GY J;subst hx;obtain⟨v',w',q1,q2,q3,q4⟩:=Lib.run_append_own_string (P:=P) w w.heap.size t u ty e i Z hu hi hz f U _ 0 [] (tZ w w.heap.size e 1) s L I (Dw _);refine⟨v',w',q1,.of q2,q3,fun O j=>.inr ?_⟩;rcases q2.2 with⟨rfl,_⟩|⟨g2,_,_,rfl,hle,_⟩
  ·simp[DC]at j
  simp[DC]at j;subst j;exact hle
 rw[YJ]at hcs q;by_cases z:n+s.size≤cap
 ·have hr:=Lib.run_append_room_string (P:=P) w t u ty e i Z hu hi f g n cap Y hg s z AL;refine⟨_,_,hr,⟨hlen,.inr ⟨g,cap,_,rfl,EF _,oq w g Y _ e _ hg,z,M,?_,?_⟩⟩,⟨rfl,rfl,rfl,BK,fun k _ hk=>setRow_other w g k _ (fun e=>hk (by simp[Value.ownBlock,e]))⟩,fun O j=>.inl j⟩
  ·simp only[Zk,Dx,Gx,Jc,QN,aFF];omega
  rw[q,←hlen];exact aFa
 have hr:=Lib.run_append_grow_string (P:=P) w t u ty e i (.int .u8 0) Z hu hi hz ⟨g,0,none⟩ n cap xs (by rw[f];simpa using J) (m.cells (g:=g) rfl) s AL (by unfold maxLen at L;omega) (by rw[U];exact growslice_fits AL AL);have hge:=grownCap_ge w (n+s.size) cap e;have M:grownCap w (n+s.size) cap e≤maxLen:=grownCap_le_maxLen w (n+s.size) cap e L;refine⟨_,_,hr,⟨hlen,.inr ⟨w.heap.size,_,_,rfl,EF _,Vo w.drew _,hge,M,OZ ?_,?_⟩⟩,⟨rfl,rfl,rfl,BK,fun k hk _=>Io w.drew _ k hk⟩,fun O j=>.inr (by simp[DC]at j;omega)⟩
 ·have hz1:(Value.int IntKind.u8 0).cells.size=1:=rfl;simp only[Array.size_append,Zk,size_zeroCells,hz1,J,aFF];omega
 simp only[Array.toList_append,Gu];rw[←Gu,←hlen];exact aFa
def anC {s x:Operand} {t u e:TypeId} {k:Nat} {l r:List Int} {f:ByteArray} (h:DU 1 l (Bf f)=some r) (hE:Fg P t e 1 1) (hz:(P.info? e).bind (·.zero)=some (.int .u8 0)) (hu:P.underlying u=some .string) (hk:es[k]? =some (.arr e 1 (List.map CV l)))
 (ho:o.op=.call { callee:=.builtin .append,args:= #[s,x],argTypes:= #[t,u] }):Bc P o [(s,.aS k),(x,.d (CQ f))] es (.aS es.length) (es.set k .dead++[.arr e 1 (List.map CV r)]):=
 .eff fun C ok H a w Z hn=>by
  obtain⟨rfl,hlen⟩:=aBK h;rw[GV,YJ]at hlen;have hs:=(EN hn).1;have hx:=(EN hn).2.lit;simp only at hs hx;obtain⟨hd,hh,hok⟩:=FV Z.ent Z.hlen hk;have hsv:=O8 hs hh;obtain⟨h1,h2,ys,m,hrs⟩:=hok;obtain⟨i,z',hi,hz',hs1,hby,_⟩:=hE.info;have hz2:i.zero=some (.int .u8 0):=by rw[hi]at hz;simpa using hz
  have I:(l.map CV).length=l.length:=BK
  have J:(l.map CV).length+f.size≤maxLen:=by rw[I];unfold maxLen;omega
  obtain⟨v',w',hr,z,L,M⟩:=anr (P:=P) (ty:=o.type) hE.und hu hi hz2 hs1 hby m f J (by rw[I];exact hlen)
  obtain⟨h3,h4⟩:=Z.turn (h':=⟨v',1⟩) (e:=.arr e 1 (List.map CV (l++Bf f))) hk rfl hh L.os L.tape L.output L.size (fun c hc hne=>L.block c hc (by rw[aHe m];exact fun e=>hne e.symm)) (fun g O=>⟨qG z O,M g O⟩) (fun hgr=>by
   refine⟨rfl,fun y hy=>by obtain⟨q,_,rfl⟩:=F7.1 hy;rfl,ys++Lib.strCells f,?_,?_⟩
   ·have e:(List.map CV (l++Bf f)).length=(l.map CV).length+f.size:=by simp[GV]
    rw[e];exact z
   have U:=hrs.mono hgr (Names.push H [⟨v',1⟩]);have hfl:(flat (l.map CV)).length=l.length:=by rw[yg];simp
   have hcl:(Lib.strCells f)=(Bf f).map (.int .u8):=by unfold Lib.strCells Bf;rw[ZI];rfl
   rw[I9,cD,yg (Bf f),hcl];refine⟨by rw[Dx,Dx,U.1,Ch,Ch],fun i hi=>?_⟩;by_cases j:i<(flat (l.map CV)).length
   ·have e1:(flat (l.map CV)++(Bf f).map fun n=>Ac.d (CV n)).getD i .junk=(flat (l.map CV)).getD i .junk:=by simp[List.getD,Fr j]
    have e2:(ys++(Bf f).map (Value.int .u8)).getD i undef=ys.getD i undef:=by simp[List.getD,Fr (by rw[U.1];exact j:i<ys.length)]
    rw[e1,e2];exact U.2 i j
   have Y:i-(flat (l.map CV)).length<(Bf f).length:=by rw[Dx,Ch]at hi;omega
   have e1:(flat (l.map CV)++(Bf f).map fun n=>Ac.d (CV n)).getD i .junk=.d (CV (Bf f)[i-(flat (l.map CV)).length]):=by simp[List.getD,Ir (RI j),Y]
   have e2:(ys++(Bf f).map (Value.int .u8)).getD i undef=.int .u8 (Bf f)[i-(flat (l.map CV)).length]:=by simp[List.getD,Ir (by rw[U.1];omega:ys.length≤i),U.1,Y]
   rw[e1,e2]
   exact⟨rfl,.d _ _ (.lit _)⟩)
  have hH:(H++[(⟨v',1⟩:Ba)])[es.length]? =some ⟨v',1⟩:=by rw[←Z.hlen];simp
  refine⟨v',w',ok,_,.inl ?_,h4,Names.push _ _,h3,?_⟩
  ·simp[execOp,ho,resolve,invoke,builtin,hx,hsv,hr]
  rcases z.2 with⟨rfl,_⟩|⟨g',c',_,rfl,_⟩
  ·exact .aS _ _ _ _ 1 hH
  exact .aS _ _ _ _ 1 hH
def afC {x:Operand} {u z e:TypeId} {s:ByteArray} (L:P.underlying u=some .string) (hd:P.underlying z=some (.slice e)) (M:P.underlying e=some (.int .u8)) (O:o.op=.convert u z x):Bc P o [(x,.d (CQ s))] es (.d (Ai CV (Bf s))) es:=
 .eff fun C ok H a w U Y=>by
  have J:=(J6 Y).lit;simp only at J;have Z:=run_bytes_of_string (P:=P) w u z e s L hd M;obtain⟨h1,h2⟩:=U.drew;obtain⟨h3,h4⟩:=h1.fresh (.cells (bytesRow s (grownCap w s.size 0 e)) e ((bytesRow s (grownCap w s.size 0 e)).size,(bytesRow s (grownCap w s.size 0 e)).size+1));refine⟨.slice (some ⟨w.heap.size,0,none⟩) s.size (grownCap w s.size 0 e),_,_,H,.inl ?_,h2.trans h4,.refl _,h3,.d _ _ ?_⟩
  ·simp only[execOp,O,J,Ei,Z,Ep,FT]
  have f:((Bf s).map CV).length=s.size:=by simp[GV]
  have m:∀i,i<s.size→(w.drew.alloc (.cells (bytesRow s (grownCap w s.size 0 e)) e ((bytesRow s (grownCap w s.size 0 e)).size,(bytesRow s (grownCap w s.size 0 e)).size+1))).cell? ⟨w.heap.size,0+(i*1+0),none⟩=some (.int .u8 ((s.data.toList.getD i 0).toNat)):=by
   intro i hi;have hb:(w.drew.alloc (.cells (bytesRow s (grownCap w s.size 0 e)) e ((bytesRow s (grownCap w s.size 0 e)).size,(bytesRow s (grownCap w s.size 0 e)).size+1))).heap[w.heap.size]? =some (.cells (bytesRow s (grownCap w s.size 0 e)) e ((bytesRow s (grownCap w s.size 0 e)).size,(bytesRow s (grownCap w s.size 0 e)).size+1)):=Vo w.drew _;rw[Ie,YJ,OM];have q:i<s.data.size:=hi
   have hg:(bytesRow s (grownCap w s.size 0 e))[i]? =some (.int .u8 ((s.data.toList.getD i 0).toNat)):=by
    unfold bytesRow;rw[WG KH];simp[dU q,List.getD]
   unfold World.cell?;simp only[hb];simpa using hg
  have hl:∀i,i<s.size→((Bf s).map CV).getD i DR=CV ((s.data.toList.getD i 0).toNat):=by
   intro i hi;have q:i<s.data.size:=hi;simp[Bf,List.getD,dU q]
  have z0:∀j,j<1→j=0:=fun j I=>AL
  have :=DT.sl (ok:=fun b=>ok b∨b=w.drew.heap.size) (w:=w.drew.alloc (.cells (bytesRow s (grownCap w s.size 0 e)) e ((bytesRow s (grownCap w s.size 0 e)).size,(bytesRow s (grownCap w s.size 0 e)).size+1))) ((Bf s).map CV) w.heap.size 0 (grownCap w s.size 0 e) 1 (by rw[f];exact grownCap_ge w s.size 0 e) (fun _ _=>.inr rfl)
   (fun i hi=>by rw[f]at hi;rw[hl i hi];rfl)
   (fun i hi j I=>by rw[f]at hi;rw[z0 j I,hl i hi];rfl)
   (fun i hi j I=>by rw[f]at hi;rw[z0 j I,m i hi];rfl)
   (fun i hi j I=>by rw[f]at hi;rw[z0 j I];unfold cellAt;rw[m i hi,hl i hi];exact .lit _)
  rw[f]at this;exact this
def E5 (op:BinOp) (k:IntKind) (x y:Int):Int:=
 match op with
 | .and=>k.wrap ((BitVec.ofInt k.bits x&&& BitVec.ofInt k.bits y).toNat)
 | .or=>k.wrap ((BitVec.ofInt k.bits x|||BitVec.ofInt k.bits y).toNat)
 | .xor=>k.wrap ((BitVec.ofInt k.bits x^^^BitVec.ofInt k.bits y).toNat)
 |_=>k.wrap ((BitVec.ofInt k.bits x&&& ~~~(BitVec.ofInt k.bits y)).toNat)
def Ol {t t':TypeId} {x y:Operand} {k:IntKind} {u v:Int} (f:o.op=.binOp .and t x y t'):Bc P o [(x,.d (.lit (.int k u))),(y,.d (.lit (.int k v)))] es (.d (.lit (.int k (E5 .and k u v)))) es:=
 DY f (fun w=>xH) ⟨rfl,rfl⟩
def V5 {t t':TypeId} {x y:Operand} {k:IntKind} {u v:Int} (f:o.op=.binOp .or t x y t'):Bc P o [(x,.d (.lit (.int k u))),(y,.d (.lit (.int k v)))] es (.d (.lit (.int k (E5 .or k u v)))) es:=
 DY f (fun w=>xH) ⟨rfl,rfl⟩
def aJB {t t':TypeId} {x y:Operand} {k:IntKind} {u v:Int} (f:o.op=.binOp .xor t x y t'):Bc P o [(x,.d (.lit (.int k u))),(y,.d (.lit (.int k v)))] es (.d (.lit (.int k (E5 .xor k u v)))) es:=
 DY f (fun w=>xH) ⟨rfl,rfl⟩
def am2 {t t':TypeId} {x y:Operand} {k:IntKind} {u v:Int} (f:o.op=.binOp .andNot t x y t'):Bc P o [(x,.d (.lit (.int k u))),(y,.d (.lit (.int k v)))] es (.d (.lit (.int k (E5 .andNot k u v)))) es:=
 DY f (fun w=>xH) ⟨rfl,rfl⟩
def Xx (k:IntKind) (x:Int):Int:=E5 .xor k (if k.signed then -1 else k.max) x
def aMP {t:TypeId} {x:Operand} {k:IntKind} {u:Int} (f:o.op=.unOp .xor t x):Bc P o [(x,.d (.lit (.int k u)))] es (.d (.lit (.int k (Xx k u)))) es:=
 aFb f (fun w=>by simp[Op.unary,Op.intBits,Xx,E5])
def N7 (op:BinOp) (k:IntKind) (x y:Int):Option Int:=
 if y<0 then none else some (match op with | .shl=>k.wrap (x*2^(min y.toNat k.bits))|_=>x.fdiv (2^(min y.toNat k.bits)))
def uZ {t t':TypeId} {x y:Operand} {k k':IntKind} {u v r:Int} (h:N7 .shl k u v=some r) (f:o.op=.binOp .shl t x y t'):Bc P o [(x,.d (.lit (.int k u))),(y,.d (.lit (.int k' v)))] es (.d (.lit (.int k r))) es:=by
 unfold N7 at h;split at h
 ·cases h
 rename_i j;obtain rfl:=CO h;exact DY f (fun w=>by simp[binOp,Op.shift,j]) ⟨rfl,rfl⟩
def aMH {t t':TypeId} {x y:Operand} {k k':IntKind} {u v r:Int} (h:N7 .shr k u v=some r) (f:o.op=.binOp .shr t x y t'):Bc P o [(x,.d (.lit (.int k u))),(y,.d (.lit (.int k' v)))] es (.d (.lit (.int k r))) es:=by
 unfold N7 at h;split at h
 ·cases h
 rename_i j;obtain rfl:=CO h;exact DY f (fun w=>by simp[binOp,Op.shift,j]) ⟨rfl,rfl⟩
def qL (k:IntKind) (a b:Int):Option Int:=if b=0 then none else some (k.wrap (a.tdiv b))
def UA (a b:Int):Option Int:=if b=0 then none else some (a.tmod b)
def asW {t t':TypeId} {x y:Operand} {k:IntKind} {u v r:Int} (h:qL k u v=some r) (f:o.op=.binOp .quo t x y t'):Bc P o [(x,.d (.lit (.int k u))),(y,.d (.lit (.int k v)))] es (.d (.lit (.int k r))) es:=by
 unfold qL at h;split at h
 ·cases h
 rename_i j;obtain rfl:=CO h;exact DY f (fun w=>by simp[binOp,Op.intDiv,j]) ⟨rfl,rfl⟩
def aCu {t t':TypeId} {x y:Operand} {k:IntKind} {u v r:Int} (h:UA u v=some r) (f:o.op=.binOp .rem t x y t'):Bc P o [(x,.d (.lit (.int k u))),(y,.d (.lit (.int k v)))] es (.d (.lit (.int k r))) es:=by
 unfold UA at h;split at h
 ·cases h
 rename_i j;obtain rfl:=CO h;exact DY f (fun w=>by simp[binOp,Op.intDiv,j]) ⟨rfl,rfl⟩
end
section
variable {P : Program} {o : Oper} {es : List BH} {α : Type}
def adg {ok:Nat→Prop} {w:World} {H:List Ba} {h:Ba} {e size k i off:Nat} {xs:List D} {v:Value} (M:H[k]? =some h) (q:EW ok w H h (.arr e size xs)) (hi:i<xs.length) (O:R ok w H (.kE k i off) v):
 ∃g cap f ys,h.v=.slice (some ⟨g,0,none⟩) xs.length cap∧w.heap[g]? =some (.cells f e (0,0))∧xs.length≤cap∧cap≤maxLen∧xs.length*size≤f.size∧cap*size≤f.size∧f.toList.take (xs.length*size)=ys∧ys.length=xs.length*size∧FH ok w H (flat xs) ys∧(∀x∈xs,x.cells.length=size)∧v=.pointer (some ⟨g,i*size+off,none⟩):=by
 obtain⟨I,U,ys,⟨Y,Z⟩,h5⟩:=q;rcases Z with⟨m,h7⟩|⟨g,cap,f,m,h7,h8,J,u,j,z⟩
 ·omega
 refine⟨g,cap,f,ys,m,h8,J,u,Dn (Iu _ J) j,j,z,Y,h5,U,?_⟩;cases O with
 |kE _ _ _ b n c s L=>
  rw[M]at L;obtain rfl:=CO L;simp only[fU,Jq,Addr.mk.injEq]at m;simp only at I;rw[m.1.1,I]
def aKr {size n i j:Nat} (hi:i<n) (f:j<size):i*size+j<n*size:=
 calc i*size+j<i*size+size:=AL
  _=(i+1)*size:=by rw[Sl]
  _≤n*size:=Iu _ hi
def RH {x:Operand} {t:TypeId} {agg:Bool} {k n i off e size:Nat} {y:D} (enc:α→D) {l:List α} {a:α} (hy:y=Nc agg (enc a).cells off n) (hk:es[k]? =some (.arr e size (List.map enc l))) (ha:l[i]? =some a) (hT:Dc P t agg n) (hn:off+n≤(enc a).cells.length) (h1:agg=false→n=1)
 (ho:o.op=.load t x):Bc P o [(x,.kE k i off)] es (.d y) es:=
 .pure fun ok H ac w J hl O=>by
  have hx:=J6 O;simp only at hx;subst hy;obtain⟨h,hh,U⟩:=FV J hl hk;obtain⟨u,L⟩:=FC.1 ha;have f:i<(List.map enc l).length:=Md
  obtain⟨g,cap,m,ys,e1,e2,e3,e4,e5,e5',e6,e7,e8,Y,Z⟩:=adg hh U f hx;have z:(List.map enc l).getD i DR=enc a:=by simp[List.getD,u,L]
  have hsz:(enc a).cells.length=size:=by
   refine Y _ ?_;exact F7.2 ⟨a,by rw[←L];exact Eh u,rfl⟩
  have hfl:=Ph Y
  have q:∀j,j<size→w.cell? ⟨g,i*size+j,none⟩=some (ys.getD (i*size+j) undef):=by
   intro j I;have s:=aKr f I;have hcur:(List.map enc l).length*size≤m.size:=e5;have h15:i*size+j<m.size:=AL
   have e11:ys.getD (i*size+j) undef=m[i*size+j]'(h15):=by
    rw[←e6];have h14:i*size+j<l.length*size:=VJ
    simp[List.getD,LZ h14,show i*size+j<m.size by omega]
   rw[e11];simp[World.cell?,e2,show i*size+j<m.size by omega]
  have M:∀j,j<size→((enc a).cells.getD j DR).leaf=true∧DT ok w ((enc a).cells.getD j DR) (ys.getD (i*size+j) undef):=by
   intro j I;have s:=e8.2 (i*size+j) (by rw[hfl];exact aKr f I);rw[flat_get Y i j f I,z]at s;refine⟨s.1,?_⟩;cases s.2 with |d _ _ h=>exact h
  obtain⟨v,hr,hD⟩:=aA6 (ok:=ok) (w:=w) (b:=g) (p:=i*size) (cs:=(enc a).cells) hT hn h1 (fun j I=>(M j AL).1) (fun j I=>by rw[q j AL];rfl) (fun j I=>by unfold cellAt;rw[q j AL];exact(M j AL).2);exact⟨v,by simp only[execOp,ho,Z,Ei,hr,Ep,FT],.d _ _ hD⟩
def ZU {t:TypeId} {x y:Operand} {k i off n e size:Nat} (enc:α→D) {l:List α} {a a':α} {v:Ac} (hk:es[k]? =some (.arr e size (List.map enc l))) (ha:l[i]? =some a) (hl:v.cells.all Ac.leaf=true) (hs:∀w,(sizeOf t).run P w=.ok n w) (hn:v.cells.length=n)
 (hle:off+n≤(enc a).cells.length) (hset:(enc a').cells.map Ac.d=setAt ((enc a).cells.map Ac.d) off v.cells) (hc:∀b,(enc b).cells.length=size) (ho:o.op=.store t x y):
 Bc P o [(x,.kE k i off),(y,v)] es .junk (es.set k (.arr e size (List.map enc (l.set i a')))):=
 .eff fun C ok H s w hm hn'=>by
  have h1:=(EN hn').1;have h2:=(EN hn').2;simp only at h1 h2;obtain⟨h,hh,hok⟩:=FV hm.ent hm.hlen hk;obtain⟨M,hia⟩:=FC.1 ha;have axK:i<(List.map enc l).length:=jg
  have hok1:=hok.1;obtain⟨g,cap,f,ys,e1,e2,e3,e4,e5,e5',e6,e7,e8,e9,e10⟩:=adg hh hok axK h1;have m:=h2.ada hl;have hll:(List.map enc l).length=l.length:=BK
  rw[hll]at e1 e3 e6 e7;have hea:(enc a).cells.length=size:=hc a;have O:(s.eval y).cells.toList.length=n:=by rw[m.1,hn]
  have hsz:(s.eval y).cells.size=n:=by simpa using O
  have hcur:l.length*size≤f.size:=by simpa using e5
  have hend:i*size+off+n≤l.length*size:=by
   have :(i+1)*size≤l.length*size:=Iu _ M;rw[Sl]at this;omega
  have hst:=aDn (P:=P) g (i*size+off) e (s.eval y).cells.toList 0 f w e2 (by rw[O];omega) (fun u hu=>by
   obtain⟨j,z,rfl⟩:=Hf hu;have h5:=m.2 j (by rw[←m.1];exact z);have :=h5.2.leaf h5.1
   rwa [xO z]at this)
  simp only[OM]at hst;have J:∀(q:List α),∀y∈q.map enc,y.cells.length=size:=fun q y hy=>aE8
  obtain⟨h3,h4⟩:=hm.upd (e:=.arr e size (List.map enc (l.set i a'))) (w':=w.setRow g (f.toList.take (i*size+off)++(s.eval y).cells.toList++f.toList.drop (i*size+off+(s.eval y).cells.toList.length)).toArray) hk rfl hh (by rw[e1];rfl) rfl rfl rfl aDB (fun c hc=>aE0 _ _ _ _ hc) (fun hg'=>by
   have esz:(setAt f.toList (i*size+off) (s.eval y).cells.toList).length=f.toList.length:=QJ (by have :=f.length_toList;omega);refine⟨hok1,J _,setAt ys (i*size+off) (s.eval y).cells.toList,⟨?_,.inr ⟨g,cap,_,by simp;exact e1,EF _,oq w g f _ e (0,0) e2,by simpa using e3,e4,?_,?_⟩⟩,?_⟩
   ·rw[QJ AL];simpa using e7
   ·have h9:(setAt f.toList (i*size+off) (s.eval y).cells.toList).toArray.size=f.size:=by rw[Zk,esz];simp
    show _≤(setAt f.toList (i*size+off) (s.eval y).cells.toList).toArray.size;rw[h9];exact e5'
   ·rw[zf];show(setAt f.toList (i*size+off) (s.eval y).cells.toList).take _=_;rw[←e6];have hlen':(List.map enc (l.set i a')).length=l.length:=BK
    rw[hlen'];apply dP;intro j;have hcl:=f.length_toList;by_cases z:j<l.length*size
    ·have a1:((setAt f.toList (i*size+off) (s.eval y).cells.toList).take (l.length*size))[j]? =some ((setAt f.toList (i*size+off) (s.eval y).cells.toList).getD j undef):=by
      rw[LZ z];simp[List.getD,show j<(setAt f.toList (i*size+off) (s.eval y).cells.toList).length by rw[esz];omega]
     have tl:(f.toList.take (l.length*size)).length=l.length*size:=E8
     have sl:(setAt (f.toList.take (l.length*size)) (i*size+off) (s.eval y).cells.toList).length=l.length*size:=by rw[QJ AL,tl]
     have a2:(setAt (f.toList.take (l.length*size)) (i*size+off) (s.eval y).cells.toList)[j]? =some ((setAt (f.toList.take (l.length*size)) (i*size+off) (s.eval y).cells.toList).getD j undef):=by
      simp[List.getD,show j<(setAt (f.toList.take (l.length*size)) (i*size+off) (s.eval y).cells.toList).length by omega]
     rw[a1,a2,X6 AL,X6 AL];congr 1;split
     ·rfl
     simp[List.getD,LZ z]
    have tl:(f.toList.take (l.length*size)).length=l.length*size:=E8
    have sl:(setAt (f.toList.take (l.length*size)) (i*size+off) (s.eval y).cells.toList).length=l.length*size:=by rw[QJ AL,tl]
    rw[Jp E8,Jp AL]
   have hb:=e8.mono hg' (Names.refl H);have hcr:=m.mono hg' (Names.refl H);have hfl:=Ph (J l);have U:=Ph (J (l.set i a'));refine⟨by rw[QJ AL,e7,U];simp,fun j z=>?_⟩;rw[U]at z;simp only[Ch,Us]at z
   have Y:0<size:=by
    rcases XW size with h0|h0
    ·rw[h0,Nat.mul_zero]at z;omega
    exact h0
   have e0:j=j/size*size+j % size:=by rw[TP];exact(Fin j size).symm
   have hq:j/size<l.length:=qE (by rwa [TP]at z);have hr:j % size<size:=ah _ Y
   have Z:j/size=i↔i*size≤j∧j<i*size+size:=by
    rw[Nat.div_eq_iff Y,TP];omega
   rw[O]at hb hcr;generalize j/size=qd at e0 hq Z;generalize j % size=I at e0 hr;have hg3:=flat_get (J (l.set i a')) qd I (by simpa using hq) hr;rw[←e0]at hg3;have hg1:=flat_get (J l) qd I (by simpa using hq) hr;rw[←e0]at hg1;rw[hg3,X6 AL,O];by_cases L:qd=i
   ·have hnew:(List.map enc (l.set i a')).getD (qd) DR=enc a':=by rw[L];simp[List.getD,M]
    have hold:(List.map enc l).getD (qd) DR=enc a:=by rw[L];simp[List.getD,M,hia]
    rw[hnew];have ayz:(enc a').cells.length=size:=hc a'
    have e11:Ac.d ((enc a').cells.getD (I) DR)=(setAt ((enc a).cells.map Ac.d) off v.cells).getD (I) .junk:=by
     rw[←hset];simp[List.getD,show I<(enc a').cells.length by omega]
    rw[e11,X6 (by rw[Ch,hn];exact hle),hn];have hji:j=i*size+I:=by rw[←L];exact e0
    by_cases hin:off≤I∧I<off+n
    ·rw[Cb hin,Cb AL];have :j-(i*size+off)=I-off:=AL
     rw[this];exact hcr.2 _ AL
    rw[D9 hin,D9 AL];have e12:((enc a).cells.map Ac.d).getD (I) .junk=.d ((enc a).cells.getD (I) DR):=by simp[List.getD,show I<(enc a).cells.length by omega]
    rw[e12,←hold,←hg1];exact hb.2 j (by rw[hfl];simpa using z)
   have hsame:(List.map enc (l.set i a')).getD (qd) DR=(List.map enc l).getD (qd) DR:=by
    simp[List.getD,Vb (Ne.symm L)]
   have hnot:¬(i*size+off≤j∧j<i*size+off+n):=by
    rintro⟨ha1,ha2⟩;exact L (Z.2 ⟨AL,AL⟩)
   rw[D9 hnot,hsame,←hg1]
   exact hb.2 j (by rw[hfl];simpa using z))
  refine⟨undef,_,ok,H,.inr ⟨rfl,?_⟩,h4,.refl _,h3,.junk _⟩;simp only[execOp,ho,e10,Instr.storeAt,Instr.sureAddr,storeVar,Ei,FT,Ep,hs,hsz,ne_eq,not_true_eq_false,Jl,hst]
end
def Ac.PI (k:Nat) (cs:List D):Ac→Ac
 | .ptr j off=>if j=k then .d (.ref cs off)else .ptr j off
 |x=>x
def Ar.PI (σ:Ar) (k:Nat) (cs:List D):Ar:=⟨σ.slots.map (Ac.PI k cs),σ.ents.set k .dead,σ.base⟩
def TN {σ:Ar} (k:Nat) {cs:List Ac} (hk:σ.ents[k]? =some (.box cs)) (hd:cs.all Ac.yF=true):∀C ok H a w,Holds C ok H σ a w→∃ok',Holds C ok' H (σ.PI k (Hr cs)) a w:=by
 intro C ok H a w f;obtain⟨h,L,hok⟩:=FV f.mem.ent f.mem.hlen hk;have u:k<σ.ents.length:=(FC.1 hk).1;obtain⟨b0,M,hf,hx,hc⟩:=aFk hok hd
 let ok':Nat→Prop:=fun b=>ok b∨DC h.v=some b
 have J:=fun b m=>f.mem.blk k _ h b hk rfl L m;have hg:Dz ok w ok' w:=fun b m=>⟨.inl m,rfl⟩
 refine⟨ok',⟨f.mem.fr,fun b m=>.inl (f.mem.vY b m),?_,?_,f.mem.names,by simp[Ar.PI,f.mem.hlen],?_,?_,?_⟩,by simp[Ar.PI,f.size],f.defers.mono hg,f.base,?_⟩
 ·rintro b (m|m)
  ·exact f.mem.vZ b m
  exact .inr (J b m).2.2
 ·rintro b (m|m)
  ·exact f.mem.jF b m
  exact(J b m).2.1
 ·intro j e' h' he z;rcases KR u he with⟨rfl,rfl⟩|⟨_,I⟩
  ·trivial
  exact(f.mem.ent j e' h' I z).mono hg (.refl _) (fun _ _ _=>rfl)
 ·intro j e' h' b he hl z m;rcases KR u he with⟨rfl,rfl⟩|⟨hne,I⟩
  ·cases hl
  have h3:=f.mem.blk j e' h' b I hl z m;refine⟨fun q=>?_,h3.2⟩;rcases q with q|q
  ·exact h3.1 q
  exact hne (f.mem.Cm j k e' _ h' h b I hk hl rfl z L m q)
 ·intro i j e1 e2 h1 h2 b he1 he2 O U hh1 hh2 hb1 hb2;rcases KR u he1 with⟨rfl,rfl⟩|⟨_,Y⟩
  ·cases O
  rcases KR u he2 with⟨rfl,rfl⟩|⟨_,Z⟩
  ·cases U
  exact f.mem.Cm i j e1 e2 h1 h2 b Y Z O U hh1 hh2 hb1 hb2
 intro t ht;simp only[Ar.PI,Ch]at ht
 have e1:(σ.PI k (Hr cs)).slots.getD t .junk=(σ.slots.getD t .junk).PI k (Hr cs):=by
  simp only[Ar.PI];exact Td _ _ _ ht
 rw[e1];have hR:=(f.slot t ht).mono hg (Names.refl H);generalize σ.slots.getD t .junk=x at hR ⊢;generalize a.tmps.getD t undef=v at hR ⊢;cases x with
 |ptr j off=>
  simp only[Ac.PI];split
  ·rename_i hj;subst hj;cases hR with
   |ptr _ _ b s hH=>
    rw[L]at hH;obtain rfl:=CO hH;simp at M;subst M;have :=DT.ref (ok:=ok') (w:=w) (Hr cs) off b 0 (fun _=>.inr rfl) hf hx (fun j hj=>(hc j hj).mono hg);rw[Ie]at this;exact .d _ _ this
  exact hR
 |_=>exact hR
section
variable {P : Program} {o : Oper} {es : List BH} {α β γ : Type}
def kZ {ok:Nat→Prop} {w:World} {H:List Ba} {a:Act}:∀{xs:List Operand} {vs:List Ac},xs.length=vs.length→(∀n∈Ef xs vs,R ok w H n.2 (a.eval n.1))→∀i,i<vs.length→R ok w H (vs.getD i .junk) ((xs.map a.eval).getD i undef)
 | [],[],_,_,i,hi=>MN
 | [],_::_,h,_,_,_=>Gw
 |_::_,[],h,_,_,_=>Gw
 |x::xs,v::vs,h,f,0,_=>by simpa using f (x,v) (by simp[Ef])
 |x::xs,v::vs,h,f,i+1,hi=>by
  have :=kZ Jf (fun n j=>f n (by simp[Ef,j])) i FX;simpa using this
def VH {fn:Fn} {f:Array Operand} (j:List D) (hl:f.toList.length=j.length) (s:o.op=.makeFunc fn #[] f):Bc P o (Ef f.toList (j.map .d)) es (.d (.fn fn [] j)) es:=
 .pure fun ok H a w _ _ u=>by
  refine⟨.func fn #[] (f.map a.eval),by simp[execOp,s,Instr.makeFunc],.d _ _ (.fn fn [] j #[] _ rfl KX (fun i hi=>MN) (fun i hi=>?_))⟩;have q:=kZ (xs:=f.toList) (vs:=j.map .d) KX u i FX;have z:(j.map Ac.d).getD i .junk=.d (j.getD i DR):=Ky
  have m:i<f.size:=by have :f.size=j.length:=KX
                      omega
  have I:(f.toList.map a.eval).getD i undef=(f.map a.eval).getD i undef:=by simp[List.getD,Array.getD,m]
  rw[z,I]at q;cases q with |d _ _ h=>exact h
def aML {f:FuncId} {C:Dv} {ok:Nat→Prop} {H:List Ba} {w:World} (J:CW C ok H es w) {s:List D} {q:Ac} (Y:Am P f (s.map .d) [] q []) (m:Array Value) (Z:m.size=s.length) (M:∀i,i<s.length→DT ok w (s.getD i DR) (m.getD i undef)) (z:q.up [] es.length=q):
 Calls P f m w fun e w'=>∃v ok' H',e=.returned v∧Dz ok w ok' w'∧Names H H'∧CW C ok' H' es w'∧R ok' w' H' q v:=by
 have O:CW ⟨w,ok,[],[]⟩ ok [] [] w:=
  ⟨.refl _ _,fun _ h=>h,fun _ h=>.inl h,J.jF,.refl _,rfl,fun k e h u _=>kT,fun k e h b u=>kT,fun k k' e e' h h' b u=>kT⟩
 refine(Y ok [] [] w m O jS (fun i hi=>?_)).mono ?_
 ·have I:i<s.length:=FX
  have e1:(s.map Ac.d).getD i .junk=.d (s.getD i DR):=by simp[List.getD,I]
  rw[e1];exact .d _ _ (M i I)
 rintro e w' ⟨v,ok',H',rfl,j,hR⟩;have U:H'=[]:=GY j.hlen
 obtain⟨h1,h2⟩:=J.change (ok':=ok') (H':=H) (es':=es) (w':=w') (fun _=>False) j.fr.os j.fr.tape j.fr.output j.fr.size (fun b L _=>j.fr.block b L BK) (fun _ h=>h.elim) j.vY (fun b L=>by
  rcases j.vZ b L with h|h|h
  ·exact .inl h
  ·exact .inr ⟨h,j.jF b L⟩
  simp at h) (.refl _) J.hlen (fun k e h u hh=>.inl ⟨u,hh,fun _ _ _ h=>h⟩)
 refine⟨v,ok',H,rfl,h2,.refl _,h1,?_⟩;have :=aMz (srcs:=[]) (H:=H) (Hc:=[]) (H':=H') rfl (fun i k h=>Gw) (fun k v M=>by simp at M) hR;rw[J.hlen,z,U]at this;simpa using this
def aJJ {f:FuncId} {x:Operand} {ops:Array Operand} {ats:Array TypeId} (j cs:List D) {m:Ac} (hr:Am P f ((j++cs).map .d) [] m []) (hf:DX P f=true) (hl:ops.toList.length=j.length) (z:m.up [] es.length=m)
 (ho:o.op=.call { callee:=.value x,args:=ops,argTypes:=ats }):Bc P o ((x,.d (.fn (.func f) [] cs))::Ef ops.toList (j.map .d)) es m es:=by
 intro C ok H a w Q hm hn;have L:=hn (x,.d (.fn (.func f) [] cs)) BK;simp only at L;have s:=kZ (xs:=ops.toList) (vs:=j.map .d) KX (fun n M=>hn n (G9 _ M));generalize hv:a.eval x=v at L;cases L with
 |d _ _ h=>
  cases h with
  |fn _ _ _ vs us O U h1 h2=>
   have Y:vs= #[]:=XL (by simpa using O);subst Y;unfold Oper.wp
   have he:(execOp a.eval o).run P w=.ok (.enter f ((ops.map a.eval)++us)) w:=by
    have :=Qq hf (ops.map a.eval++us) w;simp[execOp,ho,resolve,hv,Deferred.ofValue,invoke,this]
   rw[he,YR];have I:(ops.map a.eval).size=j.length:=KX
   refine(aML hm hr _ (by simp[I,U]) (fun i hi=>?_) z).mono ?_
   ·by_cases q:i<j.length
    ·have J:=s i KH;have e1:(j.map Ac.d).getD i .junk=.d (j.getD i DR):=vX
     have u:i<ops.size:=adI
     have e2:(ops.toList.map a.eval).getD i undef=(ops.map a.eval++us).getD i undef:=by
      simp[List.getD,GU,WG,u]
     have Z:(j++cs).getD i DR=j.getD i DR:=by simp[List.getD,Fr q]
     rw[e1,e2]at J;rw[Z];cases J with |d _ _ h=>exact h
    have u:i-j.length<cs.length:=aEU
    have Z:(j++cs).getD i DR=cs.getD (i-j.length) DR:=by simp[List.getD,Ir (RI q)]
    have e4:(ops.map a.eval++us).getD i undef=us.getD (i-j.length) undef:=by
     simp only[GU];rw[aGr AL,I]
    rw[Z,e4];exact h2 _ u
   rintro e w' ⟨v,ok',H',rfl,J,h4,h5,h6⟩;exact⟨v,ok',H',rfl,J,h4,h5,h6⟩
def RY (P:Program) (j:α→D) (m:β→D) (d:D) (g:α→Option β):Prop:=∃f cs,d=.fn (.func f) [] cs∧DX P f=true∧∀a b,g a=some b→Am P f (([j a]++cs).map .d) [] (.d (m b)) []
def WB (P:Program) (j:α→D) (m:β→D) (q:γ→D) (d:D) (g:α→β→Option γ):Prop:=∃f cs,d=.fn (.func f) [] cs∧DX P f=true∧∀a b c,g a b=some c→Am P f (([j a,m b]++cs).map .d) [] (.d (q c)) []
def nS {x y:Operand} {ats:Array TypeId} {j:α→D} {m:β→D} {d:D} {g:α→Option β} {a:α} {b:β} (hd:RY P j m d g) (h:g a=some b) (q:o.op=.call { callee:=.value x,args:= #[y],argTypes:=ats }):
 Bc P o [(x,.d d),(y,.d (j a))] es (.d (m b)) es:=by
 obtain⟨f,cs,rfl,s,u⟩:=hd;exact aJJ [j a] cs (u a b h) s rfl rfl q
def ZG {x y z:Operand} {ats:Array TypeId} {j:α→D} {m:β→D} {q:γ→D} {d:D} {g:α→β→Option γ} {a:α} {b:β} {c:γ} (hd:WB P j m q d g) (h:g a b=some c) (s:o.op=.call { callee:=.value x,args:= #[y,z],argTypes:=ats }):
 Bc P o [(x,.d d),(y,.d (j a)),(z,.d (m b))] es (.d (q c)) es:=by
 obtain⟨f,cs,rfl,u,I⟩:=hd;exact aJJ [j a,m b] cs (I a b c h) u rfl rfl s
end
end Go.Proofs.YtolgdkhlelfpoaaGreat
end
