/- Part 1 of what the laws' proofs lean on: states of the walk, typed functions of the program and their laws (short forms written by wip/shrink.py; no condition). -/
import Derived.Test.YtkkdimcnpacjhaaGreatRows
import Derived.WalkKit
import Derived.WalkSpells
import Derived.WalkLawsBesides
import Derived.Lib.Hide
import Derived.Laws.AppendOwnNone
import Derived.Laws.CopyOwn
import Derived.Lib.AppendStr
import Derived.Laws.IdiomStrings
import Derived.Laws.BitsAllLaws
import Derived.OrdersIn
import Derived.ControlIn
import Derived.TacticsIn
import Derived.ArgAppend
import Derived.RangeFuncLeaves
import Derived.RangeFuncRecord
import Derived.Laws.StructEq
import Derived.Laws.BytesString
import Derived.Lib.OwnBridge
import Derived.Sort.OwnSortedInts
import Derived.Lib.SliceRun
import Derived.ProofKit
import Derived.Deep.Slices
import Derived.Lib.SlicesCompact
import Derived.Test.YtkkdimcnpacjhaaGreatProg
import Derived.Shelf.Small.Bits
import Derived.Shelf.Small.Strs
import Derived.Shelf.Strconv.Itoa0
import Derived.Shelf.Strings.Search1
import Derived.Shelf.Strings.Search2
import Derived.Shelf.Strings.Cut
import Derived.Shelf.LaysM
import Derived.Shelf.Strings.Shaped
import Derived.Shelf.Sort.Plain
import Derived.Shelf.Slices.Turned
import Derived.Ground.Names2Prog
import Derived.Shelf.Slices.Clone
import Derived.Shelf.Slices.CompactI
import Derived.Shelf.Slices.SearchI
import Derived.Shelf.Slices.Cells
import Derived.Shelf.Slices.In.SortNone
import Derived.Shelf.Slices.Empties
import Derived.Ground.SlgnProg
import Derived.Shelf.SlicesE.Clone
import Derived.RangeFuncIn
import Derived.Scope
import Derived.Tactics
import Derived.Tactics2
import Derived.Defers
import Derived.Recover
import Derived.Laws.Pointers
import Derived.Shelf.SlLaysF0
import Derived.Shelf.SlSortCmp.NoneTotal
import Derived.Laws.IdiomRangeMap
import Derived.Laws.Small
import Derived.Laws.IdiomCopy
import Derived.Lib.Overlaps
import Derived.Lib.AppendZerosOnto
import Derived.Shelf.Spec.SlicesInsertGrow
import Derived.StillTailTactics
import Derived.LoopN
import Derived.Deep.QuietTactic
import Derived.Laws.Bits64
import Derived.Lib.Bytealg
set_option linter.defProp false
set_option linter.unnecessarySimpa false
set_option linter.unusedVariables false
set_option linter.unusedSimpArgs false
namespace Go.Proofs.YtkkdimcnpacjhaaGreat
open Go.RowKit
def AP:=@Option.bind_some
def Am:=@cond_false
def Ap:=@congrArg
def BD:=@cond_true
def DC:=@List.getElem?_eq_getElem
def CB:=@List.length_map
def E9:=@List.length_append
def CZ:=@Bool.and_eq_true
def NQ:=@List.length_singleton
def CS:=@Option.some.inj
def Di:=@List.all_eq_true
def FI:=@List.getElem?_eq_some_iff
def Dp:=@List.mem_map
def EO:=@List.mem_cons_self
def Eo:=@Nat.le_of_ble_eq_true
def Ci:=@Nat.zero_le
def Gh:=@List.eq_nil_of_length_eq_zero
def ED:=@List.getElem_mem
def GX:=@Array.getElem?_eq_some_iff
def EM:=@List.not_mem_nil
def GZ:=@List.getElem?_append_left
def F5:=@List.mem_cons_of_mem
def F7:=@List.length_take
def EG:=@List.mem_cons
def Dn:=@Nat.le_refl
def FW:=@List.take_length
def FT:=@List.mem_singleton
def FP:=@Go.Result.andThen_ok
def G5:=@List.getElem_of_mem
def Ib:=@Array.getD_eq_getD_getElem?
def EW:=@Bool.not_true
def FV:=@List.length_cons
def IZ:=@List.pairwise_iff_getElem
def Ey:=@List.foldl_cons
def Ed:=@Nat.le_trans
def FN:=@List.mem_filter
def CP:=@if_pos
def I8:=@List.getElem?_eq_none
def GN:=@decide_eq_true_eq
def CU:=@if_neg
def Jf:=@List.getElem?_append_right
def J4:=@List.length_filter_le
def Gl:=@List.any_eq_true
def FD:=@Go.Sem.run_bind
def HY:=@List.append_assoc
def Jq:=@List.drop_eq_getElem_cons
def Nc:=@List.take_succ_eq_append_getElem
def Gv:=@decide_eq_false
def IJ:=@List.length_drop
def I5:=@List.nil_append
def GL:=@Bool.true_and
def OZ:=@Array.getElem?_setIfInBounds_ne
def Hl:=@List.mem_append
def Gu:=@decide_eq_true
def JR:=@Nat.mul_le_mul_right
def GI:=@Go.Sem.run_pure
def L9:=@List.length_nil
def LM:=@List.getElem?_take_of_lt
def IV:=@Option.map_some
def JD:=@List.getElem?_map
def JX:=@List.flatMap_cons
def OA:=@List.mem_of_find?_eq_some
def NR:=@decide_eq_false_iff_not
def Il:=@Bool.not_false
def KT:=@of_decide_eq_false
abbrev Ai:=IntKind.i64.wrap
def Yt (n:Int):Ai n=(n+9223372036854775808)%18446744073709551616-9223372036854775808:=Go.IntKind.wrap_i64 n
def Rz:=@Nat.add_assoc
def Ia:=@List.map_cons
def Lr:=@List.filterMap_cons
def NY:=@Array.getElem?_modify
def Sr:=@Array.all_eq_true_iff_forall_mem
def KE:=@Go.RowKit.Below.heap_alloc
def KA:=@List.find?_cons
def Ij:=@Nat.zero_add
def Ls:=@Bool.not_eq_true'
def LU:=@Option.some.injEq
def La:=@bne_self_eq_false
def KO:=@List.map_append
def KR:=@Bool.eq_iff_iff
def Ui:=@Nat.add_comm
def Po:=@List.take_of_length_le
def Kv:=@List.nodup_cons
def MF:=@Option.getD_some
def SX:=@Option.isSome_iff_exists
def Nr:=@List.pairwise_cons
def Qn:=@List.take_append_drop
def Ox:=@List.filter_append
def W9:=@Array.eq_empty_of_size_eq_zero
def PI:=@beq_eq_false_iff_ne
def SI:=@Option.map_eq_some_iff
def Rj:=@Go.MapKept.run_getObj_map
def Ku:=@Bool.or_false
def Py:=@List.getElem?_drop
def QM:=@List.filter_sublist
def Ol:=@Bool.not_eq_true
def P8:=@List.drop_length
def Oq:=@List.getElem_map
def Qh:=@Bool.false_eq_true
def QZ:=@Option.toList_some
def Oc:=@List.append_nil
def NH:=@Bool.false_or
def Qr:=@List.findIdx_cons
def Na:=@Bool.and_true
def Sm:=@Array.length_toList
def YE:=@Array.getElem?_append_left
def Qy:=@List.filter_cons
def Rq:=@Int.toNat_natCast
def YO:=@List.getElem?_set_ne
def Yv:=@Classical.byContradiction
def UG:=@List.pairwise_append
def Sl:=@List.mem_filterMap
def X6:=@Go.World.putObj_heap_same
def Rl:=@List.mem_flatMap
def OD:=@Nat.add_zero
def SY:=@beq_self_eq_true
def WV:=@Array.getElem?_toList
def TQ:=@List.foldl_append
def TA:=@List.take_add_one
def Jl:=@if_false
def Xr:=@Go.World.putObj_heap_other
def eB:=@List.nodup_iff_pairwise_ne
def X7:=@List.mem_of_getElem?
def Uy:=@Nat.lt_of_lt_of_le
def VL:=@Bool.or_eq_false_iff
def Og:=@Bool.or_true
def aC:=@Array.getElem?_eq_getElem
def QH:=@Prod.mk.injEq
def JV:=@if_true
def RJ:=@Go.Oper.wpIn_mono
def Pe:=@Nat.succ_mul
def Td:=@List.find?_some
def WW:=@List.find?_eq_none
def OL:=@beq_iff_eq
def YL:=@List.mem_of_mem_take
def Uj:=@List.foldlM_cons
def jB:=@List.getD_eq_getElem?_getD
def wV:=@List.takeWhile_append_dropWhile
def dQ:=@List.findIdx_lt_length
def WJ:=@List.getElem_take
def Yj:=@List.map_congr_left
def XI:=@List.filter_eq_self
def cD:=@List.filterMap_append
def WT:=@Nat.le_of_not_lt
def Yk:=@Nat.eq_zero_or_pos
def VK:=@Nat.lt_succ_self
def XB:=@Go.Proofs.Tryz.underlying3
def cO:=@Array.toArray_toList
def QA:=@Go.wpS_region
def eG:=@List.mem_of_mem_drop
def ZO:=@List.mem_append_left
def eS:=@Option.bind_eq_some_iff
def lg:=@List.pairwise_singleton
def YR:=@of_decide_eq_true
def YB:=@List.pairwise_map
def Xp:=@List.getElem_drop
def Xi:=@List.find?_append
def Vb:=@Bool.or_eq_true
def lG:=@List.findIdx_le_length
def Yo:=@List.cons_append
def Vw:=@Go.heap_alloc_new
def eu:=@List.mem_append_right
def gW:=@Bool.and_eq_false_iff
def Um:=@Nat.mul_comm
def V7:=@List.map_map
def Si:=@bne_iff_ne
def jg:=@Go.World.alloc_heap_new
def bD:=@List.ext_getElem?
def Zz:=@Go.Proofs.Tryz.underlying73
def xO:=@List.getElem?_cons_succ
def lY:=@List.length_pos_iff
def dR:=@Go.Proofs.Tryz.underlying9
def ZN:=@decide_eq_decide
def uU:=@List.filter_eq_nil_iff
def uZ:=@List.drop_of_length_le
def Zi:=@List.length_set
def ZU:=@Go.Oper.upon_enter
def ZI:=@Go.run_equalIn_int
def XR:=@List.map_take
def eL:=@Go.Value.slice.injEq
def jR:=@List.size_toArray
def gy:=@Nat.lt_trichotomy
def fV:=@List.any_eq_false
def xU:=@Nat.div_lt_of_lt_mul
def aN5:=@List.set_eq_take_append_cons_drop
def Y9:=@Int.le_refl
def aN:=@List.nodup_nil
def Pq:=@Go.wpS_seq
def Zr:=@Go.wp_region_list
def Xw:=@Nat.le_of_eq
def Yr:=@getElem!_pos
def fO:=@Go.Proofs.Tryz.underlying4
def Yl:=@Nat.lt_or_ge
def iD:=@Go.IntKind.wrap_u64
def aDa:=@List.getElem?_cons_zero
def bY:=@List.all_cons
def ZR:=@List.map_drop
def aH:=@List.any_cons
def nM:=@List.getElem?_take
def Ur:=@Go.wpIn_mono
def iQ:=@Nat.min_eq_left
def jq:=@Go.Proofs.Tryz.zeroValue3
def oC:=@Array.ext_getElem?
def kQ:=@beq_false_of_ne
def kV:=@Go.IntKind.wrap_u8
def Xl:=@Nat.add_mul
def aAZ:=@ByteArray.size_extract
def aGB:=@List.length_pos_of_mem
def wo:=@Function.comp_def
def yJ:=@List.nodup_append
def yZ:=@List.drop_sublist
def yg:=@List.filter_congr
def lK:=@List.drop_zero
def aHL:=@Array.getElem?_setIfInBounds
def fP:=@Bool.and_false
def aPC:=@Array.getElem?_append_right
def oz:=@List.ext_getElem
def o7:=@Go.Proofs.Tryz.underlying5
def aEd:=@List.findIdx_getElem
def aO6:=@Array.toList_setIfInBounds
def iE:=@Go.Oper.semAt_eq
def dF:=@Nat.mul_one
def zL:=@List.toList_toArray
def aBo:=@bne_eq_false_iff_eq
def aPu:=@Array.mapM_eq_mapM_toList
def yO:=@Go.Proofs.Tryz.zeroValue5
def uF:=@Go.Proofs.Tryz.zeroValue9
def yY:=@Go.Proofs.Tryz.zeroValue4
def rX:=@List.take_left'
def wP:=@Option.map_none
def fU:=@Go.Proofs.Tryz.sizeOf3
def aAJ:=@Go.Proofs.Tryz.underlying148
def yw:=@Go.Proofs.Tryz.underlying212
def aEI:=@Array.extract_size
def aE1:=@List.filterMap_nil
def fZ:=@Go.Addr.add_lit
def aJU:=@List.length_filterMap_le
def aKf:=@List.getElem_append_left
def o8:=@List.mem_range
def vI:=@List.take_zero
def qx:=@Bool.false_and
def aK7:=@List.getElem?_replicate
def aAr:=@Go.World.ownsRow_nil
def aEv:=@Go.Proofs.Tryz.zeroValue148
def aED:=@Go.Proofs.Tryz.zeroValue212
def zA:=@Go.Proofs.Tryz.underlying22
def aUZ:=@List.findIdx?_eq_some_iff_getElem
def aMj:=@List.dropWhile_sublist
def mO:=@Go.Proofs.Tryz.isAgg3
def aI6:=@Go.World.cell?_alloc_past
def aPp:=@List.not_of_lt_findIdx
def aCt:=@List.take_append
def aDl:=@Go.Proofs.Tryz.underlying0
def aQG:=@List.length_filter_eq_length_iff
def aEx:=@List.perm_middle
def ZK:=@Array.ext
def aPU:=@Nat.eq_of_beq_eq_true
def aOp:=@Go.Lib.wpList_append_run
def aBa:=@Nat.div_add_mod
def jU:=@Nat.mod_lt
def aJr:=@Array.ext'
def xq:=@Go.Proofs.Tryz.sizeOf5
def oW:=@Go.Proofs.Tryz.sizeOf9
def yu:=@Go.Proofs.Tryz.sizeOf4
def aCU:=@Go.Proofs.Tryz.zeroValue0
def aXe:=@List.Nodup.length_le_of_subset
def rO:=@Bool.not_not
def aHw:=@List.mem_iff_getElem
def aPD:=@Go.callsIn_of_wp_marks
def aKI:=@Go.Lib.strCells_length
def aMn:=@Array.getElem?_push
def aGe:=@List.reverse_append
def aD1:=@Go.run_underlying
def aA1:=@List.take_left
def zJ:=@Go.Proofs.Tryz.sizeOf148
def aAL:=@Go.Proofs.Tryz.sizeOf212
def ZL:=@or_false
def aAG:=@Nat.mul_le_mul
def sJ:=@Go.setRow_heap
def vG:=@Go.Sem.run_map
def pJ:=@Go.Proofs.Tryz.isAgg5
def uh:=@Go.Proofs.Tryz.isAgg9
def qG:=@Go.Proofs.Tryz.isAgg4
def aSO:=@Nat.min_def
def aOL:=@Go.run_loadCells_list
def aLA:=@Int.natCast_nonneg
def aHN:=@Go.MapKept.heap_alloc
def aPg:=@Option.toList_none
def aIH:=@Nat.eq_or_lt_of_le
def aNU:=@Bool.false_ne_true
def aa0:=@List.dropWhile_cons_of_pos
def aXf:=@List.dropWhile_cons_of_neg
def aCv:=@Go.callsD_of_wpS
def aWC:=@List.getElem?_take_eq_none
def aYa:=@Int.fdiv_eq_ediv_of_nonneg
def aTm:=@Int.tmod_eq_emod_of_nonneg
def aHQ:=@Go.run_storeCells_at
def aKE:=@List.take_sublist
def aUi:=@List.mem_take_iff_getElem
def aS8:=@List.getElem?_zip_eq_some
def aV8:=@List.exists_mem_of_ne_nil
def aj:=@Ne.symm
def aPl:=@Go.wpIn_region_list
def zV:=@Nat.zero_mul
def aIx:=@List.drop_append
def aMa:=@Go.World.size_alloc
def zl:=@List.map_set
def ku:=@Go.wpS_cond
def aOw:=@List.flatMap_map
def zF:=@List.map_nil
def aP5:=@List.getElem_zip
def aJo:=@List.cons_ne_nil
def aHM:=@List.map_reverse
def aH6:=@Nat.min_le_left
def aMM:=@List.cons.injEq
def aQ0:=@List.any_append
def aDh:=@List.map_id
def aBu:=@Nat.one_mul
def aIF:=@List.drop_drop
def aQ8:=@List.take_take
end Go.Proofs.YtkkdimcnpacjhaaGreat
namespace Go.Proofs.YtkkdimcnpacjhaaGreat
open Go.RowKit
abbrev CY:=Value.int .i64
end Go.Proofs.YtkkdimcnpacjhaaGreat
namespace Go.Proofs.YtkkdimcnpacjhaaGreat
open Go.RowKit
def A8 {p:Prop} (h:p:=by kernel_rfl):p:=h
def AA {p:Prop} (h:p:=by omega):p:=h
def DF {p:Prop} (h:p:=by cases h;exact .ret (GK [])):p:=h
def Aw {p:Prop} (h:p:=by simp):p:=h
def BJ {p:Prop} (h:p:=by decide):p:=h
def DW {p:Prop} (h:p:=by simp;omega):p:=h
def FK {p:Prop} (h:p:=by simp only[NQ];omega):p:=h
def Ez {p:Prop} (h:p:=by cases h;kernel_rfl):p:=h
def Yx {p:Prop} (h:p:=by cases h;exact .ret (GK [(0,true)])):p:=h
def G6 {p:Prop} (h:p:=by simpa using hi):p:=h
def MB {p:Prop} (h:p:=by cases h;exact .ret (GK [(2,true)])):p:=h
def XY {p:Prop} (h:p:=by rw[←D9 h];exact⟨[],[(0,true)],trivial,by kernel_rfl,by kernel_rfl,by kernel_rfl⟩):p:=h
def Le {p:Prop} (h:p:=by simpa using z):p:=h
def MG {p:Prop} (h:p:=by obtain⟨a,_,rfl⟩:=Dp.1 j;rfl):p:=h
def J3 {p:Prop} (h:p:=by simpa using h):p:=h
def U9 {p:Prop} (h:p:=by cases h;exact .ret (GK [(1,true)])):p:=h
def ND {p:Prop} (h:p:=by simp[underlying,ht]):p:=h
def NZ {p:Prop} (h:p:=by simp[List.getD,hi]):p:=h
def KY {p:Prop} (h:p:=by rw[E9];omega):p:=h
def MC {p:Prop} (h:p:=by simpa using hl):p:=h
def tX {p:Prop} (h:p:=by have :=hb (k+1) y (by simpa using z);simpa[Rz,Ui 1 k]using this):p:=h
def Ig {p:Prop} (h:p:=by simp at h):p:=h
def pq {p:Prop} (h:p:=by have :=hl (k+1) (by simpa using hk);simpa[Rz,Ui 1 k]using this):p:=h
def yG {p:Prop} (h:p:=by have :=M (k+1) y (by simpa using z);simpa[Rz,Ui 1 k]using this):p:=h
def wH {p:Prop} (h:p:=by have :=O (k+1) y (by simpa using z);simpa[Rz,Ui 1 k]using this):p:=h
def qV {p:Prop} (h:p:=by cases h;exact .ret (GK [(0,true),(1,true),(2,true),(3,true)])):p:=h
def NC {p:Prop} (h:p:=by decide+kernel):p:=h
def SN {p:Prop} (h:p:=by simp only[L9];omega):p:=h
def Pm {p:Prop} (h:p:=by rw[←hm.hlen];simp):p:=h
def MN {p:Prop} (h:p:=by simpa using q):p:=h
def Ie {p:Prop} (h:p:=by cases h):p:=h
def Us {p:Prop} (h:p:=by simp only[E9,NQ];omega):p:=h
def fA {p:Prop} (h:p:=by have :Aj=9223372036854775808:=rfl;omega):p:=h
def Xv {p:Prop} (h:p:=by obtain⟨a,_,rfl⟩:=Dp.1 hx;rfl):p:=h
def TB {p:Prop} (h:p:=by intro hh;cases hh):p:=h
def Y1 {p:Prop} (h:p:=by first|exact u|kernel_rfl):p:=h
def Ph {p:Prop} (h:p:=by rw[Yt];omega):p:=h
def mJ {p:Prop} (h:p:=by cases h;exact .ret (GK [(3,true)])):p:=h
def aSA {p:Prop} (h:p:=by rw[←D9 h];exact⟨[],[(0,true),(1,true),(2,true),(3,true)],trivial,by kernel_rfl,by kernel_rfl,by kernel_rfl⟩):p:=h
def lZ {p:Prop} (h:p:=by simp[Act.eval,Array.replicate]):p:=h
def Rf {p:Prop} (h:p:=by simpa using I):p:=h
def SL {p:Prop} (h:p:=by simpa using J):p:=h
def SA {p:Prop} (h:p:=by simpa using e):p:=h
def Ot {p:Prop} (h:p:=by simp at hi):p:=h
def Va {p:Prop} (h:p:=by rw[I9]at h;exact h):p:=h
def Z5 {p:Prop} (h:p:=by rw[I9];exact aOe hs):p:=h
def TS {p:Prop} (h:p:=by simpa using u):p:=h
def PY {p:Prop} (h:p:=by rw[aeU];rfl):p:=h
def yQ {p:Prop} (h:p:=by simpa using(hl 0 (by simp)).symm):p:=h
def Yz {p:Prop} (h:p:=by intro j;cases j):p:=h
def Ws {p:Prop} (h:p:=by rw[CB];omega):p:=h
def Wu {p:Prop} (h:p:=by simpa using L):p:=h
def Wi {p:Prop} (h:p:=by simpa using j):p:=h
def Vz {p:Prop} (h:p:=by simpa using Y):p:=h
def aPr {p:Prop} (h:p:=by rw[alloc_eq_grow,alloc_eq_grow,grow_grow];rfl):p:=h
def aKe {p:Prop} (h:p:=by rw[ha];exact Ed (J4 _ _) (by rw[F7];omega)):p:=h
def TN {p:Prop} (h:p:=by simp[flat]):p:=h
def aHR {p:Prop} (h:p:=by by_cases h:(s.size:Int)>32<;>simp[h]<;>omega):p:=h
def aNS {p:Prop} (h:p:=by rw[F7];omega):p:=h
def aPN {p:Prop} (h:p:=by by_cases h:(s.size:Int)<1<;>simp[h]<;>omega):p:=h
def mD {p:Prop} (h:p:=by rw[ha,CB,F7];omega):p:=h
def aQg {p:Prop} (h:p:=by simpa using hk):p:=h
def aKT {p:Prop} (h:p:=by have :=hinj j j' o o' t u ho' q hd';omega):p:=h
def aB1 {p:Prop} (h:p:=by simp only[aSO];split<;>omega):p:=h
def fE {p:Prop} (h:p:=by simp[Aj];omega):p:=h
def Tt {p:Prop} (h:p:=by simp[hi]):p:=h
def Zp {p:Prop} (h:p:=by simp[hm.hlen]):p:=h
def aAv {p:Prop} (h:p:=by rw[E9];simp only[NQ];omega):p:=h
def lX {p:Prop} (h:p:=by rw[aN8 j L];simp):p:=h
def aAb {p:Prop} (h:p:=by simpa using M 0 x (by simp)):p:=h
def jr {p:Prop} (h:p:=by simp at J;omega):p:=h
def aJm {p:Prop} (h:p:=by simp[Array.getD,hil]at hf ⊢;exact hf):p:=h
def aKt {p:Prop} (h:p:=by obtain⟨b,_,rfl⟩:=Dp.1 hy;exact hc b):p:=h
def aJI {p:Prop} (h:p:=by obtain⟨a,_,rfl⟩:=Dp.1 hy;exact hc a):p:=h
def uY {p:Prop} (h:p:=by rw[map_take hi,ha]):p:=h
def aA8 {p:Prop} (h:p:=by simp[binOp,Op.intBits,ER]):p:=h
def aDy {p:Prop} (h:p:=by simp only[FV];simp;omega):p:=h
def aNA {p:Prop} (h:p:=by rw[L rfl b (by rw[q];rfl)];exact u):p:=h
def aM1 {p:Prop} (h:p:=by cases h;exact .ret (GK [(4,true)])):p:=h
def aLs {p:Prop} (h:p:=by cases h;exact .ret (GK [(5,true)])):p:=h
def aQh {p:Prop} (h:p:=by rw[CB]at hi;rw[RN _ _ _ hi];exact UH q j u (h i hi)):p:=h
def aa3 {p:Prop} (h:p:=by subst e;have h:=i;exact Ch.aW<|by cases h;kernel_rfl):p:=h
def aG5 {p:Prop} (h:p:=by simp[Act.eval,Act.put]):p:=h
def aPQ {p:Prop} (h:p:=by simpa using O 0 σ.ents (by simp)):p:=h
def dD {p:Prop} (h:p:=by rw[ha,FW]):p:=h
def aQt {p:Prop} (h:p:=by rw[CB]at hi;rw[RN _ _ _ hi];exact(h i hi).uN π):p:=h
def aQM {p:Prop} (h:p:=by rw[M]at ho';obtain rfl:=CS ho';exact(O m hm).1):p:=h
def sI {p:Prop} (h:p:=by intro I;cases I):p:=h
def uy {p:Prop} (h:p:=by rw[j]at h;exact h):p:=h
def yT {p:Prop} (h:p:=by intro q;cases q):p:=h
def aDA {p:Prop} (h:p:=by simp[Op.bytesLess]at h):p:=h
def aQW {p:Prop} (h:p:=by unfold IK;rw[CP ⟨Y9 _,by omega,by omega⟩];rfl):p:=h
def qw {p:Prop} (h:p:=by intro h;cases h):p:=h
def aDb {p:Prop} (h:p:=by rw[q];rfl):p:=h
def aVY {p:Prop} (h:p:=by simpa using(by omega:i<(ops.map a.eval).size)):p:=h
def aCK {p:Prop} (h:p:=by rw[World.cell?,j];rfl):p:=h
def aCl {p:Prop} (h:p:=by constructor<;>omega):p:=h
def nV {p:Prop} (h:p:=by simpa using hs):p:=h
def ab9 {p:Prop} (h:p:=by cases h;exact .ret (GK [(0,false),(1,true)])):p:=h
def aUN {p:Prop} (h:p:=by rw[ha];exact Ed (UQ _ _) (by rw[F7];omega)):p:=h
def aEV {p:Prop} (h:p:=by unfold maxLen;omega):p:=h
def aVz {p:Prop} (h:p:=by cases h;exact .ret (GK [(0,true),(1,true)])):p:=h
def aJj {p:Prop} (h:p:=by simp[sizeOf,typeInfo,hi,hs]):p:=h
def aag {p:Prop} (h:p:=by have :=eY s ⟨k,key,0⟩;unfold EZ at *;omega):p:=h
def xF {p:Prop} (h:p:=by simpa using q2):p:=h
def aG4 {p:Prop} (h:p:=by simp[underlying,hu]):p:=h
def yD {p:Prop} (h:p:=by simpa using h2):p:=h
def aTO {p:Prop} (h:p:=by simp[Value.cells,List.getD,Array.getD,z]):p:=h
def ZJ {p:Prop} (h:p:=by simp[hl]):p:=h
def aM9 {p:Prop} (h:p:=by have :=eq_of_beq h;omega):p:=h
def aHY {p:Prop} (h:p:=by show user.size≤2000;omega):p:=h
def iH {p:Prop} (h:p:=by rw[e];rfl):p:=h
def aK9 {p:Prop} (h:p:=by rw[hb1];exact(FI.1 M).1):p:=h
def aH2 {p:Prop} (h:p:=by rw[Az.adA]at J;exact J):p:=h
def aRO {p:Prop} (h:p:=by unfold JI at j;rw[DC hl]at j;exact j):p:=h
def aKd {p:Prop} (h:p:=by simp[underlying,hE.und]):p:=h
def dM {p:Prop} (h:p:=by cases h'):p:=h
def aF2 {p:Prop} (h:p:=by simpa using he):p:=h
def ZX {p:Prop} (h:p:=by simp[q]):p:=h
def aEE {p:Prop} (h:p:=by simpa using hc):p:=h
def aCE {p:Prop} (h:p:=by simpa using hj):p:=h
def aaz {p:Prop} (h:p:=by simp[stepG,stepG.exec,Frame.atR]):p:=h
def aVy {p:Prop} (h:p:=by rw[xk];exact fuel_lt (by decide)):p:=h
def aNk {p:Prop} (h:p:=by simp[List.getD,YO e]):p:=h
def aEt {p:Prop} (h:p:=by simp[flat]at hi):p:=h
def aPW {p:Prop} (h:p:=by simp[List.getD,GZ e]):p:=h
def aNh {p:Prop} (h:p:=by simpa[D6]using q.symm):p:=h
def aDs {p:Prop} (h:p:=by simpa using ht):p:=h
def aF0 {p:Prop} (h:p:=by rw[I5];omega):p:=h
def aO1 {p:Prop} (h:p:=by have :=h.len';omega):p:=h
def aI3 {p:Prop} (h:p:=by simp[World.setRow]):p:=h
def aLo {p:Prop} (h:p:=by have :=h.len;omega):p:=h
def aCu {p:Prop} (h:p:=by apply aJr;simp):p:=h
def pG {p:Prop} (h:p:=by rw[z];rfl):p:=h
def aDT {p:Prop} (h:p:=by simp[go_sem]):p:=h
def aB5 {p:Prop} (h:p:=by rw[I9];exact h):p:=h
def aCF {p:Prop} (h:p:=by simpa using hp):p:=h
def aLl {p:Prop} (h:p:=by rw[E9];simp;omega):p:=h
def aBY {p:Prop} (h:p:=by simpa using O):p:=h
def Mem {p:Prop} (h:p:=by rw[IJ];omega):p:=h
def aIZ {p:Prop} (h:p:=by rw[E9,NQ];omega):p:=h
def aOR {p:Prop} (h:p:=by simp[execOp,j];rfl):p:=h
def aDm {p:Prop} (h:p:=by simpa using U):p:=h
def aLd {p:Prop} (h:p:=by simp[List.getD,ht]):p:=h
def aOf {p:Prop} (h:p:=by rw[E9]at hi;omega):p:=h
def aNy {p:Prop} (h:p:=by rw[Yt];simp;omega):p:=h
def aJh {p:Prop} (h:p:=by simp[List.getD,u]):p:=h
def aKP {p:Prop} (h:p:=by simpa using this):p:=h
def aKO {p:Prop} (h:p:=by rw[CB];exact hi):p:=h
def aB2 {p:Prop} (h:p:=by simp[ny,e]):p:=h
def xE {p:Prop} (h:p:=by simp at q):p:=h
def yF {p:Prop} (h:p:=by simp at j):p:=h
def xw {p:Prop} (h:p:=by simp at z):p:=h
def aP1 {p:Prop} (h:p:=by rw[I]at q;omega):p:=h
def aHX {p:Prop} (h:p:=by intro u;cases u):p:=h
def aN1 {p:Prop} (h:p:=by intro J;cases J):p:=h
end Go.Proofs.YtkkdimcnpacjhaaGreat
namespace Go.Proofs.YtkkdimcnpacjhaaGreat
open Go.RowKit
def DJ {p:Prop} (h:p:=by exact fun h=>Ac<|DF):p:=h
def I4 {p:Prop} (h:p:=by exact AV.exit<|Ac<|DF):p:=h
def QN {p:Prop} (h:p:=by exact AV.exit<|Ac<|Yx):p:=h
def iP {p:Prop} (h:p:=by exact P6 A8<|P6 A8<|P6 A8<|P6 A8<|trivial):p:=h
def aEF {p:Prop} (h:p:=by exact .nil<|Or.inl ⟨(),(D9 h).symm,(⟨[],[],trivial,A8,A8,A8⟩)⟩):p:=h
def aUk {p:Prop} (h:p:=by exact fun h=>AV.ret<|⟨.inr rfl,(Yd I).slots,(.ready,none),.normal,A8,rfl,(K3 _ ⟨q,u,Af 16 32 [(2,true),(6,true)],h⟩)⟩):p:=h
def aXu {p:Prop} (h:p:=by exact AV.ret<|⟨.inr rfl,(VJ sW j).slots,(.ready,none),.normal,A8,rfl,(K3 _ ⟨v7,v8,Af 21 80 [(0,true),(1,true)],h⟩)⟩):p:=h
def aES {p:Prop} (h:p:=by exact .nil<|q _ _ _ (Af 16 449 [(0,true)]) h):p:=h
def aB {p:Prop} (h:p:=by exact Ac<|Ac<|DF):p:=h
def aOx {p:Prop} (h:p:=by exact fun h=>AV.exit<|K4 _ ⟨Af 18 2 [],h⟩):p:=h
def RH {p:Prop} (h:p:=by exact BQ h DJ fun h=>Ac<|DF):p:=h
end Go.Proofs.YtkkdimcnpacjhaaGreat
section
namespace Go.Proofs.YtkkdimcnpacjhaaGreat
open Go.RowKit
def addr_add (b o j:Nat):(⟨b,o,none⟩:Addr).add j=⟨b,o+j,none⟩:=by
 unfold Addr.add;split<;>simp_all
section
variable {P : Program} {ops : Array Oper} {rest : List Oper} {o : Oper} {a : Act} {w : World} {Q : Exit → Act → World → Prop}
def akk (w:World) (ty:TypeId) (b off:Nat) (cs:Array Value) (hA:(isAgg ty).run P w=.ok true w) (z:(sizeOf ty).run P w=.ok cs.size w)
 (I:∀j,j<cs.size→w.cell? ⟨b,off+j,none⟩=some (cs.getD j undef)):(loadVar ty ⟨b,off,none⟩).run P w=.ok (.agg cs) w:=by
 have hl:(loadCells ⟨b,off,none⟩ cs.toList.length).run P w=.ok cs.toList.toArray w:=
  aOL (P:=P) w ⟨b,off,none⟩ cs.toList (fun j v q=>by
   rw[addr_add]
   have u:j<cs.size:=by
    have :=(FI.1 q).1;simpa using this
   rw[I j u];simp only[WV]at q;simp[Array.getD,u]at q ⊢
   exact q)
 simp only[Sm,cO]at hl;simp only[loadVar,FD,hA,z,FP,JV,hl,GI]
end
def aNG (w:World) (cs:Array Value) (t:TypeId):∀k,(w.alloc (.cells cs t)).cell? ⟨w.heap.size,k,none⟩=cs[k]? :=fun k=>cell_of_row _ _ k cs t (0,0) (Vw w _)
inductive D where
 |lit (v:Value)
 |agg (cs:List D)
 |sl (es:List D)
 |ref (cs:List D) (off:Nat)
 |fn (f:Fn) (first cap:List D)
 |O5 (t:TypeId) (x:D)
def D.cells:D→List D
 | .agg cs=>cs
 |x=>[x]
def D.leaf:D→Bool
 | .lit v=>v.oneCell'
 | .agg _=>false
 |_=>true
abbrev Dh :D:=.lit undef
abbrev cellAt (w:World) (b o:Nat):Value:=(w.cell? ⟨b,o,none⟩).getD undef
inductive Dk (ok:Nat→Prop) (w:World):D→Value→Prop
 |lit (v:Value):Dk ok w (.lit v) v
 |agg (cs:List D) (vs:Array Value) (hl:vs.size=cs.length) (hf:∀i,i<cs.length→(cs.getD i Dh).leaf=true)
  (h:∀i,i<cs.length→Dk ok w (cs.getD i Dh) (vs.getD i undef)):Dk ok w (.agg cs) (.agg vs)
 |sl0 (ad:Option Addr) (cap:Nat):Dk ok w (.sl []) (.slice ad 0 cap)
 |sl (es:List D) (b off cap size:Nat) (hcap:es.length≤cap) (hok:0<es.length→0<size→ok b) (hs:∀i,i<es.length→(es.getD i Dh).cells.length=size)
  (hf:∀i,i<es.length→∀j,j<size→((es.getD i Dh).cells.getD j Dh).leaf=true)
  (hx:∀i,i<es.length→∀j,j<size→(w.cell? ⟨b,off+(i*size+j),none⟩).isSome=true)
  (hc:∀i,i<es.length→∀j,j<size→Dk ok w ((es.getD i Dh).cells.getD j Dh) (cellAt w b (off+(i*size+j)))):
  Dk ok w (.sl es) (.slice (some ⟨b,off,none⟩) es.length cap)
 |ref (cs:List D) (off b o:Nat) (hok:0<cs.length→ok b) (hf:∀i,i<cs.length→(cs.getD i Dh).leaf=true)
  (hx:∀j,j<cs.length→(w.cell? ⟨b,o+j,none⟩).isSome=true)
  (hc:∀j,j<cs.length→Dk ok w (cs.getD j Dh) (cellAt w b (o+j))):Dk ok w (.ref cs off) (.pointer (some ⟨b,o+off,none⟩))
 |fn (f:Fn) (first cap:List D) (vs us:Array Value) (hl:vs.size=first.length) (hm:us.size=cap.length)
  (h:∀i,i<first.length→Dk ok w (first.getD i Dh) (vs.getD i undef)) (h':∀i,i<cap.length→Dk ok w (cap.getD i Dh) (us.getD i undef)):
  Dk ok w (.fn f first cap) (.func f vs us)
 |O5 (t:TypeId) (x:D) (v:Value) (h:Dk ok w x v):Dk ok w (.O5 t x) (.iface t v)
def EN (ok:Nat→Prop) (w:World) (ok':Nat→Prop) (w':World):Prop:=∀b,ok b→ok' b∧w'.heap[b]? =w.heap[b]?
def EN.refl (ok:Nat→Prop) (w:World):EN ok w ok w:=fun _ h=>⟨h,rfl⟩
def EN.trans {ok j q:Nat→Prop} {w z I:World} (h:EN ok w j z) (k:EN j z q I):EN ok w q I:=
 fun b u=>⟨(k b (h b u).1).1,((k b (h b u).1).2).trans (h b u).2⟩
def EN.cell {ok ok':Nat→Prop} {w w':World} (h:EN ok w ok' w') {b o:Nat} (j:ok b):w'.cell? ⟨b,o,none⟩=w.cell? ⟨b,o,none⟩:=
 World.cell?_of_block (w:=w) (a:=⟨b,o,none⟩) (h b j).2
def Dk.mono {ok ok':Nat→Prop} {w w':World} (I:EN ok w ok' w') {x:D} {v:Value} (h:Dk ok w x v):Dk ok' w' x v:=by
 induction h with
 |lit v=>exact .lit v
 |agg cs vs hl J _ z=>exact .agg cs vs hl J z
 |sl0 ad cap=>exact .sl0 ad cap
 |sl es b off cap size L q hs J M _ z=>
  have Y:∀i j,i<es.length→j<size→ok b:=fun i j hi u=>q AA AA;refine .sl es b off cap size L (fun O Z=>(I b (q O Z)).1) hs J (fun i hi j u=>?_) (fun i hi j u=>?_)
  ·rw[I.cell (Y i j hi u)];exact M i hi j u
  unfold cellAt;rw[I.cell (Y i j hi u)];exact z i hi j u
 |ref cs off b o q J M _ z=>
  refine .ref cs off b o (fun O=>(I b (q O)).1) J (fun j u=>?_) (fun j u=>?_)
  ·rw[I.cell (q AA)];exact M j u
  unfold cellAt;rw[I.cell (q AA)];exact z j u
 |fn f first cap vs us hl hm _ _ z U=>exact .fn f first cap vs us hl hm z U
 |O5 t x v _ z=>exact .O5 t x v z
def Dk.shrink {ok ok':Nat→Prop} {w:World} (hs:∀b o,ok b→(w.cell? ⟨b,o,none⟩).isSome=true→ok' b) {x:D} {v:Value} (h:Dk ok w x v):Dk ok' w x v:=by
 induction h with
 |lit v=>exact .lit v
 |agg cs vs hl u _ j=>exact .agg cs vs hl u j
 |sl0 ad cap=>exact .sl0 ad cap
 |sl es b off cap size z q L u I _ j=>exact .sl es b off cap size z (fun J O=>hs b _ (q J O) (I 0 J 0 O)) L u I j
 |ref cs off b o q u I _ j=>exact .ref cs off b o (fun J=>hs b _ (q J) (I 0 J)) u I j
 |fn f first cap vs us hl hm _ _ j M=>exact .fn f first cap vs us hl hm j M
 |O5 t x v _ j=>exact .O5 t x v j
def Dk.leaf {ok:Nat→Prop} {w:World} {x:D} {v:Value} (h:Dk ok w x v) (hl:x.leaf=true):v.oneCell'=true:=by
 cases h<;>first|rfl|exact hl|(simp[D.leaf]at hl)
inductive Aa where
 |d (x:D)
 |ptr (k off:Nat)
 |aY (k:Nat)
 |lq (k i off:Nat)
 |fn (f:Fn) (first cap:List Aa)
 |mp (k:Nat)
 |clip (xs:List D)
 |xG (k:Nat)
 |eF (vs:List Aa)
 |ag (vs:List Aa)
 |junk
def Aa.leaf:Aa→Bool
 | .d x=>x.leaf
 | .eF _| .ag _| .junk=>false
 |_=>true
def Aa.cells:Aa→List Aa
 | .d x=>x.cells.map .d
 | .ag xs=>xs
 |x=>[x]
inductive Az where
 |dead
 |box (cs:List Aa)
 |arr (e:TypeId) (size:Nat) (es:List D)
 |map (es:List (Value×D))
 |gZ (es:List (Value×D))
 |iter (es:List (Value×D)) (vis:List Nat)
 |loop (tm:Array Value) (slots:List Aa) (rc:Array Tmp×Code×Code) (st:LoopState) (pe:Option Code)
def Az.live:Az→Bool
 | .dead=>false
 |_=>true
structure BN where
 v:Value
 size:Nat:=0
inductive R (ok:Nat→Prop) (w:World) (H:List BN):Aa→Value→Prop
 |d (x:D) (v:Value) (h:Dk ok w x v):R ok w H (.d x) v
 |ptr (k off b s:Nat) (h:H[k]? =some ⟨.pointer (some ⟨b,0,none⟩),s⟩):R ok w H (.ptr k off) (.pointer (some ⟨b,off,none⟩))
 |aY (k:Nat) (ad:Option Addr) (n cap s:Nat) (h:H[k]? =some ⟨.slice ad n cap,s⟩):R ok w H (.aY k) (.slice ad n cap)
 |lq (k i off b n cap s:Nat) (h:H[k]? =some ⟨.slice (some ⟨b,0,none⟩) n cap,s⟩):R ok w H (.lq k i off) (.pointer (some ⟨b,i*s+off,none⟩))
 |fn (f:Fn) (first cap:List Aa) (vs us:Array Value) (hl:vs.size=first.length) (hm:us.size=cap.length) (h:∀i,i<first.length→R ok w H (first.getD i .junk) (vs.getD i undef))
  (h':∀i,i<cap.length→R ok w H (cap.getD i .junk) (us.getD i undef)):R ok w H (.fn f first cap) (.func f vs us)
 |mp (k:Nat) (v:Value) (s:Nat) (hl:v.oneCell'=true) (h:H[k]? =some ⟨v,s⟩):R ok w H (.mp k) v
 |clip (xs:List D) (ad:Option Addr) (h:Dk ok w (.sl xs) (.slice ad xs.length xs.length)):R ok w H (.clip xs) (.slice ad xs.length xs.length)
 |xG (k:Nat) (ad:Option Addr) (n cap s:Nat) (h:H[k]? =some ⟨.slice ad n cap,s⟩):R ok w H (.xG k) (.slice ad n n)
 |eF (xs:List Aa) (vs:Array Value) (hl:vs.size=xs.length) (h:∀i,i<xs.length→R ok w H (xs.getD i .junk) (vs.getD i undef)):R ok w H (.eF xs) (.tuple vs)
 |ag (xs:List Aa) (vs:Array Value) (hl:vs.size=xs.length) (hf:∀i,i<xs.length→(xs.getD i .junk).leaf=true) (h:∀i,i<xs.length→R ok w H (xs.getD i .junk) (vs.getD i undef)):R ok w H (.ag xs) (.agg vs)
 |junk (v:Value):R ok w H .junk v
def Names (H H':List BN):Prop:=∀(k:Nat) (v:BN),H[k]? =some v→H'[k]? =some v
def Names.refl (H:List BN):Names H H:=fun _ _ h=>h
def Names.trans {H H1 H2:List BN} (h:Names H H1) (k:Names H1 H2):Names H H2:=fun i v j=>k i v (h i v j)
def Names.push (H H':List BN):Names H (H++H'):=fun k v h=>by
 rw[GZ (FI.1 h).1];exact h
def R.mono {ok ok':Nat→Prop} {w w':World} {H H':List BN} (z:EN ok w ok' w') (j:Names H H') {x:Aa} {v:Value} (h:R ok w H x v):R ok' w' H' x v:=by
 induction h with
 |d x v h=>exact .d x v (h.mono z)
 |ptr k off b s h=>exact .ptr k off b s (j _ _ h)
 |aY k ad n cap s h=>exact .aY k ad n cap s (j _ _ h)
 |lq k i off b n cap s h=>exact .lq k i off b n cap s (j _ _ h)
 |fn f first cap vs us hl hm _ _ q u=>exact .fn f first cap vs us hl hm q u
 |mp k v s hl h=>exact .mp k v s hl (j _ _ h)
 |clip xs ad h=>exact .clip xs ad (h.mono z)
 |xG k ad n cap s h=>exact .xG k ad n cap s (j _ _ h)
 |eF xs vs hl _ q=>exact .eF xs vs hl q
 |ag xs vs hl I _ q=>exact .ag xs vs hl I q
 |junk v=>exact .junk v
def R.shrink {ok ok':Nat→Prop} {w:World} (hs:∀b o,ok b→(w.cell? ⟨b,o,none⟩).isSome=true→ok' b) {H:List BN} {x:Aa} {v:Value} (h:R ok w H x v):R ok' w H x v:=by
 induction h with
 |d x v h=>exact .d x v (h.shrink hs)
 |ptr k off b s h=>exact .ptr k off b s h
 |aY k ad n cap s h=>exact .aY k ad n cap s h
 |lq k i off b n cap s h=>exact .lq k i off b n cap s h
 |fn f first cap vs us hl hm _ _ j q=>exact .fn f first cap vs us hl hm j q
 |mp k v s hl h=>exact .mp k v s hl h
 |clip xs ad h=>exact .clip xs ad (h.shrink hs)
 |xG k ad n cap s h=>exact .xG k ad n cap s h
 |eF xs vs hl _ j=>exact .eF xs vs hl j
 |ag xs vs hl u _ j=>exact .ag xs vs hl u j
 |junk v=>exact .junk v
def R.leaf {ok:Nat→Prop} {w:World} {H:List BN} {x:Aa} {v:Value} (h:R ok w H x v) (hl:x.leaf=true):v.oneCell'=true:=by
 cases h with
 |d x v h=>exact h.leaf hl
 |eF=>simp[Aa.leaf]at hl
 |ag=>simp[Aa.leaf]at hl
 |junk=>simp[Aa.leaf]at hl
 |mp k v s hl h=>exact hl
 |_=>rfl
def F6 (ok:Nat→Prop) (w:World) (H:List BN) (xs:List Aa) (vs:List Value):Prop:=
 vs.length=xs.length∧∀i,i<xs.length→(xs.getD i .junk).leaf=true∧R ok w H (xs.getD i .junk) (vs.getD i undef)
def F6.mono {ok ok':Nat→Prop} {w w':World} {H H':List BN} (j:EN ok w ok' w') (q:Names H H') {xs:List Aa} {vs:List Value} (h:F6 ok w H xs vs):F6 ok' w' H' xs vs:=
 ⟨h.1,fun i hi=>⟨(h.2 i hi).1,(h.2 i hi).2.mono j q⟩⟩
def F6.shrink {ok ok':Nat→Prop} {w:World} (hs:∀b o,ok b→(w.cell? ⟨b,o,none⟩).isSome=true→ok' b) {H:List BN} {xs:List Aa} {vs:List Value} (h:F6 ok w H xs vs):F6 ok' w H xs vs:=
 ⟨h.1,fun i hi=>⟨(h.2 i hi).1,(h.2 i hi).2.shrink hs⟩⟩
def flat (es:List D):List Aa:=es.flatMap fun x=>x.cells.map .d
def lH (w:World) (e:TypeId) (size:Nat) (v:Value) (n:Nat) (xs:List Value):Prop:=
 xs.length=n*size∧
 ((v=.slice none 0 0∧n=0)∨
  ∃g cap cur,v=.slice (some ⟨g,0,none⟩) n cap∧0≤g∧w.heap[g]? =some (.cells cur e (0,0))∧n≤cap∧cap≤maxLen∧cap*size≤cur.size∧cur.toList.take (n*size)=xs)
def lH.of {w:World} {base:Nat} {e:TypeId} {size:Nat} {v:Value} {n:Nat} {xs:List Value} (h:w.ownsRow base e size v n xs):lH w e size v n xs:=by
 refine⟨h.1,?_⟩;rcases h.2 with j|⟨g,cap,cur,j,L,q,u,z,I,J⟩
 ·exact .inl j
 exact .inr ⟨g,cap,cur,j,Ci _,q,u,z,Xw I.symm,J⟩
def lH.cells {w:World} {e:TypeId} {size:Nat} {v:Value} {n:Nat} {xs:List Value} (h:lH w e size v n xs) {g:Nat} (J:v.ownBlock=some g):∀j u,xs[j]? =some u→w.cell? ((⟨g,0,none⟩:Addr).add j)=some u:=by
 intro j u I;rcases h.2 with⟨rfl,_⟩|⟨L,cap,cur,rfl,_,M,_,_,_,q⟩
 ·simp[Value.ownBlock]at J
 simp[Value.ownBlock]at J;subst J;have z:(⟨L,0,none⟩:Addr).add j=⟨L,j,none⟩:=by unfold Addr.add;split<;>simp_all
 rw[z,cell_of_row w L j cur e (0,0) M];rw[←q,nM]at I;split at I
 ·simpa using I
 cases I
structure KZ (ok:Nat→Prop) (w:World) (es:List (Value×D)) (ms:Array MapEntry) (clock:Nat):Prop where
 len:ms.size=es.length
 ent:∀(i:Nat) (e:Value×D) (m:MapEntry),es[i]? =some e→ms[i]? =some m→m.key=e.1∧Dk ok w e.2 m.val∧m.born<clock
 inc:∀(i j:Nat) (m n:MapEntry),i<j→ms[i]? =some m→ms[j]? =some n→m.born<n.born
def RQ (ms:Array MapEntry) (clock:Nat):Prop:=clock=ms.size∧∀(i:Nat) (e:MapEntry),ms[i]? =some e→e.born=i
def En (ok:Nat→Prop) (w:World) (H:List BN) (h:BN):Az→Prop
 | .dead=>True
 | .box cs=>∃b vs T,h.v=.pointer (some ⟨b,0,none⟩)∧w.heap[b]? =some (.cells vs T (0,0))∧F6 ok w H cs vs.toList
 | .arr e size es=>h.size=size∧(∀x∈es,x.cells.length=size)∧∃xs,lH w e size h.v es.length xs∧F6 ok w H (flat es) xs
 | .map es=>∃b ms clock,h.v=.map (some b)∧w.heap[b]? =some (.map ms clock)∧KZ ok w es ms clock
 | .gZ es=>∃b ms clock,h.v=.map (some b)∧w.heap[b]? =some (.map ms clock)∧KZ ok w es ms clock∧RQ ms clock
 | .iter es vis=>∃bi q ms clock seen,h.v=.pointer (some ⟨bi,0,none⟩)∧w.heap[bi]? =some (.mapIter (some q) clock seen clock)∧ok q∧w.heap[q]? =some (.map ms clock)∧KZ ok w es ms clock∧
  seen.size=vis.length∧∀(j i:Nat),vis[j]? =some i→∃e,ms[i]? =some e∧seen[j]? =some e.born
 | .loop tm slots rc st u=>∃l fn D,h.v=.func (.yield l) #[] #[]∧w.heap[l]? =some (.loop { state:=st,pending:=u,fn,tmps:=tm,params:=rc.1,assign:=rc.2.1,body:=rc.2.2,defers:=D })∧tm.size=slots.length∧∀t,t<slots.length→R ok w H (slots.getD t .junk) (tm.getD t undef)
def D6 :Value→Option Nat
 | .pointer (some a)=>some a.block
 | .slice (some a) _ _=>some a.block
 | .map (some b)=>some b
 | .func (.yield l) _ _=>some l
 |_=>none
structure wW (w0:World) (X:List Nat) (w:World):Prop where
 os:w.os=w0.os
 tape:w.tape=w0.tape
 output:w.output=w0.output
 size:w0.heap.size≤w.heap.size
 block:∀k,k<w0.heap.size→k∉X→w.heap[k]? =w0.heap[k]?
def wW.refl (w:World) (X:List Nat):wW w X w:=⟨rfl,rfl,rfl,Dn _,fun _ _ _=>rfl⟩
def wW.below {w0 w:World} (h:wW w0 [] w):Below w0.heap.size w0 w:=⟨h.os,h.tape,h.output,h.size,fun k j=>h.block k j Aw⟩
structure EP where
 w0:World
 ok0:Nat→Prop
 X:List Nat
 H0:List BN
structure Ce (C:EP) (ok:Nat→Prop) (H:List BN) (es:List Az) (w:World):Prop where
 fr:wW C.w0 C.X w
 yV:∀b,C.ok0 b→ok b
 yX:∀b,ok b→C.ok0 b∨C.w0.heap.size≤b∨b∈C.X
 kN:∀b,ok b→b<w.heap.size
 names:Names C.H0 H
 hlen:H.length=es.length
 ent:∀(k:Nat) (e:Az) (h:BN),es[k]? =some e→H[k]? =some h→En ok w H h e
 blk:∀(k:Nat) (e:Az) (h:BN) (b:Nat),es[k]? =some e→e.live=true→H[k]? =some h→D6 h.v=some b→¬ok b∧b<w.heap.size∧(C.w0.heap.size≤b∨b∈C.X)
 D8:∀(k k':Nat) (e e':Az) (h h':BN) (b:Nat),es[k]? =some e→es[k']? =some e'→e.live=true→e'.live=true→H[k]? =some h→H[k']? =some h'→D6 h.v=some b→D6 h'.v=some b→k=k'
def En.mono {ok ok':Nat→Prop} {w w':World} {H H':List BN} {h:BN} {e:Az} (I:EN ok w ok' w') (U:Names H H') (L:e.live=true→∀b,D6 h.v=some b→w'.heap[b]? =w.heap[b]?) (M:En ok w H h e):En ok' w' H' h e:=by
 cases e with
 |dead=>trivial
 |box cs=>
  obtain⟨b,vs,T,q,u,j⟩:=M;exact⟨b,vs,T,q,aNA,j.mono I U⟩
 |arr e s es=>
  obtain⟨q,u,xs,⟨j,z⟩,J⟩:=M;refine⟨q,u,xs,⟨j,?_⟩,J.mono I U⟩;rcases z with z|⟨g,cap,cur,O,Y,h8,h9⟩
  ·exact .inl z
  exact .inr ⟨g,cap,cur,O,Y,by rw[L rfl g (by rw[O];rfl)];exact h8,h9⟩
 |map es=>
  obtain⟨b,ms,clock,q,u,j⟩:=M;exact⟨b,ms,clock,q,aNA,j.len,fun i e m hi hm=>⟨(j.ent i e m hi hm).1,(j.ent i e m hi hm).2.1.mono I,(j.ent i e m hi hm).2.2⟩,j.inc⟩
 |gZ es=>
  obtain⟨b,ms,clock,q,u,j,z⟩:=M;exact⟨b,ms,clock,q,aNA,⟨j.len,fun i e m hi hm=>⟨(j.ent i e m hi hm).1,(j.ent i e m hi hm).2.1.mono I,(j.ent i e m hi hm).2.2⟩,j.inc⟩,z⟩
 |iter es vis=>
  obtain⟨bi,Z,ms,clock,seen,q,u,j,z,J,O,Y⟩:=M;exact⟨bi,Z,ms,clock,seen,q,by rw[L rfl bi aDb];exact u,(I Z j).1,by rw[(I Z j).2];exact z,⟨J.len,fun i e m hi hm=>⟨(J.ent i e m hi hm).1,(J.ent i e m hi hm).2.1.mono I,(J.ent i e m hi hm).2.2⟩,J.inc⟩,O,Y⟩
 |loop tm slots rc st pe=>
  obtain⟨l,fn,D,q,u,j,z⟩:=M;exact⟨l,fn,D,q,by rw[L rfl l aDb];exact u,j,fun t ht=>(z t ht).mono I U⟩
def En.shrink {ok ok':Nat→Prop} {w:World} (hs:∀b o,ok b→(w.cell? ⟨b,o,none⟩).isSome=true→ok' b) (L:∀(b:Nat) (ms:Array MapEntry) (c:Nat),ok b→w.heap[b]? =some (.map ms c)→ok' b) {H:List BN} {h:BN} {e:Az} (I:En ok w H h e):En ok' w H h e:=by
 cases e with
 |dead=>trivial
 |box cs=>
  obtain⟨b,vs,T,q,u,j⟩:=I;exact⟨b,vs,T,q,u,j.shrink hs⟩
 |arr e s es=>
  obtain⟨q,u,xs,j,z⟩:=I;exact⟨q,u,xs,j,z.shrink hs⟩
 |map es=>
  obtain⟨b,ms,clock,q,u,j⟩:=I;exact⟨b,ms,clock,q,u,j.len,fun i e m hi hm=>⟨(j.ent i e m hi hm).1,(j.ent i e m hi hm).2.1.shrink hs,(j.ent i e m hi hm).2.2⟩,j.inc⟩
 |gZ es=>
  obtain⟨b,ms,clock,q,u,j,J⟩:=I;exact⟨b,ms,clock,q,u,⟨j.len,fun i e m hi hm=>⟨(j.ent i e m hi hm).1,(j.ent i e m hi hm).2.1.shrink hs,(j.ent i e m hi hm).2.2⟩,j.inc⟩,J⟩
 |iter es vis=>
  obtain⟨bi,M,ms,clock,seen,q,u,j,J,z,O,U⟩:=I;exact⟨bi,M,ms,clock,seen,q,u,L M ms clock j J,J,⟨z.len,fun i e m hi hm=>⟨(z.ent i e m hi hm).1,(z.ent i e m hi hm).2.1.shrink hs,(z.ent i e m hi hm).2.2⟩,z.inc⟩,O,U⟩
 |loop tm slots rc st Y=>
  obtain⟨l,fn,D,q,u,j,J⟩:=I;exact⟨l,fn,D,q,u,j,fun t ht=>(J t ht).shrink hs⟩
def En.drew {ok:Nat→Prop} {w:World} {H:List BN} {h:BN} {e:Az} {n:Nat} (j:En ok w H h e):En ok { w with drawn:=n } H h e:=
 En.mono (w:=w) (ok:=ok) (fun _ q=>⟨q,rfl⟩) (.refl _) (fun _ _ _=>rfl) j
def BR (P:Program) (o:Oper) (ns:List (Operand×Aa)) (es:List Az) (x:Aa) (es':List Az):Prop:=
 ∀(C:EP) (ok:Nat→Prop) (H:List BN) (a:Act) (w:World) (Q:Exit→Act→World→Prop),
  Ce C ok H es w→(∀n∈ns,R ok w H n.2 (a.eval n.1))→
  o.wp P a w (fun a' w'=>∃v ok' H',a'=a.put o.dst v∧EN ok w ok' w'∧Names H H'∧Ce C ok' H' es' w'∧R ok' w' H' x v) Q
def BR.pure {P:Program} {o:Oper} {ns:List (Operand×Aa)} {es:List Az} {x:Aa}
 (h:∀(ok:Nat→Prop) (H:List BN) (a:Act) (w:World),(∀(k:Nat) (e:Az) (h:BN),es[k]? =some e→H[k]? =some h→En ok w H h e)→H.length=es.length→(∀n∈ns,R ok w H n.2 (a.eval n.1))→∃v,(execOp a.eval o).run P w=.ok (.value v) w∧R ok w H x v):BR P o ns es x es:=by
 intro C ok H a w Q hm j;obtain⟨v,q,u⟩:=h ok H a w hm.ent hm.hlen j;unfold Oper.wp;rw[q];exact⟨v,ok,H,rfl,.refl _ _,.refl _,hm,u⟩
structure Ak where
 slots:List Aa
 ents:List Az
 base:Nat:=0
def Ak.get (σ:Ak):Operand→Aa
 | .tmp t=>σ.slots.getD t .junk
 | .const v=>.d (.lit v)
 | .global g=>.d (.lit (.pointer (some ⟨g,0,none⟩)))
 | .func f=>.d (.fn (.func f) [] [])
def Ak.put (σ:Ak) (d:Option Tmp) (x:Aa) (es:List Az):Ak:=
 ⟨match d with |some t=>σ.slots.set t x|none=>σ.slots,es,σ.base⟩
def Ak.rQ (σ:Ak) (d:Option Tmp) (x:Aa):Ak:=
 ⟨match d with |some t=>σ.slots.set t x|none=>σ.slots,σ.ents,σ.base⟩
def Ak.aok (σ:Ak) (d:Option Tmp) (x:Aa):σ.rQ d x=σ.put d x σ.ents:=rfl
def Marks (C:EP) (ok:Nat→Prop) (w:World) (j:List Deferred):Prop:=
 ∃Ds:List Nat,j=Ds.map (fun D=>{ target:=.collected D,args:= #[] })∧Ds.Nodup∧∀D∈Ds,ok D∧C.w0.heap.size≤D∧w.heap[D]? =some (.deferred (some []))
def Marks.nil (C:EP) (ok:Nat→Prop) (w:World):Marks C ok w []:=⟨[],rfl,aN,fun _ h=>Ie⟩
def Marks.mono {C:EP} {ok ok':Nat→Prop} {w w':World} {u:List Deferred} (h:Marks C ok w u) (z:EN ok w ok' w'):Marks C ok' w' u:=by
 obtain⟨Ds,I,J,j⟩:=h;exact⟨Ds,I,J,fun D q=>⟨(z D (j D q).1).1,(j D q).2.1,((z D (j D q).1).2).trans (j D q).2.2⟩⟩
structure Holds (C:EP) (ok:Nat→Prop) (H:List BN) (σ:Ak) (a:Act) (w:World):Prop where
 mem:Ce C ok H σ.ents w
 size:a.tmps.size=σ.slots.length
 defers:Marks C ok w a.defers
 base:C.H0.length=σ.base
 slot:∀t,t<σ.slots.length→R ok w H (σ.slots.getD t .junk) (a.tmps.getD t undef)
def uG {l:List Aa} {t:Nat} (h:¬t<l.length):l.getD t .junk=.junk:=by
 simp[List.getD,I8 (WT h)]
def Holds.get {C:EP} {ok:Nat→Prop} {H:List BN} {σ:Ak} {a:Act} {w:World} (h:Holds C ok H σ a w) (x:Operand):R ok w H (σ.get x) (a.eval x):=by
 cases x with
 |tmp t=>
  show R ok w H (σ.slots.getD t .junk) (a.tmps.getD t undef);by_cases ht:t<σ.slots.length
  ·exact h.slot t ht
  rw[uG ht];exact .junk _
 |const v=>exact .d _ _ (.lit v)
 |global g=>exact .d _ _ (.lit _)
 |func f=>exact .d _ _ (.fn (.func f) [] [] #[] #[] rfl rfl (fun i hi=>Ot) (fun i hi=>Ot))
def Holds.put {C:EP} {ok ok':Nat→Prop} {H H':List BN} {σ:Ak} {a:Act} {w w':World} (h:Holds C ok H σ a w) (d:Option Tmp) {x:Aa} {v:Value} {es':List Az}
 (j:EN ok w ok' w') (z:Names H H') (hm:Ce C ok' H' es' w') (I:R ok' w' H' x v):Holds C ok' H' (σ.put d x es') (a.put d v) w':=by
 cases d with
 |none=>exact⟨hm,h.size,h.defers.mono j,h.base,fun t ht=>(h.slot t ht).mono j z⟩
 |some d=>
  refine⟨hm,by simp[Ak.put,Act.put,h.size],h.defers.mono j,h.base,fun t ht=>?_⟩;simp only[Ak.put,Zi]at ht;simp only[Ak.put,Act.put];by_cases e:d=t
  ·subst e;have q:(σ.slots.set d x).getD d .junk=x:=aLd
   have u:(a.tmps.setIfInBounds d v).getD d undef=v:=by simp[Array.getD,h.size,ht]
   rw[q,u];exact I
  have q:(σ.slots.set d x).getD t .junk=σ.slots.getD t .junk:=aNk
  have u:(a.tmps.setIfInBounds d v).getD t undef=a.tmps.getD t undef:=by simp[Ib,OZ e]
  rw[q,u];exact(h.slot t ht).mono j z
def Aa.uN (π:List (Nat×Bool)):Aa→Aa
 | .d x=>.d x
 | .ptr k off=>match π.idxOf? (k,true)with |some j=>.ptr j off|none=>.junk
 | .aY k=>match π.idxOf? (k,true)with |some j=>.aY j|none=>.junk
 | .lq k i off=>match π.idxOf? (k,true)with |some j=>.lq j i off|none=>.junk
 | .mp k=>match π.idxOf? (k,true)with |some j=>.mp j|none=>.junk
 | .xG k=>match π.idxOf? (k,true)with |some j=>.xG j|none=>.junk
 | .clip xs=>.clip xs
 |_=>.junk
def Aa.back (π:List (Nat×Bool)):Aa→Aa
 | .fn f first cap=>.fn f (first.map (Aa.uN π)) (cap.map (Aa.uN π))
 | .eF vs=>.eF (vs.map (Aa.uN π))
 |x=>x.uN π
def Az.back (π:List (Nat×Bool)):Az→Az
 | .dead=>.dead
 | .box cs=>.box (cs.map (Aa.uN π))
 | .arr e s es=>.arr e s es
 | .map es=>.map es
 | .gZ es=>.gZ es
 | .iter es vis=>.iter es vis
 | .loop tm slots rc st j=>.loop tm (slots.map (Aa.back π)) rc st j
def xP {π:List (Nat×Bool)} {H:List BN} {k j:Nat} {h:BN} (u:π.idxOf? (k,true)=some j) (z:H[k]? =some h):(π.map fun p=>H.getD p.1 ⟨undef,0⟩)[j]? =some h:=by
 rw[List.idxOf?,aUZ]at u;obtain⟨q,I, -⟩:=u;have e:π[j]=(k,true):=Rf
 simp[q,e,List.getD,z]
def R.uN {ok:Nat→Prop} {w:World} {H:List BN} (π:List (Nat×Bool)) {x:Aa} {v:Value} (h:R ok w H x v):R ok w (π.map fun p=>H.getD p.1 ⟨undef,0⟩) (x.uN π) v:=by
 cases h with
 |d x v h=>exact .d x v h
 |ptr k off b s h=>
  simp only[Aa.uN];split<;>rename_i j q
  ·exact .ptr _ off b s (xP q h)
  exact .junk _
 |aY k ad n cap s h=>
  simp only[Aa.uN];split<;>rename_i j q
  ·exact .aY _ ad n cap s (xP q h)
  exact .junk _
 |lq k i off b n cap s h=>
  simp only[Aa.uN];split<;>rename_i j q
  ·exact .lq _ i off b n cap s (xP q h)
  exact .junk _
 |mp k v s hl h=>
  simp only[Aa.uN];split<;>rename_i j q
  ·exact .mp _ v s hl (xP q h)
  exact .junk _
 |clip xs ad h=>exact .clip xs ad h
 |xG k ad n cap s h=>
  simp only[Aa.uN];split<;>rename_i j q
  ·exact .xG _ ad n cap s (xP q h)
  exact .junk _
 |fn f first cap vs us hl hm h h'=>exact .junk _
 |eF xs vs hl h=>exact .junk _
 |ag xs vs hl u h=>exact .junk _
 |junk v=>exact .junk _
def RN (f:Aa→Aa) (l:List Aa) (i:Nat) (h:i<l.length):(l.map f).getD i .junk=f (l.getD i .junk):=by
 simp[List.getD,h]
def R.back {ok:Nat→Prop} {w:World} {H:List BN} (π:List (Nat×Bool)) {x:Aa} {v:Value} (h:R ok w H x v):R ok w (π.map fun p=>H.getD p.1 ⟨undef,0⟩) (x.back π) v:=by
 cases h with
 |fn f first cap vs us hl hm h h'=>
  exact .fn f _ _ vs us ZJ (by simp[hm]) (fun i hi=>aQt) (fun i hi=>by rw[CB]at hi;rw[RN _ _ _ hi];exact(h' i hi).uN π)
 |eF xs vs hl h=>exact .eF _ vs ZJ (fun i hi=>aQt)
 |ag xs vs hl j h=>exact .junk _
 |d x v h=>exact(R.d x v h).uN π
 |ptr k off b s h=>exact(R.ptr k off b s h).uN π
 |aY k ad n cap s h=>exact(R.aY k ad n cap s h).uN π
 |lq k i off b n cap s h=>exact(R.lq k i off b n cap s h).uN π
 |mp k v s hl h=>exact(R.mp k v s hl h).uN π
 |clip xs ad h=>exact(R.clip xs ad h).uN π
 |xG k ad n cap s h=>exact(R.xG k ad n cap s h).uN π
 |junk v=>exact .junk _
def Az.backOk (π:List (Nat×Bool)):Az→Bool
 | .box cs=>cs.all fun x=>(x.uN π).leaf
 |_=>true
def Ug (base:Nat) (es:List Az) (π:List (Nat×Bool)):Bool:=
 π.all (fun p=>decide (p.1<es.length))&&decide ((π.filterMap fun p=>if p.2 then some p.1 else none).Nodup)&&((π.take base).map (·.1)==List.range base)&&π.all fun p=>(es.getD p.1 .dead).backOk π
def SB (es:List Az) (π:List (Nat×Bool)):List Az:=π.map fun p=>if p.2 then(es.getD p.1 .dead).back π else .dead
def aXQ :∀{π:List (Nat×Bool)},(π.filterMap fun p=>if p.2 then some p.1 else none).Nodup→∀(i j k:Nat),π[i]? =some (k,true)→π[j]? =some (k,true)→i=j
 | [],_,i,j,k,h,_=>Ig
 |p::π,q,i,j,k,hi,z=>by
  have u:∀(n:Nat),π[n]? =some (k,true)→k∈π.filterMap fun p=>if p.2 then some p.1 else none:=fun n h=>by
   rw[Sl];exact⟨_,X7 h,rfl⟩
  have I:(π.filterMap fun p=>if p.2 then some p.1 else none).Nodup:=by
   rw[Lr]at q;split at q
   ·exact q
   exact(Kv.1 q).2
  match i,j with
  |0,0=>rfl
  |0,j+1=>
   simp at hi z;subst hi;simp only[Lr,JV]at q;exact absurd (u j z) (Kv.1 q).1
  |i+1,0=>
   simp at hi z;subst z;simp only[Lr,JV]at q;exact absurd (u i hi) (Kv.1 q).1
  |i+1,j+1=>rw[aXQ I i j k G6 Le]
def En.back {ok:Nat→Prop} {w:World} {H:List BN} {h:BN} {e:Az} (π:List (Nat×Bool)) (L:e.backOk π=true) (j:En ok w H h e):En ok w (π.map fun p=>H.getD p.1 ⟨undef,0⟩) h (e.back π):=by
 cases e with
 |dead=>trivial
 |box cs=>
  obtain⟨b,vs,T,q,u,z,I⟩:=j;refine⟨b,vs,T,q,u,Le,fun i hi=>?_⟩;rw[CB]at hi;rw[RN _ _ _ hi];refine⟨?_,(I i hi).2.uN π⟩;simp only[Az.backOk,Di]at L;exact L _ NZ
 |arr e s es=>
  obtain⟨q,u,xs,z,I,M⟩:=j;refine⟨q,u,xs,z,I,fun i hi=>⟨(M i hi).1,?_⟩⟩;have J:=(M i hi).2;have hm:(flat es).getD i .junk∈flat es:=NZ
  unfold flat at hm ⊢;simp only[Rl,Dp]at hm;obtain⟨x,_,y,_,O⟩:=hm;unfold flat at J;rw[←O]at J ⊢;cases J with |d _ _ h=>exact .d _ _ h
 |map es=>exact j
 |gZ es=>exact j
 |iter es vis=>exact j
 |loop tm slots rc st U=>
  obtain⟨l,fn,D,q,u,z,I⟩:=j;refine⟨l,fn,D,q,u,Le,fun t ht=>?_⟩;rw[CB]at ht;rw[RN _ _ _ ht];exact(I t ht).back π
def aRJ {π:List (Nat×Bool)} {e:Az}:(e.back π).live=e.live:=by cases e<;>rfl
def Ce.norm {C:EP} {ok:Nat→Prop} {H:List BN} {es:List Az} {w:World} (hm:Ce C ok H es w) (π:List (Nat×Bool)) (U:Ug C.H0.length es π=true):
 Ce C ok (π.map fun p=>H.getD p.1 ⟨undef,0⟩) (SB es π) w:=by
 unfold Ug at U;simp only[CZ,GN,OL,Di]at U;obtain⟨⟨⟨hlt,hnd⟩,hpre⟩,hbk⟩:=U
 have u:∀(j:Nat) (h:BN),(π.map fun p=>H.getD p.1 ⟨undef,0⟩)[j]? =some h→∃p,π[j]? =some p∧p.1<es.length∧H[p.1]? =some h:=by
  intro j h q;rw[JD]at q;cases hp:π[j]? with
  |none=>rw[hp]at q;simp at q
  |some p=>
   rw[hp]at q;have z:p.1<es.length:=hlt p (X7 hp);refine⟨p,rfl,z,?_⟩;have hkH:p.1<H.length:=by rw[hm.hlen];exact z
   simp[List.getD,hkH]at q ⊢;exact q
 have I:∀(j:Nat) (p:Nat×Bool) (e:Az),(SB es π)[j]? =some e→π[j]? =some p→p.1<es.length→(p.2=false∧e=.dead)∨(p.2=true∧∃M,es[p.1]? =some M∧e=M.back π∧p∈π):=by
  intro j p e q hp z;unfold SB at q;rw[JD,hp]at q;cases Z:p.2 with
  |false=>simp[Z]at q;exact .inl ⟨rfl,q.symm⟩
  |true=>
   simp[Z,List.getD,z]at q;exact .inr ⟨rfl,es[p.1],by simp[z],q.symm,X7 hp⟩
 refine⟨hm.fr,hm.yV,hm.yX,hm.kN,?_,by simp[SB],?_,?_,?_⟩
 ·intro k v hv;have z:k<C.H0.length:=(FI.1 hv).1;have h1:((π.take C.H0.length).map (·.1))[k]? =some k:=by rw[hpre];simp[z]
  rw[JD,LM z]at h1;have h2:=hm.names k v hv;cases hp:π[k]? with
  |none=>rw[hp]at h1;simp at h1
  |some p=>
   rw[hp]at h1;have hpk:p.1=k:=by simpa using h1
   rw[JD,hp];simp[List.getD,hpk,h2]
 ·intro j e h q hh;obtain⟨p,hp,z,hH⟩:=u j h hh;rcases I j p e q hp z with⟨_,rfl⟩|⟨_,M,J,rfl,L⟩
  ·trivial
  refine(hm.ent p.1 M h J hH).back π ?_;have :=hbk p L;simpa[List.getD,J]using this
 ·intro j e h b q hl hh Z;obtain⟨p,hp,z,hH⟩:=u j h hh;rcases I j p e q hp z with⟨_,rfl⟩|⟨_,M,J,rfl,L⟩
  ·cases hl
  rw[aRJ]at hl;exact hm.blk p.1 M h b J hl hH Z
 intro j j' e e' h h' b q hj' hl Y hh hh' Z hb';obtain⟨p,hp,z,hH⟩:=u j h hh;obtain⟨p',hp',hk',hH'⟩:=u j' h' hh';rcases I j p e q hp z with⟨_,rfl⟩|⟨hpt,M,J,rfl,L⟩
 ·cases hl
 rcases I j' p' e' hj' hp' hk' with⟨_,rfl⟩|⟨O,e0',aGi,rfl,hmem'⟩
 ·cases Y
 rw[aRJ]at hl Y;have hkk:=hm.D8 p.1 p'.1 M e0' h h' b J aGi hl Y hH hH' Z hb';obtain⟨k,bb⟩:=p;obtain⟨k',bb'⟩:=p';simp only at hkk hpt O;subst hkk;subst hpt;subst O;exact aXQ hnd j j' k hp hp'
def Kr (π:List (Nat×Bool)):List Bool→List Aa→List Aa
 |_,[]=>[]
 |true::m,x::xs=>x.back π::Kr π m xs
 |false::m,_::xs=>.junk::Kr π m xs
 | [],_::xs=>.junk::Kr π [] xs
def aBr (π:List (Nat×Bool)):∀(m:List Bool) (l:List Aa),(Kr π m l).length=l.length
 |_,[]=>by unfold Kr;rfl
 |true::m,x::xs=>by simp[Kr,aBr π m xs]
 |false::m,x::xs=>by simp[Kr,aBr π m xs]
 | [],x::xs=>by simp[Kr,aBr π [] xs]
def aBK (π:List (Nat×Bool)):∀(m:List Bool) (l:List Aa) (t:Nat),(Kr π m l).getD t .junk=(l.getD t .junk).back π∨(Kr π m l).getD t .junk=.junk
 |_,[],t=>by unfold Kr;right;simp
 |true::m,x::xs,0=>by left;simp[Kr]
 |false::m,x::xs,0=>by right;simp[Kr]
 | [],x::xs,0=>by right;simp[Kr]
 |true::m,x::xs,t+1=>by simpa[Kr]using aBK π m xs t
 |false::m,x::xs,t+1=>by simpa[Kr]using aBK π m xs t
 | [],x::xs,t+1=>by simpa[Kr]using aBK π [] xs t
def aDO (σ S:Ak):Prop:=∃(m:List Bool) (π:List (Nat×Bool)),Ug σ.base σ.ents π=true∧S=⟨Kr π m σ.slots,SB σ.ents π,σ.base⟩
def Holds.aGj {C:EP} {ok:Nat→Prop} {H:List BN} {σ S:Ak} {a:Act} {w:World} (h:Holds C ok H σ a w) (hs:aDO σ S):∃H',Holds C ok H' S a w:=by
 obtain⟨m,π,j,rfl⟩:=hs;refine⟨π.map fun p=>H.getD p.1 ⟨undef,0⟩,h.mem.norm π (h.base▸j),by simp[aBr,h.size],h.defers,h.base,fun t ht=>?_⟩;rcases aBK π m σ.slots t with e|e
 ·simp only[e];exact(h.get (.tmp t)).back π
 simp only[e];exact .junk _
def CW (σ S:Ak):Prop:=∀(C:EP) (ok:Nat→Prop) (H:List BN) (a:Act) (w:World),Holds C ok H σ a w→∃ok' H',Holds C ok' H' S a w
def aDO.sub {σ S:Ak} (h:aDO σ S):CW σ S:=fun _ ok _ _ _ j=>let⟨H',h'⟩:=j.aGj h;⟨ok,H',h'⟩
def apO {σ S:Ak} (j:Ak) (h:∀C ok H a w,Holds C ok H σ a w→∃ok',Holds C ok' H j a w) (k:CW j S):CW σ S:=fun C _ H a w q=>let⟨ok',h'⟩:=h C _ H a w q;k C ok' H a w h'
section
variable {P : Program} {ops : Array Oper} {Q : Exit → Act → World → Prop}
def toCome (j:Array Bool):Nat:=(j.toList.filter (!·)).length
def toCome_set {j:Array Bool} {i:Nat} (hi:i<j.size) (h:j.getD i true=false):toCome (j.setIfInBounds i true)+1=toCome j:=by
 unfold toCome;have hl:j.toList[i]' G6=false:=by simpa[Array.getD,hi]using h
 have e:j.toList=j.toList.take i++false::j.toList.drop (i+1):=by
  rw[←hl,List.getElem_cons_drop,Qn]
 have q:(j.setIfInBounds i true).toList=j.toList.take i++true::j.toList.drop (i+1):=by
  rw[aO6,aN5,CP G6]
 rw[q]
 conv=>rhs;rw[e]
 simp[Ox];omega
def written (ops:Array Oper):List Tmp:=ops.toList.filterMap (·.dst)
def WI (ops:Array Oper):Bool:=(List.range ops.size).all fun i=>(List.range ops.size).all fun j=>i==j||match(ops[i]?).bind (·.dst),(ops[j]?).bind (·.dst)with
 |some d,some q=>d != q
 |_,_=>true
def WZ (ops:Array Oper) (n:Nat):Bool:=(written ops).all fun d=>decide (d<n)
def aTr (h:WI ops=true):∀(i j:Nat) (o q:Oper) (d:Tmp),ops[i]? =some o→ops[j]? =some q→o.dst=some d→q.dst=some d→i=j:=by
 intro i j o q d u z I J;unfold WI at h;rw[Di]at h;have hi:i<ops.size:=(GX.1 u).1;have L:j<ops.size:=(GX.1 z).1;have :=h i G6;rw[Di]at this;have :=this j Wu;rw[u,z]at this;simp[I,J]at this;exact this
def aX6 {i:Nat} {o:Oper} {d:Tmp} (h:ops[i]? =some o) (hd:o.dst=some d):d∈written ops:=by
 unfold written;rw[Sl]
 exact⟨o,by
  have⟨hi,j⟩:=GX.1 h
  rw[←j];exact Array.getElem_mem_toList hi,hd⟩
def aaS {a:Act} {d:Tmp} {v:Value} (h:d<a.tmps.size):(a.put (some d) v).tmps.getD d undef=v:=by
 simp[Act.put,Array.getD,h]
def aQK {a:Act} {d t:Tmp} {v:Value} (h:d≠t):(a.put (some d) v).tmps.getD t undef=a.tmps.getD t undef:=by
 simp[Act.put,Ib,OZ h]
def size_put {a:Act} {d:Option Tmp} {v:Value}:(a.put d v).tmps.size=a.tmps.size:=by cases d<;>simp[Act.put]
def aTG {a:Act} {d:Option Tmp} {v:Value}:(a.put d v).defers=a.defers:=by cases d<;>rfl
end
def WS (ops:Array Oper) (σ:Ak) (g:Option (Nat×Bool)):Prop:=g=none∨
 ∃j q d b,g=some (j,q)∧(ops[j]?).bind (·.dst)=some d∧σ.slots.getD d .junk=.d (.lit (.bool b))∧b=q
def YQ (ops:Array Oper) (σ:Ak) (g:Option (Nat×Bool)):Prop:=
 ∃j q d v,g=some (j,q)∧(ops[j]?).bind (·.dst)=some d∧σ.slots.getD d .junk=.d (.lit v)∧(v=.bool (!q)∨v=undef)
def aos {ops:Array Oper} {σ:Ak} {g:Option (Nat×Bool)} (j:Nat) (q:Bool) (d:Nat) (b:Bool) (u:g=some (j,q)) (hd:(ops[j]?).bind (·.dst)=some d) (hs:σ.slots.getD d .junk=.d (.lit (.bool b))) (z:b= !q):YQ ops σ g:=⟨j,q,d,_,u,hd,hs,.inl (by rw[z])⟩
def ao2 {ops:Array Oper} {σ:Ak} {g:Option (Nat×Bool)} (j:Nat) (q:Bool) (d:Nat) (u:g=some (j,q)) (hd:(ops[j]?).bind (·.dst)=some d) (hs:σ.slots.getD d .junk=.d (.lit undef)):YQ ops σ g:=⟨j,q,d,_,u,hd,hs,.inr rfl⟩
def R.bool {ok:Nat→Prop} {w:World} {H:List BN} {u v:Value} (h:R ok w H (.d (.lit u)) v):v=u:=by
 cases h with |d _ _ h=>cases h;rfl
def adM {C:EP} {ok:Nat→Prop} {H:List BN} {σ:Ak} {a:Act} {w:World} (h:Holds C ok H σ a w) {ops:Array Oper} {j d:Nat} {v:Value}
 (z:(ops[j]?).bind (·.dst)=some d) (q:σ.slots.getD d .junk=.d (.lit v)):yielded ops a.tmps j=(match v with | .bool b=>some b|_=>none):=by
 have hd:d<σ.slots.length:=by
  apply Yv;intro I;rw[uG I]at q;cases q
 have u:=(q▸h.slot d hd).bool
 have hs:a.tmps[d]? =some v:=by
  have :d<a.tmps.size:=by rw[h.size];exact hd
  simp[Array.getD,this]at u;simp[this,u]
 unfold yielded;rw[z];simp only[AP,hs];cases v<;>rfl
def aeB {C:EP} {ok:Nat→Prop} {H:List BN} {σ:Ak} {a:Act} {w:World} (h:Holds C ok H σ a w) {ops:Array Oper} {j d:Nat} {b:Bool}
 (z:(ops[j]?).bind (·.dst)=some d) (q:σ.slots.getD d .junk=.d (.lit (.bool b))):yielded ops a.tmps j=some b:=by
 have hd:d<σ.slots.length:=by
  apply Yv;intro I;rw[uG I]at q;cases q
 have u:=(q▸h.slot d hd).bool
 have hs:a.tmps[d]? =some (.bool b):=by
  have :d<a.tmps.size:=by rw[h.size];exact hd
  simp[Array.getD,this]at u;simp[this,u]
 unfold yielded;rw[z];simp only[AP,hs]
def PS {C:EP} {ok:Nat→Prop} {H:List BN} {σ:Ak} {a:Act} {w:World} (h:Holds C ok H σ a w) {ops:Array Oper} {o:Oper} (q:WS ops σ o.guard):Region.wanted o (yielded ops a.tmps)=true:=by
 unfold Region.wanted;rcases q with q|⟨j,u,d,b,q,z,I,rfl⟩
 ·rw[q]
 rw[q];show(yielded ops a.tmps j==some b)=true;rw[aeB h z I];simp
def aN8 {C:EP} {ok:Nat→Prop} {H:List BN} {σ:Ak} {a:Act} {w:World} (h:Holds C ok H σ a w) {ops:Array Oper} {o:Oper} (u:YQ ops σ o.guard):Region.wanted o (yielded ops a.tmps)=false:=by
 unfold Region.wanted;obtain⟨j,q,d,v,u,z,I,J⟩:=u;rw[u];show(yielded ops a.tmps j==some q)=false;rw[adM h z I];rcases J with rfl|rfl
 ·simp
 rfl
def needs (σ:Ak):List (Operand×Aa)→Prop
 | []=>True
 |n::ns=>σ.get n.1=n.2∧needs σ ns
def RD {σ:Ak}:∀{ns:List (Operand×Aa)},needs σ ns→∀n∈ns,σ.get n.1=n.2
 | [],_,n,h=>Ig
 |m::ns,j,n,h=>by
  rcases EG.1 h with rfl|h
  ·exact j.1
  exact RD j.2 n h
def tmpsOf (o:Oper):List Tmp:=o.op.operands.toList.filterMap fun | .tmp t=>some t|_=>none
def NM (ns:List (Operand×Aa)):List Tmp:=ns.filterMap fun n=>match n.1 with | .tmp t=>some t|_=>none
def Rh (P:Program) (ops:Array Oper) (σ:Ak) (x:Aa) (E:List Az) (bar:Bool) (o:Oper):Prop:=
 ((∃ns,BR P o ns σ.ents x E∧needs σ ns∧(NM ns).all (tmpsOf o).contains=true∧WS ops σ o.guard)∨(x=.d (.lit undef)∧E=σ.ents∧YQ ops σ o.guard))∧(bar=false→E=σ.ents)
def aTS {P:Program} {ops:Array Oper} {σ:Ak} {x:Aa} {o:Oper} {ns:List (Operand×Aa)} (h:BR P o ns σ.ents x σ.ents) (j:needs σ ns) (q:WS ops σ o.guard) (ht:(NM ns).all (tmpsOf o).contains=true):Rh P ops σ x σ.ents false o:=
 ⟨.inl ⟨ns,h,j,ht,q⟩,fun _=>rfl⟩
def Iz (ro:Option Nat):Fence:={ fn:=fun _=>True,depth:=none,alive:=false,round:=ro }
def aBG {ro:Option Nat} {n:Nat} {P:Program} {f:FuncId} {args:Array Value} {w:World} {R:Ending→World→Prop}:CallsIn (Iz ro) n P f args w R↔Calls P f args w R:=
 callsIn_wide (n:=n)
def aci {ro:Option Nat} {n:Nat} {P:Program} {j:String} {args:Array Value} {w:World} {R:Value→World→Prop} (h:Rows P j args w R):RowsIn (Iz ro) n P j args w R:=
 fun c cs _=>let⟨v,w',r,s⟩:=h c cs;⟨v,w',r,(stepsIn_wide (P:=P)).2 s⟩
def BR.aCC {P:Program} {o:Oper} {ns:List (Operand×Aa)} {es es':List Az} {x:Aa} (h:BR P o ns es x es') {C:EP} {ok:Nat→Prop} {H:List BN} {a:Act} {w:World} (hm:Ce C ok H es w) (u:∀n∈ns,R ok w H n.2 (a.eval n.1)):∀c,o.op≠ .defer c:=by
 intro c z;have j:=h C ok H a w (fun _ _ _=>False) hm u;unfold Oper.wp execOp at j;rw[z]at j;simp only[FD]at j;cases q:(resolve a.eval c o.type).run P w with
 |ok d w'=>
  rw[q]at j;simp only[Result.andThen]at j;obtain⟨v,_,_,I,_⟩:=j;have :=Ap (fun a=>a.defers.length) I;cases J:o.dst<;>simp[Act.put,J]at this
 |halt x w'=>
  rw[q]at j;cases x<;>exact j
def BR.inR {P:Program} {o:Oper} {ns:List (Operand×Aa)} {es es':List Az} {x:Aa} (h:BR P o ns es x es') (ro:Option Nat) (C:EP) (ok:Nat→Prop) (H:List BN) (a:Act) (w:World) (Q:Exit→Act→World→Prop)
 (hm:Ce C ok H es w) (q:∀n∈ns,R ok w H n.2 (a.eval n.1)):
 o.wpIn (Iz ro) 0 P a w (fun a' w'=>∃v ok' H',a'=a.put o.dst v∧EN ok w ok' w'∧Names H H'∧Ce C ok' H' es' w'∧R ok' w' H' x v) Q:=by
 have j:=h C ok H a w Q hm q;refine⟨fun _ _=>trivial,?_⟩;rw[iE _ _ _ (h.aCC hm q)];unfold Oper.wp at j;generalize(execOp a.eval o).run P w=r at j;cases r with
 |ok n w'=>
  cases n<;>first
   |exact j
   |exact j.elim
   |exact⟨fun h=>Ie,aBG.2 j⟩
   |exact⟨fun h=>Ie,aci j⟩
 |halt x w'=>cases x<;>exact j
inductive Chain (P:Program) (ops:Array Oper):List Oper→Ak→Ak→Prop
 |nil (σ:Ak):Chain P ops [] σ σ
 |op {o:Oper} {rest:List Oper} {σ σ':Ak} {ns:List (Operand×Aa)} {x:Aa} (d:Option Tmp) (h:BR P o ns σ.ents x σ.ents) (hn:needs σ ns) (hg:WS ops σ o.guard) (hd:o.dst=d)
  (k:Chain P ops rest (σ.rQ d x) σ'):Chain P ops (o::rest) σ σ'
 |oe {o:Oper} {rest:List Oper} {σ σ':Ak} {ns:List (Operand×Aa)} {x:Aa} {es':List Az} (d:Option Tmp) (E:List Az) (h:BR P o ns σ.ents x es') (he:es'=E) (hn:needs σ ns) (hg:WS ops σ o.guard) (hd:o.dst=d)
  (k:Chain P ops rest (σ.put d x E) σ'):Chain P ops (o::rest) σ σ'
 |skip {o:Oper} {rest:List Oper} {σ σ':Ak} (d:Option Tmp) (hg:YQ ops σ o.guard) (hd:o.dst=d) (k:Chain P ops rest (σ.rQ d (.d (.lit undef))) σ'):Chain P ops (o::rest) σ σ'
 |any {o:Oper} {rest:List Oper} {σ σ':Ak} {x:Aa} (d:Option Tmp) (h:Rh P ops σ x σ.ents false o) (hd:o.dst=d) (k:Chain P ops rest (σ.rQ d x) σ'):Chain P ops (o::rest) σ σ'
 |ahe {o:Oper} {rest:List Oper} {σ σ':Ak} {x:Aa} {E:List Az} {bar:Bool} (d:Option Tmp) (h:Rh P ops σ x E bar o) (hd:o.dst=d) (k:Chain P ops rest (σ.put d x E) σ'):Chain P ops (o::rest) σ σ'
 |conv {rest:List Oper} {σ σ':Ak} (σ2:Ak) (h:∀C ok H a w,Holds C ok H σ a w→∃ok',Holds C ok' H σ2 a w) (k:Chain P ops rest σ2 σ'):Chain P ops rest σ σ'
def Chain.sound {P:Program} {ops:Array Oper} {l:List Oper} {σ σ':Ak} (h:Chain P ops l σ σ') {ro:Option Nat} {C:EP} {H0:List BN} {Q:Exit→Act→World→Prop}:
 ∀{ok:Nat→Prop} {H:List BN} {a:Act} {w:World},Holds C ok H σ a w→Names H0 H→(∀ok' H' a' w',Holds C ok' H' σ' a' w'→Names H0 H'→Q .normal a' w')→wpListIn (Iz ro) 0 P ops Q l a w:=by
 induction h with
 |nil σ=>intro ok H a w j O z;exact z ok H a w j O
 | @op o rest σ σ' ns x d U O L hd k M=>
   intro ok H a w j q z;subst hd;unfold wpListIn;rw[CP (PS j L)];refine RJ ?_ (U.inR ro C ok H a w Q j.mem (fun n I=>RD O n I▸j.get n.1));rintro a' w' ⟨v,ok',H',rfl,J,u,hm,Y⟩;exact M (j.put o.dst J u hm Y) (q.trans u) z
 | @oe o rest σ σ' ns x es' d E U he O L hd k M=>
   intro ok H a w j q z;subst hd;subst he;unfold wpListIn;rw[CP (PS j L)];refine RJ ?_ (U.inR ro C ok H a w Q j.mem (fun n I=>RD O n I▸j.get n.1));rintro a' w' ⟨v,ok',H',rfl,J,u,hm,Y⟩;exact M (j.put o.dst J u hm Y) (q.trans u) z
 | @skip o rest σ σ' d L hd k M=>
   intro ok H a w j q z;subst hd;unfold wpListIn;rw[CU lX];exact⟨fun _ _=>trivial,M (j.put o.dst (.refl _ _) (.refl _) j.mem (.d _ _ (.lit _))) q z⟩
 | @any o rest σ σ' x d hs hd k M=>
   intro ok H a w j q z;subst hd;unfold wpListIn;rcases hs.1 with⟨ns,U,O,_,L⟩|⟨rfl,_,L⟩
   ·rw[CP (PS j L)];refine RJ ?_ (U.inR ro C ok H a w Q j.mem (fun n I=>RD O n I▸j.get n.1));rintro a' w' ⟨v,ok',H',rfl,J,u,hm,Y⟩;exact M (j.put o.dst J u hm Y) (q.trans u) z
   rw[CU lX];exact⟨fun _ _=>trivial,M (j.put o.dst (.refl _ _) (.refl _) j.mem (.d _ _ (.lit _))) q z⟩
 | @ahe o rest σ σ' x E bar d hs hd k M=>
   intro ok H a w j q z;subst hd;unfold wpListIn;rcases hs.1 with⟨ns,U,O,_,L⟩|⟨rfl,rfl,L⟩
   ·rw[CP (PS j L)];refine RJ ?_ (U.inR ro C ok H a w Q j.mem (fun n I=>RD O n I▸j.get n.1));rintro a' w' ⟨v,ok',H',rfl,J,u,hm,Y⟩;exact M (j.put o.dst J u hm Y) (q.trans u) z
   rw[CU lX];exact⟨fun _ _=>trivial,M (j.put o.dst (.refl _ _) (.refl _) j.mem (.d _ _ (.lit _))) q z⟩
 |conv σ2 hc k M=>
  intro ok H a w j q z;obtain⟨ok',Z⟩:=hc C ok H a w j;exact M Z q z
def Pv :Code→Bool
 | .seq a b=>Pv a&&Pv b
 | .cond _ a b=>Pv a&&Pv b
 | .block _ a=>Pv a
 | .loop a=>Pv a
 | .scope a=>Pv a
 | .rangeFunc .. =>false
 |_=>true
def yR (ro:Option Nat) (c:Code):Prop:=ro=none∨Pv c=true
def yR.two {ro:Option Nat} {c x y:Code} (h:yR ro c) (e:Pv c=(Pv x&&Pv y)):yR ro x∧yR ro y:=by
 rcases h with h|h
 ·exact⟨.inl h,.inl h⟩
 rw[e,CZ]at h;exact⟨.inr h.1,.inr h.2⟩
def aeu (P:Program) (c:Code) (σ:Ak) (Q:Exit→Ak→Prop):Prop:=
 ∀(ro:Option Nat),yR ro c→∀(C:EP) (ok:Nat→Prop) (H:List BN) (a:Act) (w:World),Holds C ok H σ a w→c.wpIn (Iz ro) 0 P (fun e a' w'=>∃ok' H' σ',Holds C ok' H' σ' a' w'∧Q e σ') a w
structure AV (P:Program) (c:Code) (σ:Ak) (Q:Exit→Ak→Prop):Prop where
 run:aeu P c σ Q
section
variable {P : Program} {σ σ' : Ak} {Q : Exit → Ak → Prop}
def AV.mono {c:Code} {Q':Exit→Ak→Prop} (h:AV P c σ Q) (j:∀e σ,Q e σ→Q' e σ):AV P c σ Q':=
 ⟨fun ro q C ok H a w u=>Ur (h.run ro q C ok H a w u) fun _ _ _ ⟨ok',H',σ',z,I⟩=>⟨ok',H',σ',z,j _ _ I⟩⟩
def AV.region {id:Nat} {ops:Array Oper} (h:Chain P ops ops.toList σ σ') (j:Q .normal σ'):AV P (.region id ops false) σ Q:=⟨fun ro _ C ok H a w q=>
 aPl (h.sound q (.refl H) fun ok' H' a' w' u _=>⟨ok',H',σ',u,j⟩)⟩
def AV.skip (h:Q .normal σ):AV P .skip σ Q:=⟨fun _ _ _ ok H a w j=>wpIn_skip ⟨ok,H,σ,j,h⟩⟩
def AV.label {l:Nat} (h:Q .normal σ):AV P (.label l) σ Q:=⟨fun _ _ _ ok H a w j=>wpIn_label ⟨ok,H,σ,j,h⟩⟩
def AV.exit {i:Nat} (h:Q (.exit i) σ):AV P (.exit i) σ Q:=⟨fun _ _ _ ok H a w j=>wpIn_exit ⟨ok,H,σ,j,h⟩⟩
def AV.ret (h:Q .ret σ):AV P .ret σ Q:=⟨fun _ _ _ ok H a w j=>wpIn_ret ⟨ok,H,σ,j,h⟩⟩
def Kw (K:Ak→Prop) (Q:Exit→Ak→Prop):Exit→Ak→Prop
 | .normal,σ=>K σ
 |e,σ=>Q e σ
def AV.seq {x y:Code} (K:Ak→Prop) (z:AV P x σ (Kw K Q)) (I:∀σ',K σ'→AV P y σ' Q):AV P (.seq x y) σ Q:=⟨fun ro j C ok H a w J=>
 wpIn_seq (Ur (z.run ro (j.two rfl).1 C ok H a w J) (by
  rintro e a' w' ⟨ok',H',σ',q,u⟩;cases e with
  |normal=>exact(I σ' u).run ro (j.two rfl).2 C ok' H' a' w' q
  |_=>exact⟨ok',H',σ',q,u⟩))⟩
def AV.seq1 {x y:Code} (j:Ak) (q:AV P x σ (Kw (fun σ'=>σ'=j) Q)) (u:AV P y j Q):AV P (.seq x y) σ Q:=AV.seq _ q (fun _ e=>e▸u)
def AV.cond {c:Operand} {x y:Code} (b:Bool) (u:σ.get c=.d (.lit (.bool b))) (ht:b=true→AV P x σ Q) (z:b=false→AV P y σ Q):AV P (.cond c x y) σ Q:=by
 refine⟨fun ro q C ok H a w j=>?_⟩;have e:=(u▸j.get c).bool;exact wpIn_cond_split e (fun h=>(ht h).run ro (q.two rfl).1 C ok H a w j) (fun h=>(z h).run ro (q.two rfl).2 C ok H a w j)
def aVX (i:Nat) (Q:Exit→Ak→Prop):Exit→Ak→Prop
 | .exit j,σ=>if j=i then Q .normal σ else Q (.exit j) σ
 |e,σ=>Q e σ
def AV.block {i:Nat} {c:Code} (h:AV P c σ (aVX i Q)):AV P (.block i c) σ Q:=⟨fun ro I C ok H a w J=>
 wpIn_block (Ur (h.run ro I C ok H a w J) (by
  rintro e a' w' ⟨ok',H',σ',u,q⟩;cases e with
  |exit j=>
   show if j=i then _ else _
   simp only[aVX]at q;split<;>rename_i z
   ·rw[CP z]at q;exact⟨ok',H',σ',u,q⟩
   rw[CU z]at q;exact⟨ok',H',σ',u,q⟩
  |_=>exact⟨ok',H',σ',u,q⟩))⟩
def akt {ro:Option Nat} {P:Program} {Q:Exit→Act→World→Prop} {c:Code} (I:Nat→Act→World→Prop)
 (round:∀n a w,I n a w→c.wpIn (Iz ro) 0 P (Exit.then (fun a' w'=>∃m,m<n∧I m a' w') Q) a w):∀n a w,I n a w→(Code.loop c).wpIn (Iz ro) 0 P Q a w:=by
 intro n a w Z b k cs J L M
 have key:∀n a w,I n a w→∃e a' w',Q e a' w'∧ArrivesIn (Machine.fenced P (Iz ro)) P (lone (b.atR a (.code c::.inLoop c::k)) cs w) b k cs e a' w':=by
  intro n
  induction n using Nat.strongRecOn with
  |_ n ih=>
   intro a w hI;obtain⟨e,u,z,j,harr⟩:=round n a w hI b (.inLoop c::k) cs J L M;cases e with
   |normal=>
    obtain⟨m,O,U⟩:=j;obtain⟨e₂,a₂,w₂,Y,q⟩:=ih m O u z U;exact⟨e₂,a₂,w₂,Y,.of_steps (StepsIn.trans harr (.one (fenced_calm L M rfl) stepR_inLoop)) q⟩
   |exit id=>exact⟨_,u,z,j,.pass (x:=.inLoop c) rfl (fun _ _=>.inl Aw) harr⟩
   |goto l=>exact⟨_,u,z,j,.pass (x:=.inLoop c) rfl (fun _ _=>.inl Aw) harr⟩
   |ret=>exact⟨_,u,z,j,.pass (x:=.inLoop c) rfl (fun _ _=>.inl Aw) harr⟩
   |panic ch=>exact⟨_,u,z,j,.pass (x:=.inLoop c) rfl (fun _ _=>.inl Aw) harr⟩
   |outgrown=>exact⟨_,u,z,j,.pass (x:=.inLoop c) rfl (fun _ _=>.inl Aw) harr⟩
 obtain⟨e,a',w',j,harr⟩:=key n a w Z;exact⟨e,a',w',j,.of_steps (.one (fenced_calm L M rfl) stepR_loop) harr⟩
def AV.loop {c:Code} (I:Nat→Ak→Prop) (n:Nat) (h:I n σ) (round:∀n σ,I n σ→AV P c σ (Kw (fun σ'=>∃m,m<n∧I m σ') Q)):AV P (.loop c) σ Q:=by
 refine⟨fun ro J C ok H a w j=>?_⟩;refine akt (fun n a w=>∃ok H σ,Holds C ok H σ a w∧I n σ) ?_ n a w ⟨ok,H,σ,j,h⟩;rintro n a w ⟨ok,H,σ,j,L⟩;refine Ur ((round n σ L).run ro J C ok H a w j) ?_;rintro e a' w' ⟨ok',H',σ',u,z⟩;cases e with
 |normal=>obtain⟨m,hm,q⟩:=z;exact⟨m,hm,ok',H',σ',u,q⟩
 |_=>exact⟨ok',H',σ',u,z⟩
end
def DR {P:Program} {σ S:Ak} {Q:Exit→Ak→Prop} {c:Code} (hs:CW σ S) (h:AV P c S Q):AV P c σ Q:=⟨fun ro j C ok H a w q=>by
 obtain⟨ok',H',h'⟩:=hs C ok H a w q
 exact h.run ro j C ok' H' a w h'⟩
section
variable {P : Program} {ops : Array Oper} {Q : Exit → Act → World → Prop}
def aNo {F:Fence} {n:Nat} (I:Array Bool→Act→World→Prop) (j:∀l a w,I l a w→l.size=ops.size)
 (z:∀l a w,I l a w→∀i,i∈Region.ready .any ops l→wpOpIn F n P ops Q i (fun a' w'=>I (l.setIfInBounds i true) a' w') a w)
 (u:∀l a w,I l a w→Region.ready .any ops l=[]→Q .normal a w):
 ∀(Aj:Nat) l a w,toCome l≤Aj→I l a w→wpAnyIn F n P .any ops Q Aj l a w:=by
 intro Aj
 induction Aj with
 |zero=>
  intro l a w O L
  have U:Region.ready .any ops l=[]:=by
   unfold Region.ready;rw[uU];intro i hi;have J:i<l.size:=by rw[j l a w L];simpa using hi
   have Y:l.toList.filter (!·)=[]:=Gh (by unfold toCome at O;omega);rw[uU]at Y;have :=Y (l[i]) Aw;have M:l[i]=true:=aKP
   simp[Array.getD,J,M]
  exact⟨U,u l a w L U⟩
 |succ Aj Z=>
  intro l a w O L;refine⟨u l a w L,fun i hi=>?_⟩;have q:=hi;unfold Region.ready at q;rw[FN]at q;have J:i<l.size:=by rw[j l a w L];simpa using q.1
  have hf:l.getD i true=false:=by
   have :=q.2;simp only[CZ,Ls]at this;exact this.1
  have hs:=toCome_set J hf;exact wpOpIn_mono (fun a' w' h=>Z _ a' w' AA h) (z l a w L i hi)
end
def IC (o:Oper) (j:Nat):Bool:=o.after.toList.any fun e=>decide (e.on=j)&&Region.binds .any e
def Vs (ops:Array Oper):Bool:=(List.range ops.size).all fun i=>match ops[i]? with
 |some o=>((List.range ops.size).all fun j=>match(ops[j]?).bind (·.dst)with
  |some d=> !(tmpsOf o).contains d||IC o j||(match ops[j]? with |some q=>IC q i|none=>false)
  |none=>true)&&(match o.guard with |some (j,_)=>IC o j|none=>true)
 |none=>true
inductive Et (P:Program) (ops:Array Oper):List Oper→Ak→List Aa→List (List Az)→List Bool→Ak→Prop
 |nil (σ:Ak):Et P ops [] σ [] [] [] σ
 |op {o:Oper} {rest:List Oper} {σ σ':Ak} {ns:List (Operand×Aa)} {x:Aa} {rs:List Aa} {ess:List (List Az)} {bs:List Bool} (d:Option Tmp) (h:BR P o ns σ.ents x σ.ents) (hn:needs σ ns)
  (hg:WS ops σ o.guard) (hd:o.dst=d) (ht:(NM ns).all (tmpsOf o).contains=true) (k:Et P ops rest (σ.rQ d x) rs ess bs σ'):Et P ops (o::rest) σ (x::rs) (σ.ents::ess) (false::bs) σ'
 |oe {o:Oper} {rest:List Oper} {σ σ':Ak} {ns:List (Operand×Aa)} {x:Aa} {es':List Az} {rs:List Aa} {ess:List (List Az)} {bs:List Bool} (d:Option Tmp) (E:List Az) (h:BR P o ns σ.ents x es') (he:es'=E) (hn:needs σ ns)
  (hg:WS ops σ o.guard) (hd:o.dst=d) (ht:(NM ns).all (tmpsOf o).contains=true) (k:Et P ops rest (σ.put d x E) rs ess bs σ'):Et P ops (o::rest) σ (x::rs) (E::ess) (true::bs) σ'
 |any {o:Oper} {rest:List Oper} {σ σ':Ak} {x:Aa} {rs:List Aa} {ess:List (List Az)} {bs:List Bool} (d:Option Tmp) (h:Rh P ops σ x σ.ents false o) (hd:o.dst=d) (k:Et P ops rest (σ.rQ d x) rs ess bs σ'):Et P ops (o::rest) σ (x::rs) (σ.ents::ess) (false::bs) σ'
 |ahe {o:Oper} {rest:List Oper} {σ σ':Ak} {x:Aa} {E:List Az} {bar:Bool} {rs:List Aa} {ess:List (List Az)} {bs:List Bool} (d:Option Tmp) (h:Rh P ops σ x E bar o) (hd:o.dst=d) (k:Et P ops rest (σ.put d x E) rs ess bs σ'):Et P ops (o::rest) σ (x::rs) (E::ess) (bar::bs) σ'
 |skip {o:Oper} {rest:List Oper} {σ σ':Ak} {rs:List Aa} {ess:List (List Az)} {bs:List Bool} (d:Option Tmp) (hg:YQ ops σ o.guard) (hd:o.dst=d) (k:Et P ops rest (σ.rQ d (.d (.lit undef))) rs ess bs σ'):Et P ops (o::rest) σ (.d (.lit undef)::rs) (σ.ents::ess) (false::bs) σ'
section
variable {P : Program} {ops : Array Oper} {es : List Az}
def FX (ops:Array Oper) (σ0:Ak) (r:Nat→Aa) (ev:Nat→List Az):Nat→Ak
 |0=>σ0
 |i+1=>match ops[i]? with
  |some o=>(FX ops σ0 r ev i).put o.dst (r i) (ev i)
  |none=>FX ops σ0 r ev i
def Et.ayr (N:Nat) {l:List Oper} {σ σ':Ak} {rs:List Aa} {ess:List (List Az)} {bs:List Bool} (h:Et P ops l σ rs ess bs σ') (σ0:Ak) (r:Nat→Aa) (ev:Nat→List Az) (bar:Nat→Bool):∀i,(∀k:Nat,k<l.length→l[k]? =ops[i+k]?)→i+l.length=N→σ=FX ops σ0 r ev i→
 (∀(k:Nat) y,rs[k]? =some y→r (i+k)=y)→(∀(k:Nat) y,ess[k]? =some y→ev (i+k)=y)→(∀(k:Nat) y,bs[k]? =some y→bar (i+k)=y)→
 (∀j (o:Oper),i≤j→j<N→ops[j]? =some o→Rh P ops (FX ops σ0 r ev j) (r j) (ev j) (bar j) o)∧σ'=FX ops σ0 r ev N:=by
 induction h with
 |nil σ=>
  intro i hl J I M _ _;have :i=N:=SL
  subst this;exact⟨fun j o Z L ho=>AA,I⟩
 | @op o rest σ σ' ns x rs ess bs d ho hn hg hd ht k ih=>
   intro i hl J I M O hb;subst hd;have U:ops[i]? =some o:=yQ
   have Y:r i=x:=aAb
   have u:ev i=σ.ents:=aPQ
   obtain⟨h1,h2⟩:=ih (i+1) (fun k hk=>pq) jr (by
    rw[Ak.aok];simp only[FX,U,Y,u];rw[←I]) (fun k y z=>yG)
    (fun k y z=>wH) (fun k y z=>tX)
   refine⟨fun j o' Z L q=>?_,h2⟩;by_cases e:i=j
   ·subst e;rw[U]at q;obtain rfl:=CS q;exact⟨.inl ⟨ns,by rw[Y,u,←I];exact ho,I▸hn,ht,I▸hg⟩,fun _=>by rw[u,←I]⟩
   exact h1 j o' AA L q
 | @oe o rest σ σ' ns x es' rs ess bs d E ho hE hn hg hd ht k ih=>
   intro i hl J I M O hb;subst hd;subst hE;have U:ops[i]? =some o:=yQ
   have Y:r i=x:=aAb
   have u:ev i=es':=by simpa using O 0 es' Aw
   have hbr:bar i=true:=by simpa using hb 0 true Aw
   obtain⟨h1,h2⟩:=ih (i+1) (fun k hk=>pq) jr (by
    simp only[FX,U,Y,u];rw[←I]) (fun k y z=>yG)
    (fun k y z=>wH) (fun k y z=>tX)
   refine⟨fun j o' Z L q=>?_,h2⟩;by_cases e:i=j
   ·subst e;rw[U]at q;obtain rfl:=CS q;exact⟨.inl ⟨ns,by rw[Y,u,←I];exact ho,I▸hn,ht,I▸hg⟩,fun hf=>by rw[hbr]at hf;cases hf⟩
   exact h1 j o' AA L q
 | @any o rest σ σ' x rs ess bs d hs hd k ih=>
   intro i hl J I M O hb;subst hd;have U:ops[i]? =some o:=yQ
   have Y:r i=x:=aAb
   have u:ev i=σ.ents:=aPQ
   obtain⟨h1,h2⟩:=ih (i+1) (fun k hk=>pq) jr (by
    rw[Ak.aok];simp only[FX,U,Y,u];rw[←I]) (fun k y z=>yG)
    (fun k y z=>wH) (fun k y z=>tX)
   refine⟨fun j o' Z L q=>?_,h2⟩;by_cases e:i=j
   ·subst e;rw[U]at q;obtain rfl:=CS q;refine⟨?_,fun _=>by rw[u,←I]⟩;rw[Y,u,←I];exact hs.1
   exact h1 j o' AA L q
 | @ahe o rest σ σ' x E br rs ess bs d hs hd k ih=>
   intro i hl J I M O hb;subst hd;have U:ops[i]? =some o:=yQ
   have Y:r i=x:=aAb
   have u:ev i=E:=by simpa using O 0 E Aw
   have hbr:bar i=br:=by simpa using hb 0 br Aw
   obtain⟨h1,h2⟩:=ih (i+1) (fun k hk=>pq) jr (by
    simp only[FX,U,Y,u];rw[←I]) (fun k y z=>yG)
    (fun k y z=>wH) (fun k y z=>tX)
   refine⟨fun j o' Z L q=>?_,h2⟩;by_cases e:i=j
   ·subst e;rw[U]at q;obtain rfl:=CS q;rw[Y,u,hbr,←I];exact hs
   exact h1 j o' AA L q
 | @skip o rest σ σ' rs ess bs d hg hd k ih=>
   intro i hl J I M O hb;subst hd;have U:ops[i]? =some o:=yQ
   have Y:r i=.d (.lit undef):=by simpa using M 0 (.d (.lit undef)) Aw
   have u:ev i=σ.ents:=aPQ
   obtain⟨h1,h2⟩:=ih (i+1) (fun k hk=>pq) jr (by
    rw[Ak.aok];simp only[FX,U,Y,u];rw[←I]) (fun k y z=>yG)
    (fun k y z=>wH) (fun k y z=>tX)
   refine⟨fun j o' Z L q=>?_,h2⟩;by_cases e:i=j
   ·subst e;rw[U]at q;obtain rfl:=CS q;exact⟨.inr ⟨Y,by rw[u,←I],I▸hg⟩,fun _=>by rw[u,←I]⟩
   exact h1 j o' AA L q
def Et.facts {l:List Oper} {σ σ':Ak} {rs:List Aa} {ess:List (List Az)} {bs:List Bool} (h:Et P ops l σ rs ess bs σ') (σ0:Ak) (r:Nat→Aa) (ev:Nat→List Az) (bar:Nat→Bool):∀i,(∀k:Nat,l[k]? =ops[i+k]?)→i+l.length=ops.size→σ=FX ops σ0 r ev i→
 (∀(k:Nat) y,rs[k]? =some y→r (i+k)=y)→(∀(k:Nat) y,ess[k]? =some y→ev (i+k)=y)→(∀(k:Nat) y,bs[k]? =some y→bar (i+k)=y)→
 (∀j (o:Oper),i≤j→ops[j]? =some o→Rh P ops (FX ops σ0 r ev j) (r j) (ev j) (bar j) o)∧σ'=FX ops σ0 r ev ops.size:=by
 intro i hl q I J L M;obtain⟨O,U⟩:=h.ayr ops.size σ0 r ev bar i (fun k _=>hl k) q I J L M;exact⟨fun j o u z=>O j o u (GX.1 z).1 z,U⟩
def XK {σ0:Ak} {r:Nat→Aa} {ev:Nat→List Az} {t:Nat}:∀i,(∀j (o:Oper),j<i→ops[j]? =some o→o.dst≠some t)→(FX ops σ0 r ev i).slots.getD t .junk=σ0.slots.getD t .junk
 |0,_=>rfl
 |i+1,h=>by
  have q:=XK (σ0:=σ0) (r:=r) (ev:=ev) i (fun j o J u=>h j o AA u);simp only[FX];split
  ·rename_i o u;have z:=h i o AA u;cases hd:o.dst with
   |none=>exact q
   |some d=>
    have I:d≠t:=fun e=>z (by rw[hd,e]);show((FX ops σ0 r ev i).slots.set d (r i)).getD t .junk=_;rw[←q];simp[List.getD,YO I]
  exact q
def Xx {σ0:Ak} {r:Nat→Aa} {ev:Nat→List Az}:∀i,(FX ops σ0 r ev i).slots.length=σ0.slots.length
 |0=>rfl
 |i+1=>by
  simp only[FX];split
  ·rename_i o j;cases hd:o.dst with
   |none=>exact Xx i
   |some d=>show((FX ops σ0 r ev i).slots.set d (r i)).length=_;rw[Zi];exact Xx i
  exact Xx i
def qA {σ0:Ak} {r:Nat→Aa} {ev:Nat→List Az}:∀i,(FX ops σ0 r ev i).base=σ0.base
 |0=>rfl
 |i+1=>by
  simp only[FX];split
  ·exact qA i
  exact qA i
def bn {σ0:Ak} {r:Nat→Aa} {ev:Nat→List Az} (q:∀(i j:Nat) (o u:Oper) (d:Tmp),ops[i]? =some o→ops[j]? =some u→o.dst=some d→u.dst=some d→i=j) {t j:Nat} {o:Oper} (z:ops[j]? =some o) (hd:o.dst=some t) (ht:t<σ0.slots.length):
 ∀i,j<i→(FX ops σ0 r ev i).slots.getD t .junk=r j
 |0,h=>AA
 |i+1,h=>by
  by_cases e:j=i
  ·subst e;simp only[FX,z,hd];have hl:t<(FX ops σ0 r ev j).slots.length:=by rw[Xx];exact ht
   show((FX ops σ0 r ev j).slots.set t (r j)).getD t .junk=_;simp[List.getD,hl]
  have I:=bn (r:=r) (ev:=ev) q z hd ht i AA;simp only[FX];split
  ·rename_i u J;cases L:u.dst with
   |none=>exact I
   |some d=>
    have M:d≠t:=fun e'=>e (q j i o u t z J hd (by rw[L,e']));show((FX ops σ0 r ev i).slots.set d (r i)).getD t .junk=_;rw[←I];simp[List.getD,YO M]
  exact I
def aap (h:Vs ops=true):∀(i:Nat) (o:Oper),ops[i]? =some o→(∀(j:Nat) (z:Oper) (d:Tmp),ops[j]? =some z→z.dst=some d→d∈tmpsOf o→IC o j=true∨IC z i=true)∧(∀j b,o.guard=some (j,b)→IC o j=true):=by
 intro i o J;unfold Vs at h;rw[Di]at h;have hi:i<ops.size:=(GX.1 J).1;have I:=h i G6;rw[J]at I;simp only[CZ,Di]at I;refine⟨fun j z d u hd hm=>?_,fun j b L=>?_⟩
 ·have M:j<ops.size:=(GX.1 u).1;have q:=I.1 j (by simpa using M);rw[u]at q;simp only[AP,hd,Vb,Ls]at q;rcases q with(q|q)|q
  ·have :(tmpsOf o).contains d=true:=by simpa using hm
   rw[this]at q;cases q
  ·exact .inl q
  exact .inr q
 have q:=I.2;rw[L]at q;exact q
def UY (ops:Array Oper) (bs:List Bool):Bool:=(List.range ops.size).all fun i=> !(bs.getD i false)||
 (((List.range i).all fun j=>(List.range (i+1)).any fun m=>decide (j<m)&&(match ops[m]? with |some o=>IC o j|none=>false))&&
  ((List.range ops.size).all fun k=> !decide (i<k)||(List.range k).any fun m=>decide (i≤m)&&(match ops[k]? with |some o=>IC o m|none=>false)))
def nH {bs:List Bool} (h:UY ops bs=true) {i:Nat} (hi:i<ops.size) (O:bs.getD i false=true) {D:Nat→Prop} (hd:∀(j:Nat) (o:Oper),ops[j]? =some o→D j→∀m,IC o m=true→D m)
 (U:∀(o:Oper),ops[i]? =some o→∀m,IC o m=true→D m):∀j,j<i→D j:=by
 unfold UY at h;rw[Di]at h;have I:=h i G6;simp only[O,EW,NH,CZ,Di]at I
 have key:∀n j,i-j≤n→j<i→D j:=by
  intro n
  induction n with
  |zero=>intro j Y J;omega
  |succ n Z=>
   intro j Y J;have L:=I.1 j SL;rw[Gl]at L;obtain⟨m,hm,M⟩:=L;simp only[o8]at hm;simp only[CZ,GN]at M;obtain⟨h6,q⟩:=M;have u:m<ops.size:=AA
   have z:ops[m]? =some ops[m]:=by simp[u]
   rw[z]at q;by_cases e:m=i
   ·subst e;exact U _ z j q
   exact hd m _ z (Z m AA AA) j q
 exact fun j hj=>key (i-j) j (Dn _) hj
def aSt {bs:List Bool} (h:UY ops bs=true) {i:Nat} (hi:i<ops.size) (Y:bs.getD i false=true) {D:Nat→Prop} (hd:∀(j:Nat) (o:Oper),ops[j]? =some o→D j→∀m,IC o m=true→D m):
 ∀k,i<k→∀(o:Oper),ops[k]? =some o→(∀m,IC o m=true→D m)→D i:=by
 unfold UY at h;rw[Di]at h;have L:=h i G6;simp only[Y,EW,NH,CZ,Di]at L;intro k
 induction k using Nat.strongRecOn with
 |_ k Z=>
  intro I o M q;have hk:k<ops.size:=(GX.1 M).1;have O:=L.2 k aQg;simp only[I,decide_true,EW,NH,Gl]at O;obtain⟨m,hm,U⟩:=O;simp only[o8]at hm;simp only[CZ,GN,M]at U;obtain⟨h6,h7⟩:=U;have u:=q m h7;by_cases e:m=i
  ·subst e;exact u
  have J:m<ops.size:=AA
  have z:ops[m]? =some ops[m]:=by simp[J]
  exact Z m hm AA _ z (hd m _ z u)
def VP (ops:Array Oper):Bool:=(List.range ops.size).all fun i=>match ops[i]? with
 |some o=>o.after.toList.all fun(e:Edge)=> !Region.binds .any e||decide (e.on<i)
 |none=>true
def aVk (h:VP ops=true):∀(i:Nat) (o:Oper),ops[i]? =some o→∀e∈o.after.toList,Region.binds .any e=true→e.on<i:=by
 intro i o j e q u;unfold VP at h;rw[Di]at h;have hi:i<ops.size:=(GX.1 j).1;have :=h i G6;rw[j]at this;rw[Di]at this;have :=this e q;simpa[u]using this
def Tm (ops:Array Oper) (bs:List Bool) (sl:List Nat):Bool:=(List.range ops.size).all fun i=> !(bs.getD i false)||(!sl.contains i&&
 ((List.range i).all fun j=>sl.contains j||(List.range (i+1)).any fun m=>(decide (j<m)&& !sl.contains m)&&(match ops[m]? with |some o=>IC o j|none=>false))&&
  ((List.range ops.size).all fun k=> !decide (i<k)||(List.range k).any fun m=>decide (i≤m)&&(match ops[k]? with |some o=>IC o m|none=>false)))
def aHK {bs:List Bool} {sl:List Nat} (h:Tm ops bs sl=true) {i:Nat} (hi:i<ops.size) (Y:bs.getD i false=true) {D:Nat→Prop} (hd:∀(j:Nat) (o:Oper),ops[j]? =some o→D j→∀m,IC o m=true→D m)
 (Z:∀(o:Oper),ops[i]? =some o→∀m,IC o m=true→D m):∀j,j<i→sl.contains j=false→D j:=by
 unfold Tm at h;rw[Di]at h;have L:=h i G6;simp only[Y,EW,NH,CZ,Di]at L
 have key:∀n j,i-j≤n→j<i→sl.contains j=false→D j:=by
  intro n
  induction n with
  |zero=>intro j h2 M _;omega
  |succ n ih=>
   intro j h2 M q;have O:=L.1.2 j (by simpa using M);rw[q,NH,Gl]at O;obtain⟨m,hm,U⟩:=O;simp only[o8]at hm;simp only[CZ,GN,Ls]at U;obtain⟨⟨h6,u⟩,z⟩:=U;have I:m<ops.size:=AA
   have J:ops[m]? =some ops[m]:=by simp[I]
   rw[J]at z;by_cases e:m=i
   ·subst e;exact Z _ J j z
   exact hd m _ J (ih m AA AA u) j z
 exact fun j hj hs=>key (i-j) j (Dn _) hj hs
def abj {bs:List Bool} {sl:List Nat} (h:Tm ops bs sl=true) {i:Nat} (hi:i<ops.size) (Y:bs.getD i false=true) {D:Nat→Prop} (hd:∀(j:Nat) (o:Oper),ops[j]? =some o→D j→∀m,IC o m=true→D m):
 ∀k,i<k→∀(o:Oper),ops[k]? =some o→(∀m,IC o m=true→D m)→D i:=by
 unfold Tm at h;rw[Di]at h;have L:=h i G6;simp only[Y,EW,NH,CZ,Di]at L;intro k
 induction k using Nat.strongRecOn with
 |_ k Z=>
  intro I o M q;have hk:k<ops.size:=(GX.1 M).1;have O:=L.2 k aQg;simp only[I,decide_true,EW,NH,Gl]at O;obtain⟨m,hm,U⟩:=O;simp only[o8]at hm;simp only[CZ,GN,M]at U;obtain⟨h6,h7⟩:=U;have u:=q m h7;by_cases e:m=i
  ·subst e;exact u
  have J:m<ops.size:=AA
  have z:ops[m]? =some ops[m]:=by simp[J]
  exact Z m hm AA _ z (hd m _ z u)
def aQd {bs:List Bool} {sl:List Nat} (h:Tm ops bs sl=true) {i:Nat} (hi:i<ops.size) (q:bs.getD i false=true):sl.contains i=false:=by
 unfold Tm at h;rw[Di]at h;have j:=h i G6;simp only[q,EW,NH,CZ,Ls]at j;exact j.1.1
def AV.awN {id:Nat} {σ σ':Ak} {Q:Exit→Ak→Prop} {rs:List Aa} {ess:List (List Az)} {bs:List Bool} (hm:P.follows .mixedOrders=true) (M:(VP ops&&WI ops&&WZ ops σ.slots.length&&Vs ops)=true) (sl:List Nat) (O:Tm ops bs sl=true)
 (h:Et P ops ops.toList σ rs ess bs σ')
 (hsl:∀i,i∈sl→bs.getD i false=false∧∀m,i≤m→m≤ops.size→∀o,ops[i]? =some o→Rh P ops ⟨(FX ops σ (fun i=>rs.getD i .junk) (fun i=>ess.getD i []) i).slots,(FX ops σ (fun i=>rs.getD i .junk) (fun i=>ess.getD i []) m).ents,σ.base⟩ (rs.getD i .junk) (FX ops σ (fun i=>rs.getD i .junk) (fun i=>ess.getD i []) m).ents false o) (hQ:Q .normal σ'):AV P (.region id ops true) σ Q:=by
 refine⟨fun ro _ C ok H a w hh=>?_⟩;simp only[CZ]at M;obtain⟨⟨⟨he,hd⟩,hs⟩,hc⟩:=M;have aeS:=aVk he;have hinj:=aTr hd;have M:=aap hc
 have XH:∀(i:Nat) (o:Oper) (d:Tmp),ops[i]? =some o→o.dst=some d→d<σ.slots.length:=by
  intro i o d h1 h2;unfold WZ at hs;rw[Di]at hs;simpa using hs d (aX6 h1 h2)
 let r:Nat→Aa:=fun i=>rs.getD i .junk
 let ev:Nat→List Az:=fun i=>ess.getD i []
 let bar:Nat→Bool:=fun i=>bs.getD i false
 obtain⟨YI,hend⟩:=h.facts σ r ev bar 0 (fun k=>Aw) Aw rfl (fun k y hy=>by simp[r,List.getD,hy]) (fun k y hy=>by simp[ev,List.getD,hy]) (fun k y hy=>by simp[bar,List.getD,hy])
 let U:Nat→Ak:=FX ops σ r ev
 have hU:∀i,i<ops.size→(U (i+1)).ents=ev i:=by
  intro i hi;have L:ops[i]? =some ops[i]:=Tt
  show(FX ops σ r ev (i+1)).ents=_;simp only[FX,L];rfl
 have hconst:∀n lo,(∀b,lo≤b→b<lo+n→bar b=false)→lo+n≤ops.size→(U (lo+n)).ents=(U lo).ents:=by
  intro n
  induction n with
  |zero=>intro lo _ _;rfl
  |succ n ih=>
   intro lo z hle;have h1:=ih lo (fun b h1 h2=>z b h1 AA) AA;have hi:lo+n<ops.size:=AA
   have L:ops[lo+n]? =some ops[lo+n]:=Tt
   have h2:=(YI (lo+n) _ AA L).2 (z (lo+n) AA AA);rw[←Rz,hU _ hi,h2];exact h1
 have Y:∀lo hi,lo≤hi→hi≤ops.size→(∀b,lo≤b→b<hi→bar b=false)→(U hi).ents=(U lo).ents:=by
  intro lo hi h1 h2 h3;obtain⟨n,rfl⟩:=Nat.exists_eq_add_of_le h1;exact hconst n lo h3 h2
 refine wpIn_region_any hm ?_
 let I:Array Bool→Act→World→Prop:=fun l a w=>l.size=ops.size∧∃ok H m,m≤ops.size∧(∀b,bar b=true→b<ops.size→(l.getD b false=true↔b<m))∧Ce C ok H (U m).ents w∧a.tmps.size=σ.slots.length∧Marks C ok w a.defers∧
  (∀t,t<σ.slots.length→(∀(j:Nat) (o:Oper),ops[j]? =some o→o.dst=some t→l.getD j false=false)→R ok w H (σ.slots.getD t .junk) (a.tmps.getD t undef))∧
  (∀(i:Nat) (o:Oper) (d:Tmp),ops[i]? =some o→o.dst=some d→l.getD i false=true→R ok w H (r i) (a.tmps.getD d undef))∧
  (∀(j:Nat) (o:Oper),ops[j]? =some o→l.getD j false=true→∀i,IC o i=true→l.getD i false=true)
 refine aNo I (fun l a w h=>h.1) ?_ ?_ ops.size _ _ _ ?_ ?_
 ·rintro l a w ⟨h1,ok,H,m,ab8,J,hmem0,hsz,hdf,h5,h6,h7⟩ i hi;unfold Region.ready at hi;rw[FN]at hi;obtain⟨hi1,hi2⟩:=hi;have hi':i<ops.size:=by simpa using hi1
  have L:ops[i]? =some ops[i]:=by simp[hi']
  simp only[CZ]at hi2;have aeT:=hi2.2;rw[L]at aeT;simp only[IV,MF]at aeT;have arQ:=fun e he=>(Sr.1 aeT) e he
  have Z:∀j,IC ops[i] j=true→l.getD j false=true∧j<i:=by
   intro j u;unfold IC at u;rw[Gl]at u;obtain⟨e,hee,u⟩:=u;simp only[CZ,GN]at u;have :=arQ e (by simpa using hee);simp only[u.2,EW,NH]at this;rw[u.1]at this;exact⟨this,u.1▸aeS i _ L e hee u.2⟩
  have hself:l.getD i false=false:=by
   have h8:=hi2.1;have hil:i<l.size:=AA
   simp[Array.getD,hil]at h8 ⊢;exact h8
  have aol:∀(j:Nat) (o:Oper),ops[j]? =some o→l.getD j false=true→∀m,IC o m=true→l.getD m false=true:=fun j o u hl m hm=>h7 j o u hl m hm
  have hEi:(i≤m→sl.contains i=false)→(U i).ents=(U m).ents:=fun hns=>by
   by_cases him:i≤m
   ·refine(Y i m him ab8 (fun b h2 h3=>?_)).symm;rw[←Ol];intro z;have hbl:=(J b z AA).2 h3;by_cases e:b=i
    ·subst e;rw[hself]at hbl;cases hbl
    have :=aHK O (show b<ops.size by omega) z (D:=fun j=>l.getD j false=true) aol (fun o L m hm=>aol b o L hbl m hm) i AA (hns him);rw[hself]at this;cases this
   refine Y m i AA AA (fun b h2 h3=>?_);rw[←Ol];intro z;have :=abj O (show b<ops.size by omega) z (D:=fun j=>l.getD j false=true) aol i h3 _ L (fun m hm=>(Z m hm).1);exact absurd ((J b z AA).1 this) AA
  obtain⟨E0,E1,hmem,hfact,hE1,hE2⟩:∃E0 E1,Ce C ok H E0 w∧Rh P ops ⟨(U i).slots,E0,σ.base⟩ (r i) E1 (bar i) ops[i]∧(bar i=false→E1=(U m).ents)∧(bar i=true→E1=ev i):=by
   by_cases hs:i≤m∧i∈sl
   ·have h9:=hsl i hs.2;refine⟨(U m).ents,(U m).ents,hmem0,?_,fun _=>rfl,fun z=>?_⟩
    ·rw[show bar i=false from h9.1];exact h9.2 m hs.1 ab8 _ L
    rw[show bar i=false from h9.1]at z;cases z
   have hE:=hEi (fun him=>by
    rw[←Ol]
    intro hc;exact hs ⟨him,aEE⟩)
   refine⟨(U i).ents,ev i,by rw[hE];exact hmem0,?_,fun z=>?_,fun _=>rfl⟩
   ·have hf:=YI i ops[i] AA L;have hbase:(U i).base=σ.base:=qA i;have :U i=⟨(U i).slots,(U i).ents,σ.base⟩:=by rw[←hbase]
    exact this▸hf
   rw[(YI i _ AA L).2 z];exact hE
  have hread:∀t,t∈tmpsOf ops[i]→R ok w H ((FX ops σ r ev i).slots.getD t .junk) (a.tmps.getD t undef):=by
   intro t ht;by_cases hw:∃(j:Nat) (o:Oper),ops[j]? =some o∧o.dst=some t
   ·obtain⟨j,o,u,q⟩:=hw;rcases(M i _ L).1 j o t u q ht with hce|hce
    ·obtain⟨hdj,hji⟩:=Z j hce;rw[bn hinj u q (XH j o t u q) i hji];exact h6 j o t u q hdj
    have hij:i<j:=by
     unfold IC at hce;rw[Gl]at hce;obtain⟨e,hee,hce⟩:=hce;simp only[CZ,GN]at hce;exact hce.1▸aeS j _ u e hee hce.2
    rw[XK i (fun j' o' hj' ho' hd'=>aKT)];refine h5 t (XH j o t u q) (fun j' o' ho' hd'=>?_);have hjj:=hinj j j' o o' t u ho' q hd';subst hjj;rw[←Ol];intro hd;rw[h7 j o u hd i hce]at hself;cases hself
   have hw':∀(j:Nat) (o:Oper),ops[j]? =some o→o.dst≠some t:=fun j o h1 h2=>hw ⟨j,o,h1,h2⟩;rw[XK i (fun j o _ u=>hw' j o u)];by_cases htn:t<σ.slots.length
   ·exact h5 t htn (fun j o u q=>absurd q (hw' j o u))
   rw[uG htn];exact .junk _
  have ahf:∀j d v,IC ops[i] j=true→(ops[j]?).bind (·.dst)=some d→(FX ops σ r ev i).slots.getD d .junk=.d (.lit v)→yielded ops a.tmps j=(match v with | .bool b=>some b|_=>none):=by
   intro j d v u q z;cases hoj:ops[j]? with
   |none=>rw[hoj]at q;simp at q
   |some oj=>
    rw[hoj]at q;simp only[AP]at q;obtain⟨hdj,hji⟩:=Z j u;have hdn:=XH j oj d hoj q;rw[bn hinj hoj q hdn i hji]at z;have hv:=(z▸h6 j oj d hoj q hdj).bool
    have hs:a.tmps[d]? =some v:=by
     have :d<a.tmps.size:=by rw[hsz];exact hdn
     simp[Array.getD,this]at hv;simp[this,hv]
    unfold yielded;rw[hoj];simp only[AP,q,hs];cases v<;>rfl
  have hput:∀(x:Aa) (v:Value) (ok':Nat→Prop) (H':List BN) (w':World),x=r i→EN ok w ok' w'→Names H H'→Ce C ok' H' E1 w'→R ok' w' H' x v→I (l.setIfInBounds i true) (a.put ops[i].dst v) w':=by
   intro x v ok' H' w' hx hgr hnm hmem' hR;subst hx
   have hother:∀(d t:Nat),ops[i].dst=some d→d≠t→(a.put ops[i].dst v).tmps.getD t undef=a.tmps.getD t undef:=by
    intro d t hd hne;rw[hd];exact aQK hne
   obtain⟨m',awO,aom,awP⟩:∃m',m'≤ops.size∧(∀b,bar b=true→b<ops.size→((l.setIfInBounds i true).getD b false=true↔b<m'))∧Ce C ok' H' (U m').ents w':=by
    have hget:∀b,b≠i→(l.setIfInBounds i true).getD b false=l.getD b false:=fun b z=>by
     simp only[Ib,OZ (aj z)]
    have awQ:(l.setIfInBounds i true).getD i false=true:=by simp[Array.getD,h1,hi']
    cases hbi:bar i with
    |false=>
     refine⟨m,ab8,fun b z hbs=>?_,?_⟩
     ·have hne:b≠i:=fun e=>by subst e;rw[hbi]at z;cases z
      rw[hget b hne];exact J b z hbs
     rw[←hE1 hbi];exact hmem'
    |true=>
     refine⟨i+1,AA,fun b z hbs=>?_,by rw[hU i hi',←hE2 hbi];exact hmem'⟩;by_cases e:b=i
     ·subst e;rw[awQ];simp
     rw[hget b e];constructor
     ·intro hbl;apply Yv;intro hn;have :=aHK O hbs z (D:=fun j=>l.getD j false=true) aol (fun o L m hm=>aol b o L hbl m hm) i AA (aQd O hi' hbi);rw[hself]at this;cases this
     intro hlt;exact aHK O hi' hbi (D:=fun j=>l.getD j false=true) aol (fun o ho' m hm=>by rw[L]at ho';obtain rfl:=CS ho';exact(Z m hm).1) b AA (aQd O hbs z)
   refine⟨by simp[h1],ok',H',m',awO,aom,awP,by rw[size_put];exact hsz,by rw[aTG];exact hdf.mono hgr,?_,?_,?_⟩
   ·intro t ht hno
    have hne:ops[i].dst≠some t:=by
     intro e;have :=hno i _ L e;simp[Array.getD,h1,hi']at this
    have hold:(a.put ops[i].dst v).tmps.getD t undef=a.tmps.getD t undef:=by
     cases hdi:ops[i].dst with
     |none=>rfl
     |some d=>exact hdi▸hother d t hdi (fun e=>hne (by rw[hdi,e]))
    rw[hold];refine(h5 t ht (fun j o u q=>?_)).mono hgr hnm;have hij:i≠j:=fun e=>by subst e;rw[L]at u;obtain rfl:=CS u;exact hne q
    have :=hno j o u q;simpa only[Ib,OZ hij]using this
   ·intro k o d hk hkd hl;by_cases hik:i=k
    ·subst hik;rw[L]at hk;obtain rfl:=CS hk;rw[hkd,aaS (by rw[hsz];exact XH i _ d L hkd)];exact hR
    have hl':l.getD k false=true:=by
     simp only[Ib,OZ hik]at hl ⊢;exact hl
    have :=(h6 k o d hk hkd hl').mono hgr hnm;cases hdst:ops[i].dst with
    |none=>exact this
    |some d'=>
     have hne:d'≠d:=fun e=>hik (hinj i k _ _ d' L hk hdst (e▸hkd));rw[←hdst,hother d' d hdst hne];exact this
   intro j o u hl k hk;have hil:i<l.size:=AA
   by_cases hik:i=k
   ·subst hik;simp[Array.getD,hil]
   have hkk:l.getD k false=true:=by
    by_cases hij:i=j
    ·subst hij;rw[L]at u;obtain rfl:=CS u;exact(Z k hk).1
    have hl':l.getD j false=true:=by
     simp only[Ib,OZ hij]at hl ⊢;exact hl
    exact h7 j o u hl' k hk
   simp only[Ib,OZ hik]at hkk ⊢;exact hkk
  unfold wpOpIn;rw[L];show if Region.wanted ops[i] (yielded ops a.tmps)=true then _ else _
  rcases hfact.1 with⟨ns,hop,amC,hnt,hg⟩|⟨hx,hev,hg⟩
  ·have hwant:Region.wanted ops[i] (yielded ops a.tmps)=true:=by
    unfold Region.wanted;rcases hg with hg|⟨j,want,d,b,hg,u,z,rfl⟩
    ·rw[hg]
    rw[hg];show(yielded ops a.tmps j==some b)=true;rw[ahf j d _ ((M i _ L).2 j b hg) u z];simp
   rw[CP hwant];refine RJ ?_ (hop.inR ro C ok H a w _ hmem (fun n hn=>?_))
   ·rintro a' w' ⟨v,ok',H',rfl,hgr,hnn,hm',hx⟩;exact hput _ v ok' H' w' rfl hgr hnn hm' hx
   have hnv:=RD amC n hn;obtain⟨x,y⟩:=n;simp only at hnv ⊢;subst hnv;cases x with
   |tmp t=>
    refine hread t ?_;rw[Di]at hnt
    have :t∈NM ns:=by
     unfold NM;rw[Sl];exact⟨_,hn,rfl⟩
    simpa using hnt t this
   |const v=>exact .d _ _ (.lit v)
   |global g=>exact .d _ _ (.lit _)
   |func f=>exact .d _ _ (.fn (.func f) [] [] #[] #[] rfl rfl (fun i hi=>Ot) (fun i hi=>Ot))
  have hwant:Region.wanted ops[i] (yielded ops a.tmps)=false:=by
   unfold Region.wanted;obtain⟨j,want,d,v,hg,u,z,hv⟩:=hg;rw[hg];show(yielded ops a.tmps j==some want)=false;rw[ahf j d _ ((M i _ L).2 j want hg) u z];rcases hv with rfl|rfl
   ·simp
   rfl
  rw[CU (by rw[hwant];simp)];exact⟨fun _ _=>trivial,hput _ _ ok H w hx.symm (.refl _ _) (.refl _) (by rw[hev];exact hmem) (.d _ _ (.lit _))⟩
 ·rintro l a w ⟨h1,ok,H,m,ab8,J,hmem,hsz,hdf,h5,h6,h7⟩ hr
  have hall:∀n i,i<n→i<ops.size→l.getD i false=true:=by
   intro n
   induction n with
   |zero=>intro i hi;omega
   |succ n ih=>
    intro i hi hi2;by_cases hn:i<n
    ·exact ih i hn hi2
    have hin:i=n:=AA
    subst hin;rw[←Bool.not_eq_false];intro hf;have L:ops[i]? =some ops[i]:=by simp[hi2]
    have hmem:i∈Region.ready .any ops l:=by
     unfold Region.ready;rw[FN];refine⟨by simpa using hi2,?_⟩;have hil:i<l.size:=AA
     have hf':l.getD i true=false:=aJm
     rw[hf',L];simp only[Il,GL,IV,MF];rw[Sr];intro e he;cases hbe:Region.binds .any e with
     |false=>simp
     |true=>
      have hlt:=aeS i _ L e aF2 hbe;rw[ih e.on AA AA];simp
    rw[hr]at hmem;simp at hmem
  refine⟨ok,H,σ',?_,hQ⟩;subst hend
  have hE:(U ops.size).ents=(U m).ents:=Y m ops.size ab8 (Dn _) (fun b h2 h3=>by
   rw[←Ol];intro z
   exact absurd ((J b z h3).1 (hall (b+1) b AA h3)) AA)
  refine⟨by show Ce C ok H (U ops.size).ents w;rw[hE];exact hmem,by rw[Xx];exact hsz,hdf,by rw[qA];exact hh.base,fun t ht=>?_⟩;rw[Xx]at ht;by_cases hw:∃(j:Nat) (o:Oper),ops[j]? =some o∧o.dst=some t
  ·obtain⟨j,o,u,q⟩:=hw;have hjn:j<ops.size:=(GX.1 u).1;rw[bn hinj u q ht ops.size hjn];exact h6 j o t u q (hall (j+1) j AA hjn)
  have hw':∀(j:Nat) (o:Oper),ops[j]? =some o→o.dst≠some t:=fun j o h1 h2=>hw ⟨j,o,h1,h2⟩;rw[XK ops.size (fun j o _ u=>hw' j o u)];exact h5 t ht (fun j o u q=>absurd q (hw' j o u))
 ·unfold toCome;simp
 refine⟨Aw,ok,H,0,Ci _,fun b z _=>by simp[Array.getD],?_,hh.size,hh.defers.mono (fun b z=>⟨z,rfl⟩),fun t ht _=>?_,fun i o d _ _ hl=>?_,fun j o _ hl=>?_⟩
 ·exact⟨⟨hh.mem.fr.os,hh.mem.fr.tape,hh.mem.fr.output,hh.mem.fr.size,hh.mem.fr.block⟩,hh.mem.yV,hh.mem.yX,hh.mem.kN,hh.mem.names,hh.mem.hlen,fun k e h h1 h2=>(hh.mem.ent k e h h1 h2).drew,hh.mem.blk,hh.mem.D8⟩
 ·exact R.mono (w:=w) (ok:=ok) (w':={ w with drawn:=w.drawn+1 }) (fun b z=>⟨z,rfl⟩) (.refl _) (hh.slot t ht)
 ·simp[Array.getD]at hl
 simp[Array.getD]at hl
def aiM {bs:List Bool} (h:UY ops bs=true):Tm ops bs []=true:=by
 unfold Tm;unfold UY at h;simpa using h
def AV.draw {id:Nat} {σ σ':Ak} {Q:Exit→Ak→Prop} {rs:List Aa} {ess:List (List Az)} {bs:List Bool} (hm:P.follows .mixedOrders=true) (j:(VP ops&&WI ops&&WZ ops σ.slots.length&&Vs ops)=true) (q:UY ops bs=true)
 (h:Et P ops ops.toList σ rs ess bs σ') (u:Q .normal σ'):AV P (.region id ops true) σ Q:=
 AV.awN hm j [] (aiM q) h (fun _ hi=>absurd hi EM) u
end
def Aq (P:Program) (f:FuncId) (args:List Aa) (E:List Az) (q:Aa) (E':List Az):Prop:=
 ∀(ok:Nat→Prop) (X:List Nat) (H:List BN) (w:World) (j:Array Value),Ce ⟨w,ok,X,H⟩ ok H E w→j.size=args.length→(∀i,i<args.length→R ok w H (args.getD i .junk) (j.getD i undef))→
  Calls P f j w fun e w'=>∃v ok' H',e=.returned v∧Ce ⟨w,ok,X,H⟩ ok' H' E' w'∧R ok' w' H' q v
def Holds.avL {C:EP} {ok:Nat→Prop} {H:List BN} {σ:Ak} {a:Act} {w:World} (h:Holds C ok H σ a w) (t:Nat):R ok w H (σ.slots.getD t .junk) (a.tmps.getD t undef):=h.get (.tmp t)
def Ak.enter (args:List Aa) (n:Nat) (E:List Az):Ak:=⟨args++List.replicate (n-args.length) .junk,E,E.length⟩
def R.lit {ok:Nat→Prop} {w:World} {H:List BN} {u v:Value} (h:R ok w H (.d (.lit u)) v):v=u:=by
 cases h with |d _ _ h=>cases h;rfl
structure EI (P:Program) (t:TypeId) (agg:Bool) (size:Nat):Prop where
 agg:∀w,(isAgg t).run P w=.ok agg w
 size:∀w,(sizeOf t).run P w=.ok size w
def aNL (P:Program) (t:TypeId) (agg:Bool) (size:Nat):Bool:=
 (match P.underlying t with |some (.struct _)|some (.array _ _)=>agg|some _=> !agg|none=>false)&&(match P.info? t with |some i=>decide (i.size=size)|none=>false)
def Fr {P:Program} {t:TypeId} {agg:Bool} {size:Nat} (h:aNL P t agg size=true):EI P t agg size:=by
 unfold aNL at h;simp only[CZ]at h;refine⟨fun w=>?_,fun w=>?_⟩
 ·have q:=h.1;cases u:P.underlying t with
  |none=>rw[u]at q;cases q
  |some d=>
   rw[u]at q;have e:(underlying t).run P w=.ok d w:=by simp[underlying,u]
   simp only[isAgg,FD,e,FP];cases d<;>cases agg<;>simp_all
 have j:=h.2;cases hi:P.info? t with
 |none=>rw[hi]at j;cases j
 |some i=>
  rw[hi]at j;have :i.size=size:=Wi
  simp[sizeOf,typeInfo,hi,this]
section
variable {P : Program} {o : Oper} {es : List Az}
def KH {α:Type} {p:α→Prop} {a:α} (h:∀n∈[a],p n):p a:=h a Aw
def Eh {α:Type} {p:α→Prop} {a b:α} (h:∀n∈[a,b],p n):p a∧p b:=⟨h a Aw,h b Aw⟩
def ajO {x:Operand} {v:Aa} (j:o.op=.move x):BR P o [(x,v)] es v es:=
 .pure fun _ _ a _ _ _ q=>⟨a.eval x,by simp[execOp,j],q (x,v) Aw⟩
def aow {x:Operand} {v:Aa} (j:o.op=.assign x):BR P o [(x,v)] es v es:=
 .pure fun _ _ a _ _ _ q=>⟨a.eval x,by simp[execOp,j],q (x,v) Aw⟩
def ahI {c x y:Operand} {v:Aa} (b:Bool) (q:b=true) (u:o.op=.pick c x y):BR P o [(c,.d (.lit (.bool b))),(x,v)] es v es:=
 .pure fun _ _ a _ _ _ j=>⟨a.eval x,by
  have :=(Eh j).1.lit;simp only at this
  simp[execOp,u,this,asBool,q],(Eh j).2⟩
def amc {c x y:Operand} {v:Aa} (b:Bool) (q:b=false) (u:o.op=.pick c x y):BR P o [(c,.d (.lit (.bool b))),(y,v)] es v es:=
 .pure fun _ _ a _ _ _ j=>⟨a.eval y,by
  have :=(Eh j).1.lit;simp only at this
  simp[execOp,u,this,asBool,q],(Eh j).2⟩
def Gq {op:BinOp} {t t':TypeId} {x y:Operand} {u v r:Value} (I:o.op=.binOp op t x y t') (h:∀w,(binOp op t u v).run P w=.ok r w) (J:u.oneCell'=true∧u matches .int _ _| .string _| .bool _):
 BR P o [(x,.d (.lit u)),(y,.d (.lit v))] es (.d (.lit r)) es:=
 .pure fun _ _ a w _ _ j=>⟨r,by
  have q:=(Eh j).1.lit;have z:=(Eh j).2.lit;simp only at q z
  have L:(eqGuard op t x y u v).run P w=.ok () w:=by
   unfold eqGuard;cases u<;>simp at J<;>(cases op<;>simp[pure,Sem.run_pure'])
  simp only[execOp,I,q,z,FD,L,h w,FP,GI],.d _ _ (.lit _)⟩
def aLe {op:UnOp} {t:TypeId} {x:Operand} {u r:Value} (q:o.op=.unOp op t x) (h:∀w,(Op.unary op u).run P w=.ok r w):BR P o [(x,.d (.lit u))] es (.d (.lit r)) es:=
 .pure fun _ _ a w _ _ z=>⟨r,by
  have j:=(KH z).lit;simp only at j
  simp only[execOp,q,j,FD,h w,FP,GI],.d _ _ (.lit _)⟩
def ab1 {s t:TypeId} {x:Operand} {u r:Value} (q:o.op=.convert s t x) (h:∀w,(convert s t u).run P w=.ok r w):BR P o [(x,.d (.lit u))] es (.d (.lit r)) es:=
 .pure fun _ _ a w _ _ z=>⟨r,by
  have j:=(KH z).lit;simp only at j
  simp only[execOp,q,j,FD,h w,FP,GI],.d _ _ (.lit _)⟩
def apy {x:Operand} {i:Nat} {xs:List Aa} {v:Aa} (J:o.op=.extract x i) (L:xs[i]? =some v):BR P o [(x,.eF xs)] es v es:=
 .pure fun ok H a w _ _ M=>by
  have q:=KH M;simp only at q;generalize O:a.eval x=u at q;cases q with
  |eF _ vs hl h=>
   obtain⟨hi,z⟩:=FI.1 L;have I:=h i hi;have U:xs.getD i .junk=v:=by simp[List.getD,hi,z]
   have j:i<vs.size:=AA
   have Y:vs.getD i undef=vs[i]:=by simp[Array.getD,j]
   rw[U,Y]at I;exact⟨vs[i],by simp[execOp,J,O,Instr.extract,j],I⟩
def af9 {x:Operand} {t e:TypeId} {xs:List D} (ht:P.underlying t=some (.slice e)) (q:o.op=.call { callee:=.builtin .len,args:= #[x],argTypes:= #[t] }):
 BR P o [(x,.d (.sl xs))] es (.d (.lit (.int .i64 xs.length))) es:=
 .pure fun ok H a w _ _ J=>by
  have j:=KH J;simp only at j;generalize z:a.eval x=u at j;have I:(underlying t).run P w=.ok (.slice e) w:=ND
  refine⟨_,?_,.d _ _ (.lit _)⟩;cases j with
  |d _ _ h=>
   cases h with
   |sl0 ad cap=>simp[execOp,q,resolve,invoke,builtin,Builtin.len_,z,I,goInt]
   |sl _ b off cap size=>simp[execOp,q,resolve,invoke,builtin,Builtin.len_,z,I,goInt]
def apu {x:Operand} {t:TypeId} {s:ByteArray} (ht:P.underlying t=some .string) (q:o.op=.call { callee:=.builtin .len,args:= #[x],argTypes:= #[t] }):
 BR P o [(x,.d (.lit (.string s)))] es (.d (.lit (.int .i64 s.size))) es:=
 .pure fun ok H a w _ _ u=>by
  have j:=(KH u).lit;simp only at j;have z:(underlying t).run P w=.ok .string w:=ND
  exact⟨_,by simp[execOp,q,resolve,invoke,builtin,Builtin.len_,j,z,goInt],.d _ _ (.lit _)⟩
def GR {es:List Az} {H:List BN} {ok:Nat→Prop} {w:World} (u:∀(k:Nat) (e:Az) (h:BN),es[k]? =some e→H[k]? =some h→En ok w H h e) (hl:H.length=es.length) {k:Nat} {e:Az} (q:es[k]? =some e):
 ∃h,H[k]? =some h∧En ok w H h e:=by
 have j:k<H.length:=by rw[hl];exact(FI.1 q).1
 exact⟨H[k],by simp[j],u k e _ q (by simp[j])⟩
def aic {x:Operand} {t e e':TypeId} {k s:Nat} {xs:List D} (U:es[k]? =some (.arr e' s xs)) (ht:P.underlying t=some (.slice e)) (Y:o.op=.call { callee:=.builtin .len,args:= #[x],argTypes:= #[t] }):
 BR P o [(x,.aY k)] es (.d (.lit (.int .i64 xs.length))) es:=
 .pure fun ok H a w j hl Z=>by
  have q:=KH Z;simp only at q;generalize he:a.eval x=u at q;have hu:(underlying t).run P w=.ok (.slice e) w:=ND
  obtain⟨h,hh,z⟩:=GR j hl U;refine⟨_,?_,.d _ _ (.lit _)⟩;cases q with
  |aY _ ad n cap s' M=>
   rw[hh]at M;obtain rfl:=CS M;obtain⟨_,_,ys,⟨_,I⟩,_⟩:=z
   have J:n=xs.length:=by
    rcases I with⟨L,h3⟩|⟨g,O,cur,L,_⟩
    ·simp at L;omega
    simp at L;omega
   subst J;simp[execOp,Y,resolve,invoke,builtin,Builtin.len_,he,hu,goInt]
structure DN (P:Program) (t:TypeId) (f off:Nat):Prop where
 run:∀(b o:Nat) w,(Instr.fieldAt t (.pointer (some ⟨b,o,none⟩)) f).run P w=.ok (.pointer (some ⟨b,o+off,none⟩)) w
def aYx (P:Program) (t:TypeId) (f off:Nat):Bool:=
 match P.underlying t with
 |some (.struct q)=>match q[f]? with
  |some j=>decide (j.offset=off)&&(match P.info? j.type with |some i=>decide (i.size≠0)|none=>false)
  |none=>false
 |_=>false
def Dc {P:Program} {t:TypeId} {f off:Nat} (h:aYx P t f off=true):DN P t f off:=by
 unfold aYx at h;refine⟨fun b o w=>?_⟩;split at h
 ·rename_i u z;split at h
  ·rename_i I J;simp only[CZ,GN]at h;obtain⟨L,j⟩:=h;split at j
   ·rename_i i hi;have hs:(sizeOf I.type).run P w=.ok i.size w:=by simp[sizeOf,typeInfo,hi]
    have M:i.size≠0:=Wi
    have q:(underlying t).run P w=.ok (.struct u) w:=by simp[underlying,z]
    simp[Instr.fieldAt,q,J,Instr.sureAddr,fieldPlace,hs,M,addr_add,L]
   cases j
  cases h
 cases h
def ajm {x:Operand} {t:TypeId} {f off j:Nat} {cs:List D} (J:DN P t f off) (L:o.op=.fieldAddr t x f):BR P o [(x,.d (.ref cs j))] es (.d (.ref cs (j+off))) es:=
 .pure fun ok H a w _ _ M=>by
  have q:=KH M;simp only at q;generalize O:a.eval x=u at q;cases q with
  |d _ _ h=>
   cases h with
   |ref _ _ b p z I U Y=>
    refine⟨.pointer (some ⟨b,p+(j+off),none⟩),?_,.d _ _ (.ref cs (j+off) b p z I U Y)⟩;simp only[execOp,L,O,FD,J.run,FP,GI,Rz]
def aei {x:Operand} {t:TypeId} {f off k j:Nat} (z:DN P t f off) (I:o.op=.fieldAddr t x f):BR P o [(x,.ptr k j)] es (.ptr k (j+off)) es:=
 .pure fun ok H a w _ _ J=>by
  have q:=KH J;simp only at q;generalize L:a.eval x=u at q;cases q with
  |ptr _ _ b s h=>
   refine⟨.pointer (some ⟨b,j+off,none⟩),?_,.ptr _ _ b s h⟩;simp only[execOp,I,L,FD,z.run,FP,GI]
def ake {x:Operand} {t:TypeId} {f off k i j:Nat} (z:DN P t f off) (I:o.op=.fieldAddr t x f):BR P o [(x,.lq k i j)] es (.lq k i (j+off)) es:=
 .pure fun ok H a w _ _ J=>by
  have q:=KH J;simp only at q;generalize L:a.eval x=u at q;cases q with
  |lq _ _ _ b n cap s h=>
   refine⟨.pointer (some ⟨b,i*s+(j+off),none⟩),?_,.lq _ _ _ b n cap s h⟩;simp only[execOp,I,L,FD,z.run,FP,GI,Rz]
def af0 {x y:Operand} {t e:TypeId} {k:IntKind} {i:Int} {xs:List D} {J:D} {agg:Bool} {size:Nat} (ht:P.underlying t=some (.slice e)) (hT:EI P e agg size) (h0:0≤i) (hi:xs[i.toNat]? =some J) (hs:J.cells.length=size)
 (ho:o.op=.indexAddr t x y):BR P o [(x,.d (.sl xs)),(y,.d (.lit (.int k i)))] es (.d (.ref J.cells 0)) es:=
 .pure fun ok H a w _ _ Z=>by
  have L:=(Eh Z).1;have h2:=(Eh Z).2.lit;simp only at L h2;generalize he:a.eval x=u at L;have hu:(underlying t).run P w=.ok (.slice e) w:=ND
  obtain⟨z,M⟩:=FI.1 hi;cases L with
  |d _ _ h=>
   cases h with
   |sl0 ad cap=>simp at z
   |sl _ b off cap q hcap O U hf hx hc=>
    have hd:xs.getD i.toNat Dh=J:=by simp[List.getD,z,M]
    have Y:q=size:=by rw[←U _ z,hd,hs]
    subst Y;refine⟨.pointer (some ⟨b,off+i.toNat*q+0,none⟩),?_,.d _ _ (.ref J.cells 0 b (off+i.toNat*q) (fun h=>O AA (by rw[hs]at h;exact h)) ?_ ?_ ?_)⟩
    ·have hlen:0≤i∧i<(xs.length:Int):=⟨h0,AA⟩
     simp only[execOp,ho,he,h2,Instr.indexAt,asIntOf,FD,GI,hu,FP,Sem.run_ite,hlen,and_self,JV,hT.size,addr_add,OD]
    ·intro j I;rw[hs]at I;rw[←hd];exact hf _ z j I
    ·intro j I;rw[hs]at I;rw[Rz];exact hx _ z j I
    intro j I;rw[hs]at I;rw[Rz,←hd];exact hc _ z j I
def aii {x y:Operand} {t e e':TypeId} {kd:IntKind} {i:Int} {k size:Nat} {xs:List D} {agg:Bool} (Z:es[k]? =some (.arr e' size xs)) (ht:P.underlying t=some (.slice e)) (hT:EI P e agg size) (h0:0≤i) (hi:i.toNat<xs.length)
 (ho:o.op=.indexAddr t x y):BR P o [(x,.aY k),(y,.d (.lit (.int kd i)))] es (.lq k i.toNat 0) es:=
 .pure fun ok H a w q hl L=>by
  have z:=(Eh L).1;have M:=(Eh L).2.lit;simp only at z M;generalize he:a.eval x=u at z;have hu:(underlying t).run P w=.ok (.slice e) w:=ND
  obtain⟨h,O,I⟩:=GR q hl Z;cases z with
  |aY _ ad n cap s' U=>
   rw[O]at U;obtain rfl:=CS U;obtain⟨hs,_,ys,⟨_,J⟩,_⟩:=I;simp only at hs;subst hs;rcases J with⟨j,h3⟩|⟨g,Y,cur,j,_⟩
   ·omega
   simp only[eL]at j;obtain⟨rfl,rfl,rfl⟩:=j;refine⟨.pointer (some ⟨g,i.toNat*s'+0,none⟩),?_,.lq _ _ _ _ _ _ _ O⟩;have hlen:0≤i∧i<(xs.length:Int):=⟨h0,AA⟩
   simp only[execOp,ho,he,M,Instr.indexAt,asIntOf,FD,GI,hu,FP,Sem.run_ite,hlen,and_self,JV,hT.size,addr_add,Ij,OD]
def agS {x y:Operand} {t:TypeId} {k:IntKind} {i:Int} {s:ByteArray} {c:UInt8} (ht:P.underlying t=some .string) (z:0≤i) (hi:s[i.toNat]? =some c) (I:o.op=.index t x y):
 BR P o [(x,.d (.lit (.string s))),(y,.d (.lit (.int k i)))] es (.d (.lit (.int .u8 c.toNat))) es:=
 .pure fun ok H a w _ _ j=>by
  have q:=(Eh j).1.lit;have u:=(Eh j).2.lit;simp only at q u;have J:(underlying t).run P w=.ok .string w:=ND
  exact⟨_,by simp only[execOp,I,q,u,Instr.index,asIntOf,FD,GI,J,FP,z,JV,hi],.d _ _ (.lit _)⟩
def Iw (l:List Aa):List D:=l.map fun | .d x=>x|_=>Dh
def Aa.AO:Aa→Bool
 | .d _=>true
 |_=>false
def R.toD {ok:Nat→Prop} {w:World} {H:List BN} {x:Aa} {v:Value} (h:R ok w H x v) (hd:x.AO=true):Dk ok w ((fun | .d x=>x|_=>Dh) x) v:=by
 cases h with
 |d _ _ h=>exact h
 |_=>simp[Aa.AO]at hd
def QC (agg:Bool) (cs:List D) (off n:Nat):D:=if agg then .agg ((cs.drop off).take n)else cs.getD off Dh
def aFb {P:Program} {ok:Nat→Prop} {w:World} {t:TypeId} {agg:Bool} {n b p off:Nat} {cs:List D} (M:EI P t agg n) (hn:off+n≤cs.length) (U:agg=false→n=1)
 (Y:∀i,i<cs.length→(cs.getD i Dh).leaf=true) (Z:∀j,j<cs.length→(w.cell? ⟨b,p+j,none⟩).isSome=true) (O:∀j,j<cs.length→Dk ok w (cs.getD j Dh) (cellAt w b (p+j))):
 ∃v,(Instr.loadAt t (.pointer (some ⟨b,p+off,none⟩))).run P w=.ok v w∧Dk ok w (QC agg cs off n) v:=by
 have q:∀j,j<cs.length→w.cell? ⟨b,p+j,none⟩=some (cellAt w b (p+j)):=by
  intro j I;have :=Z j I;obtain⟨u,hu⟩:=SX.1 this;simp[cellAt,hu]
 cases agg with
 |false=>
  have :=U rfl;subst this;refine⟨cellAt w b (p+off),?_,O off AA⟩;have L:=q off AA;simp[Instr.loadAt,Instr.sureAddr,loadVar,M.agg,L]
 |true=>
  let vs:Array Value:=((List.range n).map fun j=>cellAt w b (p+(off+j))).toArray
  have z:vs.size=n:=by simp[vs]
  have J:∀j,j<n→vs.getD j undef=cellAt w b (p+(off+j)):=by
   intro j I;simp[vs,Array.getD,I]
  refine⟨.agg vs,?_,?_⟩
  ·simp only[Instr.loadAt,Instr.sureAddr,FD,GI,FP]
   have h:=akk (P:=P) w t b (p+off) vs (M.agg w) (by rw[z];exact M.size w) (fun j I=>by
    rw[z]at I;rw[J j I,Rz]
    exact q (off+j) AA)
   exact h
  simp only[QC,JV];have hlen:((cs.drop off).take n).length=n:=DW
  have L:∀i,i<n→((cs.drop off).take n).getD i Dh=cs.getD (off+i) Dh:=by
   intro i hi;simp[List.getD,LM hi,Py]
  refine .agg _ vs (by rw[hlen,z]) (fun i hi=>?_) (fun i hi=>?_)
  ·rw[hlen]at hi;rw[L i hi];exact Y _ AA
  rw[hlen]at hi;rw[L i hi,J i hi];exact O _ AA
def al7 {x:Operand} {t:TypeId} {agg:Bool} {n off:Nat} {cs:List D} (z:EI P t agg n) (I:off+n≤cs.length) (J:agg=false→n=1) (L:o.op=.load t x):
 BR P o [(x,.d (.ref cs off))] es (.d (QC agg cs off n)) es:=
 .pure fun ok H a w _ _ q=>by
  have j:=KH q;simp only at j;generalize M:a.eval x=u at j;cases j with
  |d _ _ h=>
   cases h with
   |ref _ _ b p O U Y Z=>
    obtain⟨v,hr,hd⟩:=aFb z I J U Y Z;exact⟨v,by simp only[execOp,L,M,FD,hr,FP,GI],.d _ _ hd⟩
def vT (l:List Aa):(Iw l).length=l.length:=by simp[Iw]
def aWv {l:List Aa} {i:Nat} (h:i<l.length):(Iw l).getD i Dh=(fun | .d x=>x|_=>Dh) (l.getD i .junk):=by
 simp[Iw,List.getD,h]
def aIL {ok:Nat→Prop} {w:World} {H:List BN} {h:BN} {cs:List Aa} (O:En ok w H h (.box cs)) (hd:cs.all Aa.AO=true):
 ∃b,h.v=.pointer (some ⟨b,0,none⟩)∧(∀i,i<(Iw cs).length→((Iw cs).getD i Dh).leaf=true)∧(∀j,j<(Iw cs).length→(w.cell? ⟨b,0+j,none⟩).isSome=true)∧(∀j,j<(Iw cs).length→Dk ok w ((Iw cs).getD j Dh) (cellAt w b (0+j))):=by
 obtain⟨b,vs,T,U,Y,Z,I⟩:=O;rw[Di]at hd
 have q:∀j,j<cs.length→w.cell? ⟨b,0+j,none⟩=some (vs.toList.getD j undef):=by
  intro j u;rw[Ij];have z:j<vs.size:=by simpa using(by omega:j<vs.toList.length)
  simp[World.cell?,Y,z,List.getD]
 refine⟨b,U,fun i hi=>?_,fun j u=>?_,fun j u=>?_⟩
 ·rw[vT]at hi;rw[aWv hi];have J:=(I i hi).1;have L:=hd (cs.getD i .junk) NZ;cases M:cs.getD i .junk with
  |d x=>rw[M]at J;exact J
  |_=>rw[M]at L;simp[Aa.AO]at L
 ·rw[vT]at u;rw[q j u];rfl
 rw[vT]at u;rw[aWv u];unfold cellAt;rw[q j u];exact(I j u).2.toD (hd (cs.getD j .junk) aJh)
def aeg {x:Operand} {t:TypeId} {agg:Bool} {k n off:Nat} {cs:List Aa} (O:es[k]? =some (.box cs)) (hd:cs.all Aa.AO=true) (U:EI P t agg n) (Y:off+n≤cs.length) (Z:agg=false→n=1) (ho:o.op=.load t x):
 BR P o [(x,.ptr k off)] es (.d (QC agg (Iw cs) off n)) es:=
 .pure fun ok H a w q hl z=>by
  have j:=KH z;simp only at j;generalize he:a.eval x=u at j;obtain⟨h,hh,I⟩:=GR q hl O;obtain⟨b,J,hf,hx,hc⟩:=aIL I hd;cases j with
  |ptr _ _ b' s L=>
   rw[hh]at L;obtain rfl:=CS L;simp at J;subst J;obtain⟨v,M,hD⟩:=aFb U (by rw[vT];exact Y) Z hf hx hc;rw[Ij]at M;exact⟨v,by simp only[execOp,ho,he,FD,M,FP,GI],.d _ _ hD⟩
def aW6 {x:Operand} {t:TypeId} {k off:Nat} {cs:List Aa} {v:Aa} (Y:es[k]? =some (.box cs)) (Z:cs[off]? =some v) (hT:EI P t false 1) (ho:o.op=.load t x):BR P o [(x,.ptr k off)] es v es:=
 .pure fun ok H a w z hl J=>by
  have q:=KH J;simp only at q;generalize he:a.eval x=u at q;obtain⟨h,hh,b,vs,T,M,h2,h3,h4⟩:=GR z hl Y;cases q with
  |ptr _ _ b' s O=>
   rw[hh]at O;obtain rfl:=CS O;simp at M;subst M;obtain⟨I,L⟩:=FI.1 Z;have U:=(h4 off I).2;have e1:cs.getD off .junk=v:=by simp[List.getD,I,L]
   have j:off<vs.size:=by simpa using(by omega:off<vs.toList.length)
   have e2:vs.toList.getD off undef=vs[off]:=by simp[List.getD,j]
   rw[e1,e2]at U;refine⟨vs[off],?_,U⟩;have hc:w.cell? ⟨b',off,none⟩=some vs[off]:=by simp[World.cell?,h2,j]
   simp[execOp,ho,he,Instr.loadAt,Instr.sureAddr,loadVar,hT.agg,hc]
end
def Ce.change {C:EP} {ok ok':Nat→Prop} {H H':List BN} {es es':List Az} {w w':World} (hm:Ce C ok H es w) (B:Nat→Prop)
 (hos:w'.os=w.os) (O:w'.tape=w.tape) (hout:w'.output=w.output) (q:w.heap.size≤w'.heap.size)
 (L:∀b,b<w.heap.size→¬B b→w'.heap[b]? =w.heap[b]?) (hB:∀b,B b→b<w.heap.size→¬ok b∧(C.w0.heap.size≤b∨b∈C.X))
 (hok:∀b,ok b→ok' b) (M:∀b,ok' b→ok b∨(w.heap.size≤b∧b<w'.heap.size)) (z:Names H H') (hlen:H'.length=es'.length)
 (I:∀(k:Nat) (e:Az) (h:BN),es'[k]? =some e→H'[k]? =some h→
  (es[k]? =some e∧H[k]? =some h∧(e.live=true→∀b,D6 h.v=some b→¬B b))∨
  (En ok' w' H' h e∧(e.live=true→∀b,D6 h.v=some b→¬ok' b∧b<w'.heap.size∧(C.w0.heap.size≤b∨b∈C.X)∧
   ∀(k':Nat) (e':Az) (h':BN),k'≠k→es'[k']? =some e'→e'.live=true→H'[k']? =some h'→D6 h'.v≠some b))):
 Ce C ok' H' es' w'∧EN ok w ok' w':=by
 have hg:EN ok w ok' w':=fun b j=>⟨hok b j,L b (hm.kN b j) (fun u=>(hB b u (hm.kN b j)).1 j)⟩
 refine⟨⟨⟨hos.trans hm.fr.os,O.trans hm.fr.tape,hout.trans hm.fr.output,Ed hm.fr.size q,fun k hk hx=>?_⟩,fun b j=>hok b (hm.yV b j),?_,?_,hm.names.trans z,hlen,?_,?_,?_⟩,hg⟩
 ·have hkw:k<w.heap.size:=Uy hk hm.fr.size;rw[L k hkw (fun j=>(hB k j hkw).2.elim (fun h=>AA) hx)];exact hm.fr.block k hk hx
 ·intro b j;rcases M b j with h|⟨h,_⟩
  ·exact hm.yX b h
  exact .inr (.inl (Ed hm.fr.size h))
 ·intro b j;rcases M b j with h|⟨_,h⟩
  ·exact Uy (hm.kN b h) q
  exact h
 ·intro k e h he hh;rcases I k e h he hh with⟨J,h2,h3⟩|⟨J,_⟩
  ·exact(hm.ent k e h J h2).mono hg z (fun hl b j=>L b (hm.blk k e h b J hl h2 j).2.1 (h3 hl b j))
  exact J
 ·intro k e h b he hl hh j;rcases I k e h he hh with⟨J,h2,h3⟩|⟨_,J⟩
  ·have :=hm.blk k e h b J hl h2 j;refine⟨fun u=>?_,Uy this.2.1 q,this.2.2⟩;rcases M b u with h4|⟨h4,_⟩
   ·exact this.1 h4
   omega
  exact⟨(J hl b j).1,(J hl b j).2.1,(J hl b j).2.2.1⟩
 intro k k' e e' h h' b he he' hl U hh hh' j u;apply Yv;intro Y;rcases I k e h he hh with⟨J,h2,h3⟩|⟨_,J⟩
 ·rcases I k' e' h' he' hh' with⟨Z,h2',h3'⟩|⟨_,Z⟩
  ·exact Y (hm.D8 k k' e e' h h' b J Z hl U h2 h2' j u)
  exact(Z U b u).2.2.2 k e h Y he hl hh j
 exact(J hl b j).2.2.2 k' e' h' (fun e=>Y e.symm) he' U hh' u
def aFw {α:Type} {l:List α} {i:Nat} {z:α} (h:i<l.length):l.getD i z=l[i]:=by simp[List.getD,h]
def X8 {α:Type} {l:List α} {a x:α} {k:Nat} (h:(l++[a])[k]? =some x):l[k]? =some x∨(k=l.length∧x=a):=by
 by_cases q:k<l.length
 ·rw[GZ q]at h;exact .inl h
 have j:=(FI.1 h).1;simp at j;have :k=l.length:=AA
 subst this;simp at h;exact .inr ⟨rfl,h.symm⟩
def Ce.push {C:EP} {ok:Nat→Prop} {H:List BN} {es:List Az} {w:World} (hm:Ce C ok H es w) (o:Obj) (h:BN) (e:Az) (J:∀b,D6 h.v=some b→b=w.heap.size)
 (he:En ok (w.alloc o) (H++[h]) h e):Ce C ok (H++[h]) (es++[e]) (w.alloc o)∧EN ok w ok (w.alloc o):=by
 refine hm.change (fun _=>False) rfl rfl rfl Aw (fun b J _=>KE _ _ _ J) (fun _ h=>h.elim) (fun _ h=>h) (fun _ h=>.inl h) (Names.push _ _) Zp ?_;intro k e' h' L q;rcases X8 L with I|⟨I,h2⟩
 ·left;refine⟨I,?_,fun _ _ _ h=>h⟩;have M:k<H.length:=by rw[hm.hlen];exact(FI.1 I).1
  rwa [GZ M]at q
 subst h2;have M:k=H.length:=by rw[hm.hlen];exact I
 subst M;simp at q;subst q;refine .inr ⟨he,fun _ b O=>?_⟩;obtain rfl:=J b O;refine⟨fun u=>absurd (hm.kN _ u) AA,Aw,.inl hm.fr.size,fun k' U Y Z hk' hl j z=>?_⟩;rcases X8 hk' with u|⟨u,_⟩
 ·have hk2:k'<H.length:=by rw[hm.hlen];exact(FI.1 u).1
  rw[GZ hk2]at j;exact absurd (hm.blk k' U Y _ u hl j z).2.1 AA
 rw[←hm.hlen]at u;exact Z u
def Ce.fresh {C:EP} {ok:Nat→Prop} {H:List BN} {es:List Az} {w:World} (hm:Ce C ok H es w) (o:Obj):
 Ce C (fun b=>ok b∨b=w.heap.size) H es (w.alloc o)∧EN ok w (fun b=>ok b∨b=w.heap.size) (w.alloc o):=by
 refine hm.change (fun _=>False) rfl rfl rfl Aw (fun b j _=>KE _ _ _ j) (fun _ h=>h.elim) (fun _ h=>.inl h) (fun b h=>?_) (.refl _) hm.hlen ?_
 ·rcases h with h|rfl
  ·exact .inl h
  exact .inr ⟨Dn _,Aw⟩
 intro k e h q u;exact .inl ⟨q,u,fun _ _ _ h=>h⟩
def Ce.drew {C:EP} {ok:Nat→Prop} {H:List BN} {es:List Az} {w:World} (hm:Ce C ok H es w):Ce C ok H es w.drew∧EN ok w ok w.drew:=
 hm.change (fun _=>False) rfl rfl rfl (Dn _) (fun _ _ _=>rfl) (fun _ h=>h.elim) (fun _ h=>h) (fun _ h=>.inl h) (.refl _) hm.hlen fun _ _ _ j q=>.inl ⟨j,q,fun _ _ _ h=>h⟩
def En.dead {ok:Nat→Prop} {w:World} {H:List BN} {h:BN}:En ok w H h .dead:=trivial
def R.ajx {ok:Nat→Prop} {w:World} {H:List BN} {x:Aa} {v:Value} (h:R ok w H x v) (hl:x.cells.all Aa.leaf=true):F6 ok w H x.cells v.cells.toList:=by
 rw[Di]at hl;cases h with
 |d x v h=>
  cases h with
  |agg cs vs hs L O=>
   refine⟨by simp[Aa.cells,D.cells,Value.cells,hs],fun i hi=>?_⟩;simp only[Aa.cells,D.cells,CB]at hi;have U:(Aa.cells (.d (.agg cs))).getD i .junk=.d (cs.getD i Dh):=by simp[Aa.cells,D.cells,List.getD,hi]
   have z:i<vs.size:=AA
   have M:(Value.cells (.agg vs)).toList.getD i undef=vs.getD i undef:=aTO
   rw[U,M];exact⟨L i hi,.d _ _ (O i hi)⟩
  |lit v=>
   have q:=hl (.d (.lit v)) (by simp[Aa.cells,D.cells]);have e:v.cells= #[v]:=by cases v<;>first|rfl|(simp[Aa.leaf,D.leaf,Value.oneCell']at q)
   refine⟨by simp[Aa.cells,D.cells,e],fun i hi=>?_⟩;simp[Aa.cells,D.cells]at hi;subst hi;rw[e];exact⟨q,.d _ _ (.lit v)⟩
  |sl0 ad cap=>
   refine⟨rfl,fun i hi=>?_⟩;simp[Aa.cells,D.cells]at hi;subst hi;exact⟨rfl,.d _ _ (.sl0 ad cap)⟩
  |sl es b off cap size q u I J Y Z=>
   refine⟨rfl,fun i hi=>?_⟩;simp[Aa.cells,D.cells]at hi;subst hi;exact⟨rfl,.d _ _ (.sl es b off cap size q u I J Y Z)⟩
  |ref cs off b o q u I J=>
   refine⟨rfl,fun i hi=>?_⟩;simp[Aa.cells,D.cells]at hi;subst hi;exact⟨rfl,.d _ _ (.ref cs off b o q u I J)⟩
  |fn f first cap vs us q u I J=>
   refine⟨rfl,fun i hi=>?_⟩;simp[Aa.cells,D.cells]at hi;subst hi;exact⟨rfl,.d _ _ (.fn f first cap vs us q u I J)⟩
  |O5 t x v q=>
   refine⟨rfl,fun i hi=>?_⟩;simp[Aa.cells,D.cells]at hi;subst hi;exact⟨rfl,.d _ _ (.O5 t x v q)⟩
 |ptr k off b s h=>
  exact⟨rfl,fun i hi=>by simp[Aa.cells]at hi;subst hi;exact⟨rfl,.ptr k off b s h⟩⟩
 |aY k ad n cap s h=>
  exact⟨rfl,fun i hi=>by simp[Aa.cells]at hi;subst hi;exact⟨rfl,.aY k ad n cap s h⟩⟩
 |lq k i off b n cap s h=>
  exact⟨rfl,fun j hi=>by simp[Aa.cells]at hi;subst hi;exact⟨rfl,.lq k i off b n cap s h⟩⟩
 |fn f first cap vs us q u I J=>
  exact⟨rfl,fun i hi=>by simp[Aa.cells]at hi;subst hi;exact⟨rfl,.fn f first cap vs us q u I J⟩⟩
 |mp k v s hl h=>
  have e:v.cells= #[v]:=by cases v<;>first|rfl|(simp[Value.oneCell']at hl)
  exact⟨by simp[Aa.cells,e],fun j hi=>by simp[Aa.cells]at hi;subst hi;rw[e];exact⟨rfl,.mp k v s hl h⟩⟩
 |clip xs ad h=>exact⟨rfl,fun i hi=>by simp[Aa.cells]at hi;subst hi;exact⟨rfl,.clip xs ad h⟩⟩
 |xG k ad n cap s h=>exact⟨rfl,fun i hi=>by simp[Aa.cells]at hi;subst hi;exact⟨rfl,.xG k ad n cap s h⟩⟩
 |eF xs vs q u=>have :=hl (.eF xs) (by simp[Aa.cells]);simp[Aa.leaf]at this
 |ag xs vs q L u=>
  refine⟨by simp[Aa.cells,Value.cells,q],fun i hi=>?_⟩;have z:i<vs.size:=by rw[q];exact hi
  have M:(Value.cells (.agg vs)).toList.getD i undef=vs.getD i undef:=aTO
  rw[M];exact⟨L i hi,u i hi⟩
 |junk v=>have :=hl .junk (by simp[Aa.cells]);simp[Aa.leaf]at this
section
variable {P : Program} {o : Oper} {es : List Az}
def aEP (w:World):∀b,D6 (BN.v ⟨.pointer (some ⟨w.heap.size,0,none⟩),0⟩)=some b→b=w.heap.size:=fun b j=>by simpa[D6]using j.symm
def BR.eff {ns:List (Operand×Aa)} {x:Aa} {es':List Az}
 (h:∀(C:EP) (ok:Nat→Prop) (H:List BN) (a:Act) (w:World),Ce C ok H es w→(∀n∈ns,R ok w H n.2 (a.eval n.1))→
  ∃v w' ok' H',((execOp a.eval o).run P w=.ok (.value v) w'∨(v=undef∧(execOp a.eval o).run P w=.ok .skip w'))∧EN ok w ok' w'∧Names H H'∧Ce C ok' H' es' w'∧R ok' w' H' x v):BR P o ns es x es':=by
 intro C ok H a w Q hm J;obtain⟨v,w',ok',H',j,q,u,z,I⟩:=h C ok H a w hm J;unfold Oper.wp;rcases j with j|⟨rfl,j⟩
 ·rw[j];exact⟨v,ok',H',rfl,q,u,z,I⟩
 rw[j];exact⟨undef,ok',H',rfl,q,u,z,I⟩
def akd {t:TypeId} {x:Operand} {v:Aa} (hl:v.cells.all Aa.leaf=true) (u:o.op=.box t x):BR P o [(x,v)] es (.ptr es.length 0) (es++[.box v.cells]):=
 .eff fun C ok H a w hm z=>by
  have q:=KH z;simp only at q
  have j:En ok (w.alloc (.cells (a.eval x).cells t)) (H++[⟨.pointer (some ⟨w.heap.size,0,none⟩),0⟩]) ⟨.pointer (some ⟨w.heap.size,0,none⟩),0⟩ (.box v.cells):=
   ⟨w.heap.size,(a.eval x).cells,t,rfl,Vw w _,(q.ajx hl).mono (fun b j=>⟨j,KE _ _ _ (hm.kN b j)⟩) (Names.push _ _)⟩
  obtain⟨I,J⟩:=hm.push (.cells (a.eval x).cells t) ⟨.pointer (some ⟨w.heap.size,0,none⟩),0⟩ _ (aEP w) j;refine⟨_,_,ok,_,.inl ?_,J,Names.push _ _,I,.ptr _ _ w.heap.size 0 Pm⟩;simp[execOp,u,Instr.box,newVar,newRow]
def Oe :Value→D
 | .slice none 0 0=>.sl []
 |v=>.lit v
def lV {ok:Nat→Prop} {w:World} (v:Value):Dk ok w (Oe v) v:=by
 unfold Oe;split
 ·exact .sl0 none 0
 exact .lit v
def yP {v:Value} (h:v.oneCell'=true):(Oe v).leaf=true:=by
 unfold Oe;split
 ·rfl
 exact h
def FU (z:Value):List Aa:=z.cells.toList.map fun v=>.d (Oe v)
def ai5 {t:TypeId} {z:Value} (q:(P.info? t).bind (·.zero)=some z) (hl:z.cells.all (·.oneCell')=true) (u:o.op=.alloc t):BR P o [] es (.ptr es.length 0) (es++[.box (FU z)]):=
 .eff fun C ok H a w hm U=>by
  have I:En ok (w.alloc (.cells z.cells t)) (H++[⟨.pointer (some ⟨w.heap.size,0,none⟩),0⟩]) ⟨.pointer (some ⟨w.heap.size,0,none⟩),0⟩ (.box (FU z)):=by
   refine⟨w.heap.size,z.cells,t,rfl,Vw w _,by simp[FU],fun i hi=>?_⟩;simp only[FU,CB,Sm]at hi;have J:(FU z).getD i .junk=.d (Oe z.cells[i]):=by simp[FU,List.getD,hi]
   have L:z.cells.toList.getD i undef=z.cells[i]:=NZ
   rw[J,L];exact⟨yP ((Sr.1 hl) _ Aw),.d _ _ (lV _)⟩
  obtain⟨M,O⟩:=hm.push (.cells z.cells t) ⟨.pointer (some ⟨w.heap.size,0,none⟩),0⟩ _ (aEP w) I;refine⟨_,_,ok,_,.inl ?_,O,Names.push _ _,M,.ptr _ _ w.heap.size 0 Pm⟩;obtain⟨i,hi,j⟩:=eS.1 q;simp[execOp,u,Instr.alloc,zeroValue,typeInfo,hi,j,newVar,newRow]
def LD {l:List Az} {k j:Nat} {a x:Az} (q:k<l.length) (h:(l.set k a)[j]? =some x):(j=k∧x=a)∨(j≠k∧l[j]? =some x):=by
 by_cases e:k=j
 ·subst e;simp[q]at h;exact .inl ⟨rfl,h.symm⟩
 rw[YO e]at h;exact .inr ⟨fun h'=>e h'.symm,h⟩
def Ce.upd {C:EP} {ok:Nat→Prop} {H:List BN} {w w':World} (hm:Ce C ok H es w) {k:Nat} {M e:Az} {h:BN} {b:Nat} (hk:es[k]? =some M) (I:M.live=true) (hh:H[k]? =some h) (hb:D6 h.v=some b)
 (hos:w'.os=w.os) (J:w'.tape=w.tape) (O:w'.output=w.output) (hsize:w'.heap.size=w.heap.size)
 (z:∀c,c≠b→w'.heap[c]? =w.heap[c]?) (he:EN ok w ok w'→En ok w' H h e):Ce C ok H (es.set k e) w'∧EN ok w ok w':=by
 have U:=hm.blk k M h b hk I hh hb;have hg:EN ok w ok w':=fun c q=>⟨q,z c (fun e=>U.1 (e▸q))⟩
 refine hm.change (fun c=>c=b) hos J O AA (fun c _ q=>z c q) (fun c q _=>by subst q;exact⟨U.1,U.2.2⟩) (fun _ h=>h) (fun _ h=>.inl h) (.refl _) Zp ?_;intro j e' h' hj u;have Y:k<es.length:=(FI.1 hk).1;rcases LD Y hj with⟨rfl,rfl⟩|⟨L,Z⟩
 ·rw[hh]at u;obtain rfl:=CS u;refine .inr ⟨he hg,fun _ c q=>?_⟩;rw[hb]at q;obtain rfl:=CS q;refine⟨U.1,AA,U.2.2,fun k' e'' h'' L hk' hl' aGk aGl=>L ?_⟩;rcases LD Y hk' with⟨rfl,_⟩|⟨_,hk''⟩
  ·rfl
  exact hm.D8 k' j e'' M h'' h b hk'' hk hl' I aGk hh aGl hb
 refine .inl ⟨Z,u,fun hl c q hcb=>L ?_⟩;subst hcb;exact hm.D8 j k e' M h' h c Z hk hl I u hh q hb
def aKu (w:World) (g:Nat) (cs:Array Value) (k:Nat) (h:k≠g):(w.setRow g cs).heap[k]? =w.heap[k]? :=setRow_other w g k cs h
def setAt {α:Type} (cs:List α) (off:Nat) (ys:List α):List α:=cs.take off++ys++cs.drop (off+ys.length)
def RY {α:Type} {cs ys:List α} {off:Nat} (h:off+ys.length≤cs.length):(setAt cs off ys).length=cs.length:=by simp[setAt];omega
def Z8 {α:Type} {cs ys:List α} {off:Nat} (h:off+ys.length≤cs.length) (i:Nat) (z:α):(setAt cs off ys).getD i z=if off≤i∧i<off+ys.length then ys.getD (i-off) z else cs.getD i z:=by
 unfold setAt;have j:(cs.take off).length=off:=DW
 by_cases hi:i<off
 ·rw[CU AA];simp only[List.getD];rw[HY,GZ AA,LM hi]
 by_cases q:i<off+ys.length
 ·rw[CP AA];simp only[List.getD];rw[HY,Jf AA,j,GZ AA]
 rw[CU AA];simp only[List.getD];rw[Jf DW,Py];congr 2;simp;omega
def aRf {t:TypeId} {x y:Operand} {k off n:Nat} {cs:List Aa} {v:Aa} (hk:es[k]? =some (.box cs)) (hl:v.cells.all Aa.leaf=true) (hs:∀w,(sizeOf t).run P w=.ok n w) (hn:v.cells.length=n) (hle:off+n≤cs.length) (ho:o.op=.store t x y):
 BR P o [(x,.ptr k off),(y,v)] es .junk (es.set k (.box (setAt cs off v.cells))):=
 .eff fun C ok H a w hm I=>by
  have U:=(Eh I).1;have h2:=(Eh I).2;simp only at U h2;generalize he:a.eval x=u at U;obtain⟨h,hh,Y⟩:=GR hm.ent hm.hlen hk;obtain⟨b,vs,T,hb,q,J,L⟩:=Y;have j:=h2.ajx hl;cases U with
  |ptr _ _ M s hH=>
   rw[hh]at hH;obtain rfl:=CS hH;simp at hb;subst hb;have z:(a.eval y).cells.toList.length=n:=by rw[j.1,hn]
   have aJ2:vs.size=cs.length:=SL
   have Z:(a.eval y).cells.size=n:=Le
   have hst:=aHQ (P:=P) M off T (a.eval y).cells.toList 0 vs w q (by rw[z];omega) (fun u hu=>by
    obtain⟨i,hi,rfl⟩:=G5 hu;have O:=j.2 i (by rw[←j.1];exact hi);have :=O.2.leaf O.1
    rwa [aFw hi]at this)
   simp only[OD]at hst;have hlt:M<w.heap.size:=(GX.1 q).1
   obtain⟨h3,h4⟩:=hm.upd (e:=.box (setAt cs off v.cells)) (w':=w.setRow M (vs.toList.take off++(a.eval y).cells.toList++vs.toList.drop (off+(a.eval y).cells.toList.length)).toArray) hk rfl hh rfl rfl rfl rfl aI3 (fun c hc=>aKu _ _ _ _ hc) (fun hg=>by
    refine⟨M,_,T,rfl,sJ w M vs _ T (0,0) q,?_,fun i hi=>?_⟩
    ·have e1:(vs.toList.take off++(a.eval y).cells.toList++vs.toList.drop (off+(a.eval y).cells.toList.length))=setAt vs.toList off (a.eval y).cells.toList:=rfl;rw[e1,zL,RY (by have :=vs.length_toList;omega),RY AA];simpa using J
    have e1:(vs.toList.take off++(a.eval y).cells.toList++vs.toList.drop (off+(a.eval y).cells.toList.length))=setAt vs.toList off (a.eval y).cells.toList:=rfl;rw[RY AA]at hi;rw[e1,zL,Z8 (by have :=vs.length_toList;omega),Z8 AA,z,hn];split
    ·have O:=j.2 (i-off) AA;exact⟨O.1,O.2.mono hg (.refl _)⟩
    exact⟨(L i hi).1,(L i hi).2.mono hg (.refl _)⟩)
   refine⟨undef,_,ok,H,.inr ⟨rfl,?_⟩,h4,.refl _,h3,.junk _⟩;simp only[execOp,ho,he,Instr.storeAt,Instr.sureAddr,storeVar,FD,GI,FP,hs,Z,ne_eq,not_true_eq_false,Jl,hst]
end
def U3 (x:D) (es:List D):flat (x::es)=x.cells.map .d++flat es:=TN
def jG (xs ys:List D):flat (xs++ys)=flat xs++flat ys:=TN
def SP {size:Nat}:∀{es:List D},(∀x∈es,x.cells.length=size)→(flat es).length=es.length*size
 | [],_=>TN
 |x::es,h=>by
  rw[U3,E9,CB,h x Aw,SP (fun y j=>h y (F5 _ j)),FV,Pe,Ui]
def flat_get {size:Nat}:∀{es:List D},(∀x∈es,x.cells.length=size)→∀i j,i<es.length→j<size→(flat es).getD (i*size+j) .junk=.d ((es.getD i Dh).cells.getD j Dh)
 | [],_,i,j,hi,_=>Ot
 |x::es,h,0,j,_,u=>by
  have q:=h x Aw;rw[U3,zV,Ij];simp only[List.getD];rw[GZ (by simp[q,u])];have z:j<x.cells.length:=AA
  simp[z]
 |x::es,h,i+1,j,hi,u=>by
  have q:=h x Aw;have I:=flat_get (fun y J=>h y (F5 _ J)) i j G6 u;rw[U3];simp only[List.getD]at I ⊢;rw[Jf (by simp[q,Pe];omega)];have e:(i+1)*size+j-(x.cells.map Aa.d).length=i*size+j:=by simp[q,Pe];omega
  rw[e,I];simp
section
variable {P : Program} {o : Oper} {es : List Az}
structure VQ (w:World) (v:Value) (m size:Nat) (news:List Value):Prop where
 len:news.length=m*size
 one:∀u∈news,u.oneCell'=true
 at_:(∃ad c,v=.slice (some ad) m c∧∀(j:Nat) (u:Value),news[j]? =some u→w.cell? (ad.add j)=some u)∨(∃c,v=.slice none 0 c∧m=0)
def gq {ok:Nat→Prop} {w:World} (H:List BN) {ys:List D} {v:Value} {size:Nat} (h:Dk ok w (.sl ys) v) (hs:∀x∈ys,x.cells.length=size):
 ∃z,VQ w v ys.length size z∧F6 ok w H (flat ys) z:=by
 cases h with
 |sl0 ad cap=>
  refine⟨[],⟨Aw,Aw,?_⟩,TN,fun i hi=>aEt⟩;cases ad with
  |none=>exact .inr ⟨cap,rfl,rfl⟩
  |some ad=>exact .inl ⟨ad,cap,rfl,fun j u h=>Ig⟩
 |sl _ b off cap q hcap hok hs' hf hx hc=>
  by_cases hy:ys=[]
  ·subst hy;refine⟨[],⟨Aw,Aw,.inl ⟨⟨b,off,none⟩,cap,rfl,fun j u h=>Ig⟩⟩,TN,fun i hi=>aEt⟩
  have J:0<ys.length:=lY.2 hy;have hsz:q=size:=by rw[←hs' 0 J];exact hs _ (by simp[List.getD,J])
  subst hsz;have hl:=SP hs
  have key:∀k,k<ys.length*q→∃i j,k=i*q+j∧i<ys.length∧j<q:=by
   intro k I
   have hp:0<q:=by
    rcases Yk q with h0|h0
    ·rw[h0,Nat.mul_zero]at I;omega
    exact h0
   exact⟨k/q,k % q,by rw[Um];exact(aBa k q).symm,xU (by rwa [Um]at I),jU _ hp⟩
  let z:List Value:=(List.range (ys.length*q)).map fun k=>cellAt w b (off+k)
  have L:z.length=ys.length*q:=by simp[z]
  have O:∀k,k<ys.length*q→z.getD k undef=cellAt w b (off+k):=by
   intro k I;simp[z,List.getD,I]
  have M:F6 ok w H (flat ys) z:=by
   refine⟨by rw[L,hl],fun k I=>?_⟩;rw[hl]at I;obtain⟨i,j,rfl,hi,U⟩:=key k I;rw[flat_get hs i j hi U,O _ I];exact⟨hf i hi j U,.d _ _ (hc i hi j U)⟩
  refine⟨z,⟨L,fun u hu=>?_,.inl ⟨⟨b,off,none⟩,cap,rfl,fun k u I=>?_⟩⟩,M⟩
  ·obtain⟨k,I,rfl⟩:=G5 hu;have h5:=M.2 k (by rw[←M.1];exact I);have :=h5.2.leaf h5.1
   rwa [aFw I]at this
  obtain⟨Y,rfl⟩:=FI.1 I;rw[addr_add];have Z:k<ys.length*q:=by rw[←L];exact Y
  obtain⟨i,j,e,hi,U⟩:=key k Z;have hxx:=hx i hi j U;rw[←e]at hxx;obtain⟨u',hu'⟩:=SX.1 hxx;have :=O k Z;rw[aFw Y]at this;rw[this];simp[cellAt,hu']
structure Gs (P:Program) (t e:TypeId) (size bytes:Nat):Prop where
 und:P.underlying t=some (.slice e)
 info:∃i z,P.info? e=some i∧i.zero=some z∧i.size=size∧i.bytes=bytes∧z.cells.size=size
 pos:0<size
def aW9 (P:Program) (t e size j:Nat):Bool:=
 (match P.underlying t with |some (.slice e')=>decide (e'=e)|_=>false)&&(match P.info? e with |some i=>decide (i.size=size)&&decide (i.bytes=j)&&(match i.zero with |some z=>decide (z.cells.size=size)|none=>false)|none=>false)&&decide (0<size)
def NW {P:Program} {t e size j:Nat} (h:aW9 P t e size j=true):Gs P t e size j:=by
 unfold aW9 at h;simp only[CZ,GN]at h;obtain⟨⟨q,u⟩,J⟩:=h;refine⟨?_,?_,J⟩
 ·split at q
  ·rename_i e' L;rw[L];simp at q;rw[q]
  cases q
 split at u
 ·rename_i i hi;simp only[CZ,GN]at u;obtain⟨⟨M,O⟩,I⟩:=u;split at I
  ·rename_i z U;exact⟨i,z,hi,U,M,O,Rf⟩
  cases I
 cases u
def agf {w:World} {t e:TypeId} {ty:TypeId} {size O:Nat} (hE:Gs P t e size O) {v:Value} {n:Nat} {xs:List Value} (L:w.ownsRow 0 e size v n xs) {x:Value} {m:Nat} {I:List Value} (q:VQ w x m size I)
 (hb:(n+m)*O≤140737488355328) (hn:n+m≤maxLen):
 ∃v' w',(Builtin.append_ #[t,t] ty #[v,x]).run P w=.ok v' w'∧w'.ownsRow 0 e size v' (n+m) (xs++I)∧w.grownBy w' v.ownBlock∧(∀g,D6 v'=some g→D6 v=some g∨w.heap.size≤g):=by
 obtain⟨i,z,hi,hz,hs,Z,hzs⟩:=hE.info;rcases q.at_ with⟨ad,c,rfl,J⟩|⟨c,rfl,rfl⟩
 ·obtain⟨v',w',hr,ho',hg,hnil⟩:=run_append_own (P:=P) w 0 t ty e i z size O hE.und hi hz hs Z hzs hE.pos v n xs L ad m c I q.len J q.one hn hb (Ci _);refine⟨v',w',hr,ho',hg,fun g U=>?_⟩;rcases L.2 with⟨rfl,rfl⟩|⟨g0,cap,cur,rfl,hbg,hg0,hnc,hcm,hcs,htake⟩
  ·have hx:xs=[]:=Gh (by simpa using L.1);subst hx;obtain⟨v2,w2,M,ho2,_,_⟩:=run_append_own (P:=P) w w.heap.size t ty e i z size O hE.und hi hz hs Z hzs hE.pos _ 0 [] (aAr w w.heap.size e size) ad m c I q.len J q.one hn hb (Dn _);rw[hr]at M;simp only[Result.ok.injEq]at M;obtain⟨rfl,rfl⟩:=M;rcases ho2.2 with⟨rfl,_⟩|⟨g',_,_,rfl,hle,_⟩
   ·simp[D6]at U
   simp[D6]at U;subst U;exact .inr hle
  by_cases Y:n+m≤cap
  ·have hfit:n*i.size+I.length≤cur.size:=by rw[q.len,hcs,hs,←Xl];exact JR _ Y
   have M:=run_append_room (P:=P) w t ty e i hE.und hi g0 n cap cur hg0 ad m c I (by rw[hs];exact q.len) J q.one Y hfit;rw[hr]at M;simp only[Result.ok.injEq]at M;obtain⟨rfl,rfl⟩:=M;exact .inl U
  have holds:∀(j:Nat) (u:Value),xs[j]? =some u→w.cell? ((⟨g0,0,none⟩:Addr).add j)=some u:=L.cells (g:=g0) rfl;have M:=run_append_grow (P:=P) w t ty e i z hE.und hi hz ⟨g0,0,none⟩ n cap xs (by rw[hs];exact L.1) holds ad m c I (by rw[hs];exact q.len) J AA (by unfold maxLen at hn;omega) (growslice_fits AA (by rw[Z];exact hb));rw[hr]at M;simp only[Result.ok.injEq]at M;obtain⟨rfl,rfl⟩:=M;simp[D6]at U;subst U;exact .inr (Dn _)
 have hnews:I=[]:=Gh (by simpa using q.len);subst hnews;refine⟨v,w,?_,Wu,⟨rfl,rfl,rfl,Dn _,fun _ _ _=>rfl⟩,fun g hg=>.inl hg⟩;rcases L.2 with⟨rfl,rfl⟩|⟨g,cap,cur,rfl,_,_,hnc,_⟩
 ·simp[Builtin.append_,aD1 hE.und,sizeOf,typeInfo,hi,Builtin.lenOf,Builtin.firstCells]
 simp[Builtin.append_,aD1 hE.und,sizeOf,typeInfo,hi,Builtin.lenOf,Builtin.firstCells,hnc,storeCells]
def aMF {w:World} {t e:TypeId} {ty:TypeId} {size I:Nat} (hE:Gs P t e size I) {v:Value} {n:Nat} {xs:List Value} (u:lH w e size v n xs) {x:Value} {m:Nat} {q:List Value} (j:VQ w x m size q)
 (hb:(n+m)*I≤140737488355328) (hn:n+m≤maxLen):
 ∃v' w',(Builtin.append_ #[t,t] ty #[v,x]).run P w=.ok v' w'∧lH w' e size v' (n+m) (xs++q)∧w.grownBy w' v.ownBlock∧(∀g,D6 v'=some g→D6 v=some g∨w.heap.size≤g):=by
 rcases u.2 with h|⟨g,cap,cur,rfl,h0,hg0,hnc,hcm,hcs,U⟩
 ·obtain⟨v',w',h1,h2,Y,h4⟩:=agf (ty:=ty) hE ⟨u.1,.inl h⟩ j hb hn;exact⟨v',w',h1,.of h2,Y,h4⟩
 obtain⟨i,z,hi,hz,hs,hby,hzs⟩:=hE.info;have hlen:(xs++q).length=(n+m)*size:=by rw[E9,u.1,j.len,Xl]
 rcases j.at_ with⟨ad,c,rfl,L⟩|⟨c,rfl,rfl⟩
 ·by_cases J:n+m≤cap
  ·have O:n*i.size+q.length≤cur.size:=by
    rw[j.len,hs,←Xl];exact Ed (JR _ J) hcs
   have hr:=run_append_room (P:=P) w t ty e i hE.und hi g n cap cur hg0 ad m c q (by rw[hs];exact j.len) L j.one J O;rw[hs]at hr O;refine⟨_,_,hr,⟨hlen,.inr ⟨g,cap,_,rfl,Ci _,sJ w g cur _ e _ hg0,J,hcm,?_,?_⟩⟩,⟨rfl,rfl,rfl,Aw,fun k _ hk=>setRow_other w g k _ (fun e=>hk (by simp[Value.ownBlock,e]))⟩,fun g' M=>.inl M⟩
   ·simp only[jR,E9,F7,IJ,Sm];omega
   rw[U,←hlen];exact aA1
  obtain⟨v',w',h1,h2,Y⟩:=run_append_arg_grows (P:=P) w t ty e i z size I hE.und hi hz hs hby hzs hE.pos ⟨g,0,none⟩ n cap xs u.1 (u.cells (g:=g) rfl) ad m c q j.len L AA hn hb;refine⟨v',w',h1,.of h2,⟨Y.os,Y.tape,Y.output,Y.size,fun k hk _=>Y.block k hk Aw⟩,fun g' M=>.inr ?_⟩;rcases h2.2 with⟨rfl,_⟩|⟨g2,_,_,rfl,hle2,_⟩
  ·simp[D6]at M
  simp[D6]at M;subst M;exact hle2
 have Z:q=[]:=Gh (by simpa using j.len);subst Z;refine⟨.slice (some ⟨g,0,none⟩) n cap,w,?_,TS,⟨rfl,rfl,rfl,Dn _,fun _ _ _=>rfl⟩,fun g hg=>.inl hg⟩;simp[Builtin.append_,aD1 hE.und,sizeOf,typeInfo,hi,Builtin.lenOf,Builtin.firstCells,hnc,storeCells]
def Ce.turn {C:EP} {ok:Nat→Prop} {H:List BN} {w w':World} (hm:Ce C ok H es w) {k:Nat} {e0 e:Az} {h h':BN} (hk:es[k]? =some e0) (M:e0.live=true) (hh:H[k]? =some h)
 (hos:w'.os=w.os) (O:w'.tape=w.tape) (hout:w'.output=w.output) (U:w.heap.size≤w'.heap.size)
 (J:∀c,c<w.heap.size→D6 h.v≠some c→w'.heap[c]? =w.heap[c]?) (hb':∀g,D6 h'.v=some g→g<w'.heap.size∧(D6 h.v=some g∨w.heap.size≤g))
 (he:EN ok w ok w'→En ok w' (H++[h']) h' e):Ce C ok (H++[h']) (es.set k .dead++[e]) w'∧EN ok w ok w':=by
 have h0:=fun b hb=>hm.blk k e0 h b hk M hh hb;have hkl:k<es.length:=(FI.1 hk).1;have hg:EN ok w ok w':=fun c I=>⟨I,J c (hm.kN c I) (fun e=>(h0 c e).1 I)⟩
 refine hm.change (fun c=>D6 h.v=some c) hos O hout U J (fun c I _=>⟨(h0 c I).1,(h0 c I).2.2⟩) (fun _ h=>h) (fun _ h=>.inl h) (Names.push _ _) Zp ?_;intro j e' hj' hj u;rcases X8 hj with h1|⟨h1,h2⟩
 ·have hjl:j<H.length:=by rw[hm.hlen];simpa using(FI.1 h1).1
  rw[GZ hjl]at u;rcases LD hkl h1 with⟨rfl,rfl⟩|⟨Y,h3⟩
  ·exact .inr ⟨trivial,fun h=>Ie⟩
  refine .inl ⟨h3,u,fun hl c I hcb=>Y ?_⟩;exact hm.D8 j k e' e0 hj' h c h3 hk hl M u hh I hcb
 subst h2;have hk2:j=H.length:=by rw[hm.hlen];simpa using h1
 subst hk2;simp at u;subst u;refine .inr ⟨he hg,fun _ c I=>?_⟩;obtain⟨h3,q⟩:=hb' c I;refine⟨fun hok=>?_,h3,?_,fun k' e'' h'' Y hk' Z z L=>?_⟩
 ·rcases q with q|q
  ·exact(h0 c q).1 hok
  have :=hm.kN c hok;omega
 ·rcases q with q|q
  ·exact(h0 c q).2.2
  exact .inl (Ed hm.fr.size q)
 rcases X8 hk' with h5|⟨h5,_⟩
 ·have hkl':k'<H.length:=by rw[hm.hlen];simpa using(FI.1 h5).1
  rw[GZ hkl']at z;rcases LD hkl h5 with⟨rfl,rfl⟩|⟨hne',h6⟩
  ·cases Z
  rcases q with q|q
  ·exact hne' (hm.D8 k' k e'' e0 h'' h c h6 hk Z M z hh L q)
  have :=(hm.blk k' e'' h'' c h6 Z z L).2.1;omega
 simp at h5;exact Y (by rw[h5,hm.hlen])
def rV {w:World} {e size n:Nat} {v:Value} {xs:List Value} (h:lH w e size v n xs) {g:Nat} (j:D6 v=some g):g<w.heap.size:=by
 rcases h.2 with⟨rfl,_⟩|⟨u,_,_,rfl,_,q,_⟩
 ·simp[D6]at j
 simp[D6]at j;subst j;exact(GX.1 q).1
def aJR {w:World} {e size n:Nat} {v:Value} {xs:List Value} (h:lH w e size v n xs):v.ownBlock=D6 v:=by
 rcases h.2 with⟨rfl,_⟩|⟨j,_,_,rfl,_⟩<;>rfl
def Nq {ok:Nat→Prop} {w:World} {H:List BN} {k:Nat} {v:Value} {h:BN} (q:R ok w H (.aY k) v) (u:H[k]? =some h):v=h.v:=by
 cases q with
 |aY _ ad n cap s j=>rw[u]at j;rw[CS j]
def afb {C:EP} {ok:Nat→Prop} {H:List BN} {w:World} (hm:Ce C ok H es w) {t ty e:TypeId} {size q k:Nat} {xs ys:List D} (hE:Gs P t e size q) (hk:es[k]? =some (.arr e size xs))
 {v x:Value} (hv:R ok w H (.aY k) v) {j:List Value} (L:VQ w x ys.length size j) (I:F6 ok w H (flat ys) j) (hys:∀y∈ys,y.cells.length=size) (hb:(xs.length+ys.length)*q≤140737488355328) (hn:xs.length+ys.length≤maxLen):
 ∃v' w' H',(Builtin.append_ #[t,t] ty #[v,x]).run P w=.ok v' w'∧EN ok w ok w'∧Names H H'∧Ce C ok H' (es.set k .dead++[.arr e size (xs++ys)]) w'∧R ok w' H' (.aY es.length) v':=by
 obtain⟨h,hh,hok⟩:=GR hm.ent hm.hlen hk;obtain rfl:=Nq hv hh;obtain⟨h1,h2,Cb,z,hrs⟩:=hok;obtain⟨v',w',hr,J,M,O⟩:=aMF (P:=P) (ty:=ty) hE z L hb hn
 obtain⟨h3,h4⟩:=hm.turn (h':=⟨v',size⟩) (e:=.arr e size (xs++ys)) hk rfl hh M.os M.tape M.output M.size (fun c hc hne=>M.block c hc (by rw[aJR z];exact fun e=>hne e.symm)) (fun g U=>⟨rV J U,O g U⟩) (fun Y=>by
  refine⟨rfl,fun y hy=>?_,Cb++j,SL,?_⟩
  ·rcases Hl.1 hy with h|h
   ·exact h2 y h
   exact hys y h
  have Z:=hrs.mono Y (Names.push H [⟨v',size⟩]);have a2:=I.mono Y (Names.push H [⟨v',size⟩]);rw[jG];refine⟨by rw[E9,E9,Z.1,a2.1],fun i hi=>?_⟩;by_cases u:i<(flat xs).length
  ·have e1:(flat xs++flat ys).getD i .junk=(flat xs).getD i .junk:=by simp[List.getD,GZ u]
   have e2:(Cb++j).getD i undef=Cb.getD i undef:=by simp[List.getD,GZ (by rw[Z.1];exact u:i<Cb.length)]
   rw[e1,e2];exact Z.2 i u
  have hi3:i-(flat xs).length<(flat ys).length:=aOf
  have e1:(flat xs++flat ys).getD i .junk=(flat ys).getD (i-(flat xs).length) .junk:=by simp[List.getD,Jf (WT u)]
  have e2:(Cb++j).getD i undef=j.getD (i-(flat xs).length) undef:=by simp[List.getD,Jf (by rw[Z.1];omega:Cb.length≤i),Z.1]
  rw[e1,e2];exact a2.2 _ hi3)
 refine⟨v',w',_,hr,h4,Names.push _ _,h3,?_⟩;have hH:(H++[(⟨v',size⟩:BN)])[es.length]? =some ⟨v',size⟩:=Pm
 rcases J.2 with⟨rfl,_⟩|⟨g',c',_,rfl,_⟩
 ·exact .aY _ _ _ _ size hH
 exact .aY _ _ _ _ size hH
def ajI {s x:Operand} {t e:TypeId} {size j k:Nat} {xs ys:List D} (hE:Gs P t e size j) (U:es[k]? =some (.arr e size xs)) (q:∀y∈ys,y.cells.length=size)
 (Y:(xs.length+ys.length)*j≤140737488355328) (Z:xs.length+ys.length≤maxLen) (ho:o.op=.call { callee:=.builtin .append,args:= #[s,x],argTypes:= #[t,t] }):
 BR P o [(s,.aY k),(x,.d (.sl ys))] es (.aY es.length) (es.set k .dead++[.arr e size (xs++ys)]):=
 .eff fun C ok H a w hm u=>by
  have L:=(Eh u).1;have M:=(Eh u).2;simp only at L M;have I:Dk ok w (.sl ys) (a.eval x):=by cases M with |d _ _ h=>exact h
  obtain⟨O,z,J⟩:=gq H I q;obtain⟨v',w',H',hr,r1,r2,r3,r4⟩:=afb (ty:=o.type) hm hE U L z J q Y Z;refine⟨v',w',ok,H',.inl ?_,r1,r2,r3,r4⟩;simp[execOp,ho,resolve,invoke,builtin,hr]
def aNd {C:EP} {ok:Nat→Prop} {H:List BN} {w:World} (hm:Ce C ok H es w) (e:TypeId) (size:Nat):
 Ce C ok (H++[⟨.slice none 0 0,size⟩]) (es++[.arr e size []]) w∧R ok w (H++[⟨.slice none 0 0,size⟩]) (.aY es.length) (.slice none 0 0):=by
 obtain⟨h,_⟩:=hm.change (ok':=ok) (w':=w) (H':=H++[⟨.slice none 0 0,size⟩]) (es':=es++[.arr e size []]) (fun _=>False) rfl rfl rfl (Dn _) (fun _ _ _=>rfl) (fun _ h=>h.elim) (fun _ h=>h) (fun _ h=>.inl h) (Names.push _ _) Zp (by
  intro k e' h' u j;rcases X8 u with q|⟨q,I⟩
  ·have z:k<H.length:=by rw[hm.hlen];exact(FI.1 q).1
   rw[GZ z]at j;exact .inl ⟨q,j,fun _ _ _ h=>h⟩
  subst I;have z:k=H.length:=by rw[hm.hlen];exact q
  subst z;simp at j;subst j
  exact .inr ⟨⟨rfl,Aw,[],⟨Aw,.inl ⟨rfl,rfl⟩⟩,TN,fun i hi=>aEt⟩,fun _ b J=>by simp[D6]at J⟩)
 exact⟨h,.aY _ _ _ _ size Pm⟩
def Cj (e:TypeId) (size:Nat) (j:o.op=.assign (.const (.slice none 0 0))):BR P o [] es (.aY es.length) (es++[.arr e size []]):=
 .eff fun C ok H a w hm _=>by
  obtain⟨q,u⟩:=aNd hm e size;exact⟨.slice none 0 0,w,ok,_,.inl aOR,.refl _ _,Names.push _ _,q,u⟩
def ae0 (j:o.op=.assign (.const (.slice none 0 0))):BR P o [] es (.d (.sl [])) es:=
 .pure fun _ _ a w _ _ _=>⟨.slice none 0 0,aOR,.d _ _ (.sl0 none 0)⟩
def ae4 (j:o.op=.move (.const (.slice none 0 0))):BR P o [] es (.d (.sl [])) es:=
 .pure fun _ _ a w _ _ _=>⟨.slice none 0 0,aOR,.d _ _ (.sl0 none 0)⟩
end
def aQJ (off:Nat):∀(vs:List Value) (i:Nat) (cells:Array Value),off+i+vs.length≤cells.size→
 ((vs.zipIdx i).foldl (fun cs (p:Value×Nat)=>cs.setIfInBounds (off+p.2) p.1) cells).toList=setAt cells.toList (off+i) vs
 | [],i,cells,h=>by simp[setAt]
 |v::vs,i,cells,h=>by
  simp only[FV]at h;rw[List.zipIdx_cons,Ey];rw[aQJ off vs (i+1) _ DW];simp only[aO6];have j:off+i<cells.toList.length:=DW
  unfold setAt;rw[aN5,CP j];have q:(cells.toList.take (off+i)).length=off+i:=DW
  have u:(List.take (off+i) cells.toList++v::List.drop (off+i+1) cells.toList).take (off+(i+1))=cells.toList.take (off+i)++[v]:=by
   rw[aCt,q,Po AA];have :off+(i+1)-(off+i)=1:=AA
   rw[this];simp
  have z:(List.take (off+i) cells.toList++v::List.drop (off+i+1) cells.toList).drop (off+(i+1)+vs.length)=cells.toList.drop (off+i+(vs.length+1)):=by
   rw[aIx,q,uZ AA];have :off+(i+1)+vs.length-(off+i)=vs.length+1:=AA
   rw[this];simp[aIF];congr 1;omega
  rw[u,z];simp
def Nl :List (Nat×Operand)→List Aa→List (Operand×Aa)
 |(_,x)::j,v::vs=>(x,v)::Nl j vs
 |_,_=>[]
def NK (place:Nat→Option (Nat×Nat)) (n:Nat):List (Nat×Operand)→List Aa→Bool
 |(i,_)::j,v::vs=>(match place i with |some (off,s)=>decide (v.cells.length=s)&&decide (off+s≤n)&&v.cells.all Aa.leaf|none=>false)&&NK place n j vs
 | [],[]=>true
 |_,_=>false
def Jz (place:Nat→Option (Nat×Nat)):List Aa→List (Nat×Operand)→List Aa→List Aa
 |cs,(i,_)::j,v::vs=>Jz place (setAt cs ((place i).getD (0,0)).1 v.cells) j vs
 |cs,_,_=>cs
def F6.setAt {ok:Nat→Prop} {w:World} {H:List BN} {cs ys:List Aa} {vs us:List Value} {off:Nat} (h:F6 ok w H cs vs) (k:F6 ok w H ys us) (j:off+ys.length≤cs.length):F6 ok w H (setAt cs off ys) (setAt vs off us):=by
 refine⟨by rw[RY (by rw[h.1,k.1];exact j),RY j,h.1],fun i hi=>?_⟩;rw[RY j]at hi;rw[Z8 j,Z8 (by rw[h.1,k.1];exact j),k.1];split
 ·exact k.2 _ AA
 exact h.2 i hi
def nU {ok:Nat→Prop} {w:World} {H:List BN} {place:Nat→Option (Nat×Nat)} {a:Act}:∀(q:List (Nat×Operand)) (vs:List Aa) (cs:List Aa) (cells:Array Value),F6 ok w H cs cells.toList→NK place cs.length q vs=true→
 (∀n∈Nl q vs,R ok w H n.2 (a.eval n.1))→∃j,Instr.fill place cells (q.map fun p=>(p.1,a.eval p.2))=some j∧F6 ok w H (Jz place cs q vs) j.toList
 | [],[],cs,cells,J,_,_=>⟨cells,rfl,J⟩
 | [],_::_,_,_,_,h,_=>by simp[NK]at h
 |_::_,[],_,_,_,h,_=>by simp[NK]at h
 |(i,x)::q,v::vs,cs,cells,J,h,M=>by
  simp only[NK,CZ]at h;obtain⟨u,Y⟩:=h;cases hp:place i with
  |none=>rw[hp]at u;cases u
  |some os=>
   obtain⟨off,s⟩:=os;rw[hp]at u;simp only[CZ,GN]at u;obtain⟨⟨h3,h4⟩,Z⟩:=u;have O:F6 ok w H v.cells (a.eval x).cells.toList:=(M (x,v) (by simp[Nl])).ajx Z;have hsz:(a.eval x).cells.size=s:=by have :=O.1;simp at this;omega
   have U:cells.size=cs.length:=by simpa using J.1
   have z:((a.eval x).cells.zipIdx.foldl (fun cs (p:Value×Nat)=>cs.setIfInBounds (off+p.2) p.1) cells).toList=setAt cells.toList off (a.eval x).cells.toList:=by
    rw[←Array.foldl_toList,Array.toList_zipIdx];exact aQJ off (a.eval x).cells.toList 0 cells DW
   have I:=J.setAt O (off:=off) AA;rw[←z]at I;obtain⟨j,hc,hR⟩:=nU q vs (setAt cs off v.cells) _ I (by rw[RY AA];exact Y) (fun n L=>M n (by simp[Nl,L]));refine⟨j,?_,?_⟩
   ·simp only[Ia,Instr.fill,hp];rw[CU DW];exact hc
   simp only[Jz,hp,MF];exact hR
def QX (z:Value) (n:Nat):List Aa:=(List.range n).map fun k=>(FU z).getD (k % z.cells.size) .junk
def ao3 {ok:Nat→Prop} {w:World} {H:List BN} {z:Value} {n:Nat} (hl:z.cells.all (·.oneCell')=true) (q:0<z.cells.size):F6 ok w H (QX z n) (((Array.range n).map (z.cells[· % z.cells.size]!)).toList):=by
 refine⟨by simp[QX],fun i hi=>?_⟩;have j:i<n:=by simpa[QX]using hi
 have hm:i % z.cells.size<z.cells.size:=jU _ q;have u:(QX z n).getD i .junk=.d (Oe z.cells[i % z.cells.size]):=by simp[QX,FU,List.getD,j,hm]
 have I:(((Array.range n).map (z.cells[· % z.cells.size]!)).toList).getD i undef=z.cells[i % z.cells.size]:=by simp[List.getD,j,hm]
 rw[u,I];exact⟨yP ((Sr.1 hl) _ Aw),.d _ _ (lV _)⟩
def aPm {ok:Nat→Prop} {w:World} {H:List BN} {z:Value} (hl:z.cells.all (·.oneCell')=true):F6 ok w H (FU z) z.cells.toList:=by
 refine⟨by simp[FU],fun i hi=>?_⟩;simp only[FU,CB,Sm]at hi;have j:(FU z).getD i .junk=.d (Oe z.cells[i]):=by simp[FU,List.getD,hi]
 have q:z.cells.toList.getD i undef=z.cells[i]:=NZ
 rw[j,q];exact⟨yP ((Sr.1 hl) _ Aw),.d _ _ (lV _)⟩
def aMd {P:Program} {w:World}:∀(l:List Field),(∀f∈l,(P.info? f.type).isSome=true)→
 (l.mapM fun f=>(do pure (f.offset,←sizeOf f.type):Sem (Nat×Nat))).run P w=.ok (l.map fun f=>(f.offset,P.cellsOf f.type)) w
 | [],_=>rfl
 |f::l,h=>by
  obtain⟨i,hi⟩:=SX.1 (h f Aw);have j:=aMd (P:=P) (w:=w) l (fun g q=>h g ZX);have hs:(sizeOf f.type).run P w=.ok i.size w:=by simp[sizeOf,typeInfo,hi]
  have u:P.cellsOf f.type=i.size:=by simp[Program.cellsOf,hi]
  simp only[List.mapM_cons,FD,hs,FP,GI,j,Ia,u]
structure JB (P:Program) (t:TypeId) (places:List (Nat×Nat)) (z:Value):Prop where
 fields:∃fs,P.underlying t=some (.struct fs)∧(∀f∈fs.toList,(P.info? f.type).isSome=true)∧(fs.toList.map fun f=>(f.offset,P.cellsOf f.type))=places
 zero:(P.info? t).bind (·.zero)=some z
 one:z.cells.all (·.oneCell')=true
def aRc (P:Program) (t:TypeId) (j:List (Nat×Nat)):Bool:=
 match P.underlying t with
 |some (.struct q)=>q.toList.all (fun f=>(P.info? f.type).isSome)&&decide ((q.toList.map fun f=>(f.offset,P.cellsOf f.type))=j)
 |_=>false
def LV {P:Program} {t:TypeId} {j:List (Nat×Nat)} {z:Value} (h:aRc P t j=true) (q:(P.info? t).bind (·.zero)=some z) (u:z.cells.all (·.oneCell')=true):JB P t j z:=by
 unfold aRc at h;split at h
 ·rename_i I J;simp only[CZ,Di,GN]at h;exact⟨⟨I,J,h.1,h.2⟩,q,u⟩
 cases h
section
variable {P : Program} {o : Oper} {es : List Az}
def aE7 {t:TypeId} {z:Value} (q:(P.info? t).bind (·.zero)=some z) (w:World):(zeroValue t).run P w=.ok z w:=by
 obtain⟨i,hi,j⟩:=eS.1 q;simp[zeroValue,typeInfo,hi,j]
def aTb {l:List Aa} (h:l.all Aa.AO=true):l=(Iw l).map .d:=by
 rw[Di]at h;unfold Iw;rw[V7]
 conv=>lhs;rw[←aDh l]
 refine Yj fun x j=>?_;have :=h x j;cases x<;>first|rfl|(simp[Aa.AO]at this)
def ahl {t:TypeId} {q:Array (Nat×Operand)} {j:List (Nat×Nat)} {z:Value} (hS:JB P t j z) (vs:List Aa) (hp:NK (fun(i:Nat)=>j[i]?) (FU z).length q.toList vs=true) (ho:o.op=.build t q):
 BR P o (Nl q.toList vs) es (.ag (Jz (fun(i:Nat)=>j[i]?) (FU z) q.toList vs)) es:=
 .pure fun ok H a w _ _ hn=>by
  obtain⟨⟨Y,hu,hf,J⟩,hz,h1⟩:=hS;have L:=aE7 (P:=P) hz w;have M:(underlying t).run P w=.ok (.struct Y) w:=aG4
  have hm:(Y.mapM fun f=>(do pure (f.offset,←sizeOf f.type):Sem (Nat×Nat))).run P w=.ok j.toArray w:=by
   rw[aPu];rw[vG,aMd _ hf,J];rfl
  obtain⟨u,hc,I⟩:=nU (place:=fun(i:Nat)=>j[i]?) q.toList vs (FU z) z.cells (aPm (ok:=ok) (w:=w) (H:=H) h1) hp hn;refine⟨.agg u,?_,.ag _ _ (by simpa using I.1) (fun i hi=>(I.2 i hi).1) (fun i hi=>?_)⟩
  rotate_left
  ·have Z:=(I.2 i hi).2;have O:i<u.size:=by have :=I.1;simp at this;omega
   have U:u.toList.getD i undef=u.getD i undef:=by simp[List.getD,Array.getD,O]
   rw[U]at Z;exact Z
  have e:(q.map fun(i,x)=>(i,a.eval x)).toList=q.toList.map fun p=>(p.1,a.eval p.2):=Aw
  have U:(fun(i:Nat)=>j.toArray[i]?)=(fun(i:Nat)=>j[i]?):=by funext i;simp
  simp only[execOp,ho,Instr.build,FD,L,M,hm,FP];rw[e,U,hc];rfl
def anV {t:TypeId} {q:Array (Nat×Operand)} {j:List (Nat×Nat)} {z:Value} (hS:JB P t j z) (vs:List Aa) (hp:NK (fun(i:Nat)=>j[i]?) (FU z).length q.toList vs=true)
 (hd:(Jz (fun(i:Nat)=>j[i]?) (FU z) q.toList vs).all Aa.AO=true) (ho:o.op=.build t q):
 BR P o (Nl q.toList vs) es (.d (.agg (Iw (Jz (fun(i:Nat)=>j[i]?) (FU z) q.toList vs)))) es:=
 .pure fun ok H a w _ _ hn=>by
  obtain⟨⟨fs,hu,hf,I⟩,hz,h1⟩:=hS;have J:=aE7 (P:=P) hz w;have L:(underlying t).run P w=.ok (.struct fs) w:=aG4
  have hm:(fs.mapM fun f=>(do pure (f.offset,←sizeOf f.type):Sem (Nat×Nat))).run P w=.ok j.toArray w:=by
   rw[aPu];rw[vG,aMd _ hf,I];rfl
  obtain⟨u,hc,M⟩:=nU (place:=fun(i:Nat)=>j[i]?) q.toList vs (FU z) z.cells (aPm (ok:=ok) (w:=w) (H:=H) h1) hp hn;refine⟨.agg u,?_,.d _ _ ?_⟩
  ·have e:(q.map fun(i,x)=>(i,a.eval x)).toList=q.toList.map fun p=>(p.1,a.eval p.2):=Aw
   have e2:(fun(i:Nat)=>j.toArray[i]?)=(fun(i:Nat)=>j[i]?):=by funext i;simp
   simp only[execOp,ho,Instr.build,FD,J,L,hm,FP];rw[e,e2,hc];rfl
  rw[aTb hd]at M;generalize Iw (Jz (fun(i:Nat)=>j[i]?) (FU z) q.toList vs)=xs at M ⊢;obtain⟨h2,O⟩:=M;simp only[CB]at h2 O
  have hg:∀i,i<xs.length→(xs.map Aa.d).getD i .junk=.d (xs.getD i Dh):=by
   intro i hi;simp[List.getD,hi]
  have U:u.size=xs.length:=yD
  refine .agg xs u U ?_ ?_<;>intro i hi
  ·have :=(O i hi).1;rw[hg i hi]at this;exact this
  have Y:=(O i hi).2;rw[hg i hi]at Y;have Z:i<u.size:=AA
  have e:u.toList.getD i undef=u.getD i undef:=by simp[List.getD,Array.getD,Z]
  rw[e]at Y;cases Y with |d _ _ h=>exact h
def aiO {ok:Nat→Prop} {w:World} {H:List BN} {ys:List D} {size b:Nat} {cells:Array Value} {e:TypeId} {fr:Nat×Nat} (u:∀y∈ys,y.cells.length=size) (O:w.heap[b]? =some (.cells cells e fr)) (z:ok b) (I:F6 ok w H (flat ys) cells.toList):
 Dk ok w (.sl ys) (.slice (some ⟨b,0,none⟩) ys.length ys.length):=by
 have hl:=SP u;have J:cells.size=ys.length*size:=by have :=I.1;simp at this;omega
 have U:∀i,i<ys.length→ys.getD i Dh∈ys:=fun i hi=>NZ
 have L:∀i j,i<ys.length→j<size→i*size+j<ys.length*size:=by
  intro i j hi q
  calc i*size+j<i*size+size:=AA
   _=(i+1)*size:=by rw[Pe]
   _≤ys.length*size:=JR _ hi
 have M:∀i j,i<ys.length→j<size→w.cell? ⟨b,0+(i*size+j),none⟩=some (cells.toList.getD (i*size+j) undef):=by
  intro i j hi q;have :=L i j hi q;rw[Ij];simp[World.cell?,O,J,this,List.getD]
 refine .sl ys b 0 ys.length size (Dn _) (fun _ _=>z) (fun i hi=>u _ (U i hi)) (fun i hi j q=>?_) (fun i hi j q=>?_) (fun i hi j q=>?_)
 ·have :=(I.2 (i*size+j) (by rw[hl];exact L i j hi q)).1;rw[flat_get u i j hi q]at this;exact this
 ·rw[M i j hi q];rfl
 have :=(I.2 (i*size+j) (by rw[hl];exact L i j hi q)).2;rw[flat_get u i j hi q]at this;unfold cellAt;rw[M i j hi q];cases this with |d _ _ h=>exact h
def aW8 {t e:TypeId} {size u len:Nat} {z:Value} (hE:Gs P t e size u) (hz:(P.info? e).bind (·.zero)=some z) (h1:z.cells.all (·.oneCell')=true) (Y:z.cells.size=size) (hlen:len*size≤16777216) {j:Array (Nat×Operand)} {vs:List Aa}
 (hp:NK (fun i=>some (i*size,size)) (len*size) j.toList vs=true) {ok:Nat→Prop} {w:World} {H:List BN} {a:Act} (hn:∀n∈Nl j.toList vs,R ok w H n.2 (a.eval n.1)):
 ∃cells,(Instr.buildSlice t len (j.map fun(i,x)=>(i,a.eval x))).run P w=.ok (.slice (some ⟨w.heap.size,0,none⟩) len len) (w.alloc (.cells cells e))∧F6 ok w H (Jz (fun i=>some (i*size,size)) (QX z (len*size)) j.toList vs) cells.toList:=by
 obtain⟨i,z',hi,_,hs,_,_⟩:=hE.info;have Z:=aE7 (P:=P) hz w;have I:(sizeOf e).run P w=.ok size w:=aJj
 have J:(underlying t).run P w=.ok (.slice e) w:=aKd
 have e0:(j.map fun(i,x)=>(i,a.eval x)).toList=j.toList.map fun p=>(p.1,a.eval p.2):=Aw
 have hzl:(QX z (len*size)).length=len*size:=by simp[QX]
 have L:0<z.cells.size:=by rw[Y];exact hE.pos
 obtain⟨q,hc,hR⟩:=nU (place:=fun i=>some (i*size,size)) j.toList vs (QX z (len*size)) _ (ao3 (ok:=ok) (w:=w) (H:=H) (n:=len*size) h1 L) (by rw[hzl];exact hp) hn;refine⟨q,?_,hR⟩;have M:¬(len*size>2^24):=AA
 by_cases O:len*size=0
 ·have hr0:(Array.range (len*size)).map (fun k=>(z.cells[k % z.cells.size]! :Value))= #[]:=by rw[O];simp
  rw[hr0]at hc;have U:(Array.range (len*size)).map (fun k=>((#[]:Array Value)[k % (#[]:Array Value).size]! :Value))= #[]:=by rw[O];simp
  simp only[Instr.buildSlice,FD,J,FP,I,M,Jl,Sem.run_ite,O,JV,GI];simp only[O]at U;rw[U,e0,hc];rfl
 simp only[Instr.buildSlice,FD,J,FP,I,M,Jl,Sem.run_ite,O,Z,GI];rw[e0,hc];rfl
def aWi {t e:TypeId} {size q len:Nat} {z:Value} (hE:Gs P t e size q) (O:(P.info? e).bind (·.zero)=some z) (U:z.cells.all (·.oneCell')=true) (J:z.cells.size=size) (hlen:len*size≤16777216) {j:Array (Nat×Operand)} (vs:List Aa) (ys:List D)
 (hp:NK (fun i=>some (i*size,size)) (len*size) j.toList vs=true) (L:Jz (fun i=>some (i*size,size)) (QX z (len*size)) j.toList vs=flat ys) (hl:ys.length=len) (u:ys.all (fun y=>decide (y.cells.length=size))=true) (Y:o.op=.buildSlice t len j):
 BR P o (Nl j.toList vs) es (.d (.sl ys)) es:=
 .eff fun C ok H a w hm Z=>by
  obtain⟨cells,hr,I⟩:=aW8 hE O U J hlen hp Z;rw[L]at I;obtain⟨h2,M⟩:=hm.fresh (.cells cells e);refine⟨.slice (some ⟨w.heap.size,0,none⟩) len len,_,_,H,.inl ?_,M,.refl _,h2,.d _ _ ?_⟩
  ·simp only[execOp,Y,FD,hr,FP,GI]
  rw[←hl];exact aiO (H:=H) (fun y L=>by rw[Di]at u;simpa using u y L) (Vw w _) (.inr rfl) (I.mono M (.refl _))
def aKg {t e:TypeId} {size q len:Nat} {z:Value} (hE:Gs P t e size q) (hz:(P.info? e).bind (·.zero)=some z) (h1:z.cells.all (·.oneCell')=true) (U:z.cells.size=size) (hlen:len*size≤16777216) {j:Array (Nat×Operand)} (vs:List Aa) (ys:List D)
 (hp:NK (fun i=>some (i*size,size)) (len*size) j.toList vs=true) (Y:Jz (fun i=>some (i*size,size)) (QX z (len*size)) j.toList vs=flat ys) (hl:ys.length=len) (I:ys.all (fun y=>decide (y.cells.length=size))=true) (ho:o.op=.buildSlice t len j):
 BR P o (Nl j.toList vs) es (.aY es.length) (es++[.arr e size ys]):=
 .eff fun C ok H a w hm hn=>by
  obtain⟨cells,hr,u⟩:=aW8 hE hz h1 U hlen hp hn;rw[Y]at u;have J:∀y∈ys,y.cells.length=size:=fun y Y=>by rw[Di]at I;simpa using I y Y
  have hfl:=SP J;have L:cells.size=ys.length*size:=by have :=u.1;simp at this;omega
  have M:=hE.pos
  have Z:ys.length≤16777216:=by
   have :ys.length*1≤ys.length*size:=Nat.mul_le_mul_left _ M;rw[hl]at this ⊢;omega
  obtain⟨h2,h3⟩:=hm.push (.cells cells e) ⟨.slice (some ⟨w.heap.size,0,none⟩) len len,size⟩ (.arr e size ys) (fun b O=>by simpa[D6]using O.symm) (by
   refine⟨rfl,J,cells.toList,⟨Wu,.inr ⟨w.heap.size,len,cells,by rw[hl],Ci _,Vw w _,AA,aEV,Xw (by rw[L,hl]),?_⟩⟩,?_⟩
   ·rw[Po DW]
   exact u.mono (fun b O=>⟨O,KE _ _ _ (hm.kN b O)⟩) (Names.push _ _))
  refine⟨.slice (some ⟨w.heap.size,0,none⟩) len len,_,ok,_,.inl ?_,h3,Names.push _ _,h2,.aY _ _ _ _ size Pm⟩;simp only[execOp,ho,FD,hr,FP,GI]
end
section
variable {P : Program} {ops : Array Oper} {Q : Exit → Act → World → Prop} {φ : Nat → Value → World → Prop} {W : World} {a0 : Act} {i : Nat}
variable {d : Option Tmp} {t : TypeId} {p : String} {af : Array Edge} {g : Option (Nat × Bool)}
def Enters (P:Program) (f:FuncId):Prop:=∀args w,(callFunc f args).run P w=.ok (.enter f args) w
def enters_of {f:FuncId} {fn:Func} {c:Code} (q:P.funcs[f]? =some fn) (j:(fn.name== "runtime.NumGoroutine")=false) (u:fn.body=some c):Enters P f:=by
 intro args w;have z:fn.name≠ "runtime.NumGoroutine" :=Wi
 simp[callFunc,q,z,u]
def BA (P:Program) (f:FuncId):Bool:=match P.funcs[f]? with
 |some fn=> !(fn.name== "runtime.NumGoroutine")&&fn.body.isSome
 |none=>false
def TR {f:FuncId} (h:BA P f=true):Enters P f:=by
 unfold BA at h;cases j:P.funcs[f]? with
 |none=>rw[j]at h;cases h
 |some fn=>
  rw[j]at h;simp only[CZ,Ls]at h;obtain⟨c,q⟩:=SX.1 h.2;exact enters_of j h.1 q
def vU {o:Oper} {a:Act} {f:FuncId} {ats:Array TypeId} {aKb:Array Operand} (j:o.op=.call { callee:=.value (.func f),args:=aKb,argTypes:=ats }):execOp a.eval o=callFunc f (aKb.map a.eval):=by
 have q:a.eval (.func f)=.func (.func f) #[] #[]:=rfl;unfold execOp;simp[j,resolve,Deferred.ofValue,invoke,q]
end
inductive Dj where
 |ent (k:Nat)
 |nil (size:Nat)
def Dj.hd (H:List BN):Dj→BN
 | .ent k=>H.getD k ⟨undef,0⟩
 | .nil s=>⟨.slice none 0 0,s⟩
def Aa.U2 (srcs:List Dj) (n:Nat):Aa→Aa
 | .d x=>.d x
 | .ptr k off=>match srcs[k]? with |some (.ent j)=>.ptr j off|some (.nil _)=>.junk|none=>.ptr (n+(k-srcs.length)) off
 | .aY k=>match srcs[k]? with |some (.ent j)=>.aY j|some (.nil _)=>.junk|none=>.aY (n+(k-srcs.length))
 | .lq k i off=>match srcs[k]? with |some (.ent j)=>.lq j i off|some (.nil _)=>.junk|none=>.lq (n+(k-srcs.length)) i off
 | .mp k=>match srcs[k]? with |some (.ent j)=>.mp j|some (.nil _)=>.junk|none=>.mp (n+(k-srcs.length))
 | .xG k=>match srcs[k]? with |some (.ent j)=>.xG j|some (.nil _)=>.junk|none=>.xG (n+(k-srcs.length))
 | .clip xs=>.clip xs
 |_=>.junk
def Aa.up (srcs:List Dj) (n:Nat):Aa→Aa
 | .eF xs=>.eF (xs.map (Aa.U2 srcs n))
 | .fn f fi ca=>.fn f (fi.map (Aa.U2 srcs n)) (ca.map (Aa.U2 srcs n))
 |x=>x.U2 srcs n
def aIY (srcs:List Dj):Aa→Aa→Prop
 | .d x,y=>y=.d x
 | .ptr k off,y=>∃i,y=.ptr i off∧srcs[i]? =some (.ent k)
 | .mp k,y=>∃i,y=.mp i∧srcs[i]? =some (.ent k)
 |_,_=>False
def s0 (srcs:List Dj):List Aa→List Aa→Prop
 |x::xs,y::ys=>aIY srcs x y∧s0 srcs xs ys
 | [],[]=>True
 |_,_=>False
def xB {srcs:List Dj}:∀{xs ys:List Aa},s0 srcs xs ys→xs.length=ys.length
 | [],[],_=>rfl
 |_::xs,_::ys,h=>by simp[xB h.2]
 | [],_::_,h=>h.elim
 |_::_,[],h=>h.elim
def aOn {srcs:List Dj}:∀{xs ys:List Aa},s0 srcs xs ys→∀i,i<ys.length→aIY srcs (xs.getD i .junk) (ys.getD i .junk)
 | [],[],_,i,hi=>Ot
 |_::xs,_::ys,h,0,_=>by simpa using h.1
 |_::xs,_::ys,h,i+1,hi=>by simpa using aOn h.2 i G6
 | [],_::_,h,_,_=>h.elim
 |_::_,[],h,_,_=>h.elim
def aak (srcs:List Dj):Aa→Aa→Prop
 | .fn f fi ca,y=>∃j q,y=.fn f j q∧s0 srcs fi j∧s0 srcs ca q
 | .d x,y=>y=.d x∨(∃i s,x=.lit (.slice none 0 0)∧y=.aY i∧srcs[i]? =some (.nil s))∨(x=.lit (.slice none 0 0)∧y=.d (.sl []))
 | .aY k,y=>∃i,y=.aY i∧srcs[i]? =some (.ent k)
 | .ptr k off,y=>∃i,y=.ptr i off∧srcs[i]? =some (.ent k)
 | .mp k,y=>∃i,y=.mp i∧srcs[i]? =some (.ent k)
 |_,_=>False
def Az.closed:Az→Bool
 | .box cs=>cs.all Aa.AO
 | .loop .. =>false
 |_=>true
def En.any {ok:Nat→Prop} {w:World} {H H2:List BN} {h:BN} {e:Az} (q:En ok w H h e) (I:e.closed=true):En ok w H2 h e:=by
 cases e with
 |dead=>trivial
 |box cs=>
  obtain⟨b,vs,T,J,L,M,z⟩:=q;refine⟨b,vs,T,J,L,M,fun i hi=>⟨(z i hi).1,?_⟩⟩;have u:=(z i hi).2;simp only[Az.closed,Di]at I;have j:=I (cs.getD i .junk) NZ;cases O:cs.getD i .junk with
  |d x=>rw[O]at u;cases u with |d _ _ h=>exact .d _ _ h
  |_=>rw[O]at j;simp[Aa.AO]at j
 |arr e s es=>
  obtain⟨J,L,xs,M,z,u⟩:=q;refine⟨J,L,xs,M,z,fun i hi=>⟨(u i hi).1,?_⟩⟩;have j:=(u i hi).2;have hm:(flat es).getD i .junk∈flat es:=NZ
  unfold flat at hm ⊢;simp only[Rl,Dp]at hm;obtain⟨x,_,y,_,U⟩:=hm;unfold flat at j;rw[←U]at j ⊢;cases j with |d _ _ h=>exact .d _ _ h
 |map es=>exact q
 |gZ es=>exact q
 |iter es vis=>exact q
 |loop=>cases I
def Az.up (srcs:List Dj) (n:Nat):Az→Az
 | .box cs=>.box (cs.map (Aa.U2 srcs n))
 |e=>e
def Aa.ari (srcs:List Dj):Aa→Bool
 | .d _=>true
 | .mp k=>match srcs[k]? with |some (.ent _)=>true|_=>false
 | .ptr k _=>match srcs[k]? with |some (.ent _)=>true|_=>false
 |_=>false
def Az.amD (srcs:List Dj):Az→Bool
 | .box cs=>cs.all (Aa.ari srcs)
 | .loop .. =>false
 |_=>true
def Az.aoo (srcs:List Dj) (n:Nat):Az→Bool
 | .box cs=>cs.all fun x=>x.AO||(x.U2 srcs n).leaf
 | .loop .. =>false
 |_=>true
def Az.adA (srcs:List Dj) (n:Nat) (e:Az):(e.up srcs n).live=e.live:=by cases e<;>rfl
def aX7 {srcs:List Dj} {n:Nat} {x:Aa} (h:x.AO=true):x.U2 srcs n=x:=by cases x<;>first|rfl|cases h
def Az.ayx {srcs:List Dj} {n:Nat} {e:Az} (h:e.closed=true):e.up srcs n=e:=by
 cases e with
 |box cs=>
  simp only[Az.closed,Di]at h;show Az.box (cs.map (Aa.U2 srcs n))=Az.box cs
  rw[show cs.map (Aa.U2 srcs n)=cs from by
   conv=>rhs;rw[←aDh cs]
   exact Yj fun x j=>aX7 (h x j)]
 |_=>rfl
def aRo {srcs:List Dj} {n:Nat}:∀{E:List Az},E.all Az.closed=true→E.map (Az.up srcs n)=E
 | [],_=>rfl
 |e::E,h=>by
  simp only[bY,CZ]at h;rw[Ia,Az.ayx h.1,aRo h.2]
def aiD {srcs:List Dj} {n:Nat} {e:Az} (h:e.closed=true):e.aoo srcs n=true:=by
 cases e with
 |box cs=>
  simp only[Az.closed,Az.aoo,Di]at h ⊢;intro x j;rw[h x j];rfl
 |loop=>cases h
 |_=>rfl
def En.down {ok:Nat→Prop} {w:World} {H Hc:List BN} {h:BN} {srcs:List Dj} {n:Nat} {e:Az} (L:∀(j:Nat) (s:Dj),srcs[j]? =some s→Hc[j]? =some (Dj.hd H s)) (hd:e.amD srcs=true) (z:En ok w H h (e.up srcs n)):En ok w Hc h e:=by
 cases e with
 |dead=>trivial
 |arr=>exact z.any rfl
 |map=>exact z
 |gZ=>exact z
 |iter=>exact z
 |loop=>cases hd
 |box cs=>
  obtain⟨b,vs,T,M,O,U,Y⟩:=z;refine⟨b,vs,T,M,O,by rw[U,CB],fun i hi=>?_⟩;obtain⟨I,u⟩:=Y i aKO;rw[RN _ _ _ hi]at u I;simp only[Az.amD,Di]at hd;have q:=hd (cs.getD i .junk) NZ;generalize cs.getD i .junk=x at u q I ⊢;generalize vs.toList.getD i undef=v at u ⊢;cases x with
  |d x=>exact⟨I,by cases u with |d _ _ h=>exact .d _ _ h⟩
  |mp k=>
   refine⟨rfl,?_⟩;simp only[Aa.ari]at q;simp only[Aa.U2]at u;cases hs:srcs[k]? with
   |none=>rw[hs]at q;cases q
   |some s=>
    cases s with
    |nil _=>rw[hs]at q;cases q
    |ent j=>
     rw[hs]at u;cases u with
     |mp _ _ s hl J=>
      refine .mp k _ s hl ?_;rw[L k _ hs];simp[Dj.hd,List.getD,J]
  |ptr k off=>
   refine⟨rfl,?_⟩;simp only[Aa.ari]at q;simp only[Aa.U2]at u;cases hs:srcs[k]? with
   |none=>rw[hs]at q;cases q
   |some s=>
    cases s with
    |nil _=>rw[hs]at q;cases q
    |ent j=>
     rw[hs]at u;cases u with
     |ptr _ _ b s J=>
      refine .ptr k off b s ?_;rw[L k _ hs];simp[Dj.hd,List.getD,J]
  |_=>simp[Aa.ari]at q
def Lh (srcs:List Dj) (es E':List Az):List Az:=
 (es.zipIdx.map fun(e,j)=>match srcs.findIdx? (fun s=>match s with | .ent k=>k==j| .nil _=>false)with |some i=>(E'.getD i .dead).up srcs es.length|none=>e)++(E'.drop srcs.length).map (Az.up srcs es.length)
def RZ (srcs:List Dj) (es E E':List Az):Bool:=
 decide (srcs.length=E.length)&&decide (srcs.length≤E'.length)&&E.all (Az.amD srcs)&&E'.all (Az.aoo srcs es.length)&&
 decide ((srcs.filterMap fun s=>match s with | .ent k=>some k| .nil _=>none).Nodup)&&
 ((srcs.zip E').all fun p=>match p.1 with | .ent _=>true| .nil _=> !p.2.live)&&(srcs.all fun s=>match s with | .ent k=>decide (k<es.length)&&(es.getD k .dead).live| .nil _=>true)
def oh (srcs:List Dj) (es:List Az):List Az→Prop
 |E=>∀(i:Nat) (s:Dj),srcs[i]? =some s→match s with | .ent k=>(E[i]?).map (Az.up srcs es.length)=es[k]? | .nil j=>∃e,E[i]? =some (.arr e j [])
def UH {ok:Nat→Prop} {w:World} {H Hc H':List BN} {srcs:List Dj} {x:Aa} {v:Value} (O:Hc=srcs.map (Dj.hd H)) (I:∀(i k:Nat),srcs[i]? =some (.ent k)→k<H.length) (U:Names Hc H') (h:R ok w H' x v):R ok w (H++H'.drop srcs.length) (x.U2 srcs H.length) v:=by
 have key:∀(k:Nat) (hd:BN),H'[k]? =some hd→(∀(j:Nat),srcs[k]? =some (.ent j)→(H++H'.drop srcs.length)[j]? =some hd)∧(srcs[k]? =none→(H++H'.drop srcs.length)[H.length+(k-srcs.length)]? =some hd):=by
  intro k hd L;refine⟨fun j M=>?_,fun J=>?_⟩
  ·have z:=I k j M;have u:Hc[k]? =some (H.getD j ⟨undef,0⟩):=by rw[O,JD,M];rfl
   have q:=U _ _ u;rw[L]at q;rw[GZ z];simp[List.getD,z]at q;simp[z,q]
  have Y:srcs.length≤k:=SL
  rw[Jf AA,Py];have :srcs.length+(H.length+(k-srcs.length)-H.length)=k:=AA
  rw[this,L]
 cases h with
 |d x v h=>exact .d x v h
 |ptr k off b s h=>
  obtain⟨u,q⟩:=key k _ h;simp only[Aa.U2];split<;>rename_i hs
  ·exact .ptr _ off b s (u _ hs)
  ·exact .junk _
  exact .ptr _ off b s (q hs)
 |aY k ad n cap s h=>
  obtain⟨u,q⟩:=key k _ h;simp only[Aa.U2];split<;>rename_i hs
  ·exact .aY _ ad n cap s (u _ hs)
  ·exact .junk _
  exact .aY _ ad n cap s (q hs)
 |lq k i off b n cap s h=>
  obtain⟨u,q⟩:=key k _ h;simp only[Aa.U2];split<;>rename_i hs
  ·exact .lq _ i off b n cap s (u _ hs)
  ·exact .junk _
  exact .lq _ i off b n cap s (q hs)
 |mp k v s hl h=>
  obtain⟨u,q⟩:=key k _ h;simp only[Aa.U2];split<;>rename_i hs
  ·exact .mp _ v s hl (u _ hs)
  ·exact .junk _
  exact .mp _ v s hl (q hs)
 |clip xs ad h=>exact .clip xs ad h
 |xG k ad n cap s h=>
  obtain⟨u,q⟩:=key k _ h;simp only[Aa.U2];split<;>rename_i hs
  ·exact .xG _ ad n cap s (u _ hs)
  ·exact .junk _
  exact .xG _ ad n cap s (q hs)
 |fn f first cap vs us hl hm h h'=>exact .junk _
 |eF xs vs hl h=>exact .junk _
 |ag xs vs hl Z h=>exact .junk _
 |junk v=>exact .junk _
def aTa {ok:Nat→Prop} {w:World} {H Hc H':List BN} {srcs:List Dj} {x:Aa} {v:Value} (q:Hc=srcs.map (Dj.hd H)) (j:∀(i k:Nat),srcs[i]? =some (.ent k)→k<H.length) (u:Names Hc H') (h:R ok w H' x v):R ok w (H++H'.drop srcs.length) (x.up srcs H.length) v:=by
 cases h with
 |eF xs vs hl h=>exact .eF _ vs ZJ (fun i hi=>aQh)
 |ag xs vs hl z h=>exact .junk _
 |d x v h=>exact UH q j u (.d x v h)
 |ptr k off b s h=>exact UH q j u (.ptr k off b s h)
 |aY k ad n cap s h=>exact UH q j u (.aY k ad n cap s h)
 |lq k i off b n cap s h=>exact UH q j u (.lq k i off b n cap s h)
 |mp k v s hl h=>exact UH q j u (.mp k v s hl h)
 |clip xs ad h=>exact UH q j u (.clip xs ad h)
 |xG k ad n cap s h=>exact UH q j u (.xG k ad n cap s h)
 |fn f first cap vs us hl hm h h'=>exact .fn f _ _ vs us ZJ (by simp[hm]) (fun i hi=>aQh) (fun i hi=>by rw[CB]at hi;rw[RN _ _ _ hi];exact UH q j u (h' i hi))
 |junk v=>exact .junk _
def En.upw {ok:Nat→Prop} {w:World} {H Hc H':List BN} {h:BN} {srcs:List Dj} {n:Nat} {e:Az} (I:Hc=srcs.map (Dj.hd H)) (u:∀(i k:Nat),srcs[i]? =some (.ent k)→k<H.length) (J:Names Hc H') (hl:H.length=n) (z:e.aoo srcs n=true) (j:En ok w H' h e):
 En ok w (H++H'.drop srcs.length) h (e.up srcs n):=by
 cases e with
 |dead=>trivial
 |arr=>exact j.any rfl
 |map=>exact j
 |gZ=>exact j
 |iter=>exact j
 |loop=>cases z
 |box cs=>
  obtain⟨b,vs,T,L,M,O,U⟩:=j;refine⟨b,vs,T,L,M,by rw[O,CB],fun i hi=>?_⟩;rw[CB]at hi;obtain⟨Y,Z⟩:=U i hi;simp only[Az.aoo,Di]at z;have q:=z (cs.getD i .junk) NZ;rw[RN _ _ _ hi];refine⟨?_,by have :=UH I u J Z;rwa [hl]at this⟩;rcases Bool.or_eq_true_iff.1 q with q|q
  ·rw[aX7 q];exact Y
  exact q
def FM :List Operand→List Aa→List (Operand×Aa)
 |x::xs,v::vs=>(x,v)::FM xs vs
 |_,_=>[]
def MS (srcs:List Dj):List Aa→List Aa→Prop
 |x::xs,y::ys=>aak srcs x y∧MS srcs xs ys
 | [],[]=>True
 |_,_=>False
def aRk {srcs:List Dj}:∀{xs ys:List Aa},MS srcs xs ys→xs.length=ys.length
 | [],[],_=>rfl
 |_::xs,_::ys,h=>by simp[aRk h.2]
 | [],_::_,h=>h.elim
 |_::_,[],h=>h.elim
def afZ {srcs:List Dj} {ops:List Operand}:∀{xs ys:List Aa},ops.length=xs.length→MS srcs xs ys→∀i,i<ys.length→∃o x,ops[i]? =some o∧(o,x)∈FM ops xs∧aak srcs x (ys.getD i .junk):=by
 induction ops with
 |nil=>
  intro xs ys hl h i hi;cases xs with
  |nil=>cases ys with |nil=>simp at hi|cons _ _=>exact h.elim
  |cons _ _=>simp at hl
 |cons o ops j=>
  intro xs ys hl h i hi;cases xs with
  |nil=>simp at hl
  |cons x xs=>
   cases ys with
   |nil=>exact h.elim
   |cons y ys=>
    cases i with
    |zero=>exact⟨o,x,rfl,by simp[FM],h.1⟩
    |succ i=>
     obtain⟨q,u,z,I,J⟩:=j MC h.2 i G6;exact⟨q,u,Le,by simp[FM,I],SL⟩
def aoV {srcs:List Dj} {H:List BN} {b:Nat}:b∈(srcs.filterMap fun s=>match s with | .ent k=>D6 (H.getD k ⟨undef,0⟩).v| .nil _=>none)↔∃k,.ent k∈srcs∧D6 (H.getD k ⟨undef,0⟩).v=some b:=by
 rw[Sl];constructor
 ·rintro⟨s,hs,h⟩;cases s with
  |ent k=>exact⟨k,hs,h⟩
  |nil _=>cases h
 rintro⟨k,hs,h⟩;exact⟨_,hs,h⟩
section
variable {P : Program} {o : Oper} {es : List Az}
def aVN :∀{srcs:List Dj},(srcs.filterMap fun s=>match s with | .ent k=>some k| .nil _=>none).Nodup→∀(i j k:Nat),srcs[i]? =some (.ent k)→srcs[j]? =some (.ent k)→i=j
 | [],_,i,j,k,h,_=>Ig
 |s::srcs,u,i,j,k,hi,z=>by
  have q:∀(n:Nat),srcs[n]? =some (.ent k)→k∈srcs.filterMap fun s=>match s with | .ent k=>some k| .nil _=>none:=fun n h=>by
   rw[Sl];exact⟨_,X7 h,rfl⟩
  have I:(srcs.filterMap fun s=>match s with | .ent k=>some k| .nil _=>none).Nodup:=by
   cases s with
   |ent k'=>simp only[Lr]at u;exact(Kv.1 u).2
   |nil _=>simpa only[Lr]using u
  match i,j with
  |0,0=>rfl
  |0,j+1=>
   simp at hi z;subst hi;simp only[Lr]at u;exact absurd (q j z) (Kv.1 u).1
  |i+1,0=>
   simp at hi z;subst z;simp only[Lr]at u;exact absurd (q i hi) (Kv.1 u).1
  |i+1,j+1=>rw[aVN I i j k G6 Le]
def aXR {f:FuncId} {C:EP} {ok:Nat→Prop} {H:List BN} {w:World} (hm:Ce C ok H es w) (srcs:List Dj) {dU fC:List Aa} {E E':List Az} {res:Aa} (hr:Aq P f fC E res E')
 (hb:RZ srcs es E E'=true) (hE:oh srcs es E) (ha:MS srcs dU fC) {ops:List Operand} (hl:ops.length=dU.length) {a:Act} (hn:∀n∈FM ops dU,R ok w H n.2 (a.eval n.1)):
 Calls P f (ops.map a.eval).toArray w fun e w'=>∃v ok' H',e=.returned v∧EN ok w ok' w'∧Names H H'∧Ce C ok' H' (Lh srcs es E') w'∧R ok' w' H' (res.up srcs es.length) v:=by
 unfold RZ at hb;simp only[CZ,GN,Di]at hb;obtain⟨⟨⟨⟨⟨⟨hb1,hb2⟩,hb3⟩,hb4⟩,hb5⟩,hb6⟩,hb7⟩:=hb;have hidx:=aVN hb5
 let Hc:=srcs.map (Dj.hd H)
 let X:=srcs.filterMap fun s=>match s with | .ent k=>D6 (H.getD k ⟨undef,0⟩).v| .nil _=>none
 have hX:∀b,b∈X↔∃k,.ent k∈srcs∧D6 (H.getD k ⟨undef,0⟩).v=some b:=fun b=>aoV
 have U:∀(i k:Nat),srcs[i]? =some (.ent k)→k<es.length∧(es.getD k .dead).live=true:=by
  intro i k hi;have :=hb7 _ (X7 hi);simpa using this
 have hlt:∀(i k:Nat),srcs[i]? =some (.ent k)→k<H.length:=fun i k hi=>by rw[hm.hlen];exact(U i k hi).1
 have hHk:∀(k:Nat),k<H.length→H[k]? =some (H.getD k ⟨undef,0⟩):=fun k hk=>by simp[List.getD,hk]
 have aop:∀(k:Nat),k<es.length→es[k]? =some (es.getD k .dead):=fun k hk=>by simp[List.getD,hk]
 have L:∀b,b∈X→∃(i k:Nat),srcs[i]? =some (.ent k)∧D6 (H.getD k ⟨undef,0⟩).v=some b∧¬ok b∧b<w.heap.size∧(C.w0.heap.size≤b∨b∈C.X):=by
  intro b hb;obtain⟨k,hk,hbk⟩:=(hX b).1 hb;obtain⟨i,hi,M⟩:=G5 hk;have hi':srcs[i]? =some (.ent k):=by simp[hi,M]
  have :=hm.blk k _ _ b (aop k (U i k hi').1) (U i k hi').2 (hHk k (hlt i k hi')) hbk;exact⟨i,k,hi',hbk,this⟩
 have hmc:Ce ⟨w,ok,X,Hc⟩ ok Hc E w:=by
  refine⟨.refl _ _,fun _ h=>h,fun _ h=>.inl h,hm.kN,.refl _,by simp[Hc,hb1],?_,?_,?_⟩
  ·intro i e h M I;have hi:i<srcs.length:=aK9
   have hcl:e.amD srcs=true:=hb3 e (X7 M);have aGm:∀(j:Nat) (s:Dj),srcs[j]? =some s→Hc[j]? =some (Dj.hd H s):=fun j s hs=>by simp[Hc,hs]
   have hs:srcs[i]? =some srcs[i]:=Tt
   have hd:=hE i _ hs;simp only[Hc,JD,hs,IV,LU]at I;cases hsi:srcs[i]with
   |ent k=>
    rw[hsi]at hd I hs;simp only[Dj.hd]at I;subst I;simp only at hd;rw[M,IV]at hd;exact En.down aGm hcl (hm.ent k _ _ hd.symm (hHk k (hlt i k hs)))
   |nil sz=>
    rw[hsi]at hd I;simp only[Dj.hd]at I;subst I;obtain⟨e',he'⟩:=hd;rw[M]at he';obtain rfl:=CS he';exact⟨rfl,Aw,[],⟨Aw,.inl ⟨rfl,rfl⟩⟩,TN,fun i hi=>aEt⟩
  ·intro i e h b M J I z;have hi:i<srcs.length:=aK9
   have hs:srcs[i]? =some srcs[i]:=Tt
   simp only[Hc,JD,hs,IV,LU]at I;cases hsi:srcs[i]with
   |ent k=>
    rw[hsi]at I hs;simp only[Dj.hd]at I;subst I;have hbX:b∈X:=(hX b).2 ⟨k,X7 hs,z⟩;obtain⟨_,_,_,_,O,Y,_⟩:=L b hbX;exact⟨O,Y,.inr hbX⟩
   |nil sz=>
    rw[hsi]at I;simp only[Dj.hd]at I;subst I;simp[D6]at z
  intro i j e e' h h' b M he' J Z I hh' z ale;have hi:i<srcs.length:=aK9
  have hj:j<srcs.length:=by rw[hb1];exact(FI.1 he').1
  have hs:srcs[i]? =some srcs[i]:=Tt
  have hs':srcs[j]? =some srcs[j]:=by simp[hj]
  simp only[Hc,JD,hs,IV,LU]at I;simp only[Hc,JD,hs',IV,LU]at hh';cases hsi:srcs[i]with
  |nil sz=>rw[hsi]at I;simp only[Dj.hd]at I;subst I;simp[D6]at z
  |ent k=>
   cases hsj:srcs[j]with
   |nil sz=>rw[hsj]at hh';simp only[Dj.hd]at hh';subst hh';simp[D6]at ale
   |ent k'=>
    rw[hsi]at I hs;rw[hsj]at hh' hs';simp only[Dj.hd]at I hh';subst I;subst hh';have hkk:=hm.D8 k k' _ _ _ _ b (aop k (U i k hs).1) (aop k' (U j k' hs').1) (U i k hs).2 (U j k' hs').2 (hHk k (hlt i k hs)) (hHk k' (hlt j k' hs')) z ale;subst hkk;exact hidx i j k hs hs'
 have hargs:∀i,i<fC.length→R ok w Hc (fC.getD i .junk) ((ops.map a.eval).toArray.getD i undef):=by
  intro i hi;obtain⟨op,x,ho,hmem,harg⟩:=afZ hl ha i hi;have hR:=hn _ hmem
  have e:(ops.map a.eval).toArray.getD i undef=a.eval op:=by
   obtain⟨O,Y⟩:=FI.1 ho;simp[Array.getD,O,Y]
  rw[e];simp only at hR;generalize fC.getD i .junk=y at harg ⊢;generalize a.eval op=u at hR ⊢;have hHc:∀(j:Nat) (s:Dj),srcs[j]? =some s→Hc[j]? =some (Dj.hd H s):=fun j s hs=>by simp[Hc,hs]
  cases x with
  |d x=>
   rcases harg with rfl|⟨j,s,rfl,rfl,hs⟩|⟨rfl,rfl⟩
   ·cases hR with |d _ _ h=>exact .d _ _ h
   ·have :=hR.lit;rw[this];exact .aY j none 0 0 s (hHc j _ hs)
   have :=hR.lit;rw[this];exact .d _ _ (.sl0 none 0)
  |aY k=>
   obtain⟨j,rfl,hs⟩:=harg;cases hR with
   |aY _ ad n cap s hH=>
    refine .aY j ad n cap s ?_;rw[hHc j _ hs];simp[Dj.hd,List.getD,hH]
  |ptr k off=>
   obtain⟨j,rfl,hs⟩:=harg;cases hR with
   |ptr _ _ b s hH=>
    refine .ptr j off b s ?_;rw[hHc j _ hs];simp[Dj.hd,List.getD,hH]
  |mp k=>
   obtain⟨j,rfl,hs⟩:=harg;cases hR with
   |mp _ _ s hl hH=>
    refine .mp j _ s hl ?_;rw[hHc j _ hs];simp[Dj.hd,List.getD,hH]
  |fn f fi ca=>
   obtain⟨fi',ca',rfl,O,Y⟩:=harg
   have one:∀(x y:Aa) (v:Value),aIY srcs x y→R ok w H x v→R ok w Hc y v:=by
    intro x y v hxy hx;cases x with
    |d x=>obtain rfl:=hxy;cases hx with |d _ _ h=>exact .d _ _ h
    |mp k=>
     obtain⟨j,rfl,hs⟩:=hxy;cases hx with
     |mp _ _ s hl hH=>
      refine .mp j _ s hl ?_;rw[hHc j _ hs];simp[Dj.hd,List.getD,hH]
    |ptr k off=>
     obtain⟨j,rfl,hs⟩:=hxy;cases hx with
     |ptr _ _ b s hH=>
      refine .ptr j off b s ?_;rw[hHc j _ hs];simp[Dj.hd,List.getD,hH]
    |_=>exact hxy.elim
   cases hR with
   |fn _ _ _ vs us hl1 hl2 h3 h4=>
    refine .fn f fi' ca' vs us (by rw[hl1,xB O]) (by rw[hl2,xB Y]) (fun i hi=>?_) (fun i hi=>?_)
    ·exact one _ _ _ (aOn O i hi) (h3 i (by rw[xB O];exact hi))
    exact one _ _ _ (aOn Y i hi) (h4 i (by rw[xB Y];exact hi))
  |_=>exact harg.elim
 refine(hr ok X Hc w _ hmc (by simp[hl,aRk ha]) hargs).mono ?_;rintro e w' ⟨v,ok',H',rfl,q,hR⟩;have hgr:EN ok w ok' w':=fun b hb=>⟨q.yV b hb,q.fr.block b (hm.kN b hb) (fun hbX=>by obtain⟨_,_,_,_,O,_⟩:=L b hbX;exact O hb)⟩
 have aJc:srcs.length≤H'.length:=by rw[q.hlen];exact hb2
 refine⟨v,ok',H++H'.drop srcs.length,rfl,hgr,Names.push _ _,?_,by have :=aTa rfl hlt q.names hR;rwa [hm.hlen]at this⟩
 let idx:Nat→Option Nat:=fun j=>srcs.findIdx? (fun s=>match s with | .ent k=>k==j| .nil _=>false)
 have aFk:∀(j i:Nat),idx j=some i→srcs[i]? =some (.ent j):=by
  intro j i h;simp only[idx,aUZ]at h;obtain⟨O,Y,_⟩:=h;have :srcs[i]? =some srcs[i]:=by simp[O]
  cases hs:srcs[i]with
  |ent k=>rw[hs]at Y this;simp at Y;rw[this,Y]
  |nil _=>rw[hs]at Y;simp at Y
 have aFl:∀(j:Nat),idx j=none→∀(i:Nat),srcs[i]? ≠some (.ent j):=by
  intro j h i hi;simp only[idx,List.findIdx?_eq_none_iff]at h;have :=h _ (X7 hi);simp at this
 have hlow:∀(j:Nat),j<es.length→(Lh srcs es E')[j]? =some (match idx j with |some i=>(E'.getD i .dead).up srcs es.length|none=>es.getD j .dead):=by
  intro j hj;unfold Lh;rw[GZ aCE];simp only[JD,List.getElem?_zipIdx,aop j hj,IV,Ij];rfl
 have aD6:(Lh srcs es E').length=es.length+(E'.length-srcs.length):=by simp[Lh]
 have hhigh:∀(j:Nat),es.length≤j→(Lh srcs es E')[j]? =(E'[srcs.length+(j-es.length)]?).map (Az.up srcs es.length):=by
  intro j hj;unfold Lh;rw[Jf aCE,JD,Py];simp
 have aFm:∀(j:Nat),j<es.length→(H++H'.drop srcs.length)[j]? =H[j]? :=fun j hj=>GZ (by rw[hm.hlen];exact hj)
 have aD7:∀(j:Nat),es.length≤j→(H++H'.drop srcs.length)[j]? =H'[srcs.length+(j-es.length)]? :=by
  intro j hj;rw[Jf (by rw[hm.hlen];exact hj),Py,hm.hlen]
 have hcls:∀(j:Nat) (e:Az) (h:BN),(Lh srcs es E')[j]? =some e→e.live=true∨True→(H++H'.drop srcs.length)[j]? =some h→
  (∃(i:Nat) (e0:Az),e=e0.up srcs es.length∧E'[i]? =some e0∧H'[i]? =some h∧((j<es.length∧srcs[i]? =some (.ent j))∨(es.length≤j∧i=srcs.length+(j-es.length))))∨(j<es.length∧es[j]? =some e∧H[j]? =some h∧∀(i:Nat),srcs[i]? ≠some (.ent j)):=by
  intro j e h M _ I;by_cases hj:j<es.length
  ·rw[hlow j hj]at M;rw[aFm j hj]at I;cases hi:idx j with
   |none=>
    rw[hi]at M;simp only[LU]at M;exact .inr ⟨hj,by rw[aop j hj,M],I,aFl j hi⟩
   |some i=>
    rw[hi]at M;simp only[LU]at M;have hs:=aFk j i hi;have hil:i<srcs.length:=(FI.1 hs).1;have hiE:i<E'.length:=AA
    refine .inl ⟨i,_,M.symm,by simp[List.getD,hiE],?_,.inl ⟨hj,hs⟩⟩;refine q.names i h ?_;simp only[Hc,JD,hs,IV,Dj.hd];simp[List.getD,I]
  rw[hhigh j AA]at M;rw[aD7 j AA]at I;rw[SI]at M;obtain⟨e0,M,rfl⟩:=M;exact .inl ⟨_,_,rfl,M,I,.inr ⟨AA,rfl⟩⟩
 have hold:∀(j:Nat) (e:Az) (h:BN) (b:Nat),es[j]? =some e→H[j]? =some h→(∀(i:Nat),srcs[i]? ≠some (.ent j))→e.live=true→D6 h.v=some b→b<w.heap.size∧b∉X∧¬ok b∧(C.w0.heap.size≤b∨b∈C.X):=by
  intro j e h b M I hno J z;have O:=hm.blk j e h b M J I z;refine⟨O.2.1,fun hbX=>?_,O.1,O.2.2⟩;obtain⟨i,k,hs,hbk,_⟩:=L b hbX;have :=hm.D8 j k e _ h _ b M (aop k (U i k hs).1) J (U i k hs).2 I (hHk k (hlt i k hs)) z hbk;subst this;exact hno i hs
 have aoq:∀(i:Nat) (e:Az) (h:BN) (b:Nat),E'[i]? =some e→H'[i]? =some h→e.live=true→D6 h.v=some b→¬ok' b∧b<w'.heap.size∧(w.heap.size≤b∨b∈X):=fun i e h b M I J z=>q.blk i e h b M J I z;refine⟨⟨q.fr.os.trans hm.fr.os,q.fr.tape.trans hm.fr.tape,q.fr.output.trans hm.fr.output,Ed hm.fr.size q.fr.size,fun k hk hx=>?_⟩,fun b hb=>q.yV b (hm.yV b hb),?_,q.kN,hm.names.trans (Names.push _ _),?_,?_,?_,?_⟩
 ·have hkw:k<w.heap.size:=Uy hk hm.fr.size
  rw[q.fr.block k hkw (fun hkX=>by
   obtain⟨_,_,_,_,_,_,h⟩:=L k hkX;rcases h with h|h
   ·omega
   exact hx h)]
  exact hm.fr.block k hk hx
 ·intro b hb;rcases q.yX b hb with h|h|h
  ·exact hm.yX b h
  ·exact .inr (.inl (Ed hm.fr.size h))
  obtain⟨_,_,_,_,_,_,h⟩:=L b h;exact .inr h
 ·rw[aD6,E9,IJ,hm.hlen,q.hlen]
 ·intro j e h M I;rcases hcls j e h M (.inr trivial) I with⟨i,e0,rfl,O,Y,_⟩|⟨_,O,Y,h3⟩
  ·exact En.upw rfl hlt q.names hm.hlen (hb4 e0 (X7 O)) (q.ent i e0 h O Y)
  refine(hm.ent j e h O Y).mono hgr (Names.push _ _) (fun J b z=>?_);have h4:=hold j e h b O Y h3 J z;exact q.fr.block b h4.1 h4.2.1
 ·intro j e h b M J I z;rcases hcls j e h M (.inr trivial) I with⟨i,e0,rfl,O,Y,_⟩|⟨_,O,Y,h3⟩
  ·have h4:=aoq i e0 h b O Y aH2 z;refine⟨h4.1,h4.2.1,?_⟩;rcases h4.2.2 with h5|h5
   ·exact .inl (Ed hm.fr.size h5)
   obtain⟨_,_,_,_,_,_,h⟩:=L b h5;exact h
  have h4:=hold j e h b O Y h3 J z;refine⟨fun hok'=>?_,Uy h4.1 q.fr.size,h4.2.2.2⟩;rcases q.yX b hok' with h5|h5|h5
  ·exact h4.2.2.1 h5
  ·have :w.heap.size≤b:=h5;omega
  exact h4.2.1 h5
 intro j j' e e' h h' b M he' J Z I hh' z ale;rcases hcls j e h M (.inr trivial) I with⟨i,e0,rfl,O,Y,h3⟩|⟨_,O,Y,h3⟩
 ·rcases hcls j' e' h' he' (.inr trivial) hh' with⟨i',e0',rfl,h1',h2',h3'⟩|⟨_,h1',h2',h3'⟩
  ·have hii:=q.D8 i i' e0 e0' h h' b O h1' aH2 (by rw[Az.adA]at Z;exact Z) Y h2' z ale;subst hii;rcases h3 with⟨_,h4⟩|⟨h4,h5⟩
   ·rcases h3' with⟨_,h4'⟩|⟨h4',h5'⟩
    ·rw[h4]at h4';simpa using h4'
    have :=(FI.1 h4).1;omega
   rcases h3' with⟨_,h4'⟩|⟨h4',h5'⟩
   ·have :=(FI.1 h4').1;omega
   omega
  have h4:=hold j' e' h' b h1' h2' h3' Z ale;rcases(aoq i e0 h b O Y aH2 z).2.2 with h5|h5
  ·omega
  exact absurd h5 h4.2.1
 rcases hcls j' e' h' he' (.inr trivial) hh' with⟨i',e0',rfl,h1',h2',h3'⟩|⟨_,h1',h2',h3'⟩
 ·have h4:=hold j e h b O Y h3 J z;rcases(aoq i' e0' h' b h1' h2' (by rw[Az.adA]at Z;exact Z) ale).2.2 with h5|h5
  ·omega
  exact absurd h5 h4.2.1
 exact hm.D8 j j' e e' h h' b O h1' J Z Y h2' z ale
def aYG {f:FuncId} {ops:Array Operand} {ats:Array TypeId} (srcs:List Dj) {dU fC:List Aa} {E E':List Az} {j:Aa} (q:Aq P f fC E j E') (u:BA P f=true) (z:RZ srcs es E E'=true) (hE:oh srcs es E) (ha:MS srcs dU fC) (hl:ops.toList.length=dU.length)
 (I:o.op=.call { callee:=.value (.func f),args:=ops,argTypes:=ats }):BR P o (FM ops.toList dU) es (j.up srcs es.length) (Lh srcs es E'):=by
 intro C ok H a w Q hm J;unfold Oper.wp;rw[vU I,TR u,ZU];have e:ops.map a.eval=(ops.toList.map a.eval).toArray:=aCu
 rw[e];refine(aXR hm srcs q z hE ha hl J).mono ?_;rintro e w' ⟨v,ok',H',rfl,L,M,O,U⟩;exact⟨v,ok',H',rfl,L,M,O,U⟩
end
def Ad (n:Int):D:=.lit (.int .i64 n)
def Cc (n:Int):D:=.lit (.int .u8 n)
def EC (b:Bool):D:=.lit (.bool b)
def Dw (s:ByteArray):D:=.lit (.string s)
def BM {α:Type} (e:α→D) (l:List α):D:=.sl (l.map e)
def BG (x:D):List Aa:=x.cells.map .d
def Ag {α:Type} (l:List α) (i:Int):Option α:=if 0≤i then l[i.toNat]? else none
def Bo {α:Type} (j:Nat) (l m:List α):Option (List α):=if(l.length+m.length)*j≤140737488355328 then some (l++m)else none
def Hf (s:ByteArray) (i:Int):Option Int:=if 0≤i then(s[i.toNat]?).map fun c=>(c.toNat:Int)else none
def Hg {α:Type} (l:List α) (lo hi:Int):Option (List α):=if 0≤lo∧lo≤hi∧hi≤l.length then some ((l.drop lo.toNat).take (hi.toNat-lo.toNat))else none
def NU (s:ByteArray) (lo hi:Int):Option ByteArray:=if 0≤lo∧lo≤hi∧hi≤s.size then some (s.extract lo.toNat hi.toNat)else none
def IK {α:Type} (j:Nat) (z:α) (n c:Int):Option (List α):=if 0≤n∧n≤c∧(j:Int)*c≤140737488355328 then some (List.replicate n.toNat z)else none
def JW {α:Type} {l:List α} {i:Int} {x:α} (h:Ag l i=some x):0≤i∧l[i.toNat]? =some x:=by
 unfold Ag at h;split at h
 ·exact⟨‹_›,h⟩
 cases h
def ac1 {α β:Type} {l:List α} {i:Nat} {x:α} (f:α→β) (h:l[i]? =some x):(l.map f)[i]? =some (f x):=by simp[h]
def aER {α:Type} {b:Bool} {x y z:α} (j:b=true) (h:(bif b then x else y)=z):x=z:=by subst j;exact h
def aEl {α:Type} {b:Bool} {x y z:α} (j:b=false) (h:(bif b then x else y)=z):y=z:=by subst j;exact h
def Dx {α β:Type} {x:Option α} {f:α→Option β} {z:β} (h:x.bind f=some z):∃a,x=some a∧f a=some z:=eS.1 h
def Aj :Nat:=9223372036854775808
section
variable {P : Program} {o : Oper} {es : List Az} {α : Type}
def BP {x:Operand} {t e:TypeId} (enc:α→D) (l:List α) (ht:P.underlying t=some (.slice e)) (j:o.op=.call { callee:=.builtin .len,args:= #[x],argTypes:= #[t] }):
 BR P o [(x,.d (BM enc l))] es (.d (Ad l.length)) es:=by
 have :=af9 (es:=es) (xs:=l.map enc) ht j;rw[CB]at this;exact this
def PO {x:Operand} {t e e':TypeId} {k s:Nat} (enc:α→D) (l:List α) (j:es[k]? =some (.arr e' s (l.map enc))) (ht:P.underlying t=some (.slice e)) (q:o.op=.call { callee:=.builtin .len,args:= #[x],argTypes:= #[t] }):
 BR P o [(x,.aY k)] es (.d (Ad l.length)) es:=by
 have :=aic j ht q;rw[CB]at this;exact this
def acN {x:Operand} {t:TypeId} (s:ByteArray) (ht:P.underlying t=some .string) (j:o.op=.call { callee:=.builtin .len,args:= #[x],argTypes:= #[t] }):
 BR P o [(x,.d (Dw s))] es (.d (Ad s.size)) es:=apu ht j
def agD {x y:Operand} {t e:TypeId} {k:IntKind} {i:Int} {agg:Bool} {size:Nat} (enc:α→D) {l:List α} {a:α} (h:Ag l i=some a) (ht:P.underlying t=some (.slice e)) (j:EI P e agg size) (hs:(enc a).cells.length=size) (q:o.op=.indexAddr t x y):
 BR P o [(x,.d (BM enc l)),(y,.d (.lit (.int k i)))] es (.d (.ref (enc a).cells 0)) es:=
 af0 ht j (JW h).1 (ac1 enc (JW h).2) hs q
def OG {x y:Operand} {t e e':TypeId} {kd:IntKind} {i:Int} {k size:Nat} {agg:Bool} (enc:α→D) {l:List α} {a:α} (h:Ag l i=some a) (j:es[k]? =some (.arr e' size (l.map enc))) (ht:P.underlying t=some (.slice e)) (q:EI P e agg size) (u:o.op=.indexAddr t x y):
 BR P o [(x,.aY k),(y,.d (.lit (.int kd i)))] es (.lq k i.toNat 0) es:=
 aii j ht q (JW h).1 (by have :=(FI.1 (JW h).2).1;simpa using this) u
def ai8 {s:ByteArray} {i n:Int} (h:Hf s i=some n):∃c,0≤i∧s[i.toNat]? =some c∧n=c.toNat:=by
 unfold Hf at h;split at h
 ·rename_i j;rw[SI]at h;obtain⟨c,q,u⟩:=h;exact⟨c,j,q,u.symm⟩
 cases h
def WY {x y:Operand} {t:TypeId} {k:IntKind} {i n:Int} {s:ByteArray} (h:Hf s i=some n) (ht:P.underlying t=some .string) (j:o.op=.index t x y):
 BR P o [(x,.d (Dw s)),(y,.d (.lit (.int k i)))] es (.d (Cc n)) es:=by
 obtain⟨c,q,u,rfl⟩:=ai8 h;exact agS ht q u j
def aD8 {b:Nat} {l m r:List α} (h:Bo b l m=some r):r=l++m∧(l.length+m.length)*b≤140737488355328:=by
 unfold Bo at h;split at h
 ·exact⟨(CS h).symm, ‹_›⟩
 cases h
def aMh {n b:Nat} (j:0<b) (h:n*b≤140737488355328):n≤maxLen:=by
 have :n*1≤n*b:=Nat.mul_le_mul_left _ j;unfold maxLen;omega
def EU {s x:Operand} {t e:TypeId} {size j k:Nat} (enc:α→D) {l m r:List α} (h:Bo j l m=some r) (hE:Gs P t e size j) (u:es[k]? =some (.arr e size (l.map enc))) (z:∀a,(enc a).cells.length=size) (I:0<j)
 (J:o.op=.call { callee:=.builtin .append,args:= #[s,x],argTypes:= #[t,t] }):
 BR P o [(s,.aY k),(x,.d (BM enc m))] es (.aY es.length) (es.set k .dead++[.arr e size (r.map enc)]):=by
 obtain⟨rfl,q⟩:=aD8 h;have :=ajI (ys:=m.map enc) hE u (fun y L=>by obtain⟨a,_,rfl⟩:=Dp.1 L;exact z a) MN (by simpa using aMh I q) J;rw[←KO]at this;exact this
def acB {s r:ByteArray} {lo hi:Int} (h:NU s lo hi=some r):(0≤lo∧lo≤hi∧hi≤s.size)∧r=s.extract lo.toNat hi.toNat:=by
 unfold NU at h;split at h
 ·exact⟨‹_›,(CS h).symm⟩
 cases h
def ny (x:Option Operand) (n:Int):List (Operand×Aa):=match x with |some y=>[(y,.d (Ad n))]|none=>[]
def aPH {t:TypeId} {x:Operand} {lo hi:Option Operand} {l h:Int} {s r:ByteArray} (hr:NU s l h=some r) (hl:lo=none→l=0) (Z:hi=none→h=s.size) (ht:P.underlying t=some .string) (J:o.op=.slice t x lo hi none):
 BR P o ((x,.d (Dw s))::(ny lo l++ny hi h)) es (.d (Dw r)) es:=
 .pure fun ok H a w _ _ M=>by
  obtain⟨⟨O,h1,h2⟩,rfl⟩:=acB hr;have q:=(M (x,.d (Dw s)) Aw).lit;simp only at q;have L:(underlying t).run P w=.ok .string w:=ND
  refine⟨.string (s.extract l.toNat h.toNat),?_,.d _ _ (.lit _)⟩;have u:∀y,lo=some y→a.eval y=.int .i64 l:=fun y e=>(M (y,.d (Ad l)) aB2).lit;have I:∀y,hi=some y→a.eval y=.int .i64 h:=fun y e=>(M (y,.d (Ad h)) aB2).lit;have e1:((0:Int)≤h∧h≤(s.size:Int)):=⟨AA,h2⟩
  have e2:((0:Int)≤l∧l≤(h.toNat:Int)):=⟨O,AA⟩
  cases lo with
  |none=>
   have U:=hl rfl;subst U;cases hi with
   |none=>
    have j:=Z rfl;subst j;simp[execOp,J,q,Instr.sliceAt,Instr.slice,L,Instr.sliceBounds]
   |some y=>
    simp[execOp,J,q,Instr.sliceAt,Instr.slice,L,Instr.sliceBounds,Instr.sliceBound,I y rfl,asIntOf,e1]
  |some z=>
   cases hi with
   |none=>
    have j:=Z rfl;subst j;have Y:((0:Int)≤l∧l≤(s.size:Int)):=⟨O,AA⟩
    simp[execOp,J,q,Instr.sliceAt,Instr.slice,L,Instr.sliceBounds,Instr.sliceBound,u z rfl,asIntOf,Y]
   |some y=>
    simp[execOp,J,q,Instr.sliceAt,Instr.slice,L,Instr.sliceBounds,Instr.sliceBound,u z rfl,I y rfl,asIntOf,e1];intro hc;have :=hc O;omega
def aar {l r:List α} {lo hi:Int} (h:Hg l lo hi=some r):(0≤lo∧lo≤hi∧hi≤l.length)∧r=(l.drop lo.toNat).take (hi.toNat-lo.toNat):=by
 unfold Hg at h;split at h
 ·exact⟨‹_›,(CS h).symm⟩
 cases h
def aTD {ok:Nat→Prop} {w:World} {xs:List D} {ad:Option Addr} {cap size l h:Nat} (Y:Dk ok w (.sl xs) (.slice ad xs.length cap)) (hs:∀x∈xs,x.cells.length=size) (Z:l≤h) (h2:h≤xs.length):
 Dk ok w (.sl ((xs.drop l).take (h-l))) (.slice (if cap=l then ad else ad.map (·.add (l*size))) (h-l) (cap-l)):=by
 have hlen:((xs.drop l).take (h-l)).length=h-l:=DW
 by_cases hz:h-l=0
 ·have :(xs.drop l).take (h-l)=[]:=by rw[hz];rfl
  rw[this,hz];exact .sl0 _ _
 have z:0<xs.length:=AA
 generalize hn:xs.length=n at Y;cases Y with
 |sl0=>simp at z
 |sl _ b off _ q hcap L I hf hx hc=>
  have M:q=size:=by
   rw[←I 0 z];exact hs _ (by simp[List.getD,z])
  subst M;have O:cap≠l:=AA
  rw[CU O];simp only[IV,addr_add]
  have U:∀i,i<h-l→((xs.drop l).take (h-l)).getD i Dh=xs.getD (l+i) Dh:=by
   intro i hi;simp[List.getD,LM hi,Py]
  have u:∀i j,off+l*q+(i*q+j)=off+((l+i)*q+j):=by
   intro i j;rw[Xl];omega
  have :=Dk.sl ((xs.drop l).take (h-l)) b (off+l*q) (cap-l) q (ok:=ok) (w:=w) (by rw[hlen];omega) (fun Z h2=>L (by rw[hlen]at Z;omega) h2) (fun i hi=>by rw[hlen]at hi;rw[U i hi];exact I _ AA)
   (fun i hi j J=>by rw[hlen]at hi;rw[U i hi];exact hf _ AA j J) (fun i hi j J=>by rw[hlen]at hi;rw[u];exact hx _ AA j J)
   (fun i hi j J=>by rw[hlen]at hi;rw[U i hi,u];exact hc _ AA j J)
  rw[hlen]at this;exact this
def tJ {t e:TypeId} {agg:Bool} {size:Nat} {x:Operand} {lo hi:Option Operand} {l h:Int} (enc:α→D) {xs r:List α} (hr:Hg xs l h=some r) (hl:lo=none→l=0) (hh:hi=none→h=xs.length) (ht:P.underlying t=some (.slice e)) (O:EI P e agg size)
 (hc:∀a,(enc a).cells.length=size) (U:o.op=.slice t x lo hi none):BR P o ((x,.d (BM enc xs))::(ny lo l++ny hi h)) es (.d (BM enc r)) es:=
 .pure fun ok H a w _ _ hn=>by
  obtain⟨⟨h0,h1,h2⟩,rfl⟩:=aar hr;have hx:=hn (x,.d (BM enc xs)) Aw;simp only at hx;generalize Y:a.eval x=v at hx;have Z:(underlying t).run P w=.ok (.slice e) w:=ND
  have L:∀y,lo=some y→a.eval y=.int .i64 l:=fun y e=>(hn (y,.d (Ad l)) aB2).lit;have M:∀y,hi=some y→a.eval y=.int .i64 h:=fun y e=>(hn (y,.d (Ad h)) aB2).lit;have u:Dk ok w (.sl (xs.map enc)) v:=by cases hx with |d _ _ h=>exact h
  have I:∃ad cap,v=.slice ad (xs.map enc).length cap∧(xs.map enc).length≤cap:=by
   generalize hys:xs.map enc=ys at u;cases u with
   |sl0 ad cap=>exact⟨ad,cap,rfl,Ci _⟩
   |sl _ b off cap size j=>exact⟨_,cap,rfl,j⟩
  obtain⟨ad,cap,rfl,j⟩:=I;have q:=aTD (l:=l.toNat) (h:=h.toNat) u (size:=size) (fun y hy=>aKt) AA DW;rw[←ZR,←XR]at q;rw[CB]at j;refine⟨_,?_,.d _ _ q⟩;have e1:((0:Int)≤h∧h≤(cap:Int)):=⟨AA,AA⟩
  cases lo with
  |none=>
   have hl0:=hl rfl;subst hl0;cases hi with
   |none=>
    have J:=hh rfl;subst J;simp[execOp,U,Y,Instr.sliceAt,Instr.slice,Z,Instr.sliceBounds,O.size]
   |some y=>
    simp[execOp,U,Y,Instr.sliceAt,Instr.slice,Z,Instr.sliceBounds,Instr.sliceBound,M y rfl,asIntOf,e1,O.size]
  |some z=>
   cases hi with
   |none=>
    have J:=hh rfl;subst J;have e2':((0:Int)≤l∧l≤(xs.length:Int)):=⟨h0,AA⟩
    simp[execOp,U,Y,Instr.sliceAt,Instr.slice,Z,Instr.sliceBounds,Instr.sliceBound,L z rfl,asIntOf,e2',O.size]
   |some y=>
    simp[execOp,U,Y,Instr.sliceAt,Instr.slice,Z,Instr.sliceBounds,Instr.sliceBound,L z rfl,M y rfl,asIntOf,e1,O.size];intro hc';have :=hc' h0;omega
def lF (P:Program) (t:TypeId) (f off:Nat) (agg:Bool) (n:Nat):Bool:=
 match P.underlying t with
 |some (.struct q)=>match q[f]? with
  |some j=>decide (j.offset=off)&&aNL P j.type agg n
  |none=>false
 |_=>false
def abM {x:Operand} {t:TypeId} {f off n:Nat} {agg:Bool} {cs:List D} (hp:lF P t f off agg n=true) (hn:off+n≤cs.length) (Z:agg=false→n=1) (M:o.op=.field t x f):BR P o [(x,.d (.agg cs))] es (.d (QC agg cs off n)) es:=
 .pure fun ok H a w _ _ I=>by
  have J:=KH I;simp only at J;generalize O:a.eval x=v at J;unfold lF at hp;split at hp
  ·rename_i fs hu;split at hp
   ·rename_i j U;simp only[CZ,GN]at hp;obtain⟨rfl,q⟩:=hp;have q:=Fr q;have u:(underlying t).run P w=.ok (.struct fs) w:=aG4
    cases J with
    |d _ _ h=>
     cases h with
     |agg _ vs hl L Y=>
      cases agg with
      |false=>
       have :=Z rfl;subst this;have z:j.offset<vs.size:=AA
       refine⟨vs[j.offset],?_,?_⟩
       ·simp[execOp,M,O,Instr.field,u,U,asAgg,part,q.agg,z]
       have :=Y j.offset AA;simp[Array.getD,z]at this;exact .d _ _ this
      |true=>
       refine⟨.agg (vs.extract j.offset (j.offset+n)),?_,?_⟩
       ·simp[execOp,M,O,Instr.field,u,U,asAgg,part,q.agg,q.size]
       simp only[QC,JV];have hlen:((cs.drop j.offset).take n).length=n:=DW
       have hg:∀i,i<n→((cs.drop j.offset).take n).getD i Dh=cs.getD (j.offset+i) Dh:=by
        intro i hi;simp[List.getD,LM hi,Py]
       refine .d _ _ (.agg _ _ (by rw[hlen];simp;omega) ?_ ?_)<;>intro i hi<;>rw[hlen]at hi<;>rw[hg i hi]
       ·exact L _ AA
       have :=Y (j.offset+i) AA
       have e:(vs.extract j.offset (j.offset+n)).getD i undef=vs.getD (j.offset+i) undef:=by
        have h3:j.offset+i<vs.size:=AA
        have h4:i<(vs.extract j.offset (j.offset+n)).size:=DW
        have h5:i<min (j.offset+n) vs.size-j.offset:=AA
        simp[Array.getD,h3,h5]
       rw[e];exact this
   cases hp
  cases hp
def Aa.flat:Aa→Bool
 | .d (.lit _)=>true
 | .eF xs=>xs.all fun x=>match x with | .d (.lit _)=>true|_=>false
 |_=>false
def aSH (es:List Az):Aa→Aa→Prop
 | .d x,y=>y=.d x
 | .aY k,y=>∃e s xs,es[k]? =some (.arr e s xs)∧y=.d (.sl xs)
 |_,_=>False
def Zl (es:List Az):List Aa→List Aa→Prop
 |x::xs,y::ys=>aSH es x y∧Zl es xs ys
 | [],[]=>True
 |_,_=>False
def aPc :∀{xs ys:List Aa},Zl es xs ys→xs.length=ys.length
 | [],[],_=>rfl
 |_::xs,_::ys,h=>by simp[aPc h.2]
 | [],_::_,h=>h.elim
 |_::_,[],h=>h.elim
def aYE {ops:List Operand}:∀{xs ys:List Aa},ops.length=xs.length→Zl es xs ys→∀i,i<ys.length→∃o x,ops[i]? =some o∧(o,x)∈FM ops xs∧aSH es x (ys.getD i .junk):=by
 induction ops with
 |nil=>
  intro xs ys hl h i hi;cases xs with
  |nil=>cases ys with |nil=>simp at hi|cons _ _=>exact h.elim
  |cons _ _=>simp at hl
 |cons o ops j=>
  intro xs ys hl h i hi;cases xs with
  |nil=>simp at hl
  |cons x xs=>
   cases ys with
   |nil=>exact h.elim
   |cons y ys=>
    cases i with
    |zero=>exact⟨o,x,rfl,by simp[FM],h.1⟩
    |succ i=>
     obtain⟨q,u,z,I,J⟩:=j MC h.2 i G6;exact⟨q,u,Le,by simp[FM,I],SL⟩
def dz {ok ok':Nat→Prop} {w:World} {H:List BN} {h:BN} {e s:Nat} {xs:List D} (he:En ok w H h (.arr e s xs)) (u:∀b,ok b→ok' b) (M:∀b,D6 h.v=some b→ok' b):Dk ok' w (.sl xs) h.v:=by
 obtain⟨h1,J,ys,⟨h3,h4⟩,h5⟩:=he;rcases h4 with⟨L,h7⟩|⟨g,cap,cur,L,h7,h8,h9,h10,O,U⟩
 ·rw[Gh h7,L];exact .sl0 none 0
 rw[L];have z:=M g (by rw[L];rfl);have I:=SP J
 have Y:∀i j,i<xs.length→j<s→i*s+j<xs.length*s:=by
  intro i j hi q
  calc i*s+j<i*s+s:=AA
   _=(i+1)*s:=by rw[Pe]
   _≤xs.length*s:=JR _ hi
 have hcur:xs.length*s≤cur.size:=by
  exact Ed (JR _ h9) O
 have hc:∀i j,i<xs.length→j<s→w.cell? ⟨g,0+(i*s+j),none⟩=some (ys.getD (i*s+j) undef):=by
  intro i j hi q;have Z:=Y i j hi q;rw[Ij]
  have e1:ys.getD (i*s+j) undef=cur[i*s+j]' AA:=by
   rw[←U];simp[List.getD,LM Z,show i*s+j<cur.size by omega]
  rw[e1];simp[World.cell?,h8,show i*s+j<cur.size by omega]
 have hg:∀i,i<xs.length→xs.getD i Dh∈xs:=fun i hi=>NZ
 refine .sl xs g 0 cap s h9 (fun _ _=>z) (fun i hi=>J _ (hg i hi)) (fun i hi j q=>?_) (fun i hi j q=>?_) (fun i hi j q=>?_)
 ·have :=(h5.2 (i*s+j) (by rw[I];exact Y i j hi q)).1;rw[flat_get J i j hi q]at this;exact this
 ·rw[hc i j hi q];rfl
 have :=(h5.2 (i*s+j) (by rw[I];exact Y i j hi q)).2;rw[flat_get J i j hi q]at this;unfold cellAt;rw[hc i j hi q];cases this with |d _ _ h=>exact h.mono (fun b M=>⟨u b M,rfl⟩)
def aXz {f:FuncId} {ops:Array Operand} {ats:Array TypeId} {dU fC:List Aa} {I:Aa} (hr:Aq P f fC [] I []) (hf:BA P f=true) (z:I.flat=true) (ha:Zl es dU fC) (hl:ops.toList.length=dU.length)
 (ho:o.op=.call { callee:=.value (.func f),args:=ops,argTypes:=ats }):BR P o (FM ops.toList dU) es I es:=by
 intro C ok H a w Q hm hn;unfold Oper.wp;rw[vU ho,TR hf,ZU];have e:ops.map a.eval=(ops.toList.map a.eval).toArray:=aCu
 rw[e]
 let J:Nat→Prop:=fun b=>b<w.heap.size
 have hmc:Ce ⟨w,J,[],[]⟩ J [] [] w:=
  ⟨.refl _ _,fun _ h=>h,fun _ h=>.inl h,fun _ h=>h,.refl _,rfl,fun k e h L _=>by simp at L,fun k e h b L=>by simp at L,fun k k' e e' h h' b L=>by simp at L⟩
 refine(hr J [] [] w _ hmc (by simp[hl,aPc ha]) (fun i hi=>?_)).mono ?_
 ·obtain⟨op,x,ho',U,j⟩:=aYE hl ha i hi;have O:=hn _ U
  have e:(ops.toList.map a.eval).toArray.getD i undef=a.eval op:=by
   obtain⟨h1,h2⟩:=FI.1 ho';have Y:i<ops.size:=by simpa using h1
   have Z:ops[i]=op:=yD
   simp[Array.getD,Y,Z]
  rw[e];simp only at O;generalize fC.getD i .junk=y at j;generalize a.eval op=u at O;cases x with
  |d x=>
   obtain rfl:=j;cases O with |d _ _ h=>exact .d _ _ (h.mono (fun b M=>⟨hm.kN b M,rfl⟩))
  |aY k=>
   obtain⟨e',s,xs,hk,rfl⟩:=j;obtain⟨h,hh,hok⟩:=GR hm.ent hm.hlen hk;obtain rfl:=Nq O hh;exact .d _ _ (dz hok (fun b M=>hm.kN b M) (fun b M=>(hm.blk k _ h b hk rfl hh M).2.1))
  |_=>exact j.elim
 rintro e w' ⟨v,ok',H',rfl,q,O⟩;have hblk:∀b,b<w.heap.size→¬False→w'.heap[b]? =w.heap[b]? :=fun b M _=>q.fr.block b M Aw;obtain⟨h1,h2⟩:=hm.change (ok':=ok) (H':=H) (es':=es) (w':=w') (fun _=>False) q.fr.os q.fr.tape q.fr.output q.fr.size hblk (fun _ h=>h.elim) (fun _ h=>h) (fun _ h=>.inl h) (.refl _) hm.hlen (fun k e h L hh=>.inl ⟨L,hh,fun _ _ _ h=>h⟩);refine⟨v,ok,H,rfl,h2,.refl _,h1,?_⟩;cases O with
 |d x v h=>
  cases x with
  |lit u=>cases h;exact .d _ _ (.lit _)
  |_=>simp[Aa.flat]at z
 |eF xs vs hl' h=>
  refine .eF xs vs hl' (fun i hi=>?_);simp only[Aa.flat,Di]at z;have Y:=z (xs.getD i .junk) NZ;have Z:=h i hi;generalize xs.getD i .junk=x at Y Z;generalize vs.getD i undef=u at Z;cases Z with
  |d y _ h5=>
   cases y with
   |lit u=>cases h5;exact .d _ _ (.lit _)
   |_=>simp at Y
  |_=>simp at Y
 |_=>simp[Aa.flat]at z
end
def Aa.thaw (k:Nat) (xs:List D):Aa→Aa
 | .aY j=>if j=k then .d (.sl xs)else .aY j
 | .lq j i off=>if j=k then .junk else .lq j i off
 |x=>x
def Ak.thaw (σ:Ak) (k:Nat) (xs:List D):Ak:=⟨σ.slots.map (Aa.thaw k xs),σ.ents.set k .dead,σ.base⟩
def NG {σ:Ak} (k:Nat) {e s:Nat} {xs:List D} (hk:σ.ents[k]? =some (.arr e s xs)):∀C ok H a w,Holds C ok H σ a w→∃ok',Holds C ok' H (σ.thaw k xs) a w:=by
 intro C ok H a w u;obtain⟨hd,O,hok⟩:=GR u.mem.ent u.mem.hlen hk;have I:k<σ.ents.length:=(FI.1 hk).1
 let ok':Nat→Prop:=fun b=>ok b∨D6 hd.v=some b
 have M:=fun b q=>u.mem.blk k _ hd b hk rfl O q;have hg:EN ok w ok' w:=fun b q=>⟨.inl q,rfl⟩
 refine⟨ok',⟨u.mem.fr,fun b q=>.inl (u.mem.yV b q),?_,?_,u.mem.names,by simp[Ak.thaw,u.mem.hlen],?_,?_,?_⟩,by simp[Ak.thaw,u.size],u.defers.mono hg,u.base,?_⟩
 ·rintro b (q|q)
  ·exact u.mem.yX b q
  exact .inr (M b q).2.2
 ·rintro b (q|q)
  ·exact u.mem.kN b q
  exact(M b q).2.1
 ·intro j e' h' he J;rcases LD I he with⟨rfl,rfl⟩|⟨_,L⟩
  ·trivial
  exact(u.mem.ent j e' h' L J).mono hg (.refl _) (fun _ _ _=>rfl)
 ·intro j e' h' b he hl J q;rcases LD I he with⟨rfl,rfl⟩|⟨hne,L⟩
  ·cases hl
  have h3:=u.mem.blk j e' h' b L hl J q;refine⟨fun z=>?_,h3.2⟩;rcases z with z|z
  ·exact h3.1 z
  exact hne (u.mem.D8 j k e' _ h' hd b L hk hl rfl J O q z)
 ·intro i j e1 e2 h1 h2 b he1 he2 Y Z hh1 hh2 hb1 hb2;rcases LD I he1 with⟨rfl,rfl⟩|⟨_,arY⟩
  ·cases Y
  rcases LD I he2 with⟨rfl,rfl⟩|⟨_,alg⟩
  ·cases Z
  exact u.mem.D8 i j e1 e2 h1 h2 b arY alg Y Z hh1 hh2 hb1 hb2
 intro t ht;simp only[Ak.thaw,CB]at ht
 have e1:(σ.thaw k xs).slots.getD t .junk=(σ.slots.getD t .junk).thaw k xs:=by
  simp only[Ak.thaw];exact RN _ _ _ ht
 rw[e1];have U:=(u.slot t ht).mono hg (Names.refl H);generalize σ.slots.getD t .junk=x at U ⊢;generalize a.tmps.getD t undef=v at U ⊢;cases x with
 |aY j=>
  simp only[Aa.thaw];split
  ·rename_i hj;subst hj;obtain rfl:=Nq U O;exact .d _ _ (dz hok (fun b q=>.inl q) (fun b q=>.inr q))
  exact U
 |lq j i off=>
  simp only[Aa.thaw];split
  ·exact .junk _
  exact U
 |_=>exact U
def AV.thaw {P:Program} {c:Code} {σ:Ak} {Q:Exit→Ak→Prop} (k:Nat) {e s:Nat} {xs:List D} (q:σ.ents[k]? =some (.arr e s xs)) (h:AV P c (σ.thaw k xs) Q):AV P c σ Q:=by
 refine⟨fun ro u C ok H a w z=>?_⟩;obtain⟨ok',j⟩:=NG k q C ok H a w z;exact h.run ro u C ok' H a w j
def Aq.view {P:Program} {f:FuncId} {args:List Aa} {e s:Nat} {xs:List D} (h:Aq P f args [] (.aY 0) [.arr e s xs]):Aq P f args [] (.d (.sl xs)) []:=by
 intro ok X H w q hm hs ha;refine(h ok X H w q hm hs ha).mono ?_;rintro e' w' ⟨v,ok',H',rfl,j,L⟩;have M:H=[]:=Gh hm.hlen;have hl:H'.length=1:=j.hlen
 match H',hl with
 | [hd],_=>
   obtain rfl:=Nq L (h:=hd) rfl;have I:=j.ent 0 _ hd rfl rfl;have z:=fun b z=>j.blk 0 _ hd b rfl rfl rfl z
   let J:Nat→Prop:=fun b=>ok' b∨D6 hd.v=some b
   refine⟨hd.v,J,[],rfl,⟨j.fr,fun b h=>.inl (j.yV b h),?_,?_,by intro k v O;subst M;simp at O,rfl,fun k e h u=>by simp at u,fun k e h b u=>by simp at u,fun k k' e e' h h' b u=>by simp at u⟩,.d _ _ (dz I (fun b h=>.inl h) (fun b h=>.inr h))⟩
   ·rintro b (h|h)
    ·exact j.yX b h
    exact .inr (z b h).2.2
   rintro b (h|h)
   ·exact j.kN b h
   exact(z b h).2.1
def an0 (es E':List Az) (j:E'.all Az.closed=true):Lh [] es E'=es++E':=by
 unfold Lh;simp only[List.findIdx?_nil,L9,lK];rw[aRo j];congr 1;apply bD;intro i;simp only[JD,List.getElem?_zipIdx];cases es[i]? <;>rfl
def abH {P:Program} {o:Oper} {es:List Az} {f:FuncId} {ops:Array Operand} {ats:Array TypeId} {dU fC:List Aa} {j res':Aa} {E':List Az} (z:Aq P f fC [] j E') (I:BA P f=true) (q:E'.all Az.closed=true)
 (ha:MS [] dU fC) (hl:ops.toList.length=dU.length) (J:j.up [] es.length=res') (L:o.op=.call { callee:=.value (.func f),args:=ops,argTypes:=ats }):BR P o (FM ops.toList dU) es res' (es++E'):=by
 have :=aYG (es:=es) [] z I (by
  have u:E'.all (Az.aoo [] es.length)=true:=by
   rw[Di]at q ⊢;exact fun e M=>aiD (q e M)
  simp[RZ,u]) (fun i s h=>Ig) ha hl L
 rw[an0 _ _ q,J]at this;exact this
def aQv {P:Program} {o:Oper} {es:List Az} {f:FuncId} {ops:Array Operand} {ats:Array TypeId} {dU fC:List Aa} {j res':Aa} (q:Aq P f fC [] j []) (u:BA P f=true)
 (ha:MS [] dU fC) (hl:ops.toList.length=dU.length) (z:j.up [] es.length=res') (I:o.op=.call { callee:=.value (.func f),args:=ops,argTypes:=ats }):BR P o (FM ops.toList dU) es res' es:=by
 have :=abH (es:=es) q u rfl ha hl z I;rw[Oc]at this;exact this
section
variable {P : Program} {σ : Ak} {Q : Exit → Ak → Prop}
def aHg (P:Program) (σ:Ak):ResultVar→Aa→Prop
 | .tmp t,x=>x=σ.slots.getD t .junk
 | .cell t T,x=>∃k cs agg n,σ.slots.getD t .junk=.ptr k 0∧σ.ents[k]? =some (.box cs)∧cs.all Aa.AO=true∧EI P T agg n∧n≤cs.length∧(agg=false→n=1)∧x=.d (QC agg (Iw cs) 0 n)
def KG {P:Program} {σ:Ak} {t:Tmp} {x:Aa} (h:x=σ.slots.getD t .junk):aHg P σ (.tmp t) x:=h
def ZE (P:Program) (σ:Ak):List ResultVar→List Aa→Prop
 |r::rs,x::xs=>aHg P σ r x∧ZE P σ rs xs
 | [],[]=>True
 |_,_=>False
def kY :List Aa→Aa
 | [x]=>x
 |xs=>.eF xs
def aaN (P:Program) (fn:Func) (j:Aa) (E':List Az):Exit→Ak→Prop
 | .ret,σ=>∃xs π,ZE P σ fn.results.toList xs∧Ug σ.base σ.ents π=true∧j=(kY xs).back π∧E'=SB σ.ents π
 | .normal,σ=>∃xs π,ZE P σ fn.results.toList xs∧Ug σ.base σ.ents π=true∧j=(kY xs).back π∧E'=SB σ.ents π
 |_,_=>False
def aH8 (tmps:Array Value):ResultVar→Sem Value
 | .tmp t=>pure (tmps.getD t undef)
 | .cell t T=>do loadVar T (←asAddr (tmps.getD t undef))
def ag4 {C:EP} {ok:Nat→Prop} {H:List BN} {a:Act} {w:World} (h:Holds C ok H σ a w) {r:ResultVar} {x:Aa} (j:aHg P σ r x):
 ∃v,(aH8 a.tmps r).run P w=.ok v w∧R ok w H x v:=by
 cases r with
 |tmp t=>
  obtain rfl:=j;exact⟨_,rfl,h.avL t⟩
 |cell t T=>
  obtain⟨k,cs,agg,n,hs,J,hd,L,hn,M,rfl⟩:=j;have hp:=hs▸h.avL t;obtain⟨O,U,q⟩:=GR h.mem.ent h.mem.hlen J;obtain⟨b,z,Y,Z,hc⟩:=aIL q hd;generalize hu:a.tmps.getD t undef=u at hp;cases hp with
  |ptr _ _ b' s I=>
   rw[U]at I;obtain rfl:=CS I;simp at z;subst z;show ∃v,((do loadVar T (←asAddr (a.tmps.getD t undef)):Sem Value)).run P w=.ok v w∧_;rw[hu];obtain⟨v,j,hD⟩:=aFb L (off:=0) (by rw[vT];omega) M Y Z hc;refine⟨v,?_,.d _ _ hD⟩;simp only[Instr.loadAt,Instr.sureAddr,FD,GI,FP,Ij]at j;simp only[asAddr,FD,GI,FP];exact j
def aRF {C:EP} {ok:Nat→Prop} {H:List BN} {a:Act} {w:World} (h:Holds C ok H σ a w):∀(rs:List ResultVar) (xs:List Aa),ZE P σ rs xs→
 ∃vs:List Value,(rs.mapM (aH8 a.tmps)).run P w=.ok vs w∧vs.length=xs.length∧∀i,i<xs.length→R ok w H (xs.getD i .junk) (vs.getD i undef)
 | [],[],_=>⟨[],rfl,rfl,fun i hi=>Ot⟩
 | [],_::_,h'=>h'.elim
 |_::_,[],h'=>h'.elim
 |r::rs,x::xs,h'=>by
  obtain⟨v,u,z⟩:=ag4 (P:=P) h h'.1;obtain⟨vs,j,hl,q⟩:=aRF h rs xs h'.2;refine⟨v::vs,?_,ZJ,fun i hi=>?_⟩
  ·simp only[List.mapM_cons,FD,u,j,FP,GI]
  cases i with
  |zero=>exact z
  |succ i=>simpa using q i G6
def aon {C:EP} {ok:Nat→Prop} {H:List BN} {a:Act} {w:World} (h:Holds C ok H σ a w) {fn:Func} {xs:List Aa} (I:ZE P σ fn.results.toList xs):
 ∃v,(results fn a.tmps).run P w=.ok v w∧R ok w H (kY xs) v:=by
 obtain⟨vs,u,hl,j⟩:=aRF (P:=P) h _ _ I
 have hm:(results fn a.tmps).run P w=.ok (if h:vs.toArray.size=1 then vs.toArray[0]else .tuple vs.toArray) w:=by
  have e:results fn a.tmps=(do let vs ←fn.results.mapM (aH8 a.tmps);pure (if h:vs.size=1 then vs[0]else .tuple vs)):=rfl;rw[e,aPu];simp only[FD,vG,u,FP,GI]
 refine⟨_,hm,?_⟩
 match xs,hl,j with
 | [x],hl,j=>
   have q:vs.toArray.size=1:=MC
   rw[dif_pos q];have :=j 0 Aw
   have e:vs.getD 0 undef=vs.toArray[0]:=by
    have :0<vs.length:=ZJ
    simp[List.getD,this]
   rw[e]at this;exact this
 | [],hl,j=>
   have q:¬vs.toArray.size=1:=by simp at hl;simp[hl]
   rw[dif_neg q];exact .eF [] _ MC (fun i hi=>Ot)
 |x::y::xs,hl,j=>
  have q:¬vs.toArray.size=1:=by simp at hl;simp[hl]
  rw[dif_neg q];refine .eF _ _ MC (fun i hi=>?_);have :=j i hi;have z:i<vs.length:=AA
  have e:vs.toArray.getD i undef=vs.getD i undef:=by simp[Array.getD,List.getD,z]
  rw[e];exact this
def agz {w:World} {D:Nat} {x:Option (List Deferred)} (h:w.heap[D]? =some (.deferred x)) (o:Nat):w.cell? ⟨D,o,none⟩=none:=by
 unfold World.cell?;rw[h]
def Holds.take {C:EP} {ok:Nat→Prop} {H:List BN} {σ:Ak} {a:Act} {w:World} (hC:∀b,C.ok0 b→b<C.w0.heap.size) (h:Holds C ok H σ a w) {D:Nat} {Ds:List Nat} (hd:∀d∈Ds,ok d∧C.w0.heap.size≤d∧w.heap[d]? =some (.deferred (some [])))
 (hD:ok D∧C.w0.heap.size≤D∧w.heap[D]? =some (.deferred (some []))) (J:(D::Ds).Nodup):
 ∃ok',Holds C ok' H σ { a with defers:=Ds.map fun D=>{ target:=.collected D,args:= #[] } } (w.putObj D (.deferred none))∧∀d∈Ds,ok' d∧C.w0.heap.size≤d∧(w.putObj D (.deferred none)).heap[d]? =some (.deferred (some [])):=by
 obtain⟨h1,h2,h3⟩:=hD;have q:∀b,b≠D→(w.putObj D (.deferred none)).heap[b]? =w.heap[b]? :=fun b j=>Xr j;have L:∀b o,ok b→(w.cell? ⟨b,o,none⟩).isSome=true→ok b∧b≠D:=fun b o j M=>⟨j,fun e=>by subst e;rw[agz h3]at M;cases M⟩
 have hg:EN (fun b=>ok b∧b≠D) w (fun b=>ok b∧b≠D) (w.putObj D (.deferred none)):=fun b j=>⟨j,q b j.2⟩
 have Y:∀(k:Nat) (e:Az) (hd:BN) (b:Nat),σ.ents[k]? =some e→e.live=true→H[k]? =some hd→D6 hd.v=some b→b≠D:=fun k e hd b z hl I j Z=>(h.mem.blk k e hd b z hl I j).1 (Z▸h1)
 have O:∀d∈Ds,(ok d∧d≠D)∧C.w0.heap.size≤d∧(w.putObj D (.deferred none)).heap[d]? =some (.deferred (some [])):=fun d u=>by
  have U:d≠D:=fun e=>(Kv.1 J).1 (e▸u);exact⟨⟨(hd d u).1,U⟩,(hd d u).2.1,by rw[q d U];exact(hd d u).2.2⟩
 refine⟨fun b=>ok b∧b≠D,⟨⟨⟨h.mem.fr.os,h.mem.fr.tape,h.mem.fr.output,by simpa[World.putObj]using h.mem.fr.size,fun k hk hX=>by rw[q k AA];exact h.mem.fr.block k hk hX⟩,fun b j=>⟨h.mem.yV b j,fun e=>by have :=hC b j;omega⟩,fun b j=>h.mem.yX b j.1,fun b j=>by simpa[World.putObj]using h.mem.kN b j.1,h.mem.names,h.mem.hlen,?_,?_,?_⟩,h.size,⟨Ds,rfl,(Kv.1 J).2,O⟩,h.base,fun t ht=>((h.slot t ht).shrink L).mono hg (.refl _)⟩,O⟩
 ·intro k e hd z I;exact((h.mem.ent k e hd z I).shrink L (fun b ms c j M=>⟨j,fun e=>by subst e;rw[h3]at M;cases M⟩)).mono hg (.refl _) fun hl b j=>q b (Y k e hd b z hl I j)
 ·intro k e hd b z hl I j;obtain⟨h4,h5,h6⟩:=h.mem.blk k e hd b z hl I j;exact⟨fun hx=>h4 hx.1,by simpa[World.putObj]using h5,h6⟩
 exact h.mem.D8
def aOr {fn:Func} {Rr:Ending→World→Prop} {C:EP} (u:∀b,C.ok0 b→b<C.w0.heap.size) {H:List BN} {σ:Ak}
 (z:∀ok a w,Holds C ok H σ a w→∃v,(results fn a.tmps).run P w=.ok v w∧Rr (.returned v) w):∀(Ds:List Nat) {ok:Nat→Prop} {a:Act} {w:World},Holds C ok H σ a w→(∀d∈Ds,ok d∧C.w0.heap.size≤d∧w.heap[d]? =some (.deferred (some [])))→Ds.Nodup→
  LeavesInM (Iz none) 0 P fn a.tmps Rr (Ds.map fun D=>{ target:=.collected D,args:= #[] }) .returning w
 | [],ok,a,w,h,_,_=>z ok a w h
 |D::Ds,ok,a,w,h,hd,I=>by
  obtain⟨ok',h',j⟩:=h.take u (fun d q=>hd d (F5 _ q)) (hd D (EO ..)) I;have J:=aOr u z Ds h' j (Kv.1 I).2;exact⟨Aw,.inl ⟨D,_,rfl,run_takeDeferred (hd D (EO ..)).2.2,J⟩⟩
def Aq.aO {f:FuncId} {fn:Func} {c:Code} {args:List Aa} {E E':List Az} {u:Aa} (hf:P.funcs[f]? =some fn) (hb:fn.body=some c)
 (h:AV P c (.enter args fn.ntmps E) (aaN P fn u E')):Aq P f args E u E':=by
 intro ok X H w j hm hs ha;refine(aBG (ro:=none) (n:=0)).1 (aPD hf hb trivial (Ur (h.run none (.inl rfl) ⟨w,ok,X,H⟩ ok H _ w ?_) ?_) rfl)
 ·refine⟨hm,?_,.nil _ _ _,hm.hlen,fun t ht=>?_⟩
  ·simp[Ak.enter,hs]
  simp only[Ak.enter];by_cases e:t<args.length
  ·have J:(args++List.replicate (fn.ntmps-args.length) Aa.junk).getD t .junk=args.getD t .junk:=aPW
   have e2:(j++Array.replicate (fn.ntmps-j.size) undef).getD t undef=j.getD t undef:=by
    simp[Ib,YE (show t<j.size by omega)]
   rw[J,e2];exact ha t e
  have J:(args++List.replicate (fn.ntmps-args.length) Aa.junk).getD t .junk=.junk:=by
   simp only[List.getD,Jf (WT e),aK7];split<;>rfl
  rw[J];exact .junk _
 rintro e a' w' ⟨ok',H',σ',h1,L⟩;obtain⟨Ds,M,O,U⟩:=h1.defers
 have key:∀(x:List Aa) (π:List (Nat×Bool)),ZE P σ' fn.results.toList x→Ug σ'.base σ'.ents π=true→u=(kY x).back π→E'=SB σ'.ents π→
  LeavesInM (Iz none) 0 P fn a'.tmps (fun e w'=>∃v ok' H',e=.returned v∧Ce ⟨w,ok,X,H⟩ ok' H' E' w'∧R ok' w' H' u v) a'.defers .returning w':=by
  rintro x π I q rfl rfl;rw[M];refine aOr (P:=P) (C:=⟨w,ok,X,H⟩) hm.kN (fun Y a2 w2 z=>?_) Ds h1 U O;obtain⟨v,hv,hR⟩:=aon (P:=P) z I;exact⟨v,hv,v,Y,_,rfl,z.mem.norm π (z.base▸q),hR.back π⟩
 cases e with
 |ret=>obtain⟨x,π,I,q,z,Z⟩:=L;exact key x π I q z Z
 |normal=>obtain⟨x,π,I,q,z,Z⟩:=L;exact key x π I q z Z
 |_=>exact L.elim
def Ae {x y:Code} (j:AV P x σ (Kw (fun s=>AV P y s Q) Q)):AV P (.seq x y) σ Q:=AV.seq _ j (fun _ h=>h)
def Dt {x y:Code} (K:Ak→Prop) (j:∀s,K s→AV P y s Q) (q:(∀s,K s→AV P y s Q)→AV P x σ (Kw (fun s=>AV P y s Q) Q)):AV P (.seq x y) σ Q:=AV.seq _ (q j) (fun _ h=>h)
def Ut {c:Operand} {x y:Code} (j:σ.get c=.d (.lit (.bool true))) (h:AV P x σ Q):AV P (.cond c x y) σ Q:=AV.cond true j (fun _=>h) (fun h=>Ie)
def QD {c:Operand} {x y:Code} (j:σ.get c=.d (.lit (.bool false))) (h:AV P y σ Q):AV P (.cond c x y) σ Q:=AV.cond false j (fun h=>Ie) (fun _=>h)
def H9 {id:Nat} {ops:Array Oper} {y:Code} {σ':Ak} {rs:List Aa} {ess:List (List Az)} {bs:List Bool} (hm:P.follows .mixedOrders=true) (j:(VP ops&&WI ops&&WZ ops σ.slots.length&&Vs ops)=true) (q:UY ops bs=true)
 (h:Et P ops ops.toList σ rs ess bs σ') (u:AV P y σ' Q):AV P (.seq (.region id ops true) y) σ Q:=
 AV.seq (fun s=>s=σ') (.draw hm j q h rfl) (fun _ e=>e▸u)
end
section
variable {P : Program} {o : Oper} {es : List Az}
def ain {x:Operand} {t:TypeId} {agg:Bool} {n off:Nat} {cs:List D} {y:D} (j:y=QC agg cs off n) (q:EI P t agg n) (u:off+n≤cs.length) (z:agg=false→n=1) (I:o.op=.load t x):BR P o [(x,.d (.ref cs off))] es (.d y) es:=j▸al7 q u z I
def agY {x:Operand} {t:TypeId} {agg:Bool} {k n off:Nat} {cs:List Aa} {y:D} (j:y=QC agg (Iw cs) off n) (q:es[k]? =some (.box cs)) (hd:cs.all Aa.AO=true) (u:EI P t agg n) (z:off+n≤cs.length) (I:agg=false→n=1) (J:o.op=.load t x):
 BR P o [(x,.ptr k off)] es (.d y) es:=j▸aeg q hd u z I J
def aji {x:Operand} {t:TypeId} {f off n:Nat} {agg:Bool} {cs:List D} {y:D} (j:y=QC agg cs off n) (hp:lF P t f off agg n=true) (q:off+n≤cs.length) (u:agg=false→n=1) (z:o.op=.field t x f):BR P o [(x,.d (.agg cs))] es (.d y) es:=j▸abM hp q u z
def adr {t:TypeId} {q:Array (Nat×Operand)} {j:List (Nat×Nat)} {z:Value} {y:D} (u:JB P t j z) (vs:List Aa) (I:o.op=.build t q) (J:y=.agg (Iw (Jz (fun(i:Nat)=>j[i]?) (FU z) q.toList vs))) (hp:NK (fun(i:Nat)=>j[i]?) (FU z).length q.toList vs=true)
 (hd:(Jz (fun(i:Nat)=>j[i]?) (FU z) q.toList vs).all Aa.AO=true):BR P o (Nl q.toList vs) es (.d y) es:=J▸anV u vs hp hd I
def ag8 {s t:TypeId} {x:Operand} {j k:IntKind} {n:Int} (hs:P.underlying s=some (.int j)) (ht:P.underlying t=some (.int k)) (q:o.op=.convert s t x):BR P o [(x,.d (.lit (.int j n)))] es (.d (.lit (.int k (k.wrap n)))) es:=
 ab1 q fun w=>by simp[convert,underlying,hs,ht,Conv.intToInt]
def aoS {s t:TypeId} {x:Operand} {u:ByteArray} (hs:P.underlying s=some .string) (ht:P.underlying t=some .string) (j:o.op=.convert s t x):BR P o [(x,.d (Dw u))] es (.d (Dw u)) es:=
 ab1 j fun w=>by simp[convert,underlying,hs,ht]
def aoA {t t':TypeId} {x y:Operand} {a b:Bool} (ht:P.underlying t=some .bool) (j:o.op=.binOp .eql t x y t'):BR P o [(x,.d (EC a)),(y,.d (EC b))] es (.d (EC (a==b))) es:=
 Gq (u:=.bool a) (v:=.bool b) (r:=.bool (a==b)) j (fun w=>by
  show((do pure (.bool (←Op.equal t (.bool a) (.bool b))):Sem Value)).run P w=_
  simp only[FD,run_equal_bool w t a b ht,FP,GI]) ⟨rfl,rfl⟩
def ajf {t t':TypeId} {x y:Operand} {a b:Bool} (ht:P.underlying t=some .bool) (j:o.op=.binOp .neq t x y t'):BR P o [(x,.d (EC a)),(y,.d (EC b))] es (.d (EC (!(a==b)))) es:=
 Gq (u:=.bool a) (v:=.bool b) (r:=.bool (!(a==b))) j (fun w=>by
  show((do pure (.bool (!(←Op.equal t (.bool a) (.bool b)))):Sem Value)).run P w=_
  simp only[FD,run_equal_bool w t a b ht,FP,GI]) ⟨rfl,rfl⟩
end
def bI {A Rr:Type} (body:(A→Option Rr)→A→Option Rr):Nat→A→Option Rr
 |0,_=>none
 |n+1,a=>body (bI body n) a
def Fl {P:Program} {σ:Ak} {Q:Exit→Ak→Prop} {q:Code} {A Rr:Type} (S:A→Ak) (body:(A→Option Rr)→A→Option Rr) (r:Rr) (a0:A) (hs:CW σ (S a0)) (h:Go.Proofs.YtkkdimcnpacjhaaGreat.bI body Aj a0=some r)
 (round:∀(J:Ak→Prop) (k:A→Option Rr),(∀σ' a,CW σ' (S a)→k a=some r→J σ')→∀a,body k a=some r→AV P q (S a) (Kw J Q)):AV P (.loop q) σ Q:=by
 refine AV.loop (fun n s=>∃a,CW s (S a)∧Go.Proofs.YtkkdimcnpacjhaaGreat.bI body n a=some r) Aj ⟨a0,hs,h⟩ ?_;rintro n s ⟨a,j,u⟩;refine DR j ?_;cases n with
 |zero=>cases u
 |succ n=>exact round _ (Go.Proofs.YtkkdimcnpacjhaaGreat.bI body n) (fun σ' a z I=>⟨n,VK n,a,z,I⟩) a u
def aT {A B Rr:Type} (body:(A→B→Option Rr)→A→B→Option Rr):Nat→A→B→Option Rr
 |0,_,_=>none
 |n+1,a,b=>body (aT body n) a b
def ET {P:Program} {σ:Ak} {Q:Exit→Ak→Prop} {u:Code} {A B Rr:Type} (S:A→B→Ak) (body:(A→B→Option Rr)→A→B→Option Rr) (r:Rr) (a0:A) (q:B) (hs:CW σ (S a0 q)) (h:Go.Proofs.YtkkdimcnpacjhaaGreat.aT body Aj a0 q=some r)
 (round:∀(J:Ak→Prop) (k:A→B→Option Rr),(∀σ' a b,CW σ' (S a b)→k a b=some r→J σ')→∀a b,body k a b=some r→AV P u (S a b) (Kw J Q)):AV P (.loop u) σ Q:=by
 refine AV.loop (fun n s=>∃a b,CW s (S a b)∧Go.Proofs.YtkkdimcnpacjhaaGreat.aT body n a b=some r) Aj ⟨a0,q,hs,h⟩ ?_;rintro n s ⟨a,b,j,z⟩;refine DR j ?_;cases n with
 |zero=>cases z
 |succ n=>exact round _ (Go.Proofs.YtkkdimcnpacjhaaGreat.aT body n) (fun σ' a b I L=>⟨n,VK n,a,b,I,L⟩) a b z
def iY {A B C Rr:Type} (body:(A→B→C→Option Rr)→A→B→C→Option Rr):Nat→A→B→C→Option Rr
 |0,_,_,_=>none
 |n+1,a,b,c=>body (iY body n) a b c
def jP {P:Program} {σ:Ak} {Q:Exit→Ak→Prop} {z:Code} {A B C Rr:Type} (S:A→B→C→Ak) (body:(A→B→C→Option Rr)→A→B→C→Option Rr) (r:Rr) (a0:A) (q:B) (u:C) (hs:CW σ (S a0 q u)) (h:Go.Proofs.YtkkdimcnpacjhaaGreat.iY body Aj a0 q u=some r)
 (round:∀(J:Ak→Prop) (k:A→B→C→Option Rr),(∀σ' a b c,CW σ' (S a b c)→k a b c=some r→J σ')→∀a b c,body k a b c=some r→AV P z (S a b c) (Kw J Q)):AV P (.loop z) σ Q:=by
 refine AV.loop (fun n s=>∃a b c,CW s (S a b c)∧Go.Proofs.YtkkdimcnpacjhaaGreat.iY body n a b c=some r) Aj ⟨a0,q,u,hs,h⟩ ?_;rintro n s ⟨a,b,c,j,I⟩;refine DR j ?_;cases n with
 |zero=>cases I
 |succ n=>exact round _ (Go.Proofs.YtkkdimcnpacjhaaGreat.iY body n) (fun σ' a b c L M=>⟨n,VK n,a,b,c,L,M⟩) a b c I
def XJ {A B C D Rr:Type} (body:(A→B→C→D→Option Rr)→A→B→C→D→Option Rr):Nat→A→B→C→D→Option Rr
 |0,_,_,_,_=>none
 |n+1,a,b,c,d=>body (XJ body n) a b c d
def AV.XJ {P:Program} {σ:Ak} {Q:Exit→Ak→Prop} {I:Code} {A B C D Rr:Type} (S:A→B→C→D→Ak) (body:(A→B→C→D→Option Rr)→A→B→C→D→Option Rr) (r:Rr) (a0:A) (q:B) (u:C) (z:D) (hs:CW σ (S a0 q u z)) (h:Go.Proofs.YtkkdimcnpacjhaaGreat.XJ body Aj a0 q u z=some r)
 (round:∀(J:Ak→Prop) (k:A→B→C→D→Option Rr),(∀σ' a b c d,CW σ' (S a b c d)→k a b c d=some r→J σ')→∀a b c d,body k a b c d=some r→AV P I (S a b c d) (Kw J Q)):AV P (.loop I) σ Q:=by
 refine AV.loop (fun n s=>∃a b c d,CW s (S a b c d)∧Go.Proofs.YtkkdimcnpacjhaaGreat.XJ body n a b c d=some r) Aj ⟨a0,q,u,z,hs,h⟩ ?_;rintro n s ⟨a,b,c,d,j,L⟩;refine DR j ?_;cases n with
 |zero=>cases L
 |succ n=>exact round _ (Go.Proofs.YtkkdimcnpacjhaaGreat.XJ body n) (fun σ' a b c d M O=>⟨n,VK n,a,b,c,d,M,O⟩) a b c d L
def Fe {A B C D E Rr:Type} (body:(A→B→C→D→E→Option Rr)→A→B→C→D→E→Option Rr):Nat→A→B→C→D→E→Option Rr
 |0,_,_,_,_,_=>none
 |n+1,a,b,c,d,e=>body (Fe body n) a b c d e
def AV.Fe {P:Program} {σ:Ak} {Q:Exit→Ak→Prop} {L:Code} {A B C D E Rr:Type} (S:A→B→C→D→E→Ak) (body:(A→B→C→D→E→Option Rr)→A→B→C→D→E→Option Rr) (r:Rr) (a0:A) (q:B) (u:C) (z:D) (I:E) (hs:CW σ (S a0 q u z I)) (h:Go.Proofs.YtkkdimcnpacjhaaGreat.Fe body Aj a0 q u z I=some r)
 (round:∀(J:Ak→Prop) (k:A→B→C→D→E→Option Rr),(∀σ' a b c d e,CW σ' (S a b c d e)→k a b c d e=some r→J σ')→∀a b c d e,body k a b c d e=some r→AV P L (S a b c d e) (Kw J Q)):AV P (.loop L) σ Q:=by
 refine AV.loop (fun n s=>∃a b c d e,CW s (S a b c d e)∧Go.Proofs.YtkkdimcnpacjhaaGreat.Fe body n a b c d e=some r) Aj ⟨a0,q,u,z,I,hs,h⟩ ?_;rintro n s ⟨a,b,c,d,e,j,M⟩;refine DR j ?_;cases n with
 |zero=>cases M
 |succ n=>exact round _ (Go.Proofs.YtkkdimcnpacjhaaGreat.Fe body n) (fun σ' a b c d e O U=>⟨n,VK n,a,b,c,d,e,O,U⟩) a b c d e M
def Fg {A B C D E F Rr:Type} (body:(A→B→C→D→E→F→Option Rr)→A→B→C→D→E→F→Option Rr):Nat→A→B→C→D→E→F→Option Rr
 |0,_,_,_,_,_,_=>none
 |n+1,a,b,c,d,e,f=>body (Fg body n) a b c d e f
def AV.Fg {P:Program} {σ:Ak} {Q:Exit→Ak→Prop} {M:Code} {A B C D E F Rr:Type} (S:A→B→C→D→E→F→Ak) (body:(A→B→C→D→E→F→Option Rr)→A→B→C→D→E→F→Option Rr) (r:Rr) (a0:A) (q:B) (u:C) (z:D) (I:E) (L:F) (hs:CW σ (S a0 q u z I L)) (h:Go.Proofs.YtkkdimcnpacjhaaGreat.Fg body Aj a0 q u z I L=some r)
 (round:∀(J:Ak→Prop) (k:A→B→C→D→E→F→Option Rr),(∀σ' a b c d e f,CW σ' (S a b c d e f)→k a b c d e f=some r→J σ')→∀a b c d e f,body k a b c d e f=some r→AV P M (S a b c d e f) (Kw J Q)):AV P (.loop M) σ Q:=by
 refine AV.loop (fun n s=>∃a b c d e f,CW s (S a b c d e f)∧Go.Proofs.YtkkdimcnpacjhaaGreat.Fg body n a b c d e f=some r) Aj ⟨a0,q,u,z,I,L,hs,h⟩ ?_;rintro n s ⟨a,b,c,d,e,f,j,O⟩;refine DR j ?_;cases n with
 |zero=>cases O
 |succ n=>exact round _ (Go.Proofs.YtkkdimcnpacjhaaGreat.Fg body n) (fun σ' a b c d e f U Y=>⟨n,VK n,a,b,c,d,e,f,U,Y⟩) a b c d e f O
def aaW {A B C D E F G Rr:Type} (body:(A→B→C→D→E→F→G→Option Rr)→A→B→C→D→E→F→G→Option Rr):Nat→A→B→C→D→E→F→G→Option Rr
 |0,_,_,_,_,_,_,_=>none
 |n+1,a,b,c,d,e,f,g=>body (aaW body n) a b c d e f g
def AV.aaW {P:Program} {σ:Ak} {Q:Exit→Ak→Prop} {O:Code} {A B C D E F G Rr:Type} (S:A→B→C→D→E→F→G→Ak) (body:(A→B→C→D→E→F→G→Option Rr)→A→B→C→D→E→F→G→Option Rr) (r:Rr) (a0:A) (q:B) (u:C) (z:D) (I:E) (L:F) (M:G) (hs:CW σ (S a0 q u z I L M)) (h:Go.Proofs.YtkkdimcnpacjhaaGreat.aaW body Aj a0 q u z I L M=some r)
 (round:∀(J:Ak→Prop) (k:A→B→C→D→E→F→G→Option Rr),(∀σ' a b c d e f g,CW σ' (S a b c d e f g)→k a b c d e f g=some r→J σ')→∀a b c d e f g,body k a b c d e f g=some r→AV P O (S a b c d e f g) (Kw J Q)):AV P (.loop O) σ Q:=by
 refine AV.loop (fun n s=>∃a b c d e f g,CW s (S a b c d e f g)∧Go.Proofs.YtkkdimcnpacjhaaGreat.aaW body n a b c d e f g=some r) Aj ⟨a0,q,u,z,I,L,M,hs,h⟩ ?_;rintro n s ⟨a,b,c,d,e,f,g,j,U⟩;refine DR j ?_;cases n with
 |zero=>cases U
 |succ n=>exact round _ (Go.Proofs.YtkkdimcnpacjhaaGreat.aaW body n) (fun σ' a b c d e f g Y Z=>⟨n,VK n,a,b,c,d,e,f,g,Y,Z⟩) a b c d e f g U
section
variable {P : Program} {o : Oper} {es : List Az} {α : Type}
def ape {b:Nat} {z:α} {n c:Int} {r:List α} (h:IK b z n c=some r):(0≤n∧n≤c∧(b:Int)*c≤140737488355328)∧r=List.replicate n.toNat z:=by
 unfold IK at h;split at h
 ·exact⟨‹_›,(CS h).symm⟩
 cases h
def Wj {x y:Operand} {t e:TypeId} {size j:Nat} {q:Value} {n c:Int} {r:List α} (enc:α→D) (z:α) (h:IK j z n c=some r) (hE:Gs P t e size j) (hz:(P.info? e).bind (·.zero)=some q) (h1:q.cells.all (·.oneCell')=true) (M:q.cells.size=size)
 (u:FU q=(enc z).cells.map .d) (hb:0<j) (ho:o.op=.makeSlice t x y):BR P o [(x,.d (Ad n)),(y,.d (Ad c))] es (.aY es.length) (es++[.arr e size (List.map enc r)]):=
 .eff fun C ok H a w hm hn=>by
  obtain⟨⟨h0,hnc,hbc⟩,rfl⟩:=ape h;have hx:=(Eh hn).1.lit;have O:=(Eh hn).2.lit;simp only at hx O;obtain⟨i,z',hi,hz',hs,hby,_⟩:=hE.info;have hzv:i.zero=some q:=by rw[hi]at hz;simpa using hz
  have U:c≤9223372036854775807:=by
   have h2:(1:Int)*c≤(j:Int)*c:=Int.mul_le_mul_of_nonneg_right AA AA;omega
  have hr:=run_make (P:=P) w t e i q hE.und hi hzv .i64 .i64 n c h0 hnc (by rw[hby];omega) U;rw[hs]at hr
  let cells:=madeCells q.cells (c.toNat*size)
  have Y:=hE.pos;have I:cells.size=c.toNat*size:=size_madeCells _ _;have Z:(FU q).length=size:=by simp[FU,M]
  have J:∀y∈List.map enc (List.replicate n.toNat z),y.cells.length=size:=by
   intro y O;simp only[List.map_replicate,List.mem_replicate]at O;rw[O.2,←Z,u];simp
  have L:=SP J;have hlen:(List.map enc (List.replicate n.toNat z)).length=n.toNat:=Aw
  rw[hlen]at L;have aJ3:n.toNat*size≤c.toNat*size:=JR _ AA
  have hrs:∀{ok:Nat→Prop} {w:World} {H:List BN},F6 ok w H (flat (List.map enc (List.replicate n.toNat z))) (cells.toList.take (n.toNat*size)):=by
   intro ok w H;refine⟨by rw[L,F7,Sm,I];omega,fun k hk=>?_⟩;rw[L]at hk;have hd:=aBa k size;have hq:k/size<n.toNat:=xU (by rwa [Um]at hk);have hm':k % size<size:=jU _ Y;have e0:k=k/size*size+k % size:=by rw[Um];exact hd.symm
   have e1:(flat (List.map enc (List.replicate n.toNat z))).getD k .junk=.d ((enc z).cells.getD (k % size) Dh):=by
    have hg:=flat_get J (k/size) (k % size) (by rw[hlen];exact hq) hm';rw[←e0]at hg;rw[hg];congr 3;simp[List.getD,hq]
   have hcl:(enc z).cells.length=size:=by rw[←Z,u];simp
   have e2:(Aa.d ((enc z).cells.getD (k % size) Dh))=(FU q).getD (k % size) .junk:=by
    rw[u];have :k % size<(enc z).cells.length:=AA
    simp[List.getD,this]
   have hmz:k % size<q.cells.size:=AA
   have e3:(cells.toList.take (n.toNat*size)).getD k undef=q.cells[k % size]:=by
    have hk2:k<c.toNat*size:=AA
    have e:cells.toList=(List.range (c.toNat*size)).map fun i=>q.cells[i % q.cells.size]! :=by
     show(madeCells q.cells (c.toNat*size)).toList=_;simp[madeCells]
    rw[e];simp only[List.getD,LM hk];simp[hk2,M];rw[Yr q.cells (k % size) hmz]
   rw[e1,e2,e3];have e4:(FU q).getD (k % size) .junk=.d (Oe q.cells[k % size]):=by simp[FU,List.getD,hmz]
   rw[e4];exact⟨yP ((Sr.1 h1) _ Aw),.d _ _ (lV _)⟩
  obtain⟨h2,h3⟩:=hm.push (.cells cells e) ⟨.slice (some ⟨w.heap.size,0,none⟩) n.toNat c.toNat,size⟩ (.arr e size (List.map enc (List.replicate n.toNat z))) (fun b hb=>by simpa[D6]using hb.symm) (by
   refine⟨rfl,J,cells.toList.take (n.toNat*size),⟨?_,.inr ⟨w.heap.size,c.toNat,cells,by rw[hlen],Ci _,Vw w _,by rw[hlen];omega,aEV,Xw I.symm,by rw[hlen]⟩⟩,hrs⟩
   rw[hlen,F7,Sm,I];omega)
  refine⟨.slice (some ⟨w.heap.size,0,none⟩) n.toNat c.toNat,_,ok,_,.inl ?_,h3,Names.push _ _,h2,.aY _ _ _ _ size Pm⟩;simp only[execOp,ho,hx,O,FD,hr,FP,GI];rfl
def gCopy (l m:List α):List α:=m.take l.length++l.drop m.length
def aSn {x y:Operand} {t e:TypeId} {size bytes k:Nat} (enc:α→D) (l m:List α) (hE:Gs P t e size bytes) (hk:es[k]? =some (.arr e size (List.map enc l))) (hc:∀a,(enc a).cells.length=size) (ho:o.op=.call { callee:=.builtin .copy,args:= #[x,y],argTypes:= #[t,t] }):
 BR P o [(x,.aY k),(y,.d (BM enc m))] es .junk (es.set k (.arr e size (List.map enc (gCopy l m)))):=
 .eff fun C ok H a w hm hn=>by
  have hx:=(Eh hn).1;have hy:=(Eh hn).2;simp only at hx hy;obtain⟨h,hh,hok⟩:=GR hm.ent hm.hlen hk;have hxv:=Nq hx hh;obtain⟨i,z',hi,hz',hs,hby,_⟩:=hE.info;have hu:(underlying t).run P w=.ok (.slice e) w:=aKd
  have hsz:(sizeOf e).run P w=.ok size w:=aJj
  have U:∀(q:List α),∀y∈q.map enc,y.cells.length=size:=fun q y hy=>aKt
  have hyR:Dk ok w (.sl (m.map enc)) (a.eval y):=by cases hy with |d _ _ h=>exact h
  obtain⟨z,O,aGn⟩:=gq H hyR (U m);obtain⟨h1,h2,ys,Y,hrs⟩:=hok;have Z:(m.map enc).length=m.length:=Aw
  have hll:(l.map enc).length=l.length:=Aw
  have hnl:z.length=m.length*size:=by rw[O.len,Z]
  let n:=Nat.min m.length l.length
  have hlenx:(Builtin.lenOf (a.eval y)).run P w=.ok m.length w:=by
   rcases O.at_ with⟨ad,c,e1,_⟩|⟨c,e1,e2⟩
   ·rw[e1];simp[Builtin.lenOf]
   rw[e1];rw[Z]at e2;simp[Builtin.lenOf,e2]
  have J:(Builtin.firstCells size n (a.eval y)).run P w=.ok (z.take (n*size)).toArray w:=by
   rcases O.at_ with⟨ad,c,e1,hcells⟩|⟨c,e1,e2⟩
   ·rw[e1];refine run_firstCells_some (P:=P) w size n ad _ c (z.take (n*size)) ?_ ?_
    ·rw[F7,hnl];have :n*size≤m.length*size:=JR _ (aH6 _ _);omega
    intro j v hj;rw[nM]at hj;split at hj
    ·exact hcells j v hj
    cases hj
   rw[e1];rw[Z]at e2;have :z=[]:=Gh (by rw[hnl,e2];simp);simp[Builtin.firstCells,this]
  have hone:∀u∈z.take (n*size),u.oneCell'=true:=fun u hu=>O.one u (YL hu);have hn1:n≤m.length:=aH6 _ _;have hn2:n≤l.length:=Nat.min_le_right _ _
  have I:(z.take (n*size)).length=n*size:=by
   rw[F7,hnl];have :n*size≤m.length*size:=JR _ hn1;omega
  have hgc:gCopy l m=m.take n++l.drop n:=by
   unfold gCopy;by_cases hle:m.length≤l.length
   ·have e1:n=m.length:=iQ hle;rw[e1,Po hle,FW]
   have e1:n=l.length:=Nat.min_eq_right AA;rw[e1,uZ AA,P8]
  have L:(gCopy l m).length=l.length:=by rw[hgc];simp;omega
  rcases Y.2 with⟨hv,hl0⟩|⟨g,cap,cur,hv,_,hg,hncap,hcm,hcs,htake⟩
  ·
   rw[hll]at hl0;have hn0:n=0:=AA
   have hl:l=[]:=Gh hl0;have hge:gCopy l m=l:=by rw[hgc,hn0];simp
   rw[hge]
   have hset:es.set k (.arr e size (List.map enc l))=es:=by
    apply bD;intro j;by_cases hj:k=j
    ·subst hj;have hkl:=(FI.1 hk).1;rw[List.getElem?_set_self hkl,hk]
    rw[YO hj]
   rw[hset];refine⟨goInt n,w,ok,H,.inl ?_,.refl _ _,.refl _,hm,.junk _⟩;have e0:Nat.min m.length 0=n:=by rw[hn0];simp
   have hf0:(Builtin.firstCells size 0 (a.eval y)).run P w=.ok #[] w:=by rw[hn0]at J;simpa using J
   simp[execOp,ho,resolve,invoke,builtin,Builtin.copy_,hxv,hv,hu,hlenx,hsz,hf0,hn0]
  ·rw[hll]at hv hncap htake;have hlt:g<w.heap.size:=(GX.1 hg).1
   have hfit:n*size≤cur.size:=by
    exact Ed (JR _ AA) hcs
   have hst:=aHQ (P:=P) g 0 e (z.take (n*size)) 0 cur w hg (by rw[I];omega) hone;have aAn:∀y∈(gCopy l m).map enc,y.cells.length=size:=U _
   obtain⟨h3,h4⟩:=hm.upd (e:=.arr e size (List.map enc (gCopy l m))) (w':=w.setRow g (cur.toList.take (0+0)++z.take (n*size)++cur.toList.drop (0+0+(z.take (n*size)).length)).toArray) hk rfl hh (by rw[hv];rfl) rfl rfl rfl aI3 (fun c hc=>aKu _ _ _ _ hc) (fun hg'=>by
    refine⟨h1,aAn,z.take (n*size)++ys.drop (n*size),?_,?_⟩
    ·refine⟨?_,.inr ⟨g,cap,_,by rw[CB,L];exact hv,Ci _,sJ w g cur _ e (0,0) hg,by rw[CB,L];exact hncap,hcm,?_,?_⟩⟩
     ·simp only[E9,I,IJ,Y.1,CB,L];have :n*size≤l.length*size:=JR _ hn2;omega
     ·simp only[OD,vI,I5,Ij,I];simp only[jR,E9,I,IJ,Sm];rw[show n*size+(cur.size-n*size)=cur.size by omega];exact hcs
     simp only[OD,vI,I5,Ij,I,zL];rw[CB,L,←htake];rw[aCt,I,Po (by rw[I];exact JR _ hn2)];congr 1;rw[List.drop_take]
    have ha:=aGn.mono hg' (Names.refl H);have hb:=hrs.mono hg' (Names.refl H);have aGo:=SP (U l);have aGp:=SP (U m);have aEb:=SP aAn;have aJ4:n*size≤l.length*size:=JR _ hn2;have aJ5:n*size≤m.length*size:=JR _ hn1;refine⟨by simp only[aEb,E9,I,IJ,Y.1,CB,L];omega,fun j hj=>?_⟩;rw[aEb,CB,L]at hj;have hpos:=hE.pos;have e0:j=j/size*size+j % size:=by rw[Um];exact(aBa j size).symm
    have hq:j/size<l.length:=xU (by rwa [Um]at hj);have hr:j % size<size:=jU _ hpos;have hg3:=flat_get aAn (j/size) (j % size) (by rw[CB,L];exact hq) hr;rw[←e0]at hg3;by_cases hjn:j<n*size
    ·have hqn:j/size<n:=xU (by rwa [Um]at hjn);have hg2:=flat_get (U m) (j/size) (j % size) (by rw[Z];omega) hr;rw[←e0]at hg2
     have M:((gCopy l m).map enc).getD (j/size) Dh=(m.map enc).getD (j/size) Dh:=by
      rw[hgc];simp only[List.getD,KO];rw[GZ DW,XR,LM hqn]
     rw[hg3,M,←hg2]
     have e5:(z.take (n*size)++ys.drop (n*size)).getD j undef=z.getD j undef:=by
      simp only[List.getD];rw[GZ (by rw[I];exact hjn),LM hjn]
     rw[e5];exact ha.2 j (by rw[aGp,Z];omega)
    have hqn:n≤j/size:=(Nat.le_div_iff_mul_le hpos).2 AA;have hg1:=flat_get (U l) (j/size) (j % size) (by rw[hll];exact hq) hr;rw[←e0]at hg1
    have M:((gCopy l m).map enc).getD (j/size) Dh=(l.map enc).getD (j/size) Dh:=by
     rw[hgc];have hlt':(m.take n).length=n:=DW
     simp only[List.getD,KO];rw[Jf (by rw[CB,hlt'];exact hqn),CB,hlt',ZR,Py];congr 2;omega
    rw[hg3,M,←hg1]
    have e5:(z.take (n*size)++ys.drop (n*size)).getD j undef=ys.getD j undef:=by
     simp only[List.getD];rw[Jf (by rw[I];omega),I,Py];congr 2;omega
    rw[e5]
    exact hb.2 j (by rw[aGo,hll];omega))
   refine⟨goInt n,_,ok,H,.inl ?_,h4,.refl _,h3,.junk _⟩;have e0:Nat.min m.length l.length=n:=rfl;simp[execOp,ho,resolve,invoke,builtin,Builtin.copy_,hxv,hv,hu,hlenx,hsz,e0,J];rw[hst];simp
end
def BU (s:ByteArray):List Int:=s.data.toList.map fun c=>(c.toNat:Int)
def I9 (s:ByteArray):(BU s).length=s.size:=by unfold BU;rw[CB,Sm];rfl
section
variable {P : Program} {o : Oper} {es : List Az} {α : Type}
def aFW :∀(l:List Int),flat (l.map Cc)=l.map fun n=>.d (Cc n)
 | []=>rfl
 |n::l=>by rw[Ia,U3,aFW l];rfl
def afk {w:World} {t u ty e:TypeId} {i:TypeInfo} (ht:P.underlying t=some (.slice e)) (hu:P.underlying u=some .string) (hi:P.info? e=some i) (hz:i.zero=some (.int .u8 0)) (j:i.size=1) (Z:i.bytes=1)
 {v:Value} {n:Nat} {xs:List Value} (z:lH w e 1 v n xs) (s:ByteArray) (O:n+s.size≤maxLen) (L:n+s.size≤140737488355328):
 ∃v' w',(Builtin.append_ #[t,u] ty #[v,.string s]).run P w=.ok v' w'∧lH w' e 1 v' (n+s.size) (xs++Lib.strCells s)∧w.grownBy w' v.ownBlock∧(∀Y,D6 v'=some Y→D6 v=some Y∨w.heap.size≤Y):=by
 have M:xs.length=n:=by simpa using z.1
 have hlen:(xs++Lib.strCells s).length=(n+s.size)*1:=by rw[E9,M,aKI,dF]
 rcases z.2 with⟨rfl,rfl⟩|⟨g,cap,cur,rfl,_,hg,hnc,U,hcs,I⟩
 ·have hx:xs=[]:=Gh M;subst hx;obtain⟨v',w',q1,q2,q3,q4⟩:=Lib.run_append_own_string (P:=P) w w.heap.size t u ty e i ht hu hi hz j Z _ 0 [] (aAr w w.heap.size e 1) s O L (Dn _);refine⟨v',w',q1,.of q2,q3,fun Y q=>.inr ?_⟩;rcases q2.2 with⟨rfl,_⟩|⟨g2,_,_,rfl,hle,_⟩
  ·simp[D6]at q
  simp[D6]at q;subst q;exact hle
 rw[dF]at hcs I;by_cases J:n+s.size≤cap
 ·have hr:=Lib.run_append_room_string (P:=P) w t u ty e i ht hu hi j g n cap cur hg s J AA;refine⟨_,_,hr,⟨hlen,.inr ⟨g,cap,_,rfl,Ci _,sJ w g cur _ e _ hg,J,U,?_,?_⟩⟩,⟨rfl,rfl,rfl,Aw,fun k _ hk=>setRow_other w g k _ (fun e=>hk (by simp[Value.ownBlock,e]))⟩,fun Y q=>.inl q⟩
  ·simp only[jR,E9,F7,IJ,Sm,aKI];omega
  rw[I,←hlen];exact aA1
 have hr:=Lib.run_append_grow_string (P:=P) w t u ty e i (.int .u8 0) ht hu hi hz ⟨g,0,none⟩ n cap xs (by rw[j];simpa using M) (z.cells (g:=g) rfl) s AA (by unfold maxLen at O;omega) (by rw[Z];exact growslice_fits AA AA);have hge:=grownCap_ge w (n+s.size) cap e;have U:grownCap w (n+s.size) cap e≤maxLen:=grownCap_le_maxLen w (n+s.size) cap e O;refine⟨_,_,hr,⟨hlen,.inr ⟨w.heap.size,_,_,rfl,Ci _,Vw w.drew _,hge,U,Xw ?_,?_⟩⟩,⟨rfl,rfl,rfl,Aw,fun k hk _=>KE w.drew _ k hk⟩,fun Y q=>.inr (by simp[D6]at q;omega)⟩
 ·have hz1:(Value.int IntKind.u8 0).cells.size=1:=rfl;simp only[Array.size_append,jR,size_zeroCells,hz1,M,aKI];omega
 simp only[Array.toList_append,HY];rw[←HY,←hlen];exact aA1
def adY {s x:Operand} {t u e:TypeId} {k:Nat} {l r:List Int} {j:ByteArray} (h:Bo 1 l (BU j)=some r) (hE:Gs P t e 1 1) (hz:(P.info? e).bind (·.zero)=some (.int .u8 0)) (hu:P.underlying u=some .string) (hk:es[k]? =some (.arr e 1 (List.map Cc l)))
 (ho:o.op=.call { callee:=.builtin .append,args:= #[s,x],argTypes:= #[t,u] }):BR P o [(s,.aY k),(x,.d (Dw j))] es (.aY es.length) (es.set k .dead++[.arr e 1 (List.map Cc r)]):=
 .eff fun C ok H a w hm hn=>by
  obtain⟨rfl,hlen⟩:=aD8 h;rw[I9,dF]at hlen;have hs:=(Eh hn).1;have hx:=(Eh hn).2.lit;simp only at hs hx;obtain⟨hd,hh,hok⟩:=GR hm.ent hm.hlen hk;have hsv:=Nq hs hh;obtain⟨h1,h2,ys,I,hrs⟩:=hok;obtain⟨i,z',hi,hz',hs1,hby,_⟩:=hE.info;have hz2:i.zero=some (.int .u8 0):=by rw[hi]at hz;simpa using hz
  have L:(l.map Cc).length=l.length:=Aw
  have M:(l.map Cc).length+j.size≤maxLen:=by rw[L];unfold maxLen;omega
  obtain⟨v',w',hr,J,O,U⟩:=afk (P:=P) (ty:=o.type) hE.und hu hi hz2 hs1 hby I j M (by rw[L];exact hlen)
  obtain⟨h3,h4⟩:=hm.turn (h':=⟨v',1⟩) (e:=.arr e 1 (List.map Cc (l++BU j))) hk rfl hh O.os O.tape O.output O.size (fun c hc hne=>O.block c hc (by rw[aJR I];exact fun e=>hne e.symm)) (fun g Y=>⟨rV J Y,U g Y⟩) (fun hgr=>by
   refine⟨rfl,fun y hy=>by obtain⟨q,_,rfl⟩:=Dp.1 hy;rfl,ys++Lib.strCells j,?_,?_⟩
   ·have e:(List.map Cc (l++BU j)).length=(l.map Cc).length+j.size:=by simp[I9]
    rw[e];exact J
   have Z:=hrs.mono hgr (Names.push H [⟨v',1⟩]);have hfl:(flat (l.map Cc)).length=l.length:=by rw[aFW];simp
   have hcl:(Lib.strCells j)=(BU j).map (.int .u8):=by unfold Lib.strCells BU;rw[V7];rfl
   rw[KO,jG,aFW (BU j),hcl];refine⟨by rw[E9,E9,Z.1,CB,CB],fun i hi=>?_⟩;by_cases z:i<(flat (l.map Cc)).length
   ·have e1:(flat (l.map Cc)++(BU j).map fun n=>Aa.d (Cc n)).getD i .junk=(flat (l.map Cc)).getD i .junk:=by simp[List.getD,GZ z]
    have e2:(ys++(BU j).map (Value.int .u8)).getD i undef=ys.getD i undef:=by simp[List.getD,GZ (by rw[Z.1];exact z:i<ys.length)]
    rw[e1,e2];exact Z.2 i z
   have hi3:i-(flat (l.map Cc)).length<(BU j).length:=by rw[E9,CB]at hi;omega
   have e1:(flat (l.map Cc)++(BU j).map fun n=>Aa.d (Cc n)).getD i .junk=.d (Cc (BU j)[i-(flat (l.map Cc)).length]):=by simp[List.getD,Jf (WT z),hi3]
   have e2:(ys++(BU j).map (Value.int .u8)).getD i undef=.int .u8 (BU j)[i-(flat (l.map Cc)).length]:=by simp[List.getD,Jf (by rw[Z.1];omega:ys.length≤i),Z.1,hi3]
   rw[e1,e2]
   exact⟨rfl,.d _ _ (.lit _)⟩)
  have hH:(H++[(⟨v',1⟩:BN)])[es.length]? =some ⟨v',1⟩:=Pm
  refine⟨v',w',ok,_,.inl ?_,h4,Names.push _ _,h3,?_⟩
  ·simp[execOp,ho,resolve,invoke,builtin,hx,hsv,hr]
  rcases J.2 with⟨rfl,_⟩|⟨g',c',_,rfl,_⟩
  ·exact .aY _ _ _ _ 1 hH
  exact .aY _ _ _ _ 1 hH
def ahg {x:Operand} {I J e:TypeId} {s:ByteArray} (hs:P.underlying I=some .string) (hd:P.underlying J=some (.slice e)) (O:P.underlying e=some (.int .u8)) (U:o.op=.convert I J x):BR P o [(x,.d (Dw s))] es (.d (BM Cc (BU s))) es:=
 .eff fun C ok H a w hm Y=>by
  have M:=(KH Y).lit;simp only at M;have Z:=run_bytes_of_string (P:=P) w I J e s hs hd O;obtain⟨h1,h2⟩:=hm.drew;obtain⟨h3,h4⟩:=h1.fresh (.cells (bytesRow s (grownCap w s.size 0 e)) e ((bytesRow s (grownCap w s.size 0 e)).size,(bytesRow s (grownCap w s.size 0 e)).size+1));refine⟨.slice (some ⟨w.heap.size,0,none⟩) s.size (grownCap w s.size 0 e),_,_,H,.inl ?_,h2.trans h4,.refl _,h3,.d _ _ ?_⟩
  ·simp only[execOp,U,M,FD,Z,FP,GI]
  have q:((BU s).map Cc).length=s.size:=by simp[I9]
  have u:∀i,i<s.size→(w.drew.alloc (.cells (bytesRow s (grownCap w s.size 0 e)) e ((bytesRow s (grownCap w s.size 0 e)).size,(bytesRow s (grownCap w s.size 0 e)).size+1))).cell? ⟨w.heap.size,0+(i*1+0),none⟩=some (.int .u8 ((s.data.toList.getD i 0).toNat)):=by
   intro i hi;have hb:(w.drew.alloc (.cells (bytesRow s (grownCap w s.size 0 e)) e ((bytesRow s (grownCap w s.size 0 e)).size,(bytesRow s (grownCap w s.size 0 e)).size+1))).heap[w.heap.size]? =some (.cells (bytesRow s (grownCap w s.size 0 e)) e ((bytesRow s (grownCap w s.size 0 e)).size,(bytesRow s (grownCap w s.size 0 e)).size+1)):=Vw w.drew _;rw[Ij,dF,OD];have z:i<s.data.size:=hi
   have hg:(bytesRow s (grownCap w s.size 0 e))[i]? =some (.int .u8 ((s.data.toList.getD i 0).toNat)):=by
    unfold bytesRow;rw[YE Le];simp[aC z,List.getD]
   unfold World.cell?;simp only[hb];simpa using hg
  have hl:∀i,i<s.size→((BU s).map Cc).getD i Dh=Cc ((s.data.toList.getD i 0).toNat):=by
   intro i hi;have z:i<s.data.size:=hi;simp[BU,List.getD,aC z]
  have z0:∀j,j<1→j=0:=fun j L=>AA
  have :=Dk.sl (ok:=fun b=>ok b∨b=w.drew.heap.size) (w:=w.drew.alloc (.cells (bytesRow s (grownCap w s.size 0 e)) e ((bytesRow s (grownCap w s.size 0 e)).size,(bytesRow s (grownCap w s.size 0 e)).size+1))) ((BU s).map Cc) w.heap.size 0 (grownCap w s.size 0 e) 1 (by rw[q];exact grownCap_ge w s.size 0 e) (fun _ _=>.inr rfl)
   (fun i hi=>by rw[q]at hi;rw[hl i hi];rfl)
   (fun i hi j L=>by rw[q]at hi;rw[z0 j L,hl i hi];rfl)
   (fun i hi j L=>by rw[q]at hi;rw[z0 j L,u i hi];rfl)
   (fun i hi j L=>by rw[q]at hi;rw[z0 j L];unfold cellAt;rw[u i hi,hl i hi];exact .lit _)
  rw[q]at this;exact this
def ER (op:BinOp) (k:IntKind) (x y:Int):Int:=
 match op with
 | .and=>k.wrap ((BitVec.ofInt k.bits x&&& BitVec.ofInt k.bits y).toNat)
 | .or=>k.wrap ((BitVec.ofInt k.bits x|||BitVec.ofInt k.bits y).toNat)
 | .xor=>k.wrap ((BitVec.ofInt k.bits x^^^BitVec.ofInt k.bits y).toNat)
 |_=>k.wrap ((BitVec.ofInt k.bits x&&& ~~~(BitVec.ofInt k.bits y)).toNat)
def Qz {t t':TypeId} {x y:Operand} {k:IntKind} {u v:Int} (j:o.op=.binOp .and t x y t'):BR P o [(x,.d (.lit (.int k u))),(y,.d (.lit (.int k v)))] es (.d (.lit (.int k (ER .and k u v)))) es:=
 Gq j (fun w=>aA8) ⟨rfl,rfl⟩
def Vp {t t':TypeId} {x y:Operand} {k:IntKind} {u v:Int} (j:o.op=.binOp .or t x y t'):BR P o [(x,.d (.lit (.int k u))),(y,.d (.lit (.int k v)))] es (.d (.lit (.int k (ER .or k u v)))) es:=
 Gq j (fun w=>aA8) ⟨rfl,rfl⟩
def aQn {t t':TypeId} {x y:Operand} {k:IntKind} {u v:Int} (j:o.op=.binOp .xor t x y t'):BR P o [(x,.d (.lit (.int k u))),(y,.d (.lit (.int k v)))] es (.d (.lit (.int k (ER .xor k u v)))) es:=
 Gq j (fun w=>aA8) ⟨rfl,rfl⟩
def akR {t t':TypeId} {x y:Operand} {k:IntKind} {u v:Int} (j:o.op=.binOp .andNot t x y t'):BR P o [(x,.d (.lit (.int k u))),(y,.d (.lit (.int k v)))] es (.d (.lit (.int k (ER .andNot k u v)))) es:=
 Gq j (fun w=>aA8) ⟨rfl,rfl⟩
def bQ (k:IntKind) (x:Int):Int:=ER .xor k (if k.signed then -1 else k.max) x
def aXi {t:TypeId} {x:Operand} {k:IntKind} {u:Int} (j:o.op=.unOp .xor t x):BR P o [(x,.d (.lit (.int k u)))] es (.d (.lit (.int k (bQ k u)))) es:=
 aLe j (fun w=>by simp[Op.unary,Op.intBits,bQ,ER])
def PD (op:BinOp) (k:IntKind) (x y:Int):Option Int:=
 if y<0 then none else some (match op with | .shl=>k.wrap (x*2^(min y.toNat k.bits))|_=>x.fdiv (2^(min y.toNat k.bits)))
def aA9 {t t':TypeId} {x y:Operand} {k k':IntKind} {u v r:Int} (h:PD .shl k u v=some r) (j:o.op=.binOp .shl t x y t'):BR P o [(x,.d (.lit (.int k u))),(y,.d (.lit (.int k' v)))] es (.d (.lit (.int k r))) es:=by
 unfold PD at h;split at h
 ·cases h
 rename_i q;obtain rfl:=CS h;exact Gq j (fun w=>by simp[binOp,Op.shift,q]) ⟨rfl,rfl⟩
def aXL {t t':TypeId} {x y:Operand} {k k':IntKind} {u v r:Int} (h:PD .shr k u v=some r) (j:o.op=.binOp .shr t x y t'):BR P o [(x,.d (.lit (.int k u))),(y,.d (.lit (.int k' v)))] es (.d (.lit (.int k r))) es:=by
 unfold PD at h;split at h
 ·cases h
 rename_i q;obtain rfl:=CS h;exact Gq j (fun w=>by simp[binOp,Op.shift,q]) ⟨rfl,rfl⟩
def xK (k:IntKind) (a b:Int):Option Int:=if b=0 then none else some (k.wrap (a.tdiv b))
def Vu (a b:Int):Option Int:=if b=0 then none else some (a.tmod b)
def aiN {t t':TypeId} {x y:Operand} {k:IntKind} {u v r:Int} (h:xK k u v=some r) (j:o.op=.binOp .quo t x y t'):BR P o [(x,.d (.lit (.int k u))),(y,.d (.lit (.int k v)))] es (.d (.lit (.int k r))) es:=by
 unfold xK at h;split at h
 ·cases h
 rename_i q;obtain rfl:=CS h;exact Gq j (fun w=>by simp[binOp,Op.intDiv,q]) ⟨rfl,rfl⟩
def aPz {t t':TypeId} {x y:Operand} {k:IntKind} {u v r:Int} (h:Vu u v=some r) (j:o.op=.binOp .rem t x y t'):BR P o [(x,.d (.lit (.int k u))),(y,.d (.lit (.int k v)))] es (.d (.lit (.int k r))) es:=by
 unfold Vu at h;split at h
 ·cases h
 rename_i q;obtain rfl:=CS h;exact Gq j (fun w=>by simp[binOp,Op.intDiv,q]) ⟨rfl,rfl⟩
end
section
variable {P : Program} {o : Oper} {es : List Az} {α : Type}
def aRz {ok:Nat→Prop} {w:World} {H:List BN} {h:BN} {e size k i off:Nat} {xs:List D} {v:Value} (O:H[k]? =some h) (u:En ok w H h (.arr e size xs)) (hi:i<xs.length) (U:R ok w H (.lq k i off) v):
 ∃g cap cur ys,h.v=.slice (some ⟨g,0,none⟩) xs.length cap∧w.heap[g]? =some (.cells cur e (0,0))∧xs.length≤cap∧cap≤maxLen∧xs.length*size≤cur.size∧cap*size≤cur.size∧cur.toList.take (xs.length*size)=ys∧ys.length=xs.length*size∧F6 ok w H (flat xs) ys∧(∀x∈xs,x.cells.length=size)∧v=.pointer (some ⟨g,i*size+off,none⟩):=by
 obtain⟨J,Y,ys,⟨Z,h4⟩,h5⟩:=u;rcases h4 with⟨q,h7⟩|⟨g,cap,cur,q,h7,h8,L,z,j,I⟩
 ·omega
 refine⟨g,cap,cur,ys,q,h8,L,z,Ed (JR _ L) j,j,I,Z,h5,Y,?_⟩;cases U with
 |lq _ _ _ b n c s M=>
  rw[O]at M;obtain rfl:=CS M;simp only[eL,LU,Addr.mk.injEq]at q;simp only at J;rw[q.1.1,J]
def aRj {size n i j:Nat} (hi:i<n) (q:j<size):i*size+j<n*size:=
 calc i*size+j<i*size+size:=AA
  _=(i+1)*size:=by rw[Pe]
  _≤n*size:=JR _ hi
def VT {x:Operand} {t:TypeId} {agg:Bool} {k n i off e size:Nat} {y:D} (enc:α→D) {l:List α} {a:α} (hy:y=QC agg (enc a).cells off n) (hk:es[k]? =some (.arr e size (List.map enc l))) (ha:l[i]? =some a) (hT:EI P t agg n) (hn:off+n≤(enc a).cells.length) (h1:agg=false→n=1)
 (ho:o.op=.load t x):BR P o [(x,.lq k i off)] es (.d y) es:=
 .pure fun ok H ac w M hl Y=>by
  have hx:=KH Y;simp only at hx;subst hy;obtain⟨h,hh,Z⟩:=GR M hl hk;obtain⟨I,O⟩:=FI.1 ha;have q:i<(List.map enc l).length:=Rf
  obtain⟨g,cap,cur,ys,e1,e2,e3,e4,e5,e5',e6,e7,e8,e9,e10⟩:=aRz hh Z q hx;have J:(List.map enc l).getD i Dh=enc a:=by simp[List.getD,I,O]
  have hsz:(enc a).cells.length=size:=by
   refine e9 _ ?_;exact Dp.2 ⟨a,by rw[←O];exact ED I,rfl⟩
  have hfl:=SP e9
  have u:∀j,j<size→w.cell? ⟨g,i*size+j,none⟩=some (ys.getD (i*size+j) undef):=by
   intro j L;have z:=aRj q L;have hcur:(List.map enc l).length*size≤cur.size:=e5;have h15:i*size+j<cur.size:=AA
   have e11:ys.getD (i*size+j) undef=cur[i*size+j]'(h15):=by
    rw[←e6];have h14:i*size+j<l.length*size:=Le
    simp[List.getD,LM h14,show i*size+j<cur.size by omega]
   rw[e11];simp[World.cell?,e2,show i*size+j<cur.size by omega]
  have U:∀j,j<size→((enc a).cells.getD j Dh).leaf=true∧Dk ok w ((enc a).cells.getD j Dh) (ys.getD (i*size+j) undef):=by
   intro j L;have z:=e8.2 (i*size+j) (by rw[hfl];exact aRj q L);rw[flat_get e9 i j q L,J]at z;refine⟨z.1,?_⟩;cases z.2 with |d _ _ h=>exact h
  obtain⟨v,hr,hD⟩:=aFb (ok:=ok) (w:=w) (b:=g) (p:=i*size) (cs:=(enc a).cells) hT hn h1 (fun j L=>(U j AA).1) (fun j L=>by rw[u j AA];rfl) (fun j L=>by unfold cellAt;rw[u j AA];exact(U j AA).2);exact⟨v,by simp only[execOp,ho,e10,FD,hr,FP,GI],.d _ _ hD⟩
def ah {t:TypeId} {x y:Operand} {k i off n e size:Nat} (enc:α→D) {l:List α} {a a':α} {v:Aa} (hk:es[k]? =some (.arr e size (List.map enc l))) (ha:l[i]? =some a) (hl:v.cells.all Aa.leaf=true) (hs:∀w,(sizeOf t).run P w=.ok n w) (hn:v.cells.length=n)
 (hle:off+n≤(enc a).cells.length) (hset:(enc a').cells.map Aa.d=setAt ((enc a).cells.map Aa.d) off v.cells) (hc:∀b,(enc b).cells.length=size) (ho:o.op=.store t x y):
 BR P o [(x,.lq k i off),(y,v)] es .junk (es.set k (.arr e size (List.map enc (l.set i a')))):=
 .eff fun C ok H I w hm hn'=>by
  have h1:=(Eh hn').1;have h2:=(Eh hn').2;simp only at h1 h2;obtain⟨h,hh,hok⟩:=GR hm.ent hm.hlen hk;obtain⟨U,hia⟩:=FI.1 ha;have aGq:i<(List.map enc l).length:=aDm
  have hok1:=hok.1;obtain⟨g,cap,cur,ys,e1,e2,e3,e4,e5,e5',e6,e7,e8,e9,e10⟩:=aRz hh hok aGq h1;have z:=h2.ajx hl;have hll:(List.map enc l).length=l.length:=Aw
  rw[hll]at e1 e3 e6 e7;have hea:(enc a).cells.length=size:=hc a;have Y:(I.eval y).cells.toList.length=n:=by rw[z.1,hn]
  have hsz:(I.eval y).cells.size=n:=Vz
  have hcur:l.length*size≤cur.size:=by simpa using e5
  have hend:i*size+off+n≤l.length*size:=by
   have :(i+1)*size≤l.length*size:=JR _ U;rw[Pe]at this;omega
  have hst:=aHQ (P:=P) g (i*size+off) e (I.eval y).cells.toList 0 cur w e2 (by rw[Y];omega) (fun u hu=>by
   obtain⟨j,J,rfl⟩:=G5 hu;have h5:=z.2 j (by rw[←z.1];exact J);have :=h5.2.leaf h5.1
   rwa [aFw J]at this)
  simp only[OD]at hst;have M:∀(q:List α),∀y∈q.map enc,y.cells.length=size:=fun q y hy=>aKt
  obtain⟨h3,h4⟩:=hm.upd (e:=.arr e size (List.map enc (l.set i a'))) (w':=w.setRow g (cur.toList.take (i*size+off)++(I.eval y).cells.toList++cur.toList.drop (i*size+off+(I.eval y).cells.toList.length)).toArray) hk rfl hh (by rw[e1];rfl) rfl rfl rfl aI3 (fun c hc=>aKu _ _ _ _ hc) (fun hg'=>by
   have esz:(setAt cur.toList (i*size+off) (I.eval y).cells.toList).length=cur.toList.length:=RY (by have :=cur.length_toList;omega);refine⟨hok1,M _,setAt ys (i*size+off) (I.eval y).cells.toList,⟨?_,.inr ⟨g,cap,_,by simp;exact e1,Ci _,sJ w g cur _ e (0,0) e2,by simpa using e3,e4,?_,?_⟩⟩,?_⟩
   ·rw[RY AA];simpa using e7
   ·have h9:(setAt cur.toList (i*size+off) (I.eval y).cells.toList).toArray.size=cur.size:=by rw[jR,esz];simp
    show _≤(setAt cur.toList (i*size+off) (I.eval y).cells.toList).toArray.size;rw[h9];exact e5'
   ·rw[zL];show(setAt cur.toList (i*size+off) (I.eval y).cells.toList).take _=_;rw[←e6];have hlen':(List.map enc (l.set i a')).length=l.length:=Aw
    rw[hlen'];apply bD;intro j;have hcl:=cur.length_toList;by_cases J:j<l.length*size
    ·have a1:((setAt cur.toList (i*size+off) (I.eval y).cells.toList).take (l.length*size))[j]? =some ((setAt cur.toList (i*size+off) (I.eval y).cells.toList).getD j undef):=by
      rw[LM J];simp[List.getD,show j<(setAt cur.toList (i*size+off) (I.eval y).cells.toList).length by rw[esz];omega]
     have tl:(cur.toList.take (l.length*size)).length=l.length*size:=DW
     have sl:(setAt (cur.toList.take (l.length*size)) (i*size+off) (I.eval y).cells.toList).length=l.length*size:=by rw[RY AA,tl]
     have a2:(setAt (cur.toList.take (l.length*size)) (i*size+off) (I.eval y).cells.toList)[j]? =some ((setAt (cur.toList.take (l.length*size)) (i*size+off) (I.eval y).cells.toList).getD j undef):=by
      simp[List.getD,show j<(setAt (cur.toList.take (l.length*size)) (i*size+off) (I.eval y).cells.toList).length by omega]
     rw[a1,a2,Z8 AA,Z8 AA];congr 1;split
     ·rfl
     simp[List.getD,LM J]
    have tl:(cur.toList.take (l.length*size)).length=l.length*size:=DW
    have sl:(setAt (cur.toList.take (l.length*size)) (i*size+off) (I.eval y).cells.toList).length=l.length*size:=by rw[RY AA,tl]
    rw[I8 DW,I8 AA]
   have hb:=e8.mono hg' (Names.refl H);have hcr:=z.mono hg' (Names.refl H);have hfl:=SP (M l);have Z:=SP (M (l.set i a'));refine⟨by rw[RY AA,e7,Z];simp,fun j J=>?_⟩;rw[Z]at J;simp only[CB,Zi]at J
   have hpos:0<size:=by
    rcases Yk size with h0|h0
    ·rw[h0,Nat.mul_zero]at J;omega
    exact h0
   have e0:j=j/size*size+j % size:=by rw[Um];exact(aBa j size).symm
   have hq:j/size<l.length:=xU (by rwa [Um]at J);have hr:j % size<size:=jU _ hpos
   have hdiv:j/size=i↔i*size≤j∧j<i*size+size:=by
    rw[Nat.div_eq_iff hpos,Um];omega
   rw[Y]at hb hcr;generalize j/size=qd at e0 hq hdiv;generalize j % size=L at e0 hr;have hg3:=flat_get (M (l.set i a')) qd L (by simpa using hq) hr;rw[←e0]at hg3;have hg1:=flat_get (M l) qd L (by simpa using hq) hr;rw[←e0]at hg1;rw[hg3,Z8 AA,Y];by_cases O:qd=i
   ·have hnew:(List.map enc (l.set i a')).getD (qd) Dh=enc a':=by rw[O];simp[List.getD,U]
    have hold:(List.map enc l).getD (qd) Dh=enc a:=by rw[O];simp[List.getD,U,hia]
    rw[hnew];have aJ6:(enc a').cells.length=size:=hc a'
    have e11:Aa.d ((enc a').cells.getD (L) Dh)=(setAt ((enc a).cells.map Aa.d) off v.cells).getD (L) .junk:=by
     rw[←hset];simp[List.getD,show L<(enc a').cells.length by omega]
    rw[e11,Z8 (by rw[CB,hn];exact hle),hn];have hji:j=i*size+L:=by rw[←O];exact e0
    by_cases hin:off≤L∧L<off+n
    ·rw[CP hin,CP AA];have :j-(i*size+off)=L-off:=AA
     rw[this];exact hcr.2 _ AA
    rw[CU hin,CU AA];have e12:((enc a).cells.map Aa.d).getD (L) .junk=.d ((enc a).cells.getD (L) Dh):=by simp[List.getD,show L<(enc a).cells.length by omega]
    rw[e12,←hold,←hg1];exact hb.2 j (by rw[hfl];simpa using J)
   have hsame:(List.map enc (l.set i a')).getD (qd) Dh=(List.map enc l).getD (qd) Dh:=by
    simp[List.getD,YO (aj O)]
   have hnot:¬(i*size+off≤j∧j<i*size+off+n):=by
    rintro⟨ha1,ha2⟩;exact O (hdiv.2 ⟨AA,AA⟩)
   rw[CU hnot,hsame,←hg1]
   exact hb.2 j (by rw[hfl];simpa using J))
  refine⟨undef,_,ok,H,.inr ⟨rfl,?_⟩,h4,.refl _,h3,.junk _⟩;simp only[execOp,ho,e10,Instr.storeAt,Instr.sureAddr,storeVar,FD,GI,FP,hs,hsz,ne_eq,not_true_eq_false,Jl,hst]
end
end Go.Proofs.YtkkdimcnpacjhaaGreat
end
