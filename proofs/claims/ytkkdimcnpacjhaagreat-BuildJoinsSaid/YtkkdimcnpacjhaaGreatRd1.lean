/- Part 1 of what the laws' proofs lean on: states of the walk, typed functions of the program and their laws (short forms written by wip/shrink.py; no condition). -/
import Derived.Test.YtkkdimcnpacjhaaGreatRows
import Derived.WalkKit
import Derived.WalkSpells
import Derived.WalkLawsBesides
import Derived.Lib.Hide
import Derived.Laws.AppendOwnNone
import Derived.Laws.CopyOwn
import Derived.Lib.AppendStr
import Derived.Laws.IdiomStrings
import Derived.Laws.BitsAllLaws
import Derived.OrdersIn
import Derived.ControlIn
import Derived.TacticsIn
import Derived.ArgAppend
import Derived.RangeFuncLeaves
import Derived.RangeFuncRecord
import Derived.Laws.StructEq
import Derived.Laws.BytesString
import Derived.Lib.OwnBridge
import Derived.Sort.OwnSortedInts
import Derived.Lib.SliceRun
import Derived.ProofKit
import Derived.Deep.Slices
import Derived.Lib.SlicesCompact
import Derived.Test.YtkkdimcnpacjhaaGreatProg
import Derived.Shelf.Small.Bits
import Derived.Shelf.Small.Strs
import Derived.Shelf.Strconv.Itoa0
import Derived.Shelf.Strings.Search1
import Derived.Shelf.Strings.Search2
import Derived.Shelf.Strings.Cut
import Derived.Shelf.LaysM
import Derived.Shelf.Strings.Shaped
import Derived.Shelf.Sort.Plain
import Derived.Shelf.Slices.Turned
import Derived.Ground.Names2Prog
import Derived.Shelf.Slices.Clone
import Derived.Shelf.Slices.CompactI
import Derived.Shelf.Slices.SearchI
import Derived.Shelf.Slices.Cells
import Derived.Shelf.Slices.In.SortNone
import Derived.Shelf.Slices.Empties
import Derived.Ground.SlgnProg
import Derived.Shelf.SlicesE.Clone
import Derived.RangeFuncIn
import Derived.Scope
import Derived.Tactics
import Derived.Tactics2
import Derived.Defers
import Derived.Recover
import Derived.Laws.Pointers
import Derived.Shelf.SlLaysF0
import Derived.Shelf.SlSortCmp.NoneTotal
import Derived.Laws.IdiomRangeMap
import Derived.Laws.Small
import Derived.Laws.IdiomCopy
import Derived.Lib.Overlaps
import Derived.Lib.AppendZerosOnto
import Derived.Shelf.Spec.SlicesInsertGrow
import Derived.StillTailTactics
import Derived.LoopN
import Derived.Deep.QuietTactic
import Derived.Laws.Bits64
import Derived.Lib.Bytealg
set_option linter.defProp false
set_option linter.unnecessarySimpa false
set_option linter.unusedVariables false
set_option linter.unusedSimpArgs false
namespace Go.Proofs.YtkkdimcnpacjhaaGreat
open Go.RowKit
def AO:=@Option.bind_some
def Aj:=@cond_false
def Az:=@cond_true
def Aq:=@congrArg
def D8:=@List.getElem?_eq_getElem
def CG:=@List.length_map
def EI:=@List.length_append
def CW:=@Bool.and_eq_true
def CV:=@Option.some.inj
def O6:=@List.length_singleton
def DY:=@List.all_eq_true
def FP:=@List.getElem?_eq_some_iff
def Gf:=@List.eq_nil_of_length_eq_zero
def EU:=@List.mem_cons_self
def EJ:=@List.getElem_mem
def GX:=@Array.getElem?_eq_some_iff
def FC:=@Nat.le_of_ble_eq_true
def E5:=@List.mem_map
def FB:=@List.mem_cons_of_mem
def Gq:=@List.getElem?_append_left
def FD:=@List.length_take
def EF:=@Bool.not_true
def Ei:=@List.not_mem_nil
def FV:=@List.take_length
def Dq:=@Nat.le_refl
def Fv:=@List.getElem_of_mem
def Du:=@Nat.zero_le
def Ih:=@Array.getD_eq_getD_getElem?
def EX:=@List.mem_cons
def Fh:=@Go.Result.andThen_ok
def IW:=@List.pairwise_iff_getElem
def F5:=@List.foldl_cons
def G7:=@List.length_cons
def FX:=@Go.Proofs.Tryz.underlying3
def Ed:=@Nat.le_trans
def CS:=@if_pos
def FU:=@List.mem_filter
def Gg:=@decide_eq_true_eq
def Ib:=@List.getElem?_eq_none
def CY:=@if_neg
def Gn:=@List.any_eq_true
def Ju:=@List.getElem?_append_right
def JH:=@List.length_filter_le
def Hw:=@List.append_assoc
def FT:=@Go.Sem.run_bind
def IY:=@List.mem_singleton
def Gi:=@decide_eq_true
def IV:=@List.length_drop
def Nw:=@List.take_succ_eq_append_getElem
def H7:=@decide_eq_false
def GL:=@Bool.true_and
def Kw:=@List.drop_eq_getElem_cons
def O8:=@Array.getElem?_setIfInBounds_ne
def Hd:=@List.mem_append
def II:=@List.nil_append
def Ig:=@Go.Proofs.Tryz.underlying39
def Jl:=@Nat.mul_le_mul_right
def MB:=@List.getElem?_take_of_lt
def Gj:=@Go.Sem.run_pure
def JA:=@bne_self_eq_false
def LY:=@List.length_nil
def Ir:=@Go.Proofs.Tryz.underlying9
def JG:=@List.getElem?_map
def Ii:=@Option.map_some
def Je:=@of_decide_eq_false
def O7:=@List.mem_of_find?_eq_some
def Io:=@Bool.not_false
def Rx:=@Nat.add_assoc
def Nh:=@Array.getElem?_modify
def KO:=@List.flatMap_cons
def U3:=@Array.all_eq_true_iff_forall_mem
def Js:=@Go.RowKit.Below.heap_alloc
def KI:=@beq_self_eq_true
def Ip:=@List.map_cons
def P8:=@decide_eq_false_iff_not
def MP:=@List.filterMap_cons
def KY:=@Go.Proofs.Tryz.underlying28
abbrev Ai:=IntKind.i64.wrap
def ay (n:Int):Ai n=(n+9223372036854775808)%18446744073709551616-9223372036854775808:=Go.IntKind.wrap_i64 n
def Jq:=@Bool.eq_iff_iff
def MF:=@Bool.not_eq_true'
def LQ:=@Option.some.injEq
def KL:=@List.map_append
def VO:=@Nat.add_comm
def QB:=@List.take_of_length_le
def N8:=@Go.Proofs.Tryz.underlying30
def Kr:=@List.nodup_cons
def JJ:=@Nat.zero_add
def MK:=@Option.getD_some
def SG:=@Option.isSome_iff_exists
def OC:=@List.pairwise_cons
def Oz:=@beq_eq_false_iff_ne
def Qb:=@List.take_append_drop
def Ol:=@List.filter_append
def WX:=@Array.eq_empty_of_size_eq_zero
def Rw:=@Option.map_eq_some_iff
def RI:=@Go.MapKept.run_getObj_map
def LC:=@Bool.or_false
def QA:=@List.getElem?_drop
def Qp:=@List.filter_sublist
def PE:=@Bool.not_eq_true
def Oe:=@List.append_nil
def PU:=@List.drop_length
def Og:=@List.getElem_map
def OL:=@List.find?_cons
def Po:=@Go.Proofs.Tryz.underlying32
def Qm:=@Bool.false_eq_true
def RH:=@Option.toList_some
def NJ:=@Bool.false_or
def Nb:=@Bool.and_true
def Td:=@Array.length_toList
def Rk:=@of_decide_eq_true
def Y7:=@List.getElem?_set_ne
def Xa:=@Classical.byContradiction
def Ur:=@List.pairwise_append
def Tj:=@List.mem_filterMap
def X5:=@Go.World.putObj_heap_same
def SI:=@List.mem_flatMap
def Ri:=@List.filter_cons
def Lm:=@beq_iff_eq
def XG:=@Array.getElem?_toList
def TY:=@List.foldl_append
def UF:=@List.findIdx_cons
def Tc:=@List.take_add_one
def Jh:=@if_false
def Xk:=@Go.World.putObj_heap_other
def Zx:=@Array.getElem?_append_left
def ZH:=@List.nodup_iff_pairwise_ne
def Vr:=@List.mem_of_getElem?
def Uu:=@Nat.lt_of_lt_of_le
def X4:=@Bool.or_eq_false_iff
def Oo:=@Bool.or_true
def Tv:=@Go.Proofs.Tryz.underlying4
def Us:=@Int.toNat_natCast
def QL:=@Prod.mk.injEq
def Rh:=@Go.Oper.wpIn_mono
def Pq:=@Nat.add_zero
def WT:=@Nat.eq_zero_or_pos
def VU:=@List.find?_eq_none
def Jg:=@if_true
def UU:=@Nat.le_of_not_lt
def YC:=@List.mem_of_mem_take
def V3:=@List.foldlM_cons
def nE:=@List.takeWhile_append_dropWhile
def WJ:=@List.getElem_take
def XZ:=@List.map_congr_left
def VP:=@List.find?_some
def dN:=@List.filterMap_append
def WC:=@Nat.lt_succ_self
def bg:=@Array.toArray_toList
def Q9:=@Go.wpS_region
def dh:=@List.mem_of_mem_drop
def aj:=@List.mem_append_left
def kG:=@Option.bind_eq_some_iff
def Xf:=@Go.Proofs.Tryz.underlying22
def Yp:=@List.pairwise_map
def Xv:=@List.getElem_drop
def YI:=@List.find?_append
def XJ:=@Bool.or_eq_true
def dW:=@List.filter_eq_self
def iQ:=@List.findIdx_le_length
def gW:=@List.findIdx_lt_length
def mV:=@List.getD_eq_getElem?_getD
def Yj:=@List.cons_append
def jJ:=@List.mem_append_right
def fP:=@Bool.and_eq_false_iff
def xW:=@Array.getElem?_eq_getElem
def VR:=@Nat.succ_mul
def UZ:=@Nat.mul_comm
def Uh:=@List.map_map
def Rz:=@bne_iff_ne
def kn:=@Go.World.alloc_heap_new
def aX:=@List.ext_getElem?
def qc:=@List.getElem?_cons_succ
def ig:=@List.length_pos_iff
def YO:=@Go.heap_alloc_new
def og:=@List.filter_eq_nil_iff
def rW:=@List.drop_of_length_le
def eK:=@Go.Proofs.Tryz.underlying108
def jB:=@Go.Proofs.Tryz.underlying111
def dY:=@List.length_set
def dS:=@Go.Oper.upon_enter
def ZJ:=@Go.run_equalIn_int
def ZA:=@List.map_take
def lT:=@Go.Value.slice.injEq
def lu:=@List.size_toArray
def jd:=@Go.Proofs.Tryz.underlying35
def jH:=@Nat.lt_trichotomy
def lU:=@List.any_eq_false
def iM:=@Go.Proofs.Tryz.underlying23
def jQ:=@Go.Proofs.Tryz.underlying37
def yK:=@Nat.div_lt_of_lt_mul
def aL0:=@List.set_eq_take_append_cons_drop
def Yk:=@Int.le_refl
def aP:=@List.nodup_nil
def PX:=@Go.wpS_seq
def dG:=@Go.wp_region_list
def Yc:=@Nat.le_of_eq
def YS:=@getElem!_pos
def XV:=@Nat.lt_or_ge
def iF:=@Go.IntKind.wrap_u64
def jf:=@decide_eq_decide
def aDC:=@List.getElem?_cons_zero
def aF:=@List.map_drop
def Ze:=@List.any_cons
def wM:=@List.getElem?_take
def Uo:=@Go.wpIn_mono
def eI:=@Go.Proofs.Tryz.zeroValue3
def sO:=@Array.ext_getElem?
def eG:=@beq_false_of_ne
def fV:=@Go.IntKind.wrap_u8
def XU:=@Nat.add_mul
def aBD:=@ByteArray.size_extract
def zl:=@List.length_pos_of_mem
def xg:=@Function.comp_def
def s0:=@List.nodup_append
def nN:=@List.drop_sublist
def nD:=@List.filter_congr
def gU:=@List.drop_zero
def aNb:=@Array.getElem?_setIfInBounds
def aK3:=@Array.getElem?_append_right
def uQ:=@List.ext_getElem
def xK:=@Go.Proofs.Tryz.underlying5
def aEB:=@List.findIdx_getElem
def aOR:=@Array.toList_setIfInBounds
def eM:=@Go.Oper.semAt_eq
def aAD:=@List.toList_toArray
def aNz:=@Array.mapM_eq_mapM_toList
def vO:=@Nat.min_eq_left
def tY:=@Go.Proofs.Tryz.zeroValue5
def xk:=@Go.Proofs.Tryz.zeroValue9
def sQ:=@Go.Proofs.Tryz.zeroValue4
def vW:=@List.take_left'
def yQ:=@Option.map_none
def aLF:=@List.getElem_append_left
def jU:=@Go.Proofs.Tryz.sizeOf3
def aDQ:=@Go.Proofs.Tryz.underlying148
def aCJ:=@Go.Proofs.Tryz.underlying212
def aFV:=@Array.extract_size
def kD:=@Go.Addr.add_lit
def aIA:=@List.length_filterMap_le
def qg:=@List.mem_range
def vw:=@List.take_zero
def aNj:=@List.getElem?_replicate
def aOH:=@List.pairwise_singleton
def aEU:=@Go.World.ownsRow_nil
def aBx:=@Go.Proofs.Tryz.zeroValue148
def aF8:=@Go.Proofs.Tryz.zeroValue212
def aCe:=@Go.Proofs.Tryz.underlying24
def aYu:=@List.findIdx?_eq_some_iff_getElem
def kN:=@Nat.mul_one
def aKK:=@List.dropWhile_sublist
def eB:=@Go.Proofs.Tryz.isAgg3
def aMR:=@Go.World.cell?_alloc_past
def aP7:=@List.not_of_lt_findIdx
def wP:=@List.all_cons
def aBG:=@Go.Proofs.Tryz.underlying0
def aYi:=@List.length_filter_eq_length_iff
def aA4:=@List.perm_middle
def Zm:=@Array.ext
def aNo:=@Nat.eq_of_beq_eq_true
def aHA:=@Go.Lib.wpList_append_run
def yw:=@Nat.div_add_mod
def jv:=@Nat.mod_lt
def aOd:=@Array.ext'
def yE:=@Go.Proofs.Tryz.sizeOf5
def sW:=@Go.Proofs.Tryz.sizeOf9
def ou:=@Go.Proofs.Tryz.sizeOf4
def aDD:=@Go.Proofs.Tryz.zeroValue0
def abQ:=@List.Nodup.length_le_of_subset
def qP:=@Bool.not_not
def aMv:=@List.mem_iff_getElem
def aOh:=@Go.callsIn_of_wp_marks
def aPU:=@Go.Lib.strCells_length
def aLX:=@Array.getElem?_push
def aJ9:=@List.reverse_append
def aCr:=@Go.run_underlying
def aFu:=@List.take_left
def aBO:=@Go.Proofs.Tryz.sizeOf148
def aC6:=@Go.Proofs.Tryz.sizeOf212
def zC:=@Nat.mul_le_mul
def uT:=@Go.setRow_heap
def yZ:=@Go.Sem.run_map
def vH:=@Go.Proofs.Tryz.isAgg5
def yG:=@Go.Proofs.Tryz.isAgg9
def sH:=@Go.Proofs.Tryz.isAgg4
def aVK:=@Nat.min_def
def aOC:=@Go.run_loadCells_list
def aMp:=@Int.natCast_nonneg
def aNc:=@Go.MapKept.heap_alloc
def aG7:=@List.filterMap_nil
def aI7:=@Option.toList_none
def aPQ:=@Nat.eq_or_lt_of_le
def aOc:=@Bool.false_ne_true
def aXR:=@List.dropWhile_cons_of_pos
def aQy:=@List.dropWhile_cons_of_neg
def aAv:=@Go.callsD_of_wpS
def aQr:=@List.getElem?_take_eq_none
def aT0:=@Int.fdiv_eq_ediv_of_nonneg
def aTn:=@Int.tmod_eq_emod_of_nonneg
def aIz:=@Go.run_storeCells_at
def aOO:=@List.take_sublist
def aWx:=@List.getElem_append_right
def aTH:=@List.mem_take_iff_getElem
def aUk:=@List.getElem?_zip_eq_some
def aXj:=@List.exists_mem_of_ne_nil
def aPe:=@Go.wpIn_region_list
def aNg:=@List.take_append
def iU:=@or_false
def aOQ:=@Go.World.size_alloc
def yj:=@List.map_set
def lC:=@Go.wpS_cond
def aJF:=@List.flatMap_map
def aHf:=@List.getElem_zip
def aHQ:=@List.cons_ne_nil
def aPO:=@List.map_reverse
def aKV:=@Nat.min_le_left
def aLL:=@List.cons.injEq
def aMV:=@List.any_append
def aCj:=@List.map_id
def aBP:=@Nat.one_mul
def aOj:=@List.drop_drop
def aM5:=@List.take_take
def aPv:=@Bool.false_and
end Go.Proofs.YtkkdimcnpacjhaaGreat
namespace Go.Proofs.YtkkdimcnpacjhaaGreat
open Go.RowKit
abbrev CP:=Value.int .i64
end Go.Proofs.YtkkdimcnpacjhaaGreat
namespace Go.Proofs.YtkkdimcnpacjhaaGreat
open Go.RowKit
def A8 {p:Prop} (h:p:=by kernel_rfl):p:=h
def AA {p:Prop} (h:p:=by omega):p:=h
def Cm {p:Prop} (h:p:=by cases h;exact .ret (FW [])):p:=h
def BK {p:Prop} (h:p:=by decide):p:=h
def BF {p:Prop} (h:p:=by simp):p:=h
def EK {p:Prop} (h:p:=by cases h;kernel_rfl):p:=h
def Fa {p:Prop} (h:p:=by simp only[O6];omega):p:=h
def Dh {p:Prop} (h:p:=by simp;omega):p:=h
def G9 {p:Prop} (h:p:=by simpa using hi):p:=h
def Yh {p:Prop} (h:p:=by rw[←Cj h];exact⟨[],[(0,true)],trivial,by kernel_rfl,by kernel_rfl,by kernel_rfl⟩):p:=h
def OJ {p:Prop} (h:p:=by cases h;exact .ret (FW [(2,true)])):p:=h
def Zo {p:Prop} (h:p:=by cases h;exact .ret (FW [(0,true)])):p:=h
def Me {p:Prop} (h:p:=by simpa using z):p:=h
def JZ {p:Prop} (h:p:=by simpa using h):p:=h
def N7 {p:Prop} (h:p:=by simp[List.getD,hi]):p:=h
def kE {p:Prop} (h:p:=by cases h;exact .ret (FW [(0,true),(1,true),(2,true),(3,true)])):p:=h
def OX {p:Prop} (h:p:=by decide+kernel):p:=h
def KU {p:Prop} (h:p:=by rw[EI];omega):p:=h
def OH {p:Prop} (h:p:=by simp[underlying,ht]):p:=h
def Lc {p:Prop} (h:p:=by simpa using hl):p:=h
def Gy {p:Prop} (h:p:=by cases h):p:=h
def IK {p:Prop} (h:p:=by simp at h):p:=h
def yX {p:Prop} (h:p:=by have :=hb (k+1) y (by simpa using z);simpa[Rx,VO 1 k]using this):p:=h
def xB {p:Prop} (h:p:=by have :=hl (k+1) (by simpa using hk);simpa[Rx,VO 1 k]using this):p:=h
def yO {p:Prop} (h:p:=by have :=M (k+1) y (by simpa using z);simpa[Rx,VO 1 k]using this):p:=h
def vZ {p:Prop} (h:p:=by have :=O (k+1) y (by simpa using z);simpa[Rx,VO 1 k]using this):p:=h
def QC {p:Prop} (h:p:=by rw[←hm.hlen];simp):p:=h
def MV {p:Prop} (h:p:=by simpa using q):p:=h
def Xt {p:Prop} (h:p:=by cases h;exact .ret (FW [(1,true)])):p:=h
def VF {p:Prop} (h:p:=by simp only[EI,O6];omega):p:=h
def UE {p:Prop} (h:p:=by simp only[LY];omega):p:=h
def jO {p:Prop} (h:p:=by have :Ag=9223372036854775808:=rfl;omega):p:=h
def YX {p:Prop} (h:p:=by obtain⟨a,_,rfl⟩:=E5.1 hx;rfl):p:=h
def Xg {p:Prop} (h:p:=by first|exact u|kernel_rfl):p:=h
def aRt {p:Prop} (h:p:=by unfold Func.isWrapper;first|(rw[CS (by decide+kernel)];kernel_rfl)|(rw[CY (by decide+kernel)];exact⟨rfl,rfl⟩)):p:=h
def Un {p:Prop} (h:p:=by intro hh;cases hh):p:=h
def aVa {p:Prop} (h:p:=by rw[←Cj h];exact⟨[],[(0,true),(1,true),(2,true),(3,true)],trivial,by kernel_rfl,by kernel_rfl,by kernel_rfl⟩):p:=h
def eH {p:Prop} (h:p:=by simp[Act.eval,Array.replicate]):p:=h
def Pv {p:Prop} (h:p:=by rw[hl];rfl):p:=h
def QH {p:Prop} (h:p:=by rw[ay];omega):p:=h
def SV {p:Prop} (h:p:=by simpa using I):p:=h
def Rs {p:Prop} (h:p:=by simpa using J):p:=h
def RY {p:Prop} (h:p:=by simpa using e):p:=h
def P7 {p:Prop} (h:p:=by simp at hi):p:=h
def Vg {p:Prop} (h:p:=by rw[Ic]at h;exact h):p:=h
def Y3 {p:Prop} (h:p:=by rw[Ic];exact aI5 hs):p:=h
def TP {p:Prop} (h:p:=by simpa using u):p:=h
def QF {p:Prop} (h:p:=by rw[afW];rfl):p:=h
def aTj {p:Prop} (h:p:=by subst e;have h:=i;exact AU h fun x9 Aa h=>.ca (Za  x9 Aa)<|.aW<|by cases h;kernel_rfl):p:=h
def wL {p:Prop} (h:p:=by simpa using(hl 0 (by simp)).symm):p:=h
def Xz {p:Prop} (h:p:=by intro q;cases q):p:=h
def Yo {p:Prop} (h:p:=by intro j;cases j):p:=h
def VT {p:Prop} (h:p:=by rw[CG];omega):p:=h
def Vm {p:Prop} (h:p:=by simpa using L):p:=h
def uP {p:Prop} (h:p:=by obtain⟨a,_,rfl⟩:=E5.1 j;rfl):p:=h
def WS {p:Prop} (h:p:=by simpa using j):p:=h
def Vl {p:Prop} (h:p:=by simpa using Y):p:=h
def aNn {p:Prop} (h:p:=by rw[alloc_eq_grow,alloc_eq_grow,grow_grow];rfl):p:=h
def aHH {p:Prop} (h:p:=by rw[ha];exact Ed (JH _ _) (by rw[FD];omega)):p:=h
def UQ {p:Prop} (h:p:=by simp[flat]):p:=h
def aL5 {p:Prop} (h:p:=by by_cases h:(s.size:Int)>32<;>simp[h]<;>omega):p:=h
def aKt {p:Prop} (h:p:=by rw[FD];omega):p:=h
def aE2 {p:Prop} (h:p:=by simpa using I.lt x (by simp[hx])):p:=h
def aJ7 {p:Prop} (h:p:=by by_cases h:(s.size:Int)<1<;>simp[h]<;>omega):p:=h
def gZ {p:Prop} (h:p:=by rw[ha,CG,FD];omega):p:=h
def aTx {p:Prop} (h:p:=by simpa using hk):p:=h
def aLS {p:Prop} (h:p:=by have :=hinj j j' o o' t u ho' q hd';omega):p:=h
def aAg {p:Prop} (h:p:=by simp only[aVK];split<;>omega):p:=h
def eF {p:Prop} (h:p:=by simp[Ag];omega):p:=h
def Tf {p:Prop} (h:p:=by simp[hi]):p:=h
def dI {p:Prop} (h:p:=by simp[hm.hlen]):p:=h
def aEd {p:Prop} (h:p:=by rw[EI];simp only[O6];omega):p:=h
def iH {p:Prop} (h:p:=by rw[aKP j L];simp):p:=h
def aBf {p:Prop} (h:p:=by simpa using M 0 x (by simp)):p:=h
def lN {p:Prop} (h:p:=by simp at J;omega):p:=h
def aPa {p:Prop} (h:p:=by simp[Array.getD,hil]at hf ⊢;exact hf):p:=h
def aHZ {p:Prop} (h:p:=by obtain⟨b,_,rfl⟩:=E5.1 hy;exact hc b):p:=h
def aOa {p:Prop} (h:p:=by obtain⟨a,_,rfl⟩:=E5.1 hy;exact hc a):p:=h
def vU {p:Prop} (h:p:=by rw[map_take hi,ha]):p:=h
def qO {p:Prop} (h:p:=by rw[q];rfl):p:=h
def aDB {p:Prop} (h:p:=by simp[binOp,Op.intBits,ET]):p:=h
def aCP {p:Prop} (h:p:=by simp only[G7];simp;omega):p:=h
def aIs {p:Prop} (h:p:=by rw[L rfl b (by rw[q];rfl)];exact u):p:=h
def aSm {p:Prop} (h:p:=by rw[CG]at hi;rw[SY _ _ _ hi];exact VD q j u (h i hi)):p:=h
def aQ3 {p:Prop} (h:p:=by subst e;have h:=i;exact Ci.aW<|by cases h;kernel_rfl):p:=h
def aDR {p:Prop} (h:p:=by simp[Act.eval,Act.put]):p:=h
def aO4 {p:Prop} (h:p:=by simpa using O 0 σ.ents (by simp)):p:=h
def ZQ {p:Prop} (h:p:=by rw[ha,FV]):p:=h
def aVF {p:Prop} (h:p:=by rw[CG]at hi;rw[SY _ _ _ hi];exact(h i hi).uY π):p:=h
def aWm {p:Prop} (h:p:=by rw[M]at ho';obtain rfl:=CV ho';exact(O m hm).1):p:=h
def pS {p:Prop} (h:p:=by intro I;cases I):p:=h
def nX {p:Prop} (h:p:=by rw[j]at h;exact h):p:=h
def aE5 {p:Prop} (h:p:=by simp[Op.bytesLess]at h):p:=h
def aU0 {p:Prop} (h:p:=by unfold Ia;rw[CS ⟨Yk _,by omega,by omega⟩];rfl):p:=h
def aaX {p:Prop} (h:p:=by simp only[aCo,dec_lt h,Az,Bd h,AO,KI,EF,Aj]):p:=h
def xI {p:Prop} (h:p:=by intro h;cases h):p:=h
def aXC {p:Prop} (h:p:=by simpa using(by omega:i<(ops.map a.eval).size)):p:=h
def aFB {p:Prop} (h:p:=by rw[World.cell?,j];rfl):p:=h
def aCv {p:Prop} (h:p:=by constructor<;>omega):p:=h
def ru {p:Prop} (h:p:=by simpa using hs):p:=h
def aTN {p:Prop} (h:p:=by cases h;exact .ret (FW [(0,false),(1,true)])):p:=h
def aWf {p:Prop} (h:p:=by rw[ha];exact Ed (Ug _ _) (by rw[FD];omega)):p:=h
def aDM {p:Prop} (h:p:=by unfold maxLen;omega):p:=h
def aUB {p:Prop} (h:p:=by cases h;exact .ret (FW [(0,true),(1,true)])):p:=h
def aI9 {p:Prop} (h:p:=by simp[sizeOf,typeInfo,hi,hs]):p:=h
def aRx {p:Prop} (h:p:=by have :=gq s ⟨k,key,0⟩;unfold Eb at *;omega):p:=h
def kH {p:Prop} (h:p:=by rw[j.eq];rfl):p:=h
def qY {p:Prop} (h:p:=by simpa using q2):p:=h
def aDm {p:Prop} (h:p:=by simp[underlying,hu]):p:=h
def uF {p:Prop} (h:p:=by simpa using h2):p:=h
def aRq {p:Prop} (h:p:=by simp[Value.cells,List.getD,Array.getD,z]):p:=h
def dM {p:Prop} (h:p:=by simp[hl]):p:=h
def aNr {p:Prop} (h:p:=by have :=eq_of_beq h;omega):p:=h
def lV {p:Prop} (h:p:=by rw[e];rfl):p:=h
def aML {p:Prop} (h:p:=by rw[hb1];exact(FP.1 M).1):p:=h
def aLB {p:Prop} (h:p:=by rw[BA.adl]at J;exact J):p:=h
def aV4 {p:Prop} (h:p:=by unfold JD at j;rw[D8 hl]at j;exact j):p:=h
def aHe {p:Prop} (h:p:=by simp[underlying,hE.und]):p:=h
def aK {p:Prop} (h:p:=by cases h'):p:=h
def aAV {p:Prop} (h:p:=by simpa using he):p:=h
def ZM {p:Prop} (h:p:=by simp[q]):p:=h
def aEC {p:Prop} (h:p:=by simpa using hc):p:=h
def aWv {p:Prop} (h:p:=by simp[stepG,stepG.exec,Frame.atR]):p:=h
def aWO {p:Prop} (h:p:=by rw[pq];exact fuel_lt (by decide)):p:=h
def aKD {p:Prop} (h:p:=by simp[List.getD,Y7 e]):p:=h
def aFS {p:Prop} (h:p:=by simp[flat]at hi):p:=h
def aPW {p:Prop} (h:p:=by simp[List.getD,Gq e]):p:=h
def aPt {p:Prop} (h:p:=by simpa[Cx]using q.symm):p:=h
def aCu {p:Prop} (h:p:=by simpa using ht):p:=h
def aF0 {p:Prop} (h:p:=by rw[II];omega):p:=h
def aNl {p:Prop} (h:p:=by have :=h.len';omega):p:=h
def aNa {p:Prop} (h:p:=by simp[World.setRow]):p:=h
def aMn {p:Prop} (h:p:=by have :=h.len;omega):p:=h
def aNC {p:Prop} (h:p:=by simp only[aCo,Ce,Aj]):p:=h
def aDG {p:Prop} (h:p:=by apply aOd;simp):p:=h
def uh {p:Prop} (h:p:=by rw[z];rfl):p:=h
def aG3 {p:Prop} (h:p:=by simp[go_sem]):p:=h
def aCh {p:Prop} (h:p:=by rw[Ic];exact h):p:=h
def aFG {p:Prop} (h:p:=by simpa using hp):p:=h
def aLY {p:Prop} (h:p:=by rw[EI];simp;omega):p:=h
def vG {p:Prop} (h:p:=by rw[j];rfl):p:=h
def zO {p:Prop} (h:p:=by simpa using O):p:=h
def aDa {p:Prop} (h:p:=by rw[IV];omega):p:=h
def aPB {p:Prop} (h:p:=by simp[execOp,j];rfl):p:=h
def Fin {p:Prop} (h:p:=by simpa using U):p:=h
def aOt {p:Prop} (h:p:=by simp[List.getD,ht]):p:=h
def aMN {p:Prop} (h:p:=by rw[EI]at hi;omega):p:=h
def aLd {p:Prop} (h:p:=by rw[ay];simp;omega):p:=h
def aKv {p:Prop} (h:p:=by simp[List.getD,u]):p:=h
def aPE {p:Prop} (h:p:=by simpa using this):p:=h
def aPS {p:Prop} (h:p:=by rw[CG];exact hi):p:=h
def aA9 {p:Prop} (h:p:=by simp[xE,e]):p:=h
def nC {p:Prop} (h:p:=by simp at q):p:=h
def wE {p:Prop} (h:p:=by simp at j):p:=h
def xY {p:Prop} (h:p:=by simp at z):p:=h
def aM3 {p:Prop} (h:p:=by rw[I]at q;omega):p:=h
def aPs {p:Prop} (h:p:=by intro u;cases u):p:=h
def aNp {p:Prop} (h:p:=by intro J;cases J):p:=h
end Go.Proofs.YtkkdimcnpacjhaaGreat
namespace Go.Proofs.YtkkdimcnpacjhaaGreat
open Go.RowKit
def CZ {p:Prop} (h:p:=by exact fun h=>AZ<|Cm):p:=h
def I8 {p:Prop} (h:p:=by exact AQ.exit<|AZ<|Cm):p:=h
def bJ {p:Prop} (h:p:=by exact P6 A8<|P6 A8<|P6 A8<|P6 A8<|trivial):p:=h
def aDV {p:Prop} (h:p:=by exact .nil<|Or.inl ⟨(),(Cj h).symm,(⟨[],[],trivial,A8,A8,A8⟩)⟩):p:=h
def Ux {p:Prop} (h:p:=by exact AQ.exit<|AZ<|Zo):p:=h
def ab8 {p:Prop} (h:p:=by exact fun h=>AQ.ret<|⟨.inr rfl,(Yn I).slots,(.ready,none),.normal,A8,rfl,(K3 _ ⟨q,u,Ae 16 32 [(2,true),(6,true)],h⟩)⟩):p:=h
def aSg {p:Prop} (h:p:=by exact AQ.ret<|⟨.inr rfl,(WQ tH j).slots,(.ready,none),.normal,A8,rfl,(K3 _ ⟨v7,v8,Ae 21 80 [(0,true),(1,true)],h⟩)⟩):p:=h
def aAt {p:Prop} (h:p:=by exact .nil<|q _ _ _ (Ae 16 449 [(0,true)]) h):p:=h
def lH {p:Prop} (h:p:=by exact AZ<|AZ<|Cm):p:=h
def aN6 {p:Prop} (h:p:=by exact fun h=>AQ.exit<|K4 _ ⟨Ae 18 2 [],h⟩):p:=h
def SX {p:Prop} (h:p:=by exact BN h CZ fun h=>AZ<|Cm):p:=h
end Go.Proofs.YtkkdimcnpacjhaaGreat
section
namespace Go.Proofs.YtkkdimcnpacjhaaGreat
open Go.RowKit
def addr_add (b o j:Nat):(⟨b,o,none⟩:Addr).add j=⟨b,o+j,none⟩:=by
 unfold Addr.add;split<;>simp_all
section
variable {P : Program} {ops : Array Oper} {rest : List Oper} {o : Oper} {a : Act} {w : World} {Q : Exit → Act → World → Prop}
def aiF (w:World) (ty:TypeId) (b off:Nat) (cs:Array Value) (hA:(isAgg ty).run P w=.ok true w) (z:(sizeOf ty).run P w=.ok cs.size w)
 (I:∀j,j<cs.size→w.cell? ⟨b,off+j,none⟩=some (cs.getD j undef)):(loadVar ty ⟨b,off,none⟩).run P w=.ok (.agg cs) w:=by
 have hl:(loadCells ⟨b,off,none⟩ cs.toList.length).run P w=.ok cs.toList.toArray w:=
  aOC (P:=P) w ⟨b,off,none⟩ cs.toList (fun j v q=>by
   rw[addr_add]
   have u:j<cs.size:=by
    have :=(FP.1 q).1;simpa using this
   rw[I j u];simp only[XG]at q;simp[Array.getD,u]at q ⊢
   exact q)
 simp only[Td,bg]at hl;simp only[loadVar,FT,hA,z,Fh,Jg,hl,Gj]
end
def aKX (w:World) (cs:Array Value) (t:TypeId):∀k,(w.alloc (.cells cs t)).cell? ⟨w.heap.size,k,none⟩=cs[k]? :=fun k=>cell_of_row _ _ k cs t (0,0) (YO w _)
inductive D where
 |lit (v:Value)
 |agg (cs:List D)
 |sl (es:List D)
 |ref (cs:List D) (off:Nat)
 |fn (f:Fn) (first cap:List D)
 |OV (t:TypeId) (x:D)
def D.cells:D→List D
 | .agg cs=>cs
 |x=>[x]
def D.leaf:D→Bool
 | .lit v=>v.oneCell'
 | .agg _=>false
 |_=>true
abbrev DT :D:=.lit undef
abbrev cellAt (w:World) (b o:Nat):Value:=(w.cell? ⟨b,o,none⟩).getD undef
inductive Dc (ok:Nat→Prop) (w:World):D→Value→Prop
 |lit (v:Value):Dc ok w (.lit v) v
 |agg (cs:List D) (vs:Array Value) (hl:vs.size=cs.length) (hf:∀i,i<cs.length→(cs.getD i DT).leaf=true)
  (h:∀i,i<cs.length→Dc ok w (cs.getD i DT) (vs.getD i undef)):Dc ok w (.agg cs) (.agg vs)
 |sl0 (ad:Option Addr) (cap:Nat):Dc ok w (.sl []) (.slice ad 0 cap)
 |sl (es:List D) (b off cap size:Nat) (hcap:es.length≤cap) (hok:0<es.length→0<size→ok b) (hs:∀i,i<es.length→(es.getD i DT).cells.length=size)
  (hf:∀i,i<es.length→∀j,j<size→((es.getD i DT).cells.getD j DT).leaf=true)
  (hx:∀i,i<es.length→∀j,j<size→(w.cell? ⟨b,off+(i*size+j),none⟩).isSome=true)
  (hc:∀i,i<es.length→∀j,j<size→Dc ok w ((es.getD i DT).cells.getD j DT) (cellAt w b (off+(i*size+j)))):
  Dc ok w (.sl es) (.slice (some ⟨b,off,none⟩) es.length cap)
 |ref (cs:List D) (off b o:Nat) (hok:0<cs.length→ok b) (hf:∀i,i<cs.length→(cs.getD i DT).leaf=true)
  (hx:∀j,j<cs.length→(w.cell? ⟨b,o+j,none⟩).isSome=true)
  (hc:∀j,j<cs.length→Dc ok w (cs.getD j DT) (cellAt w b (o+j))):Dc ok w (.ref cs off) (.pointer (some ⟨b,o+off,none⟩))
 |fn (f:Fn) (first cap:List D) (vs us:Array Value) (hl:vs.size=first.length) (hm:us.size=cap.length)
  (h:∀i,i<first.length→Dc ok w (first.getD i DT) (vs.getD i undef)) (h':∀i,i<cap.length→Dc ok w (cap.getD i DT) (us.getD i undef)):
  Dc ok w (.fn f first cap) (.func f vs us)
 |OV (t:TypeId) (x:D) (v:Value) (h:Dc ok w x v):Dc ok w (.OV t x) (.iface t v)
def ER (ok:Nat→Prop) (w:World) (ok':Nat→Prop) (w':World):Prop:=∀b,ok b→ok' b∧w'.heap[b]? =w.heap[b]?
def ER.refl (ok:Nat→Prop) (w:World):ER ok w ok w:=fun _ h=>⟨h,rfl⟩
def ER.trans {ok j q:Nat→Prop} {w z I:World} (h:ER ok w j z) (k:ER j z q I):ER ok w q I:=
 fun b u=>⟨(k b (h b u).1).1,((k b (h b u).1).2).trans (h b u).2⟩
def ER.cell {ok ok':Nat→Prop} {w w':World} (h:ER ok w ok' w') {b o:Nat} (j:ok b):w'.cell? ⟨b,o,none⟩=w.cell? ⟨b,o,none⟩:=
 World.cell?_of_block (w:=w) (a:=⟨b,o,none⟩) (h b j).2
def Dc.mono {ok ok':Nat→Prop} {w w':World} (I:ER ok w ok' w') {x:D} {v:Value} (h:Dc ok w x v):Dc ok' w' x v:=by
 induction h with
 |lit v=>exact .lit v
 |agg cs vs hl J _ z=>exact .agg cs vs hl J z
 |sl0 ad cap=>exact .sl0 ad cap
 |sl es b off cap size L q hs J M _ z=>
  have Y:∀i j,i<es.length→j<size→ok b:=fun i j hi u=>q AA AA;refine .sl es b off cap size L (fun O Z=>(I b (q O Z)).1) hs J (fun i hi j u=>?_) (fun i hi j u=>?_)
  ·rw[I.cell (Y i j hi u)];exact M i hi j u
  unfold cellAt;rw[I.cell (Y i j hi u)];exact z i hi j u
 |ref cs off b o q J M _ z=>
  refine .ref cs off b o (fun O=>(I b (q O)).1) J (fun j u=>?_) (fun j u=>?_)
  ·rw[I.cell (q AA)];exact M j u
  unfold cellAt;rw[I.cell (q AA)];exact z j u
 |fn f first cap vs us hl hm _ _ z U=>exact .fn f first cap vs us hl hm z U
 |OV t x v _ z=>exact .OV t x v z
def Dc.shrink {ok ok':Nat→Prop} {w:World} (hs:∀b o,ok b→(w.cell? ⟨b,o,none⟩).isSome=true→ok' b) {x:D} {v:Value} (h:Dc ok w x v):Dc ok' w x v:=by
 induction h with
 |lit v=>exact .lit v
 |agg cs vs hl u _ j=>exact .agg cs vs hl u j
 |sl0 ad cap=>exact .sl0 ad cap
 |sl es b off cap size z q L u I _ j=>exact .sl es b off cap size z (fun J O=>hs b _ (q J O) (I 0 J 0 O)) L u I j
 |ref cs off b o q u I _ j=>exact .ref cs off b o (fun J=>hs b _ (q J) (I 0 J)) u I j
 |fn f first cap vs us hl hm _ _ j M=>exact .fn f first cap vs us hl hm j M
 |OV t x v _ j=>exact .OV t x v j
def Dc.leaf {ok:Nat→Prop} {w:World} {x:D} {v:Value} (h:Dc ok w x v) (hl:x.leaf=true):v.oneCell'=true:=by
 cases h<;>first|rfl|exact hl|(simp[D.leaf]at hl)
inductive AV where
 |d (x:D)
 |ptr (k off:Nat)
 |bn (k:Nat)
 |lD (k i off:Nat)
 |fn (f:Fn) (first cap:List AV)
 |mp (k:Nat)
 |clip (xs:List D)
 |xG (k:Nat)
 |eu (vs:List AV)
 |ag (vs:List AV)
 |junk
def AV.leaf:AV→Bool
 | .d x=>x.leaf
 | .eu _| .ag _| .junk=>false
 |_=>true
def AV.cells:AV→List AV
 | .d x=>x.cells.map .d
 | .ag xs=>xs
 |x=>[x]
inductive BA where
 |dead
 |box (cs:List AV)
 |arr (e:TypeId) (size:Nat) (es:List D)
 |map (es:List (Value×D))
 |fO (es:List (Value×D))
 |iter (es:List (Value×D)) (vis:List Nat)
 |loop (tm:Array Value) (slots:List AV) (rc:Array Tmp×Code×Code) (st:LoopState) (pe:Option Code)
def BA.live:BA→Bool
 | .dead=>false
 |_=>true
structure BO where
 v:Value
 size:Nat:=0
inductive R (ok:Nat→Prop) (w:World) (H:List BO):AV→Value→Prop
 |d (x:D) (v:Value) (h:Dc ok w x v):R ok w H (.d x) v
 |ptr (k off b s:Nat) (h:H[k]? =some ⟨.pointer (some ⟨b,0,none⟩),s⟩):R ok w H (.ptr k off) (.pointer (some ⟨b,off,none⟩))
 |bn (k:Nat) (ad:Option Addr) (n cap s:Nat) (h:H[k]? =some ⟨.slice ad n cap,s⟩):R ok w H (.bn k) (.slice ad n cap)
 |lD (k i off b n cap s:Nat) (h:H[k]? =some ⟨.slice (some ⟨b,0,none⟩) n cap,s⟩):R ok w H (.lD k i off) (.pointer (some ⟨b,i*s+off,none⟩))
 |fn (f:Fn) (first cap:List AV) (vs us:Array Value) (hl:vs.size=first.length) (hm:us.size=cap.length) (h:∀i,i<first.length→R ok w H (first.getD i .junk) (vs.getD i undef))
  (h':∀i,i<cap.length→R ok w H (cap.getD i .junk) (us.getD i undef)):R ok w H (.fn f first cap) (.func f vs us)
 |mp (k:Nat) (v:Value) (s:Nat) (hl:v.oneCell'=true) (h:H[k]? =some ⟨v,s⟩):R ok w H (.mp k) v
 |clip (xs:List D) (ad:Option Addr) (h:Dc ok w (.sl xs) (.slice ad xs.length xs.length)):R ok w H (.clip xs) (.slice ad xs.length xs.length)
 |xG (k:Nat) (ad:Option Addr) (n cap s:Nat) (h:H[k]? =some ⟨.slice ad n cap,s⟩):R ok w H (.xG k) (.slice ad n n)
 |eu (xs:List AV) (vs:Array Value) (hl:vs.size=xs.length) (h:∀i,i<xs.length→R ok w H (xs.getD i .junk) (vs.getD i undef)):R ok w H (.eu xs) (.tuple vs)
 |ag (xs:List AV) (vs:Array Value) (hl:vs.size=xs.length) (hf:∀i,i<xs.length→(xs.getD i .junk).leaf=true) (h:∀i,i<xs.length→R ok w H (xs.getD i .junk) (vs.getD i undef)):R ok w H (.ag xs) (.agg vs)
 |junk (v:Value):R ok w H .junk v
def Names (H H':List BO):Prop:=∀(k:Nat) (v:BO),H[k]? =some v→H'[k]? =some v
def Names.refl (H:List BO):Names H H:=fun _ _ h=>h
def Names.trans {H H1 H2:List BO} (h:Names H H1) (k:Names H1 H2):Names H H2:=fun i v j=>k i v (h i v j)
def Names.push (H H':List BO):Names H (H++H'):=fun k v h=>by
 rw[Gq (FP.1 h).1];exact h
def R.mono {ok ok':Nat→Prop} {w w':World} {H H':List BO} (z:ER ok w ok' w') (j:Names H H') {x:AV} {v:Value} (h:R ok w H x v):R ok' w' H' x v:=by
 induction h with
 |d x v h=>exact .d x v (h.mono z)
 |ptr k off b s h=>exact .ptr k off b s (j _ _ h)
 |bn k ad n cap s h=>exact .bn k ad n cap s (j _ _ h)
 |lD k i off b n cap s h=>exact .lD k i off b n cap s (j _ _ h)
 |fn f first cap vs us hl hm _ _ q u=>exact .fn f first cap vs us hl hm q u
 |mp k v s hl h=>exact .mp k v s hl (j _ _ h)
 |clip xs ad h=>exact .clip xs ad (h.mono z)
 |xG k ad n cap s h=>exact .xG k ad n cap s (j _ _ h)
 |eu xs vs hl _ q=>exact .eu xs vs hl q
 |ag xs vs hl I _ q=>exact .ag xs vs hl I q
 |junk v=>exact .junk v
def R.shrink {ok ok':Nat→Prop} {w:World} (hs:∀b o,ok b→(w.cell? ⟨b,o,none⟩).isSome=true→ok' b) {H:List BO} {x:AV} {v:Value} (h:R ok w H x v):R ok' w H x v:=by
 induction h with
 |d x v h=>exact .d x v (h.shrink hs)
 |ptr k off b s h=>exact .ptr k off b s h
 |bn k ad n cap s h=>exact .bn k ad n cap s h
 |lD k i off b n cap s h=>exact .lD k i off b n cap s h
 |fn f first cap vs us hl hm _ _ j q=>exact .fn f first cap vs us hl hm j q
 |mp k v s hl h=>exact .mp k v s hl h
 |clip xs ad h=>exact .clip xs ad (h.shrink hs)
 |xG k ad n cap s h=>exact .xG k ad n cap s h
 |eu xs vs hl _ j=>exact .eu xs vs hl j
 |ag xs vs hl u _ j=>exact .ag xs vs hl u j
 |junk v=>exact .junk v
def R.leaf {ok:Nat→Prop} {w:World} {H:List BO} {x:AV} {v:Value} (h:R ok w H x v) (hl:x.leaf=true):v.oneCell'=true:=by
 cases h with
 |d x v h=>exact h.leaf hl
 |eu=>simp[AV.leaf]at hl
 |ag=>simp[AV.leaf]at hl
 |junk=>simp[AV.leaf]at hl
 |mp k v s hl h=>exact hl
 |_=>rfl
def Ez (ok:Nat→Prop) (w:World) (H:List BO) (xs:List AV) (vs:List Value):Prop:=
 vs.length=xs.length∧∀i,i<xs.length→(xs.getD i .junk).leaf=true∧R ok w H (xs.getD i .junk) (vs.getD i undef)
def Ez.mono {ok ok':Nat→Prop} {w w':World} {H H':List BO} (j:ER ok w ok' w') (q:Names H H') {xs:List AV} {vs:List Value} (h:Ez ok w H xs vs):Ez ok' w' H' xs vs:=
 ⟨h.1,fun i hi=>⟨(h.2 i hi).1,(h.2 i hi).2.mono j q⟩⟩
def Ez.shrink {ok ok':Nat→Prop} {w:World} (hs:∀b o,ok b→(w.cell? ⟨b,o,none⟩).isSome=true→ok' b) {H:List BO} {xs:List AV} {vs:List Value} (h:Ez ok w H xs vs):Ez ok' w H xs vs:=
 ⟨h.1,fun i hi=>⟨(h.2 i hi).1,(h.2 i hi).2.shrink hs⟩⟩
def flat (es:List D):List AV:=es.flatMap fun x=>x.cells.map .d
def lM (w:World) (e:TypeId) (size:Nat) (v:Value) (n:Nat) (xs:List Value):Prop:=
 xs.length=n*size∧
 ((v=.slice none 0 0∧n=0)∨
  ∃g cap cur,v=.slice (some ⟨g,0,none⟩) n cap∧0≤g∧w.heap[g]? =some (.cells cur e (0,0))∧n≤cap∧cap≤maxLen∧cap*size≤cur.size∧cur.toList.take (n*size)=xs)
def lM.of {w:World} {base:Nat} {e:TypeId} {size:Nat} {v:Value} {n:Nat} {xs:List Value} (h:w.ownsRow base e size v n xs):lM w e size v n xs:=by
 refine⟨h.1,?_⟩;rcases h.2 with j|⟨g,cap,cur,j,L,q,u,z,I,J⟩
 ·exact .inl j
 exact .inr ⟨g,cap,cur,j,Du _,q,u,z,Yc I.symm,J⟩
def lM.cells {w:World} {e:TypeId} {size:Nat} {v:Value} {n:Nat} {xs:List Value} (h:lM w e size v n xs) {g:Nat} (J:v.ownBlock=some g):∀j u,xs[j]? =some u→w.cell? ((⟨g,0,none⟩:Addr).add j)=some u:=by
 intro j u I;rcases h.2 with⟨rfl,_⟩|⟨L,cap,cur,rfl,_,M,_,_,_,q⟩
 ·simp[Value.ownBlock]at J
 simp[Value.ownBlock]at J;subst J;have z:(⟨L,0,none⟩:Addr).add j=⟨L,j,none⟩:=by unfold Addr.add;split<;>simp_all
 rw[z,cell_of_row w L j cur e (0,0) M];rw[←q,wM]at I;split at I
 ·simpa using I
 cases I
structure KE (ok:Nat→Prop) (w:World) (es:List (Value×D)) (ms:Array MapEntry) (clock:Nat):Prop where
 len:ms.size=es.length
 ent:∀(i:Nat) (e:Value×D) (m:MapEntry),es[i]? =some e→ms[i]? =some m→m.key=e.1∧Dc ok w e.2 m.val∧m.born<clock
 inc:∀(i j:Nat) (m n:MapEntry),i<j→ms[i]? =some m→ms[j]? =some n→m.born<n.born
def SP (ms:Array MapEntry) (clock:Nat):Prop:=clock=ms.size∧∀(i:Nat) (e:MapEntry),ms[i]? =some e→e.born=i
def Eo (ok:Nat→Prop) (w:World) (H:List BO) (h:BO):BA→Prop
 | .dead=>True
 | .box cs=>∃b vs T,h.v=.pointer (some ⟨b,0,none⟩)∧w.heap[b]? =some (.cells vs T (0,0))∧Ez ok w H cs vs.toList
 | .arr e size es=>h.size=size∧(∀x∈es,x.cells.length=size)∧∃xs,lM w e size h.v es.length xs∧Ez ok w H (flat es) xs
 | .map es=>∃b ms clock,h.v=.map (some b)∧w.heap[b]? =some (.map ms clock)∧KE ok w es ms clock
 | .fO es=>∃b ms clock,h.v=.map (some b)∧w.heap[b]? =some (.map ms clock)∧KE ok w es ms clock∧SP ms clock
 | .iter es vis=>∃bi q ms clock seen,h.v=.pointer (some ⟨bi,0,none⟩)∧w.heap[bi]? =some (.mapIter (some q) clock seen clock)∧ok q∧w.heap[q]? =some (.map ms clock)∧KE ok w es ms clock∧
  seen.size=vis.length∧∀(j i:Nat),vis[j]? =some i→∃e,ms[i]? =some e∧seen[j]? =some e.born
 | .loop tm slots rc st u=>∃l fn D,h.v=.func (.yield l) #[] #[]∧w.heap[l]? =some (.loop { state:=st,pending:=u,fn,tmps:=tm,params:=rc.1,assign:=rc.2.1,body:=rc.2.2,defers:=D })∧tm.size=slots.length∧∀t,t<slots.length→R ok w H (slots.getD t .junk) (tm.getD t undef)
def Cx :Value→Option Nat
 | .pointer (some a)=>some a.block
 | .slice (some a) _ _=>some a.block
 | .map (some b)=>some b
 | .func (.yield l) _ _=>some l
 |_=>none
structure sD (w0:World) (X:List Nat) (w:World):Prop where
 os:w.os=w0.os
 tape:w.tape=w0.tape
 output:w.output=w0.output
 size:w0.heap.size≤w.heap.size
 block:∀k,k<w0.heap.size→k∉X→w.heap[k]? =w0.heap[k]?
def sD.refl (w:World) (X:List Nat):sD w X w:=⟨rfl,rfl,rfl,Dq _,fun _ _ _=>rfl⟩
def sD.below {w0 w:World} (h:sD w0 [] w):Below w0.heap.size w0 w:=⟨h.os,h.tape,h.output,h.size,fun k j=>h.block k j BF⟩
structure ES where
 w0:World
 ok0:Nat→Prop
 X:List Nat
 H0:List BO
structure Ch (C:ES) (ok:Nat→Prop) (H:List BO) (es:List BA) (w:World):Prop where
 fr:sD C.w0 C.X w
 yR:∀b,C.ok0 b→ok b
 yS:∀b,ok b→C.ok0 b∨C.w0.heap.size≤b∨b∈C.X
 kP:∀b,ok b→b<w.heap.size
 names:Names C.H0 H
 hlen:H.length=es.length
 ent:∀(k:Nat) (e:BA) (h:BO),es[k]? =some e→H[k]? =some h→Eo ok w H h e
 blk:∀(k:Nat) (e:BA) (h:BO) (b:Nat),es[k]? =some e→e.live=true→H[k]? =some h→Cx h.v=some b→¬ok b∧b<w.heap.size∧(C.w0.heap.size≤b∨b∈C.X)
 DU:∀(k k':Nat) (e e':BA) (h h':BO) (b:Nat),es[k]? =some e→es[k']? =some e'→e.live=true→e'.live=true→H[k]? =some h→H[k']? =some h'→Cx h.v=some b→Cx h'.v=some b→k=k'
def Eo.mono {ok ok':Nat→Prop} {w w':World} {H H':List BO} {h:BO} {e:BA} (I:ER ok w ok' w') (U:Names H H') (L:e.live=true→∀b,Cx h.v=some b→w'.heap[b]? =w.heap[b]?) (M:Eo ok w H h e):Eo ok' w' H' h e:=by
 cases e with
 |dead=>trivial
 |box cs=>
  obtain⟨b,vs,T,q,u,j⟩:=M;exact⟨b,vs,T,q,aIs,j.mono I U⟩
 |arr e s es=>
  obtain⟨q,u,xs,⟨j,z⟩,J⟩:=M;refine⟨q,u,xs,⟨j,?_⟩,J.mono I U⟩;rcases z with z|⟨g,cap,cur,O,Y,h8,h9⟩
  ·exact .inl z
  exact .inr ⟨g,cap,cur,O,Y,by rw[L rfl g (by rw[O];rfl)];exact h8,h9⟩
 |map es=>
  obtain⟨b,ms,clock,q,u,j⟩:=M;exact⟨b,ms,clock,q,aIs,j.len,fun i e m hi hm=>⟨(j.ent i e m hi hm).1,(j.ent i e m hi hm).2.1.mono I,(j.ent i e m hi hm).2.2⟩,j.inc⟩
 |fO es=>
  obtain⟨b,ms,clock,q,u,j,z⟩:=M;exact⟨b,ms,clock,q,aIs,⟨j.len,fun i e m hi hm=>⟨(j.ent i e m hi hm).1,(j.ent i e m hi hm).2.1.mono I,(j.ent i e m hi hm).2.2⟩,j.inc⟩,z⟩
 |iter es vis=>
  obtain⟨bi,Z,ms,clock,seen,q,u,j,z,J,O,Y⟩:=M;exact⟨bi,Z,ms,clock,seen,q,by rw[L rfl bi qO];exact u,(I Z j).1,by rw[(I Z j).2];exact z,⟨J.len,fun i e m hi hm=>⟨(J.ent i e m hi hm).1,(J.ent i e m hi hm).2.1.mono I,(J.ent i e m hi hm).2.2⟩,J.inc⟩,O,Y⟩
 |loop tm slots rc st pe=>
  obtain⟨l,fn,D,q,u,j,z⟩:=M;exact⟨l,fn,D,q,by rw[L rfl l qO];exact u,j,fun t ht=>(z t ht).mono I U⟩
def Eo.shrink {ok ok':Nat→Prop} {w:World} (hs:∀b o,ok b→(w.cell? ⟨b,o,none⟩).isSome=true→ok' b) (L:∀(b:Nat) (ms:Array MapEntry) (c:Nat),ok b→w.heap[b]? =some (.map ms c)→ok' b) {H:List BO} {h:BO} {e:BA} (I:Eo ok w H h e):Eo ok' w H h e:=by
 cases e with
 |dead=>trivial
 |box cs=>
  obtain⟨b,vs,T,q,u,j⟩:=I;exact⟨b,vs,T,q,u,j.shrink hs⟩
 |arr e s es=>
  obtain⟨q,u,xs,j,z⟩:=I;exact⟨q,u,xs,j,z.shrink hs⟩
 |map es=>
  obtain⟨b,ms,clock,q,u,j⟩:=I;exact⟨b,ms,clock,q,u,j.len,fun i e m hi hm=>⟨(j.ent i e m hi hm).1,(j.ent i e m hi hm).2.1.shrink hs,(j.ent i e m hi hm).2.2⟩,j.inc⟩
 |fO es=>
  obtain⟨b,ms,clock,q,u,j,J⟩:=I;exact⟨b,ms,clock,q,u,⟨j.len,fun i e m hi hm=>⟨(j.ent i e m hi hm).1,(j.ent i e m hi hm).2.1.shrink hs,(j.ent i e m hi hm).2.2⟩,j.inc⟩,J⟩
 |iter es vis=>
  obtain⟨bi,M,ms,clock,seen,q,u,j,J,z,O,U⟩:=I;exact⟨bi,M,ms,clock,seen,q,u,L M ms clock j J,J,⟨z.len,fun i e m hi hm=>⟨(z.ent i e m hi hm).1,(z.ent i e m hi hm).2.1.shrink hs,(z.ent i e m hi hm).2.2⟩,z.inc⟩,O,U⟩
 |loop tm slots rc st Y=>
  obtain⟨l,fn,D,q,u,j,J⟩:=I;exact⟨l,fn,D,q,u,j,fun t ht=>(J t ht).shrink hs⟩
def Eo.drew {ok:Nat→Prop} {w:World} {H:List BO} {h:BO} {e:BA} {n:Nat} (j:Eo ok w H h e):Eo ok { w with drawn:=n } H h e:=
 Eo.mono (w:=w) (ok:=ok) (fun _ q=>⟨q,rfl⟩) (.refl _) (fun _ _ _=>rfl) j
def BU (P:Program) (o:Oper) (ns:List (Operand×AV)) (es:List BA) (x:AV) (es':List BA):Prop:=
 ∀(C:ES) (ok:Nat→Prop) (H:List BO) (a:Act) (w:World) (Q:Exit→Act→World→Prop),
  Ch C ok H es w→(∀n∈ns,R ok w H n.2 (a.eval n.1))→
  o.wp P a w (fun a' w'=>∃v ok' H',a'=a.put o.dst v∧ER ok w ok' w'∧Names H H'∧Ch C ok' H' es' w'∧R ok' w' H' x v) Q
def BU.pure {P:Program} {o:Oper} {ns:List (Operand×AV)} {es:List BA} {x:AV}
 (h:∀(ok:Nat→Prop) (H:List BO) (a:Act) (w:World),(∀(k:Nat) (e:BA) (h:BO),es[k]? =some e→H[k]? =some h→Eo ok w H h e)→H.length=es.length→(∀n∈ns,R ok w H n.2 (a.eval n.1))→∃v,(execOp a.eval o).run P w=.ok (.value v) w∧R ok w H x v):BU P o ns es x es:=by
 intro C ok H a w Q hm j;obtain⟨v,q,u⟩:=h ok H a w hm.ent hm.hlen j;unfold Oper.wp;rw[q];exact⟨v,ok,H,rfl,.refl _ _,.refl _,hm,u⟩
structure Am where
 slots:List AV
 ents:List BA
 base:Nat:=0
def Am.get (σ:Am):Operand→AV
 | .tmp t=>σ.slots.getD t .junk
 | .const v=>.d (.lit v)
 | .global g=>.d (.lit (.pointer (some ⟨g,0,none⟩)))
 | .func f=>.d (.fn (.func f) [] [])
def Am.put (σ:Am) (d:Option Tmp) (x:AV) (es:List BA):Am:=
 ⟨match d with |some t=>σ.slots.set t x|none=>σ.slots,es,σ.base⟩
def Am.rZ (σ:Am) (d:Option Tmp) (x:AV):Am:=
 ⟨match d with |some t=>σ.slots.set t x|none=>σ.slots,σ.ents,σ.base⟩
def Am.aou (σ:Am) (d:Option Tmp) (x:AV):σ.rZ d x=σ.put d x σ.ents:=rfl
def Marks (C:ES) (ok:Nat→Prop) (w:World) (j:List Deferred):Prop:=
 ∃Ds:List Nat,j=Ds.map (fun D=>{ target:=.collected D,args:= #[] })∧Ds.Nodup∧∀D∈Ds,ok D∧C.w0.heap.size≤D∧w.heap[D]? =some (.deferred (some []))
def Marks.nil (C:ES) (ok:Nat→Prop) (w:World):Marks C ok w []:=⟨[],rfl,aP,fun _ h=>Gy⟩
def Marks.mono {C:ES} {ok ok':Nat→Prop} {w w':World} {u:List Deferred} (h:Marks C ok w u) (z:ER ok w ok' w'):Marks C ok' w' u:=by
 obtain⟨Ds,I,J,j⟩:=h;exact⟨Ds,I,J,fun D q=>⟨(z D (j D q).1).1,(j D q).2.1,((z D (j D q).1).2).trans (j D q).2.2⟩⟩
structure Holds (C:ES) (ok:Nat→Prop) (H:List BO) (σ:Am) (a:Act) (w:World):Prop where
 mem:Ch C ok H σ.ents w
 size:a.tmps.size=σ.slots.length
 defers:Marks C ok w a.defers
 base:C.H0.length=σ.base
 slot:∀t,t<σ.slots.length→R ok w H (σ.slots.getD t .junk) (a.tmps.getD t undef)
def oW {l:List AV} {t:Nat} (h:¬t<l.length):l.getD t .junk=.junk:=by
 simp[List.getD,Ib (UU h)]
def Holds.get {C:ES} {ok:Nat→Prop} {H:List BO} {σ:Am} {a:Act} {w:World} (h:Holds C ok H σ a w) (x:Operand):R ok w H (σ.get x) (a.eval x):=by
 cases x with
 |tmp t=>
  show R ok w H (σ.slots.getD t .junk) (a.tmps.getD t undef);by_cases ht:t<σ.slots.length
  ·exact h.slot t ht
  rw[oW ht];exact .junk _
 |const v=>exact .d _ _ (.lit v)
 |global g=>exact .d _ _ (.lit _)
 |func f=>exact .d _ _ (.fn (.func f) [] [] #[] #[] rfl rfl (fun i hi=>P7) (fun i hi=>P7))
def Holds.put {C:ES} {ok ok':Nat→Prop} {H H':List BO} {σ:Am} {a:Act} {w w':World} (h:Holds C ok H σ a w) (d:Option Tmp) {x:AV} {v:Value} {es':List BA}
 (j:ER ok w ok' w') (z:Names H H') (hm:Ch C ok' H' es' w') (I:R ok' w' H' x v):Holds C ok' H' (σ.put d x es') (a.put d v) w':=by
 cases d with
 |none=>exact⟨hm,h.size,h.defers.mono j,h.base,fun t ht=>(h.slot t ht).mono j z⟩
 |some d=>
  refine⟨hm,by simp[Am.put,Act.put,h.size],h.defers.mono j,h.base,fun t ht=>?_⟩;simp only[Am.put,dY]at ht;simp only[Am.put,Act.put];by_cases e:d=t
  ·subst e;have q:(σ.slots.set d x).getD d .junk=x:=aOt
   have u:(a.tmps.setIfInBounds d v).getD d undef=v:=by simp[Array.getD,h.size,ht]
   rw[q,u];exact I
  have q:(σ.slots.set d x).getD t .junk=σ.slots.getD t .junk:=aKD
  have u:(a.tmps.setIfInBounds d v).getD t undef=a.tmps.getD t undef:=by simp[Ih,O8 e]
  rw[q,u];exact(h.slot t ht).mono j z
def AV.uY (π:List (Nat×Bool)):AV→AV
 | .d x=>.d x
 | .ptr k off=>match π.idxOf? (k,true)with |some j=>.ptr j off|none=>.junk
 | .bn k=>match π.idxOf? (k,true)with |some j=>.bn j|none=>.junk
 | .lD k i off=>match π.idxOf? (k,true)with |some j=>.lD j i off|none=>.junk
 | .mp k=>match π.idxOf? (k,true)with |some j=>.mp j|none=>.junk
 | .xG k=>match π.idxOf? (k,true)with |some j=>.xG j|none=>.junk
 | .clip xs=>.clip xs
 |_=>.junk
def AV.back (π:List (Nat×Bool)):AV→AV
 | .fn f first cap=>.fn f (first.map (AV.uY π)) (cap.map (AV.uY π))
 | .eu vs=>.eu (vs.map (AV.uY π))
 |x=>x.uY π
def BA.back (π:List (Nat×Bool)):BA→BA
 | .dead=>.dead
 | .box cs=>.box (cs.map (AV.uY π))
 | .arr e s es=>.arr e s es
 | .map es=>.map es
 | .fO es=>.fO es
 | .iter es vis=>.iter es vis
 | .loop tm slots rc st j=>.loop tm (slots.map (AV.back π)) rc st j
def vX {π:List (Nat×Bool)} {H:List BO} {k j:Nat} {h:BO} (u:π.idxOf? (k,true)=some j) (z:H[k]? =some h):(π.map fun p=>H.getD p.1 ⟨undef,0⟩)[j]? =some h:=by
 rw[List.idxOf?,aYu]at u;obtain⟨q,I, -⟩:=u;have e:π[j]=(k,true):=SV
 simp[q,e,List.getD,z]
def R.uY {ok:Nat→Prop} {w:World} {H:List BO} (π:List (Nat×Bool)) {x:AV} {v:Value} (h:R ok w H x v):R ok w (π.map fun p=>H.getD p.1 ⟨undef,0⟩) (x.uY π) v:=by
 cases h with
 |d x v h=>exact .d x v h
 |ptr k off b s h=>
  simp only[AV.uY];split<;>rename_i j q
  ·exact .ptr _ off b s (vX q h)
  exact .junk _
 |bn k ad n cap s h=>
  simp only[AV.uY];split<;>rename_i j q
  ·exact .bn _ ad n cap s (vX q h)
  exact .junk _
 |lD k i off b n cap s h=>
  simp only[AV.uY];split<;>rename_i j q
  ·exact .lD _ i off b n cap s (vX q h)
  exact .junk _
 |mp k v s hl h=>
  simp only[AV.uY];split<;>rename_i j q
  ·exact .mp _ v s hl (vX q h)
  exact .junk _
 |clip xs ad h=>exact .clip xs ad h
 |xG k ad n cap s h=>
  simp only[AV.uY];split<;>rename_i j q
  ·exact .xG _ ad n cap s (vX q h)
  exact .junk _
 |fn f first cap vs us hl hm h h'=>exact .junk _
 |eu xs vs hl h=>exact .junk _
 |ag xs vs hl u h=>exact .junk _
 |junk v=>exact .junk _
def SY (f:AV→AV) (l:List AV) (i:Nat) (h:i<l.length):(l.map f).getD i .junk=f (l.getD i .junk):=by
 simp[List.getD,h]
def R.back {ok:Nat→Prop} {w:World} {H:List BO} (π:List (Nat×Bool)) {x:AV} {v:Value} (h:R ok w H x v):R ok w (π.map fun p=>H.getD p.1 ⟨undef,0⟩) (x.back π) v:=by
 cases h with
 |fn f first cap vs us hl hm h h'=>
  exact .fn f _ _ vs us dM (by simp[hm]) (fun i hi=>aVF) (fun i hi=>by rw[CG]at hi;rw[SY _ _ _ hi];exact(h' i hi).uY π)
 |eu xs vs hl h=>exact .eu _ vs dM (fun i hi=>aVF)
 |ag xs vs hl j h=>exact .junk _
 |d x v h=>exact(R.d x v h).uY π
 |ptr k off b s h=>exact(R.ptr k off b s h).uY π
 |bn k ad n cap s h=>exact(R.bn k ad n cap s h).uY π
 |lD k i off b n cap s h=>exact(R.lD k i off b n cap s h).uY π
 |mp k v s hl h=>exact(R.mp k v s hl h).uY π
 |clip xs ad h=>exact(R.clip xs ad h).uY π
 |xG k ad n cap s h=>exact(R.xG k ad n cap s h).uY π
 |junk v=>exact .junk _
def BA.backOk (π:List (Nat×Bool)):BA→Bool
 | .box cs=>cs.all fun x=>(x.uY π).leaf
 |_=>true
def VH (base:Nat) (es:List BA) (π:List (Nat×Bool)):Bool:=
 π.all (fun p=>decide (p.1<es.length))&&decide ((π.filterMap fun p=>if p.2 then some p.1 else none).Nodup)&&((π.take base).map (·.1)==List.range base)&&π.all fun p=>(es.getD p.1 .dead).backOk π
def SL (es:List BA) (π:List (Nat×Bool)):List BA:=π.map fun p=>if p.2 then(es.getD p.1 .dead).back π else .dead
def aal :∀{π:List (Nat×Bool)},(π.filterMap fun p=>if p.2 then some p.1 else none).Nodup→∀(i j k:Nat),π[i]? =some (k,true)→π[j]? =some (k,true)→i=j
 | [],_,i,j,k,h,_=>IK
 |p::π,q,i,j,k,hi,z=>by
  have u:∀(n:Nat),π[n]? =some (k,true)→k∈π.filterMap fun p=>if p.2 then some p.1 else none:=fun n h=>by
   rw[Tj];exact⟨_,Vr h,rfl⟩
  have I:(π.filterMap fun p=>if p.2 then some p.1 else none).Nodup:=by
   rw[MP]at q;split at q
   ·exact q
   exact(Kr.1 q).2
  match i,j with
  |0,0=>rfl
  |0,j+1=>
   simp at hi z;subst hi;simp only[MP,Jg]at q;exact absurd (u j z) (Kr.1 q).1
  |i+1,0=>
   simp at hi z;subst z;simp only[MP,Jg]at q;exact absurd (u i hi) (Kr.1 q).1
  |i+1,j+1=>rw[aal I i j k G9 Me]
def Eo.back {ok:Nat→Prop} {w:World} {H:List BO} {h:BO} {e:BA} (π:List (Nat×Bool)) (L:e.backOk π=true) (j:Eo ok w H h e):Eo ok w (π.map fun p=>H.getD p.1 ⟨undef,0⟩) h (e.back π):=by
 cases e with
 |dead=>trivial
 |box cs=>
  obtain⟨b,vs,T,q,u,z,I⟩:=j;refine⟨b,vs,T,q,u,Me,fun i hi=>?_⟩;rw[CG]at hi;rw[SY _ _ _ hi];refine⟨?_,(I i hi).2.uY π⟩;simp only[BA.backOk,DY]at L;exact L _ N7
 |arr e s es=>
  obtain⟨q,u,xs,z,I,M⟩:=j;refine⟨q,u,xs,z,I,fun i hi=>⟨(M i hi).1,?_⟩⟩;have J:=(M i hi).2;have hm:(flat es).getD i .junk∈flat es:=N7
  unfold flat at hm ⊢;simp only[SI,E5]at hm;obtain⟨x,_,y,_,O⟩:=hm;unfold flat at J;rw[←O]at J ⊢;cases J with |d _ _ h=>exact .d _ _ h
 |map es=>exact j
 |fO es=>exact j
 |iter es vis=>exact j
 |loop tm slots rc st U=>
  obtain⟨l,fn,D,q,u,z,I⟩:=j;refine⟨l,fn,D,q,u,Me,fun t ht=>?_⟩;rw[CG]at ht;rw[SY _ _ _ ht];exact(I t ht).back π
def aTY {π:List (Nat×Bool)} {e:BA}:(e.back π).live=e.live:=by cases e<;>rfl
def Ch.norm {C:ES} {ok:Nat→Prop} {H:List BO} {es:List BA} {w:World} (hm:Ch C ok H es w) (π:List (Nat×Bool)) (U:VH C.H0.length es π=true):
 Ch C ok (π.map fun p=>H.getD p.1 ⟨undef,0⟩) (SL es π) w:=by
 unfold VH at U;simp only[CW,Gg,Lm,DY]at U;obtain⟨⟨⟨hlt,hnd⟩,hpre⟩,hbk⟩:=U
 have u:∀(j:Nat) (h:BO),(π.map fun p=>H.getD p.1 ⟨undef,0⟩)[j]? =some h→∃p,π[j]? =some p∧p.1<es.length∧H[p.1]? =some h:=by
  intro j h q;rw[JG]at q;cases hp:π[j]? with
  |none=>rw[hp]at q;simp at q
  |some p=>
   rw[hp]at q;have z:p.1<es.length:=hlt p (Vr hp);refine⟨p,rfl,z,?_⟩;have hkH:p.1<H.length:=by rw[hm.hlen];exact z
   simp[List.getD,hkH]at q ⊢;exact q
 have I:∀(j:Nat) (p:Nat×Bool) (e:BA),(SL es π)[j]? =some e→π[j]? =some p→p.1<es.length→(p.2=false∧e=.dead)∨(p.2=true∧∃M,es[p.1]? =some M∧e=M.back π∧p∈π):=by
  intro j p e q hp z;unfold SL at q;rw[JG,hp]at q;cases Z:p.2 with
  |false=>simp[Z]at q;exact .inl ⟨rfl,q.symm⟩
  |true=>
   simp[Z,List.getD,z]at q;exact .inr ⟨rfl,es[p.1],by simp[z],q.symm,Vr hp⟩
 refine⟨hm.fr,hm.yR,hm.yS,hm.kP,?_,by simp[SL],?_,?_,?_⟩
 ·intro k v hv;have z:k<C.H0.length:=(FP.1 hv).1;have h1:((π.take C.H0.length).map (·.1))[k]? =some k:=by rw[hpre];simp[z]
  rw[JG,MB z]at h1;have h2:=hm.names k v hv;cases hp:π[k]? with
  |none=>rw[hp]at h1;simp at h1
  |some p=>
   rw[hp]at h1;have hpk:p.1=k:=by simpa using h1
   rw[JG,hp];simp[List.getD,hpk,h2]
 ·intro j e h q hh;obtain⟨p,hp,z,hH⟩:=u j h hh;rcases I j p e q hp z with⟨_,rfl⟩|⟨_,M,J,rfl,L⟩
  ·trivial
  refine(hm.ent p.1 M h J hH).back π ?_;have :=hbk p L;simpa[List.getD,J]using this
 ·intro j e h b q hl hh Z;obtain⟨p,hp,z,hH⟩:=u j h hh;rcases I j p e q hp z with⟨_,rfl⟩|⟨_,M,J,rfl,L⟩
  ·cases hl
  rw[aTY]at hl;exact hm.blk p.1 M h b J hl hH Z
 intro j j' e e' h h' b q hj' hl Y hh hh' Z hb';obtain⟨p,hp,z,hH⟩:=u j h hh;obtain⟨p',hp',hk',hH'⟩:=u j' h' hh';rcases I j p e q hp z with⟨_,rfl⟩|⟨hpt,M,J,rfl,L⟩
 ·cases hl
 rcases I j' p' e' hj' hp' hk' with⟨_,rfl⟩|⟨O,e0',aGd,rfl,hmem'⟩
 ·cases Y
 rw[aTY]at hl Y;have hkk:=hm.DU p.1 p'.1 M e0' h h' b J aGd hl Y hH hH' Z hb';obtain⟨k,bb⟩:=p;obtain⟨k',bb'⟩:=p';simp only at hkk hpt O;subst hkk;subst hpt;subst O;exact aal hnd j j' k hp hp'
def LD (π:List (Nat×Bool)):List Bool→List AV→List AV
 |_,[]=>[]
 |true::m,x::xs=>x.back π::LD π m xs
 |false::m,_::xs=>.junk::LD π m xs
 | [],_::xs=>.junk::LD π [] xs
def aEq (π:List (Nat×Bool)):∀(m:List Bool) (l:List AV),(LD π m l).length=l.length
 |_,[]=>by unfold LD;rfl
 |true::m,x::xs=>by simp[LD,aEq π m xs]
 |false::m,x::xs=>by simp[LD,aEq π m xs]
 | [],x::xs=>by simp[LD,aEq π [] xs]
def aB2 (π:List (Nat×Bool)):∀(m:List Bool) (l:List AV) (t:Nat),(LD π m l).getD t .junk=(l.getD t .junk).back π∨(LD π m l).getD t .junk=.junk
 |_,[],t=>by unfold LD;right;simp
 |true::m,x::xs,0=>by left;simp[LD]
 |false::m,x::xs,0=>by right;simp[LD]
 | [],x::xs,0=>by right;simp[LD]
 |true::m,x::xs,t+1=>by simpa[LD]using aB2 π m xs t
 |false::m,x::xs,t+1=>by simpa[LD]using aB2 π m xs t
 | [],x::xs,t+1=>by simpa[LD]using aB2 π [] xs t
def aDU (σ S:Am):Prop:=∃(m:List Bool) (π:List (Nat×Bool)),VH σ.base σ.ents π=true∧S=⟨LD π m σ.slots,SL σ.ents π,σ.base⟩
def Holds.aGe {C:ES} {ok:Nat→Prop} {H:List BO} {σ S:Am} {a:Act} {w:World} (h:Holds C ok H σ a w) (hs:aDU σ S):∃H',Holds C ok H' S a w:=by
 obtain⟨m,π,j,rfl⟩:=hs;refine⟨π.map fun p=>H.getD p.1 ⟨undef,0⟩,h.mem.norm π (h.base▸j),by simp[aEq,h.size],h.defers,h.base,fun t ht=>?_⟩;rcases aB2 π m σ.slots t with e|e
 ·simp only[e];exact(h.get (.tmp t)).back π
 simp only[e];exact .junk _
def CX (σ S:Am):Prop:=∀(C:ES) (ok:Nat→Prop) (H:List BO) (a:Act) (w:World),Holds C ok H σ a w→∃ok' H',Holds C ok' H' S a w
def aDU.sub {σ S:Am} (h:aDU σ S):CX σ S:=fun _ ok _ _ _ j=>let⟨H',h'⟩:=j.aGe h;⟨ok,H',h'⟩
def agv {σ S:Am} (j:Am) (h:∀C ok H a w,Holds C ok H σ a w→∃ok',Holds C ok' H j a w) (k:CX j S):CX σ S:=fun C _ H a w q=>let⟨ok',h'⟩:=h C _ H a w q;k C ok' H a w h'
section
variable {P : Program} {ops : Array Oper} {Q : Exit → Act → World → Prop}
def toCome (j:Array Bool):Nat:=(j.toList.filter (!·)).length
def toCome_set {j:Array Bool} {i:Nat} (hi:i<j.size) (h:j.getD i true=false):toCome (j.setIfInBounds i true)+1=toCome j:=by
 unfold toCome;have hl:j.toList[i]' G9=false:=by simpa[Array.getD,hi]using h
 have e:j.toList=j.toList.take i++false::j.toList.drop (i+1):=by
  rw[←hl,List.getElem_cons_drop,Qb]
 have q:(j.setIfInBounds i true).toList=j.toList.take i++true::j.toList.drop (i+1):=by
  rw[aOR,aL0,CS G9]
 rw[q]
 conv=>rhs;rw[e]
 simp[Ol];omega
def written (ops:Array Oper):List Tmp:=ops.toList.filterMap (·.dst)
def X6 (ops:Array Oper):Bool:=(List.range ops.size).all fun i=>(List.range ops.size).all fun j=>i==j||match(ops[i]?).bind (·.dst),(ops[j]?).bind (·.dst)with
 |some d,some q=>d != q
 |_,_=>true
def X7 (ops:Array Oper) (n:Nat):Bool:=(written ops).all fun d=>decide (d<n)
def aVx (h:X6 ops=true):∀(i j:Nat) (o q:Oper) (d:Tmp),ops[i]? =some o→ops[j]? =some q→o.dst=some d→q.dst=some d→i=j:=by
 intro i j o q d u z I J;unfold X6 at h;rw[DY]at h;have hi:i<ops.size:=(GX.1 u).1;have L:j<ops.size:=(GX.1 z).1;have :=h i G9;rw[DY]at this;have :=this j Vm;rw[u,z]at this;simp[I,J]at this;exact this
def aSG {i:Nat} {o:Oper} {d:Tmp} (h:ops[i]? =some o) (hd:o.dst=some d):d∈written ops:=by
 unfold written;rw[Tj]
 exact⟨o,by
  have⟨hi,j⟩:=GX.1 h
  rw[←j];exact Array.getElem_mem_toList hi,hd⟩
def aQJ {a:Act} {d:Tmp} {v:Value} (h:d<a.tmps.size):(a.put (some d) v).tmps.getD d undef=v:=by
 simp[Act.put,Array.getD,h]
def aSe {a:Act} {d t:Tmp} {v:Value} (h:d≠t):(a.put (some d) v).tmps.getD t undef=a.tmps.getD t undef:=by
 simp[Act.put,Ih,O8 h]
def size_put {a:Act} {d:Option Tmp} {v:Value}:(a.put d v).tmps.size=a.tmps.size:=by cases d<;>simp[Act.put]
def aRZ {a:Act} {d:Option Tmp} {v:Value}:(a.put d v).defers=a.defers:=by cases d<;>rfl
end
def Wi (ops:Array Oper) (σ:Am) (g:Option (Nat×Bool)):Prop:=g=none∨
 ∃j q d b,g=some (j,q)∧(ops[j]?).bind (·.dst)=some d∧σ.slots.getD d .junk=.d (.lit (.bool b))∧b=q
def Xw (ops:Array Oper) (σ:Am) (g:Option (Nat×Bool)):Prop:=
 ∃j q d v,g=some (j,q)∧(ops[j]?).bind (·.dst)=some d∧σ.slots.getD d .junk=.d (.lit v)∧(v=.bool (!q)∨v=undef)
def akL {ops:Array Oper} {σ:Am} {g:Option (Nat×Bool)} (j:Nat) (q:Bool) (d:Nat) (b:Bool) (u:g=some (j,q)) (hd:(ops[j]?).bind (·.dst)=some d) (hs:σ.slots.getD d .junk=.d (.lit (.bool b))) (z:b= !q):Xw ops σ g:=⟨j,q,d,_,u,hd,hs,.inl (by rw[z])⟩
def alK {ops:Array Oper} {σ:Am} {g:Option (Nat×Bool)} (j:Nat) (q:Bool) (d:Nat) (u:g=some (j,q)) (hd:(ops[j]?).bind (·.dst)=some d) (hs:σ.slots.getD d .junk=.d (.lit undef)):Xw ops σ g:=⟨j,q,d,_,u,hd,hs,.inr rfl⟩
def R.bool {ok:Nat→Prop} {w:World} {H:List BO} {u v:Value} (h:R ok w H (.d (.lit u)) v):v=u:=by
 cases h with |d _ _ h=>cases h;rfl
def ajZ {C:ES} {ok:Nat→Prop} {H:List BO} {σ:Am} {a:Act} {w:World} (h:Holds C ok H σ a w) {ops:Array Oper} {j d:Nat} {v:Value}
 (z:(ops[j]?).bind (·.dst)=some d) (q:σ.slots.getD d .junk=.d (.lit v)):yielded ops a.tmps j=(match v with | .bool b=>some b|_=>none):=by
 have hd:d<σ.slots.length:=by
  apply Xa;intro I;rw[oW I]at q;cases q
 have u:=(q▸h.slot d hd).bool
 have hs:a.tmps[d]? =some v:=by
  have :d<a.tmps.size:=by rw[h.size];exact hd
  simp[Array.getD,this]at u;simp[this,u]
 unfold yielded;rw[z];simp only[AO,hs];cases v<;>rfl
def ac1 {C:ES} {ok:Nat→Prop} {H:List BO} {σ:Am} {a:Act} {w:World} (h:Holds C ok H σ a w) {ops:Array Oper} {j d:Nat} {b:Bool}
 (z:(ops[j]?).bind (·.dst)=some d) (q:σ.slots.getD d .junk=.d (.lit (.bool b))):yielded ops a.tmps j=some b:=by
 have hd:d<σ.slots.length:=by
  apply Xa;intro I;rw[oW I]at q;cases q
 have u:=(q▸h.slot d hd).bool
 have hs:a.tmps[d]? =some (.bool b):=by
  have :d<a.tmps.size:=by rw[h.size];exact hd
  simp[Array.getD,this]at u;simp[this,u]
 unfold yielded;rw[z];simp only[AO,hs]
def Pe {C:ES} {ok:Nat→Prop} {H:List BO} {σ:Am} {a:Act} {w:World} (h:Holds C ok H σ a w) {ops:Array Oper} {o:Oper} (q:Wi ops σ o.guard):Region.wanted o (yielded ops a.tmps)=true:=by
 unfold Region.wanted;rcases q with q|⟨j,u,d,b,q,z,I,rfl⟩
 ·rw[q]
 rw[q];show(yielded ops a.tmps j==some b)=true;rw[ac1 h z I];simp
def aKP {C:ES} {ok:Nat→Prop} {H:List BO} {σ:Am} {a:Act} {w:World} (h:Holds C ok H σ a w) {ops:Array Oper} {o:Oper} (u:Xw ops σ o.guard):Region.wanted o (yielded ops a.tmps)=false:=by
 unfold Region.wanted;obtain⟨j,q,d,v,u,z,I,J⟩:=u;rw[u];show(yielded ops a.tmps j==some q)=false;rw[ajZ h z I];rcases J with rfl|rfl
 ·simp
 rfl
def needs (σ:Am):List (Operand×AV)→Prop
 | []=>True
 |n::ns=>σ.get n.1=n.2∧needs σ ns
def Qs {σ:Am}:∀{ns:List (Operand×AV)},needs σ ns→∀n∈ns,σ.get n.1=n.2
 | [],_,n,h=>IK
 |m::ns,j,n,h=>by
  rcases EX.1 h with rfl|h
  ·exact j.1
  exact Qs j.2 n h
def tmpsOf (o:Oper):List Tmp:=o.op.operands.toList.filterMap fun | .tmp t=>some t|_=>none
def Nv (ns:List (Operand×AV)):List Tmp:=ns.filterMap fun n=>match n.1 with | .tmp t=>some t|_=>none
def RV (P:Program) (ops:Array Oper) (σ:Am) (x:AV) (E:List BA) (bar:Bool) (o:Oper):Prop:=
 ((∃ns,BU P o ns σ.ents x E∧needs σ ns∧(Nv ns).all (tmpsOf o).contains=true∧Wi ops σ o.guard)∨(x=.d (.lit undef)∧E=σ.ents∧Xw ops σ o.guard))∧(bar=false→E=σ.ents)
def aVl {P:Program} {ops:Array Oper} {σ:Am} {x:AV} {o:Oper} {ns:List (Operand×AV)} (h:BU P o ns σ.ents x σ.ents) (j:needs σ ns) (q:Wi ops σ o.guard) (ht:(Nv ns).all (tmpsOf o).contains=true):RV P ops σ x σ.ents false o:=
 ⟨.inl ⟨ns,h,j,ht,q⟩,fun _=>rfl⟩
def J3 (ro:Option Nat):Fence:={ fn:=fun _=>True,depth:=none,alive:=false,round:=ro }
def aEc {ro:Option Nat} {n:Nat} {P:Program} {f:FuncId} {args:Array Value} {w:World} {R:Ending→World→Prop}:CallsIn (J3 ro) n P f args w R↔Calls P f args w R:=
 callsIn_wide (n:=n)
def ajm {ro:Option Nat} {n:Nat} {P:Program} {j:String} {args:Array Value} {w:World} {R:Value→World→Prop} (h:Rows P j args w R):RowsIn (J3 ro) n P j args w R:=
 fun c cs _=>let⟨v,w',r,s⟩:=h c cs;⟨v,w',r,(stepsIn_wide (P:=P)).2 s⟩
def BU.aCq {P:Program} {o:Oper} {ns:List (Operand×AV)} {es es':List BA} {x:AV} (h:BU P o ns es x es') {C:ES} {ok:Nat→Prop} {H:List BO} {a:Act} {w:World} (hm:Ch C ok H es w) (u:∀n∈ns,R ok w H n.2 (a.eval n.1)):∀c,o.op≠ .defer c:=by
 intro c z;have j:=h C ok H a w (fun _ _ _=>False) hm u;unfold Oper.wp execOp at j;rw[z]at j;simp only[FT]at j;cases q:(resolve a.eval c o.type).run P w with
 |ok d w'=>
  rw[q]at j;simp only[Result.andThen]at j;obtain⟨v,_,_,I,_⟩:=j;have :=Aq (fun a=>a.defers.length) I;cases J:o.dst<;>simp[Act.put,J]at this
 |halt x w'=>
  rw[q]at j;cases x<;>exact j
def BU.inR {P:Program} {o:Oper} {ns:List (Operand×AV)} {es es':List BA} {x:AV} (h:BU P o ns es x es') (ro:Option Nat) (C:ES) (ok:Nat→Prop) (H:List BO) (a:Act) (w:World) (Q:Exit→Act→World→Prop)
 (hm:Ch C ok H es w) (q:∀n∈ns,R ok w H n.2 (a.eval n.1)):
 o.wpIn (J3 ro) 0 P a w (fun a' w'=>∃v ok' H',a'=a.put o.dst v∧ER ok w ok' w'∧Names H H'∧Ch C ok' H' es' w'∧R ok' w' H' x v) Q:=by
 have j:=h C ok H a w Q hm q;refine⟨fun _ _=>trivial,?_⟩;rw[eM _ _ _ (h.aCq hm q)];unfold Oper.wp at j;generalize(execOp a.eval o).run P w=r at j;cases r with
 |ok n w'=>
  cases n<;>first
   |exact j
   |exact j.elim
   |exact⟨fun h=>Gy,aEc.2 j⟩
   |exact⟨fun h=>Gy,ajm j⟩
 |halt x w'=>cases x<;>exact j
inductive Chain (P:Program) (ops:Array Oper):List Oper→Am→Am→Prop
 |nil (σ:Am):Chain P ops [] σ σ
 |op {o:Oper} {rest:List Oper} {σ σ':Am} {ns:List (Operand×AV)} {x:AV} (d:Option Tmp) (h:BU P o ns σ.ents x σ.ents) (hn:needs σ ns) (hg:Wi ops σ o.guard) (hd:o.dst=d)
  (k:Chain P ops rest (σ.rZ d x) σ'):Chain P ops (o::rest) σ σ'
 |oe {o:Oper} {rest:List Oper} {σ σ':Am} {ns:List (Operand×AV)} {x:AV} {es':List BA} (d:Option Tmp) (E:List BA) (h:BU P o ns σ.ents x es') (he:es'=E) (hn:needs σ ns) (hg:Wi ops σ o.guard) (hd:o.dst=d)
  (k:Chain P ops rest (σ.put d x E) σ'):Chain P ops (o::rest) σ σ'
 |skip {o:Oper} {rest:List Oper} {σ σ':Am} (d:Option Tmp) (hg:Xw ops σ o.guard) (hd:o.dst=d) (k:Chain P ops rest (σ.rZ d (.d (.lit undef))) σ'):Chain P ops (o::rest) σ σ'
 |any {o:Oper} {rest:List Oper} {σ σ':Am} {x:AV} (d:Option Tmp) (h:RV P ops σ x σ.ents false o) (hd:o.dst=d) (k:Chain P ops rest (σ.rZ d x) σ'):Chain P ops (o::rest) σ σ'
 |ag5 {o:Oper} {rest:List Oper} {σ σ':Am} {x:AV} {E:List BA} {bar:Bool} (d:Option Tmp) (h:RV P ops σ x E bar o) (hd:o.dst=d) (k:Chain P ops rest (σ.put d x E) σ'):Chain P ops (o::rest) σ σ'
 |conv {rest:List Oper} {σ σ':Am} (σ2:Am) (h:∀C ok H a w,Holds C ok H σ a w→∃ok',Holds C ok' H σ2 a w) (k:Chain P ops rest σ2 σ'):Chain P ops rest σ σ'
def Chain.sound {P:Program} {ops:Array Oper} {l:List Oper} {σ σ':Am} (h:Chain P ops l σ σ') {ro:Option Nat} {C:ES} {H0:List BO} {Q:Exit→Act→World→Prop}:
 ∀{ok:Nat→Prop} {H:List BO} {a:Act} {w:World},Holds C ok H σ a w→Names H0 H→(∀ok' H' a' w',Holds C ok' H' σ' a' w'→Names H0 H'→Q .normal a' w')→wpListIn (J3 ro) 0 P ops Q l a w:=by
 induction h with
 |nil σ=>intro ok H a w j O z;exact z ok H a w j O
 | @op o rest σ σ' ns x d U O L hd k M=>
   intro ok H a w j q z;subst hd;unfold wpListIn;rw[CS (Pe j L)];refine Rh ?_ (U.inR ro C ok H a w Q j.mem (fun n I=>Qs O n I▸j.get n.1));rintro a' w' ⟨v,ok',H',rfl,J,u,hm,Y⟩;exact M (j.put o.dst J u hm Y) (q.trans u) z
 | @oe o rest σ σ' ns x es' d E U he O L hd k M=>
   intro ok H a w j q z;subst hd;subst he;unfold wpListIn;rw[CS (Pe j L)];refine Rh ?_ (U.inR ro C ok H a w Q j.mem (fun n I=>Qs O n I▸j.get n.1));rintro a' w' ⟨v,ok',H',rfl,J,u,hm,Y⟩;exact M (j.put o.dst J u hm Y) (q.trans u) z
 | @skip o rest σ σ' d L hd k M=>
   intro ok H a w j q z;subst hd;unfold wpListIn;rw[CY iH];exact⟨fun _ _=>trivial,M (j.put o.dst (.refl _ _) (.refl _) j.mem (.d _ _ (.lit _))) q z⟩
 | @any o rest σ σ' x d hs hd k M=>
   intro ok H a w j q z;subst hd;unfold wpListIn;rcases hs.1 with⟨ns,U,O,_,L⟩|⟨rfl,_,L⟩
   ·rw[CS (Pe j L)];refine Rh ?_ (U.inR ro C ok H a w Q j.mem (fun n I=>Qs O n I▸j.get n.1));rintro a' w' ⟨v,ok',H',rfl,J,u,hm,Y⟩;exact M (j.put o.dst J u hm Y) (q.trans u) z
   rw[CY iH];exact⟨fun _ _=>trivial,M (j.put o.dst (.refl _ _) (.refl _) j.mem (.d _ _ (.lit _))) q z⟩
 | @ag5 o rest σ σ' x E bar d hs hd k M=>
   intro ok H a w j q z;subst hd;unfold wpListIn;rcases hs.1 with⟨ns,U,O,_,L⟩|⟨rfl,rfl,L⟩
   ·rw[CS (Pe j L)];refine Rh ?_ (U.inR ro C ok H a w Q j.mem (fun n I=>Qs O n I▸j.get n.1));rintro a' w' ⟨v,ok',H',rfl,J,u,hm,Y⟩;exact M (j.put o.dst J u hm Y) (q.trans u) z
   rw[CY iH];exact⟨fun _ _=>trivial,M (j.put o.dst (.refl _ _) (.refl _) j.mem (.d _ _ (.lit _))) q z⟩
 |conv σ2 hc k M=>
  intro ok H a w j q z;obtain⟨ok',Z⟩:=hc C ok H a w j;exact M Z q z
def Pn :Code→Bool
 | .seq a b=>Pn a&&Pn b
 | .cond _ a b=>Pn a&&Pn b
 | .block _ a=>Pn a
 | .loop a=>Pn a
 | .scope a=>Pn a
 | .rangeFunc .. =>false
 |_=>true
def oM (ro:Option Nat) (c:Code):Prop:=ro=none∨Pn c=true
def oM.two {ro:Option Nat} {c x y:Code} (h:oM ro c) (e:Pn c=(Pn x&&Pn y)):oM ro x∧oM ro y:=by
 rcases h with h|h
 ·exact⟨.inl h,.inl h⟩
 rw[e,CW]at h;exact⟨.inr h.1,.inr h.2⟩
def ac4 (P:Program) (c:Code) (σ:Am) (Q:Exit→Am→Prop):Prop:=
 ∀(ro:Option Nat),oM ro c→∀(C:ES) (ok:Nat→Prop) (H:List BO) (a:Act) (w:World),Holds C ok H σ a w→c.wpIn (J3 ro) 0 P (fun e a' w'=>∃ok' H' σ',Holds C ok' H' σ' a' w'∧Q e σ') a w
structure AQ (P:Program) (c:Code) (σ:Am) (Q:Exit→Am→Prop):Prop where
 run:ac4 P c σ Q
section
variable {P : Program} {σ σ' : Am} {Q : Exit → Am → Prop}
def AQ.mono {c:Code} {Q':Exit→Am→Prop} (h:AQ P c σ Q) (j:∀e σ,Q e σ→Q' e σ):AQ P c σ Q':=
 ⟨fun ro q C ok H a w u=>Uo (h.run ro q C ok H a w u) fun _ _ _ ⟨ok',H',σ',z,I⟩=>⟨ok',H',σ',z,j _ _ I⟩⟩
def AQ.region {id:Nat} {ops:Array Oper} (h:Chain P ops ops.toList σ σ') (j:Q .normal σ'):AQ P (.region id ops false) σ Q:=⟨fun ro _ C ok H a w q=>
 aPe (h.sound q (.refl H) fun ok' H' a' w' u _=>⟨ok',H',σ',u,j⟩)⟩
def AQ.skip (h:Q .normal σ):AQ P .skip σ Q:=⟨fun _ _ _ ok H a w j=>wpIn_skip ⟨ok,H,σ,j,h⟩⟩
def AQ.label {l:Nat} (h:Q .normal σ):AQ P (.label l) σ Q:=⟨fun _ _ _ ok H a w j=>wpIn_label ⟨ok,H,σ,j,h⟩⟩
def AQ.exit {i:Nat} (h:Q (.exit i) σ):AQ P (.exit i) σ Q:=⟨fun _ _ _ ok H a w j=>wpIn_exit ⟨ok,H,σ,j,h⟩⟩
def AQ.ret (h:Q .ret σ):AQ P .ret σ Q:=⟨fun _ _ _ ok H a w j=>wpIn_ret ⟨ok,H,σ,j,h⟩⟩
def KZ (K:Am→Prop) (Q:Exit→Am→Prop):Exit→Am→Prop
 | .normal,σ=>K σ
 |e,σ=>Q e σ
def AQ.seq {x y:Code} (K:Am→Prop) (z:AQ P x σ (KZ K Q)) (I:∀σ',K σ'→AQ P y σ' Q):AQ P (.seq x y) σ Q:=⟨fun ro j C ok H a w J=>
 wpIn_seq (Uo (z.run ro (j.two rfl).1 C ok H a w J) (by
  rintro e a' w' ⟨ok',H',σ',q,u⟩;cases e with
  |normal=>exact(I σ' u).run ro (j.two rfl).2 C ok' H' a' w' q
  |_=>exact⟨ok',H',σ',q,u⟩))⟩
def AQ.seq1 {x y:Code} (j:Am) (q:AQ P x σ (KZ (fun σ'=>σ'=j) Q)) (u:AQ P y j Q):AQ P (.seq x y) σ Q:=AQ.seq _ q (fun _ e=>e▸u)
def AQ.cond {c:Operand} {x y:Code} (b:Bool) (u:σ.get c=.d (.lit (.bool b))) (ht:b=true→AQ P x σ Q) (z:b=false→AQ P y σ Q):AQ P (.cond c x y) σ Q:=by
 refine⟨fun ro q C ok H a w j=>?_⟩;have e:=(u▸j.get c).bool;exact wpIn_cond_split e (fun h=>(ht h).run ro (q.two rfl).1 C ok H a w j) (fun h=>(z h).run ro (q.two rfl).2 C ok H a w j)
def aT5 (i:Nat) (Q:Exit→Am→Prop):Exit→Am→Prop
 | .exit j,σ=>if j=i then Q .normal σ else Q (.exit j) σ
 |e,σ=>Q e σ
def AQ.block {i:Nat} {c:Code} (h:AQ P c σ (aT5 i Q)):AQ P (.block i c) σ Q:=⟨fun ro I C ok H a w J=>
 wpIn_block (Uo (h.run ro I C ok H a w J) (by
  rintro e a' w' ⟨ok',H',σ',u,q⟩;cases e with
  |exit j=>
   show if j=i then _ else _
   simp only[aT5]at q;split<;>rename_i z
   ·rw[CS z]at q;exact⟨ok',H',σ',u,q⟩
   rw[CY z]at q;exact⟨ok',H',σ',u,q⟩
  |_=>exact⟨ok',H',σ',u,q⟩))⟩
def akF {ro:Option Nat} {P:Program} {Q:Exit→Act→World→Prop} {c:Code} (I:Nat→Act→World→Prop)
 (round:∀n a w,I n a w→c.wpIn (J3 ro) 0 P (Exit.then (fun a' w'=>∃m,m<n∧I m a' w') Q) a w):∀n a w,I n a w→(Code.loop c).wpIn (J3 ro) 0 P Q a w:=by
 intro n a w Z b k cs J L M
 have key:∀n a w,I n a w→∃e a' w',Q e a' w'∧ArrivesIn (Machine.fenced P (J3 ro)) P (lone (b.atR a (.code c::.inLoop c::k)) cs w) b k cs e a' w':=by
  intro n
  induction n using Nat.strongRecOn with
  |_ n ih=>
   intro a w hI;obtain⟨e,u,z,j,harr⟩:=round n a w hI b (.inLoop c::k) cs J L M;cases e with
   |normal=>
    obtain⟨m,O,U⟩:=j;obtain⟨e₂,a₂,w₂,Y,q⟩:=ih m O u z U;exact⟨e₂,a₂,w₂,Y,.of_steps (StepsIn.trans harr (.one (fenced_calm L M rfl) stepR_inLoop)) q⟩
   |exit id=>exact⟨_,u,z,j,.pass (x:=.inLoop c) rfl (fun _ _=>.inl BF) harr⟩
   |goto l=>exact⟨_,u,z,j,.pass (x:=.inLoop c) rfl (fun _ _=>.inl BF) harr⟩
   |ret=>exact⟨_,u,z,j,.pass (x:=.inLoop c) rfl (fun _ _=>.inl BF) harr⟩
   |panic ch=>exact⟨_,u,z,j,.pass (x:=.inLoop c) rfl (fun _ _=>.inl BF) harr⟩
   |outgrown=>exact⟨_,u,z,j,.pass (x:=.inLoop c) rfl (fun _ _=>.inl BF) harr⟩
 obtain⟨e,a',w',j,harr⟩:=key n a w Z;exact⟨e,a',w',j,.of_steps (.one (fenced_calm L M rfl) stepR_loop) harr⟩
def AQ.loop {c:Code} (I:Nat→Am→Prop) (n:Nat) (h:I n σ) (round:∀n σ,I n σ→AQ P c σ (KZ (fun σ'=>∃m,m<n∧I m σ') Q)):AQ P (.loop c) σ Q:=by
 refine⟨fun ro J C ok H a w j=>?_⟩;refine akF (fun n a w=>∃ok H σ,Holds C ok H σ a w∧I n σ) ?_ n a w ⟨ok,H,σ,j,h⟩;rintro n a w ⟨ok,H,σ,j,L⟩;refine Uo ((round n σ L).run ro J C ok H a w j) ?_;rintro e a' w' ⟨ok',H',σ',u,z⟩;cases e with
 |normal=>obtain⟨m,hm,q⟩:=z;exact⟨m,hm,ok',H',σ',u,q⟩
 |_=>exact⟨ok',H',σ',u,z⟩
end
def DI {P:Program} {σ S:Am} {Q:Exit→Am→Prop} {c:Code} (hs:CX σ S) (h:AQ P c S Q):AQ P c σ Q:=⟨fun ro j C ok H a w q=>by
 obtain⟨ok',H',h'⟩:=hs C ok H a w q
 exact h.run ro j C ok' H' a w h'⟩
section
variable {P : Program} {ops : Array Oper} {Q : Exit → Act → World → Prop}
def aNf {F:Fence} {n:Nat} (I:Array Bool→Act→World→Prop) (j:∀l a w,I l a w→l.size=ops.size)
 (z:∀l a w,I l a w→∀i,i∈Region.ready .any ops l→wpOpIn F n P ops Q i (fun a' w'=>I (l.setIfInBounds i true) a' w') a w)
 (u:∀l a w,I l a w→Region.ready .any ops l=[]→Q .normal a w):
 ∀(Ag:Nat) l a w,toCome l≤Ag→I l a w→wpAnyIn F n P .any ops Q Ag l a w:=by
 intro Ag
 induction Ag with
 |zero=>
  intro l a w O L
  have U:Region.ready .any ops l=[]:=by
   unfold Region.ready;rw[og];intro i hi;have J:i<l.size:=by rw[j l a w L];simpa using hi
   have Y:l.toList.filter (!·)=[]:=Gf (by unfold toCome at O;omega);rw[og]at Y;have :=Y (l[i]) BF;have M:l[i]=true:=aPE
   simp[Array.getD,J,M]
  exact⟨U,u l a w L U⟩
 |succ Ag Z=>
  intro l a w O L;refine⟨u l a w L,fun i hi=>?_⟩;have q:=hi;unfold Region.ready at q;rw[FU]at q;have J:i<l.size:=by rw[j l a w L];simpa using q.1
  have hf:l.getD i true=false:=by
   have :=q.2;simp only[CW,MF]at this;exact this.1
  have hs:=toCome_set J hf;exact wpOpIn_mono (fun a' w' h=>Z _ a' w' AA h) (z l a w L i hi)
end
def IE (o:Oper) (j:Nat):Bool:=o.after.toList.any fun e=>decide (e.on=j)&&Region.binds .any e
def Vw (ops:Array Oper):Bool:=(List.range ops.size).all fun i=>match ops[i]? with
 |some o=>((List.range ops.size).all fun j=>match(ops[j]?).bind (·.dst)with
  |some d=> !(tmpsOf o).contains d||IE o j||(match ops[j]? with |some q=>IE q i|none=>false)
  |none=>true)&&(match o.guard with |some (j,_)=>IE o j|none=>true)
 |none=>true
inductive Ep (P:Program) (ops:Array Oper):List Oper→Am→List AV→List (List BA)→List Bool→Am→Prop
 |nil (σ:Am):Ep P ops [] σ [] [] [] σ
 |op {o:Oper} {rest:List Oper} {σ σ':Am} {ns:List (Operand×AV)} {x:AV} {rs:List AV} {ess:List (List BA)} {bs:List Bool} (d:Option Tmp) (h:BU P o ns σ.ents x σ.ents) (hn:needs σ ns)
  (hg:Wi ops σ o.guard) (hd:o.dst=d) (ht:(Nv ns).all (tmpsOf o).contains=true) (k:Ep P ops rest (σ.rZ d x) rs ess bs σ'):Ep P ops (o::rest) σ (x::rs) (σ.ents::ess) (false::bs) σ'
 |oe {o:Oper} {rest:List Oper} {σ σ':Am} {ns:List (Operand×AV)} {x:AV} {es':List BA} {rs:List AV} {ess:List (List BA)} {bs:List Bool} (d:Option Tmp) (E:List BA) (h:BU P o ns σ.ents x es') (he:es'=E) (hn:needs σ ns)
  (hg:Wi ops σ o.guard) (hd:o.dst=d) (ht:(Nv ns).all (tmpsOf o).contains=true) (k:Ep P ops rest (σ.put d x E) rs ess bs σ'):Ep P ops (o::rest) σ (x::rs) (E::ess) (true::bs) σ'
 |any {o:Oper} {rest:List Oper} {σ σ':Am} {x:AV} {rs:List AV} {ess:List (List BA)} {bs:List Bool} (d:Option Tmp) (h:RV P ops σ x σ.ents false o) (hd:o.dst=d) (k:Ep P ops rest (σ.rZ d x) rs ess bs σ'):Ep P ops (o::rest) σ (x::rs) (σ.ents::ess) (false::bs) σ'
 |ag5 {o:Oper} {rest:List Oper} {σ σ':Am} {x:AV} {E:List BA} {bar:Bool} {rs:List AV} {ess:List (List BA)} {bs:List Bool} (d:Option Tmp) (h:RV P ops σ x E bar o) (hd:o.dst=d) (k:Ep P ops rest (σ.put d x E) rs ess bs σ'):Ep P ops (o::rest) σ (x::rs) (E::ess) (bar::bs) σ'
 |skip {o:Oper} {rest:List Oper} {σ σ':Am} {rs:List AV} {ess:List (List BA)} {bs:List Bool} (d:Option Tmp) (hg:Xw ops σ o.guard) (hd:o.dst=d) (k:Ep P ops rest (σ.rZ d (.d (.lit undef))) rs ess bs σ'):Ep P ops (o::rest) σ (.d (.lit undef)::rs) (σ.ents::ess) (false::bs) σ'
section
variable {P : Program} {ops : Array Oper} {es : List BA}
def FY (ops:Array Oper) (σ0:Am) (r:Nat→AV) (ev:Nat→List BA):Nat→Am
 |0=>σ0
 |i+1=>match ops[i]? with
  |some o=>(FY ops σ0 r ev i).put o.dst (r i) (ev i)
  |none=>FY ops σ0 r ev i
def Ep.ayg (N:Nat) {l:List Oper} {σ σ':Am} {rs:List AV} {ess:List (List BA)} {bs:List Bool} (h:Ep P ops l σ rs ess bs σ') (σ0:Am) (r:Nat→AV) (ev:Nat→List BA) (bar:Nat→Bool):∀i,(∀k:Nat,k<l.length→l[k]? =ops[i+k]?)→i+l.length=N→σ=FY ops σ0 r ev i→
 (∀(k:Nat) y,rs[k]? =some y→r (i+k)=y)→(∀(k:Nat) y,ess[k]? =some y→ev (i+k)=y)→(∀(k:Nat) y,bs[k]? =some y→bar (i+k)=y)→
 (∀j (o:Oper),i≤j→j<N→ops[j]? =some o→RV P ops (FY ops σ0 r ev j) (r j) (ev j) (bar j) o)∧σ'=FY ops σ0 r ev N:=by
 induction h with
 |nil σ=>
  intro i hl J I M _ _;have :i=N:=Rs
  subst this;exact⟨fun j o Z L ho=>AA,I⟩
 | @op o rest σ σ' ns x rs ess bs d ho hn hg hd ht k ih=>
   intro i hl J I M O hb;subst hd;have U:ops[i]? =some o:=wL
   have Y:r i=x:=aBf
   have u:ev i=σ.ents:=aO4
   obtain⟨h1,h2⟩:=ih (i+1) (fun k hk=>xB) lN (by
    rw[Am.aou];simp only[FY,U,Y,u];rw[←I]) (fun k y z=>yO)
    (fun k y z=>vZ) (fun k y z=>yX)
   refine⟨fun j o' Z L q=>?_,h2⟩;by_cases e:i=j
   ·subst e;rw[U]at q;obtain rfl:=CV q;exact⟨.inl ⟨ns,by rw[Y,u,←I];exact ho,I▸hn,ht,I▸hg⟩,fun _=>by rw[u,←I]⟩
   exact h1 j o' AA L q
 | @oe o rest σ σ' ns x es' rs ess bs d E ho hE hn hg hd ht k ih=>
   intro i hl J I M O hb;subst hd;subst hE;have U:ops[i]? =some o:=wL
   have Y:r i=x:=aBf
   have u:ev i=es':=by simpa using O 0 es' BF
   have hbr:bar i=true:=by simpa using hb 0 true BF
   obtain⟨h1,h2⟩:=ih (i+1) (fun k hk=>xB) lN (by
    simp only[FY,U,Y,u];rw[←I]) (fun k y z=>yO)
    (fun k y z=>vZ) (fun k y z=>yX)
   refine⟨fun j o' Z L q=>?_,h2⟩;by_cases e:i=j
   ·subst e;rw[U]at q;obtain rfl:=CV q;exact⟨.inl ⟨ns,by rw[Y,u,←I];exact ho,I▸hn,ht,I▸hg⟩,fun hf=>by rw[hbr]at hf;cases hf⟩
   exact h1 j o' AA L q
 | @any o rest σ σ' x rs ess bs d hs hd k ih=>
   intro i hl J I M O hb;subst hd;have U:ops[i]? =some o:=wL
   have Y:r i=x:=aBf
   have u:ev i=σ.ents:=aO4
   obtain⟨h1,h2⟩:=ih (i+1) (fun k hk=>xB) lN (by
    rw[Am.aou];simp only[FY,U,Y,u];rw[←I]) (fun k y z=>yO)
    (fun k y z=>vZ) (fun k y z=>yX)
   refine⟨fun j o' Z L q=>?_,h2⟩;by_cases e:i=j
   ·subst e;rw[U]at q;obtain rfl:=CV q;refine⟨?_,fun _=>by rw[u,←I]⟩;rw[Y,u,←I];exact hs.1
   exact h1 j o' AA L q
 | @ag5 o rest σ σ' x E br rs ess bs d hs hd k ih=>
   intro i hl J I M O hb;subst hd;have U:ops[i]? =some o:=wL
   have Y:r i=x:=aBf
   have u:ev i=E:=by simpa using O 0 E BF
   have hbr:bar i=br:=by simpa using hb 0 br BF
   obtain⟨h1,h2⟩:=ih (i+1) (fun k hk=>xB) lN (by
    simp only[FY,U,Y,u];rw[←I]) (fun k y z=>yO)
    (fun k y z=>vZ) (fun k y z=>yX)
   refine⟨fun j o' Z L q=>?_,h2⟩;by_cases e:i=j
   ·subst e;rw[U]at q;obtain rfl:=CV q;rw[Y,u,hbr,←I];exact hs
   exact h1 j o' AA L q
 | @skip o rest σ σ' rs ess bs d hg hd k ih=>
   intro i hl J I M O hb;subst hd;have U:ops[i]? =some o:=wL
   have Y:r i=.d (.lit undef):=by simpa using M 0 (.d (.lit undef)) BF
   have u:ev i=σ.ents:=aO4
   obtain⟨h1,h2⟩:=ih (i+1) (fun k hk=>xB) lN (by
    rw[Am.aou];simp only[FY,U,Y,u];rw[←I]) (fun k y z=>yO)
    (fun k y z=>vZ) (fun k y z=>yX)
   refine⟨fun j o' Z L q=>?_,h2⟩;by_cases e:i=j
   ·subst e;rw[U]at q;obtain rfl:=CV q;exact⟨.inr ⟨Y,by rw[u,←I],I▸hg⟩,fun _=>by rw[u,←I]⟩
   exact h1 j o' AA L q
def Ep.facts {l:List Oper} {σ σ':Am} {rs:List AV} {ess:List (List BA)} {bs:List Bool} (h:Ep P ops l σ rs ess bs σ') (σ0:Am) (r:Nat→AV) (ev:Nat→List BA) (bar:Nat→Bool):∀i,(∀k:Nat,l[k]? =ops[i+k]?)→i+l.length=ops.size→σ=FY ops σ0 r ev i→
 (∀(k:Nat) y,rs[k]? =some y→r (i+k)=y)→(∀(k:Nat) y,ess[k]? =some y→ev (i+k)=y)→(∀(k:Nat) y,bs[k]? =some y→bar (i+k)=y)→
 (∀j (o:Oper),i≤j→ops[j]? =some o→RV P ops (FY ops σ0 r ev j) (r j) (ev j) (bar j) o)∧σ'=FY ops σ0 r ev ops.size:=by
 intro i hl q I J L M;obtain⟨O,U⟩:=h.ayg ops.size σ0 r ev bar i (fun k _=>hl k) q I J L M;exact⟨fun j o u z=>O j o u (GX.1 z).1 z,U⟩
def Xe {σ0:Am} {r:Nat→AV} {ev:Nat→List BA} {t:Nat}:∀i,(∀j (o:Oper),j<i→ops[j]? =some o→o.dst≠some t)→(FY ops σ0 r ev i).slots.getD t .junk=σ0.slots.getD t .junk
 |0,_=>rfl
 |i+1,h=>by
  have q:=Xe (σ0:=σ0) (r:=r) (ev:=ev) i (fun j o J u=>h j o AA u);simp only[FY];split
  ·rename_i o u;have z:=h i o AA u;cases hd:o.dst with
   |none=>exact q
   |some d=>
    have I:d≠t:=fun e=>z (by rw[hd,e]);show((FY ops σ0 r ev i).slots.set d (r i)).getD t .junk=_;rw[←q];simp[List.getD,Y7 I]
  exact q
def Xc {σ0:Am} {r:Nat→AV} {ev:Nat→List BA}:∀i,(FY ops σ0 r ev i).slots.length=σ0.slots.length
 |0=>rfl
 |i+1=>by
  simp only[FY];split
  ·rename_i o j;cases hd:o.dst with
   |none=>exact Xc i
   |some d=>show((FY ops σ0 r ev i).slots.set d (r i)).length=_;rw[dY];exact Xc i
  exact Xc i
def yH {σ0:Am} {r:Nat→AV} {ev:Nat→List BA}:∀i,(FY ops σ0 r ev i).base=σ0.base
 |0=>rfl
 |i+1=>by
  simp only[FY];split
  ·exact yH i
  exact yH i
def Zc {σ0:Am} {r:Nat→AV} {ev:Nat→List BA} (q:∀(i j:Nat) (o u:Oper) (d:Tmp),ops[i]? =some o→ops[j]? =some u→o.dst=some d→u.dst=some d→i=j) {t j:Nat} {o:Oper} (z:ops[j]? =some o) (hd:o.dst=some t) (ht:t<σ0.slots.length):
 ∀i,j<i→(FY ops σ0 r ev i).slots.getD t .junk=r j
 |0,h=>AA
 |i+1,h=>by
  by_cases e:j=i
  ·subst e;simp only[FY,z,hd];have hl:t<(FY ops σ0 r ev j).slots.length:=by rw[Xc];exact ht
   show((FY ops σ0 r ev j).slots.set t (r j)).getD t .junk=_;simp[List.getD,hl]
  have I:=Zc (r:=r) (ev:=ev) q z hd ht i AA;simp only[FY];split
  ·rename_i u J;cases L:u.dst with
   |none=>exact I
   |some d=>
    have M:d≠t:=fun e'=>e (q j i o u t z J hd (by rw[L,e']));show((FY ops σ0 r ev i).slots.set d (r i)).getD t .junk=_;rw[←I];simp[List.getD,Y7 M]
  exact I
def aRL (h:Vw ops=true):∀(i:Nat) (o:Oper),ops[i]? =some o→(∀(j:Nat) (z:Oper) (d:Tmp),ops[j]? =some z→z.dst=some d→d∈tmpsOf o→IE o j=true∨IE z i=true)∧(∀j b,o.guard=some (j,b)→IE o j=true):=by
 intro i o J;unfold Vw at h;rw[DY]at h;have hi:i<ops.size:=(GX.1 J).1;have I:=h i G9;rw[J]at I;simp only[CW,DY]at I;refine⟨fun j z d u hd hm=>?_,fun j b L=>?_⟩
 ·have M:j<ops.size:=(GX.1 u).1;have q:=I.1 j (by simpa using M);rw[u]at q;simp only[AO,hd,XJ,MF]at q;rcases q with(q|q)|q
  ·have :(tmpsOf o).contains d=true:=by simpa using hm
   rw[this]at q;cases q
  ·exact .inl q
  exact .inr q
 have q:=I.2;rw[L]at q;exact q
def UR (ops:Array Oper) (bs:List Bool):Bool:=(List.range ops.size).all fun i=> !(bs.getD i false)||
 (((List.range i).all fun j=>(List.range (i+1)).any fun m=>decide (j<m)&&(match ops[m]? with |some o=>IE o j|none=>false))&&
  ((List.range ops.size).all fun k=> !decide (i<k)||(List.range k).any fun m=>decide (i≤m)&&(match ops[k]? with |some o=>IE o m|none=>false)))
def sI {bs:List Bool} (h:UR ops bs=true) {i:Nat} (hi:i<ops.size) (O:bs.getD i false=true) {D:Nat→Prop} (hd:∀(j:Nat) (o:Oper),ops[j]? =some o→D j→∀m,IE o m=true→D m)
 (U:∀(o:Oper),ops[i]? =some o→∀m,IE o m=true→D m):∀j,j<i→D j:=by
 unfold UR at h;rw[DY]at h;have I:=h i G9;simp only[O,EF,NJ,CW,DY]at I
 have key:∀n j,i-j≤n→j<i→D j:=by
  intro n
  induction n with
  |zero=>intro j Y J;omega
  |succ n Z=>
   intro j Y J;have L:=I.1 j Rs;rw[Gn]at L;obtain⟨m,hm,M⟩:=L;simp only[qg]at hm;simp only[CW,Gg]at M;obtain⟨h6,q⟩:=M;have u:m<ops.size:=AA
   have z:ops[m]? =some ops[m]:=by simp[u]
   rw[z]at q;by_cases e:m=i
   ·subst e;exact U _ z j q
   exact hd m _ z (Z m AA AA) j q
 exact fun j hj=>key (i-j) j (Dq _) hj
def aYp {bs:List Bool} (h:UR ops bs=true) {i:Nat} (hi:i<ops.size) (Y:bs.getD i false=true) {D:Nat→Prop} (hd:∀(j:Nat) (o:Oper),ops[j]? =some o→D j→∀m,IE o m=true→D m):
 ∀k,i<k→∀(o:Oper),ops[k]? =some o→(∀m,IE o m=true→D m)→D i:=by
 unfold UR at h;rw[DY]at h;have L:=h i G9;simp only[Y,EF,NJ,CW,DY]at L;intro k
 induction k using Nat.strongRecOn with
 |_ k Z=>
  intro I o M q;have hk:k<ops.size:=(GX.1 M).1;have O:=L.2 k aTx;simp only[I,decide_true,EF,NJ,Gn]at O;obtain⟨m,hm,U⟩:=O;simp only[qg]at hm;simp only[CW,Gg,M]at U;obtain⟨h6,h7⟩:=U;have u:=q m h7;by_cases e:m=i
  ·subst e;exact u
  have J:m<ops.size:=AA
  have z:ops[m]? =some ops[m]:=by simp[J]
  exact Z m hm AA _ z (hd m _ z u)
def Vs (ops:Array Oper):Bool:=(List.range ops.size).all fun i=>match ops[i]? with
 |some o=>o.after.toList.all fun(e:Edge)=> !Region.binds .any e||decide (e.on<i)
 |none=>true
def aYe (h:Vs ops=true):∀(i:Nat) (o:Oper),ops[i]? =some o→∀e∈o.after.toList,Region.binds .any e=true→e.on<i:=by
 intro i o j e q u;unfold Vs at h;rw[DY]at h;have hi:i<ops.size:=(GX.1 j).1;have :=h i G9;rw[j]at this;rw[DY]at this;have :=this e q;simpa[u]using this
def Tt (ops:Array Oper) (bs:List Bool) (sl:List Nat):Bool:=(List.range ops.size).all fun i=> !(bs.getD i false)||(!sl.contains i&&
 ((List.range i).all fun j=>sl.contains j||(List.range (i+1)).any fun m=>(decide (j<m)&& !sl.contains m)&&(match ops[m]? with |some o=>IE o j|none=>false))&&
  ((List.range ops.size).all fun k=> !decide (i<k)||(List.range k).any fun m=>decide (i≤m)&&(match ops[k]? with |some o=>IE o m|none=>false)))
def aJM {bs:List Bool} {sl:List Nat} (h:Tt ops bs sl=true) {i:Nat} (hi:i<ops.size) (Y:bs.getD i false=true) {D:Nat→Prop} (hd:∀(j:Nat) (o:Oper),ops[j]? =some o→D j→∀m,IE o m=true→D m)
 (Z:∀(o:Oper),ops[i]? =some o→∀m,IE o m=true→D m):∀j,j<i→sl.contains j=false→D j:=by
 unfold Tt at h;rw[DY]at h;have L:=h i G9;simp only[Y,EF,NJ,CW,DY]at L
 have key:∀n j,i-j≤n→j<i→sl.contains j=false→D j:=by
  intro n
  induction n with
  |zero=>intro j h2 M _;omega
  |succ n ih=>
   intro j h2 M q;have O:=L.1.2 j (by simpa using M);rw[q,NJ,Gn]at O;obtain⟨m,hm,U⟩:=O;simp only[qg]at hm;simp only[CW,Gg,MF]at U;obtain⟨⟨h6,u⟩,z⟩:=U;have I:m<ops.size:=AA
   have J:ops[m]? =some ops[m]:=by simp[I]
   rw[J]at z;by_cases e:m=i
   ·subst e;exact Z _ J j z
   exact hd m _ J (ih m AA AA u) j z
 exact fun j hj hs=>key (i-j) j (Dq _) hj hs
def adz {bs:List Bool} {sl:List Nat} (h:Tt ops bs sl=true) {i:Nat} (hi:i<ops.size) (Y:bs.getD i false=true) {D:Nat→Prop} (hd:∀(j:Nat) (o:Oper),ops[j]? =some o→D j→∀m,IE o m=true→D m):
 ∀k,i<k→∀(o:Oper),ops[k]? =some o→(∀m,IE o m=true→D m)→D i:=by
 unfold Tt at h;rw[DY]at h;have L:=h i G9;simp only[Y,EF,NJ,CW,DY]at L;intro k
 induction k using Nat.strongRecOn with
 |_ k Z=>
  intro I o M q;have hk:k<ops.size:=(GX.1 M).1;have O:=L.2 k aTx;simp only[I,decide_true,EF,NJ,Gn]at O;obtain⟨m,hm,U⟩:=O;simp only[qg]at hm;simp only[CW,Gg,M]at U;obtain⟨h6,h7⟩:=U;have u:=q m h7;by_cases e:m=i
  ·subst e;exact u
  have J:m<ops.size:=AA
  have z:ops[m]? =some ops[m]:=by simp[J]
  exact Z m hm AA _ z (hd m _ z u)
def aWi {bs:List Bool} {sl:List Nat} (h:Tt ops bs sl=true) {i:Nat} (hi:i<ops.size) (q:bs.getD i false=true):sl.contains i=false:=by
 unfold Tt at h;rw[DY]at h;have j:=h i G9;simp only[q,EF,NJ,CW,MF]at j;exact j.1.1
def AQ.awL {id:Nat} {σ σ':Am} {Q:Exit→Am→Prop} {rs:List AV} {ess:List (List BA)} {bs:List Bool} (hm:P.follows .mixedOrders=true) (M:(Vs ops&&X6 ops&&X7 ops σ.slots.length&&Vw ops)=true) (sl:List Nat) (O:Tt ops bs sl=true)
 (h:Ep P ops ops.toList σ rs ess bs σ')
 (hsl:∀i,i∈sl→bs.getD i false=false∧∀m,i≤m→m≤ops.size→∀o,ops[i]? =some o→RV P ops ⟨(FY ops σ (fun i=>rs.getD i .junk) (fun i=>ess.getD i []) i).slots,(FY ops σ (fun i=>rs.getD i .junk) (fun i=>ess.getD i []) m).ents,σ.base⟩ (rs.getD i .junk) (FY ops σ (fun i=>rs.getD i .junk) (fun i=>ess.getD i []) m).ents false o) (hQ:Q .normal σ'):AQ P (.region id ops true) σ Q:=by
 refine⟨fun ro _ C ok H a w hh=>?_⟩;simp only[CW]at M;obtain⟨⟨⟨he,hd⟩,hs⟩,hc⟩:=M;have aeB:=aYe he;have hinj:=aVx hd;have M:=aRL hc
 have Xo:∀(i:Nat) (o:Oper) (d:Tmp),ops[i]? =some o→o.dst=some d→d<σ.slots.length:=by
  intro i o d h1 h2;unfold X7 at hs;rw[DY]at hs;simpa using hs d (aSG h1 h2)
 let r:Nat→AV:=fun i=>rs.getD i .junk
 let ev:Nat→List BA:=fun i=>ess.getD i []
 let bar:Nat→Bool:=fun i=>bs.getD i false
 obtain⟨Yi,hend⟩:=h.facts σ r ev bar 0 (fun k=>BF) BF rfl (fun k y hy=>by simp[r,List.getD,hy]) (fun k y hy=>by simp[ev,List.getD,hy]) (fun k y hy=>by simp[bar,List.getD,hy])
 let U:Nat→Am:=FY ops σ r ev
 have hU:∀i,i<ops.size→(U (i+1)).ents=ev i:=by
  intro i hi;have L:ops[i]? =some ops[i]:=Tf
  show(FY ops σ r ev (i+1)).ents=_;simp only[FY,L];rfl
 have hconst:∀n lo,(∀b,lo≤b→b<lo+n→bar b=false)→lo+n≤ops.size→(U (lo+n)).ents=(U lo).ents:=by
  intro n
  induction n with
  |zero=>intro lo _ _;rfl
  |succ n ih=>
   intro lo z hle;have h1:=ih lo (fun b h1 h2=>z b h1 AA) AA;have hi:lo+n<ops.size:=AA
   have L:ops[lo+n]? =some ops[lo+n]:=Tf
   have h2:=(Yi (lo+n) _ AA L).2 (z (lo+n) AA AA);rw[←Rx,hU _ hi,h2];exact h1
 have Y:∀lo hi,lo≤hi→hi≤ops.size→(∀b,lo≤b→b<hi→bar b=false)→(U hi).ents=(U lo).ents:=by
  intro lo hi h1 h2 h3;obtain⟨n,rfl⟩:=Nat.exists_eq_add_of_le h1;exact hconst n lo h3 h2
 refine wpIn_region_any hm ?_
 let I:Array Bool→Act→World→Prop:=fun l a w=>l.size=ops.size∧∃ok H m,m≤ops.size∧(∀b,bar b=true→b<ops.size→(l.getD b false=true↔b<m))∧Ch C ok H (U m).ents w∧a.tmps.size=σ.slots.length∧Marks C ok w a.defers∧
  (∀t,t<σ.slots.length→(∀(j:Nat) (o:Oper),ops[j]? =some o→o.dst=some t→l.getD j false=false)→R ok w H (σ.slots.getD t .junk) (a.tmps.getD t undef))∧
  (∀(i:Nat) (o:Oper) (d:Tmp),ops[i]? =some o→o.dst=some d→l.getD i false=true→R ok w H (r i) (a.tmps.getD d undef))∧
  (∀(j:Nat) (o:Oper),ops[j]? =some o→l.getD j false=true→∀i,IE o i=true→l.getD i false=true)
 refine aNf I (fun l a w h=>h.1) ?_ ?_ ops.size _ _ _ ?_ ?_
 ·rintro l a w ⟨h1,ok,H,m,abL,J,hmem0,hsz,hdf,h5,h6,h7⟩ i hi;unfold Region.ready at hi;rw[FU]at hi;obtain⟨hi1,hi2⟩:=hi;have hi':i<ops.size:=by simpa using hi1
  have L:ops[i]? =some ops[i]:=by simp[hi']
  simp only[CW]at hi2;have aeC:=hi2.2;rw[L]at aeC;simp only[Ii,MK]at aeC;have arW:=fun e he=>(U3.1 aeC) e he
  have Z:∀j,IE ops[i] j=true→l.getD j false=true∧j<i:=by
   intro j u;unfold IE at u;rw[Gn]at u;obtain⟨e,hee,u⟩:=u;simp only[CW,Gg]at u;have :=arW e (by simpa using hee);simp only[u.2,EF,NJ]at this;rw[u.1]at this;exact⟨this,u.1▸aeB i _ L e hee u.2⟩
  have hself:l.getD i false=false:=by
   have h8:=hi2.1;have hil:i<l.size:=AA
   simp[Array.getD,hil]at h8 ⊢;exact h8
  have aov:∀(j:Nat) (o:Oper),ops[j]? =some o→l.getD j false=true→∀m,IE o m=true→l.getD m false=true:=fun j o u hl m hm=>h7 j o u hl m hm
  have hEi:(i≤m→sl.contains i=false)→(U i).ents=(U m).ents:=fun hns=>by
   by_cases him:i≤m
   ·refine(Y i m him abL (fun b h2 h3=>?_)).symm;rw[←PE];intro z;have hbl:=(J b z AA).2 h3;by_cases e:b=i
    ·subst e;rw[hself]at hbl;cases hbl
    have :=aJM O (show b<ops.size by omega) z (D:=fun j=>l.getD j false=true) aov (fun o L m hm=>aov b o L hbl m hm) i AA (hns him);rw[hself]at this;cases this
   refine Y m i AA AA (fun b h2 h3=>?_);rw[←PE];intro z;have :=adz O (show b<ops.size by omega) z (D:=fun j=>l.getD j false=true) aov i h3 _ L (fun m hm=>(Z m hm).1);exact absurd ((J b z AA).1 this) AA
  obtain⟨E0,E1,hmem,hfact,hE1,hE2⟩:∃E0 E1,Ch C ok H E0 w∧RV P ops ⟨(U i).slots,E0,σ.base⟩ (r i) E1 (bar i) ops[i]∧(bar i=false→E1=(U m).ents)∧(bar i=true→E1=ev i):=by
   by_cases hs:i≤m∧i∈sl
   ·have h9:=hsl i hs.2;refine⟨(U m).ents,(U m).ents,hmem0,?_,fun _=>rfl,fun z=>?_⟩
    ·rw[show bar i=false from h9.1];exact h9.2 m hs.1 abL _ L
    rw[show bar i=false from h9.1]at z;cases z
   have hE:=hEi (fun him=>by
    rw[←PE]
    intro hc;exact hs ⟨him,aEC⟩)
   refine⟨(U i).ents,ev i,by rw[hE];exact hmem0,?_,fun z=>?_,fun _=>rfl⟩
   ·have hf:=Yi i ops[i] AA L;have hbase:(U i).base=σ.base:=yH i;have :U i=⟨(U i).slots,(U i).ents,σ.base⟩:=by rw[←hbase]
    exact this▸hf
   rw[(Yi i _ AA L).2 z];exact hE
  have hread:∀t,t∈tmpsOf ops[i]→R ok w H ((FY ops σ r ev i).slots.getD t .junk) (a.tmps.getD t undef):=by
   intro t ht;by_cases hw:∃(j:Nat) (o:Oper),ops[j]? =some o∧o.dst=some t
   ·obtain⟨j,o,u,q⟩:=hw;rcases(M i _ L).1 j o t u q ht with hce|hce
    ·obtain⟨hdj,hji⟩:=Z j hce;rw[Zc hinj u q (Xo j o t u q) i hji];exact h6 j o t u q hdj
    have hij:i<j:=by
     unfold IE at hce;rw[Gn]at hce;obtain⟨e,hee,hce⟩:=hce;simp only[CW,Gg]at hce;exact hce.1▸aeB j _ u e hee hce.2
    rw[Xe i (fun j' o' hj' ho' hd'=>aLS)];refine h5 t (Xo j o t u q) (fun j' o' ho' hd'=>?_);have hjj:=hinj j j' o o' t u ho' q hd';subst hjj;rw[←PE];intro hd;rw[h7 j o u hd i hce]at hself;cases hself
   have hw':∀(j:Nat) (o:Oper),ops[j]? =some o→o.dst≠some t:=fun j o h1 h2=>hw ⟨j,o,h1,h2⟩;rw[Xe i (fun j o _ u=>hw' j o u)];by_cases htn:t<σ.slots.length
   ·exact h5 t htn (fun j o u q=>absurd q (hw' j o u))
   rw[oW htn];exact .junk _
  have ag6:∀j d v,IE ops[i] j=true→(ops[j]?).bind (·.dst)=some d→(FY ops σ r ev i).slots.getD d .junk=.d (.lit v)→yielded ops a.tmps j=(match v with | .bool b=>some b|_=>none):=by
   intro j d v u q z;cases hoj:ops[j]? with
   |none=>rw[hoj]at q;simp at q
   |some oj=>
    rw[hoj]at q;simp only[AO]at q;obtain⟨hdj,hji⟩:=Z j u;have hdn:=Xo j oj d hoj q;rw[Zc hinj hoj q hdn i hji]at z;have hv:=(z▸h6 j oj d hoj q hdj).bool
    have hs:a.tmps[d]? =some v:=by
     have :d<a.tmps.size:=by rw[hsz];exact hdn
     simp[Array.getD,this]at hv;simp[this,hv]
    unfold yielded;rw[hoj];simp only[AO,q,hs];cases v<;>rfl
  have hput:∀(x:AV) (v:Value) (ok':Nat→Prop) (H':List BO) (w':World),x=r i→ER ok w ok' w'→Names H H'→Ch C ok' H' E1 w'→R ok' w' H' x v→I (l.setIfInBounds i true) (a.put ops[i].dst v) w':=by
   intro x v ok' H' w' hx hgr hnm hmem' hR;subst hx
   have hother:∀(d t:Nat),ops[i].dst=some d→d≠t→(a.put ops[i].dst v).tmps.getD t undef=a.tmps.getD t undef:=by
    intro d t hd hne;rw[hd];exact aSe hne
   obtain⟨m',awM,aow,awN⟩:∃m',m'≤ops.size∧(∀b,bar b=true→b<ops.size→((l.setIfInBounds i true).getD b false=true↔b<m'))∧Ch C ok' H' (U m').ents w':=by
    have hget:∀b,b≠i→(l.setIfInBounds i true).getD b false=l.getD b false:=fun b z=>by
     simp only[Ih,O8 (Ne.symm z)]
    have awO:(l.setIfInBounds i true).getD i false=true:=by simp[Array.getD,h1,hi']
    cases hbi:bar i with
    |false=>
     refine⟨m,abL,fun b z hbs=>?_,?_⟩
     ·have hne:b≠i:=fun e=>by subst e;rw[hbi]at z;cases z
      rw[hget b hne];exact J b z hbs
     rw[←hE1 hbi];exact hmem'
    |true=>
     refine⟨i+1,AA,fun b z hbs=>?_,by rw[hU i hi',←hE2 hbi];exact hmem'⟩;by_cases e:b=i
     ·subst e;rw[awO];simp
     rw[hget b e];constructor
     ·intro hbl;apply Xa;intro hn;have :=aJM O hbs z (D:=fun j=>l.getD j false=true) aov (fun o L m hm=>aov b o L hbl m hm) i AA (aWi O hi' hbi);rw[hself]at this;cases this
     intro hlt;exact aJM O hi' hbi (D:=fun j=>l.getD j false=true) aov (fun o ho' m hm=>by rw[L]at ho';obtain rfl:=CV ho';exact(Z m hm).1) b AA (aWi O hbs z)
   refine⟨by simp[h1],ok',H',m',awM,aow,awN,by rw[size_put];exact hsz,by rw[aRZ];exact hdf.mono hgr,?_,?_,?_⟩
   ·intro t ht hno
    have hne:ops[i].dst≠some t:=by
     intro e;have :=hno i _ L e;simp[Array.getD,h1,hi']at this
    have hold:(a.put ops[i].dst v).tmps.getD t undef=a.tmps.getD t undef:=by
     cases hdi:ops[i].dst with
     |none=>rfl
     |some d=>exact hdi▸hother d t hdi (fun e=>hne (by rw[hdi,e]))
    rw[hold];refine(h5 t ht (fun j o u q=>?_)).mono hgr hnm;have hij:i≠j:=fun e=>by subst e;rw[L]at u;obtain rfl:=CV u;exact hne q
    have :=hno j o u q;simpa only[Ih,O8 hij]using this
   ·intro k o d hk hkd hl;by_cases hik:i=k
    ·subst hik;rw[L]at hk;obtain rfl:=CV hk;rw[hkd,aQJ (by rw[hsz];exact Xo i _ d L hkd)];exact hR
    have hl':l.getD k false=true:=by
     simp only[Ih,O8 hik]at hl ⊢;exact hl
    have :=(h6 k o d hk hkd hl').mono hgr hnm;cases hdst:ops[i].dst with
    |none=>exact this
    |some d'=>
     have hne:d'≠d:=fun e=>hik (hinj i k _ _ d' L hk hdst (e▸hkd));rw[←hdst,hother d' d hdst hne];exact this
   intro j o u hl k hk;have hil:i<l.size:=AA
   by_cases hik:i=k
   ·subst hik;simp[Array.getD,hil]
   have hkk:l.getD k false=true:=by
    by_cases hij:i=j
    ·subst hij;rw[L]at u;obtain rfl:=CV u;exact(Z k hk).1
    have hl':l.getD j false=true:=by
     simp only[Ih,O8 hij]at hl ⊢;exact hl
    exact h7 j o u hl' k hk
   simp only[Ih,O8 hik]at hkk ⊢;exact hkk
  unfold wpOpIn;rw[L];show if Region.wanted ops[i] (yielded ops a.tmps)=true then _ else _
  rcases hfact.1 with⟨ns,hop,amT,hnt,hg⟩|⟨hx,hev,hg⟩
  ·have hwant:Region.wanted ops[i] (yielded ops a.tmps)=true:=by
    unfold Region.wanted;rcases hg with hg|⟨j,want,d,b,hg,u,z,rfl⟩
    ·rw[hg]
    rw[hg];show(yielded ops a.tmps j==some b)=true;rw[ag6 j d _ ((M i _ L).2 j b hg) u z];simp
   rw[CS hwant];refine Rh ?_ (hop.inR ro C ok H a w _ hmem (fun n hn=>?_))
   ·rintro a' w' ⟨v,ok',H',rfl,hgr,hnn,hm',hx⟩;exact hput _ v ok' H' w' rfl hgr hnn hm' hx
   have hnv:=Qs amT n hn;obtain⟨x,y⟩:=n;simp only at hnv ⊢;subst hnv;cases x with
   |tmp t=>
    refine hread t ?_;rw[DY]at hnt
    have :t∈Nv ns:=by
     unfold Nv;rw[Tj];exact⟨_,hn,rfl⟩
    simpa using hnt t this
   |const v=>exact .d _ _ (.lit v)
   |global g=>exact .d _ _ (.lit _)
   |func f=>exact .d _ _ (.fn (.func f) [] [] #[] #[] rfl rfl (fun i hi=>P7) (fun i hi=>P7))
  have hwant:Region.wanted ops[i] (yielded ops a.tmps)=false:=by
   unfold Region.wanted;obtain⟨j,want,d,v,hg,u,z,hv⟩:=hg;rw[hg];show(yielded ops a.tmps j==some want)=false;rw[ag6 j d _ ((M i _ L).2 j want hg) u z];rcases hv with rfl|rfl
   ·simp
   rfl
  rw[CY (by rw[hwant];simp)];exact⟨fun _ _=>trivial,hput _ _ ok H w hx.symm (.refl _ _) (.refl _) (by rw[hev];exact hmem) (.d _ _ (.lit _))⟩
 ·rintro l a w ⟨h1,ok,H,m,abL,J,hmem,hsz,hdf,h5,h6,h7⟩ hr
  have hall:∀n i,i<n→i<ops.size→l.getD i false=true:=by
   intro n
   induction n with
   |zero=>intro i hi;omega
   |succ n ih=>
    intro i hi hi2;by_cases hn:i<n
    ·exact ih i hn hi2
    have hin:i=n:=AA
    subst hin;rw[←Bool.not_eq_false];intro hf;have L:ops[i]? =some ops[i]:=by simp[hi2]
    have hmem:i∈Region.ready .any ops l:=by
     unfold Region.ready;rw[FU];refine⟨by simpa using hi2,?_⟩;have hil:i<l.size:=AA
     have hf':l.getD i true=false:=aPa
     rw[hf',L];simp only[Io,GL,Ii,MK];rw[U3];intro e he;cases hbe:Region.binds .any e with
     |false=>simp
     |true=>
      have hlt:=aeB i _ L e aAV hbe;rw[ih e.on AA AA];simp
    rw[hr]at hmem;simp at hmem
  refine⟨ok,H,σ',?_,hQ⟩;subst hend
  have hE:(U ops.size).ents=(U m).ents:=Y m ops.size abL (Dq _) (fun b h2 h3=>by
   rw[←PE];intro z
   exact absurd ((J b z h3).1 (hall (b+1) b AA h3)) AA)
  refine⟨by show Ch C ok H (U ops.size).ents w;rw[hE];exact hmem,by rw[Xc];exact hsz,hdf,by rw[yH];exact hh.base,fun t ht=>?_⟩;rw[Xc]at ht;by_cases hw:∃(j:Nat) (o:Oper),ops[j]? =some o∧o.dst=some t
  ·obtain⟨j,o,u,q⟩:=hw;have hjn:j<ops.size:=(GX.1 u).1;rw[Zc hinj u q ht ops.size hjn];exact h6 j o t u q (hall (j+1) j AA hjn)
  have hw':∀(j:Nat) (o:Oper),ops[j]? =some o→o.dst≠some t:=fun j o h1 h2=>hw ⟨j,o,h1,h2⟩;rw[Xe ops.size (fun j o _ u=>hw' j o u)];exact h5 t ht (fun j o u q=>absurd q (hw' j o u))
 ·unfold toCome;simp
 refine⟨BF,ok,H,0,Du _,fun b z _=>by simp[Array.getD],?_,hh.size,hh.defers.mono (fun b z=>⟨z,rfl⟩),fun t ht _=>?_,fun i o d _ _ hl=>?_,fun j o _ hl=>?_⟩
 ·exact⟨⟨hh.mem.fr.os,hh.mem.fr.tape,hh.mem.fr.output,hh.mem.fr.size,hh.mem.fr.block⟩,hh.mem.yR,hh.mem.yS,hh.mem.kP,hh.mem.names,hh.mem.hlen,fun k e h h1 h2=>(hh.mem.ent k e h h1 h2).drew,hh.mem.blk,hh.mem.DU⟩
 ·exact R.mono (w:=w) (ok:=ok) (w':={ w with drawn:=w.drawn+1 }) (fun b z=>⟨z,rfl⟩) (.refl _) (hh.slot t ht)
 ·simp[Array.getD]at hl
 simp[Array.getD]at hl
def aiE {bs:List Bool} (h:UR ops bs=true):Tt ops bs []=true:=by
 unfold Tt;unfold UR at h;simpa using h
def AQ.draw {id:Nat} {σ σ':Am} {Q:Exit→Am→Prop} {rs:List AV} {ess:List (List BA)} {bs:List Bool} (hm:P.follows .mixedOrders=true) (j:(Vs ops&&X6 ops&&X7 ops σ.slots.length&&Vw ops)=true) (q:UR ops bs=true)
 (h:Ep P ops ops.toList σ rs ess bs σ') (u:Q .normal σ'):AQ P (.region id ops true) σ Q:=
 AQ.awL hm j [] (aiE q) h (fun _ hi=>absurd hi Ei) u
end
def Ar (P:Program) (f:FuncId) (args:List AV) (E:List BA) (q:AV) (E':List BA):Prop:=
 ∀(ok:Nat→Prop) (X:List Nat) (H:List BO) (w:World) (j:Array Value),Ch ⟨w,ok,X,H⟩ ok H E w→j.size=args.length→(∀i,i<args.length→R ok w H (args.getD i .junk) (j.getD i undef))→
  Calls P f j w fun e w'=>∃v ok' H',e=.returned v∧Ch ⟨w,ok,X,H⟩ ok' H' E' w'∧R ok' w' H' q v
def Holds.avG {C:ES} {ok:Nat→Prop} {H:List BO} {σ:Am} {a:Act} {w:World} (h:Holds C ok H σ a w) (t:Nat):R ok w H (σ.slots.getD t .junk) (a.tmps.getD t undef):=h.get (.tmp t)
def Am.enter (args:List AV) (n:Nat) (E:List BA):Am:=⟨args++List.replicate (n-args.length) .junk,E,E.length⟩
def R.lit {ok:Nat→Prop} {w:World} {H:List BO} {u v:Value} (h:R ok w H (.d (.lit u)) v):v=u:=by
 cases h with |d _ _ h=>cases h;rfl
structure EM (P:Program) (t:TypeId) (agg:Bool) (size:Nat):Prop where
 agg:∀w,(isAgg t).run P w=.ok agg w
 size:∀w,(sizeOf t).run P w=.ok size w
def aO5 (P:Program) (t:TypeId) (agg:Bool) (size:Nat):Bool:=
 (match P.underlying t with |some (.struct _)|some (.array _ _)=>agg|some _=> !agg|none=>false)&&(match P.info? t with |some i=>decide (i.size=size)|none=>false)
def GI {P:Program} {t:TypeId} {agg:Bool} {size:Nat} (h:aO5 P t agg size=true):EM P t agg size:=by
 unfold aO5 at h;simp only[CW]at h;refine⟨fun w=>?_,fun w=>?_⟩
 ·have q:=h.1;cases u:P.underlying t with
  |none=>rw[u]at q;cases q
  |some d=>
   rw[u]at q;have e:(underlying t).run P w=.ok d w:=by simp[underlying,u]
   simp only[isAgg,FT,e,Fh];cases d<;>cases agg<;>simp_all
 have j:=h.2;cases hi:P.info? t with
 |none=>rw[hi]at j;cases j
 |some i=>
  rw[hi]at j;have :i.size=size:=WS
  simp[sizeOf,typeInfo,hi,this]
section
variable {P : Program} {o : Oper} {es : List BA}
def L8 {α:Type} {p:α→Prop} {a:α} (h:∀n∈[a],p n):p a:=h a BF
def Ef {α:Type} {p:α→Prop} {a b:α} (h:∀n∈[a,b],p n):p a∧p b:=⟨h a BF,h b BF⟩
def agB {x:Operand} {v:AV} (j:o.op=.move x):BU P o [(x,v)] es v es:=
 .pure fun _ _ a _ _ _ q=>⟨a.eval x,by simp[execOp,j],q (x,v) BF⟩
def ahr {x:Operand} {v:AV} (j:o.op=.assign x):BU P o [(x,v)] es v es:=
 .pure fun _ _ a _ _ _ q=>⟨a.eval x,by simp[execOp,j],q (x,v) BF⟩
def ad7 {c x y:Operand} {v:AV} (b:Bool) (q:b=true) (u:o.op=.pick c x y):BU P o [(c,.d (.lit (.bool b))),(x,v)] es v es:=
 .pure fun _ _ a _ _ _ j=>⟨a.eval x,by
  have :=(Ef j).1.lit;simp only at this
  simp[execOp,u,this,asBool,q],(Ef j).2⟩
def aed {c x y:Operand} {v:AV} (b:Bool) (q:b=false) (u:o.op=.pick c x y):BU P o [(c,.d (.lit (.bool b))),(y,v)] es v es:=
 .pure fun _ _ a _ _ _ j=>⟨a.eval y,by
  have :=(Ef j).1.lit;simp only at this
  simp[execOp,u,this,asBool,q],(Ef j).2⟩
def MC {op:BinOp} {t t':TypeId} {x y:Operand} {u v r:Value} (I:o.op=.binOp op t x y t') (h:∀w,(binOp op t u v).run P w=.ok r w) (J:u.oneCell'=true∧u matches .int _ _| .string _| .bool _):
 BU P o [(x,.d (.lit u)),(y,.d (.lit v))] es (.d (.lit r)) es:=
 .pure fun _ _ a w _ _ j=>⟨r,by
  have q:=(Ef j).1.lit;have z:=(Ef j).2.lit;simp only at q z
  have L:(eqGuard op t x y u v).run P w=.ok () w:=by
   unfold eqGuard;cases u<;>simp at J<;>(cases op<;>simp[pure,Sem.run_pure'])
  simp only[execOp,I,q,z,FT,L,h w,Fh,Gj],.d _ _ (.lit _)⟩
def aNY {op:UnOp} {t:TypeId} {x:Operand} {u r:Value} (q:o.op=.unOp op t x) (h:∀w,(Op.unary op u).run P w=.ok r w):BU P o [(x,.d (.lit u))] es (.d (.lit r)) es:=
 .pure fun _ _ a w _ _ z=>⟨r,by
  have j:=(L8 z).lit;simp only at j
  simp only[execOp,q,j,FT,h w,Fh,Gj],.d _ _ (.lit _)⟩
def aXX {s t:TypeId} {x:Operand} {u r:Value} (q:o.op=.convert s t x) (h:∀w,(convert s t u).run P w=.ok r w):BU P o [(x,.d (.lit u))] es (.d (.lit r)) es:=
 .pure fun _ _ a w _ _ z=>⟨r,by
  have j:=(L8 z).lit;simp only at j
  simp only[execOp,q,j,FT,h w,Fh,Gj],.d _ _ (.lit _)⟩
def aoI {x:Operand} {i:Nat} {xs:List AV} {v:AV} (J:o.op=.extract x i) (L:xs[i]? =some v):BU P o [(x,.eu xs)] es v es:=
 .pure fun ok H a w _ _ M=>by
  have q:=L8 M;simp only at q;generalize O:a.eval x=u at q;cases q with
  |eu _ vs hl h=>
   obtain⟨hi,z⟩:=FP.1 L;have I:=h i hi;have U:xs.getD i .junk=v:=by simp[List.getD,hi,z]
   have j:i<vs.size:=AA
   have Y:vs.getD i undef=vs[i]:=by simp[Array.getD,j]
   rw[U,Y]at I;exact⟨vs[i],by simp[execOp,J,O,Instr.extract,j],I⟩
def anz {x:Operand} {t e:TypeId} {xs:List D} (ht:P.underlying t=some (.slice e)) (q:o.op=.call { callee:=.builtin .len,args:= #[x],argTypes:= #[t] }):
 BU P o [(x,.d (.sl xs))] es (.d (.lit (.int .i64 xs.length))) es:=
 .pure fun ok H a w _ _ J=>by
  have j:=L8 J;simp only at j;generalize z:a.eval x=u at j;have I:(underlying t).run P w=.ok (.slice e) w:=OH
  refine⟨_,?_,.d _ _ (.lit _)⟩;cases j with
  |d _ _ h=>
   cases h with
   |sl0 ad cap=>simp[execOp,q,resolve,invoke,builtin,Builtin.len_,z,I,goInt]
   |sl _ b off cap size=>simp[execOp,q,resolve,invoke,builtin,Builtin.len_,z,I,goInt]
def apc {x:Operand} {t:TypeId} {s:ByteArray} (ht:P.underlying t=some .string) (q:o.op=.call { callee:=.builtin .len,args:= #[x],argTypes:= #[t] }):
 BU P o [(x,.d (.lit (.string s)))] es (.d (.lit (.int .i64 s.size))) es:=
 .pure fun ok H a w _ _ u=>by
  have j:=(L8 u).lit;simp only at j;have z:(underlying t).run P w=.ok .string w:=OH
  exact⟨_,by simp[execOp,q,resolve,invoke,builtin,Builtin.len_,j,z,goInt],.d _ _ (.lit _)⟩
def GR {es:List BA} {H:List BO} {ok:Nat→Prop} {w:World} (u:∀(k:Nat) (e:BA) (h:BO),es[k]? =some e→H[k]? =some h→Eo ok w H h e) (hl:H.length=es.length) {k:Nat} {e:BA} (q:es[k]? =some e):
 ∃h,H[k]? =some h∧Eo ok w H h e:=by
 have j:k<H.length:=by rw[hl];exact(FP.1 q).1
 exact⟨H[k],by simp[j],u k e _ q (by simp[j])⟩
def afl {x:Operand} {t e e':TypeId} {k s:Nat} {xs:List D} (U:es[k]? =some (.arr e' s xs)) (ht:P.underlying t=some (.slice e)) (Y:o.op=.call { callee:=.builtin .len,args:= #[x],argTypes:= #[t] }):
 BU P o [(x,.bn k)] es (.d (.lit (.int .i64 xs.length))) es:=
 .pure fun ok H a w j hl Z=>by
  have q:=L8 Z;simp only at q;generalize he:a.eval x=u at q;have hu:(underlying t).run P w=.ok (.slice e) w:=OH
  obtain⟨h,hh,z⟩:=GR j hl U;refine⟨_,?_,.d _ _ (.lit _)⟩;cases q with
  |bn _ ad n cap s' M=>
   rw[hh]at M;obtain rfl:=CV M;obtain⟨_,_,ys,⟨_,I⟩,_⟩:=z
   have J:n=xs.length:=by
    rcases I with⟨L,h3⟩|⟨g,O,cur,L,_⟩
    ·simp at L;omega
    simp at L;omega
   subst J;simp[execOp,Y,resolve,invoke,builtin,Builtin.len_,he,hu,goInt]
structure D7 (P:Program) (t:TypeId) (f off:Nat):Prop where
 run:∀(b o:Nat) w,(Instr.fieldAt t (.pointer (some ⟨b,o,none⟩)) f).run P w=.ok (.pointer (some ⟨b,o+off,none⟩)) w
def aTe (P:Program) (t:TypeId) (f off:Nat):Bool:=
 match P.underlying t with
 |some (.struct q)=>match q[f]? with
  |some j=>decide (j.offset=off)&&(match P.info? j.type with |some i=>decide (i.size≠0)|none=>false)
  |none=>false
 |_=>false
def DN {P:Program} {t:TypeId} {f off:Nat} (h:aTe P t f off=true):D7 P t f off:=by
 unfold aTe at h;refine⟨fun b o w=>?_⟩;split at h
 ·rename_i u z;split at h
  ·rename_i I J;simp only[CW,Gg]at h;obtain⟨L,j⟩:=h;split at j
   ·rename_i i hi;have hs:(sizeOf I.type).run P w=.ok i.size w:=by simp[sizeOf,typeInfo,hi]
    have M:i.size≠0:=WS
    have q:(underlying t).run P w=.ok (.struct u) w:=by simp[underlying,z]
    simp[Instr.fieldAt,q,J,Instr.sureAddr,fieldPlace,hs,M,addr_add,L]
   cases j
  cases h
 cases h
def ahi {x:Operand} {t:TypeId} {f off j:Nat} {cs:List D} (J:D7 P t f off) (L:o.op=.fieldAddr t x f):BU P o [(x,.d (.ref cs j))] es (.d (.ref cs (j+off))) es:=
 .pure fun ok H a w _ _ M=>by
  have q:=L8 M;simp only at q;generalize O:a.eval x=u at q;cases q with
  |d _ _ h=>
   cases h with
   |ref _ _ b p z I U Y=>
    refine⟨.pointer (some ⟨b,p+(j+off),none⟩),?_,.d _ _ (.ref cs (j+off) b p z I U Y)⟩;simp only[execOp,L,O,FT,J.run,Fh,Gj,Rx]
def aoi {x:Operand} {t:TypeId} {f off k j:Nat} (z:D7 P t f off) (I:o.op=.fieldAddr t x f):BU P o [(x,.ptr k j)] es (.ptr k (j+off)) es:=
 .pure fun ok H a w _ _ J=>by
  have q:=L8 J;simp only at q;generalize L:a.eval x=u at q;cases q with
  |ptr _ _ b s h=>
   refine⟨.pointer (some ⟨b,j+off,none⟩),?_,.ptr _ _ b s h⟩;simp only[execOp,I,L,FT,z.run,Fh,Gj]
def ak7 {x:Operand} {t:TypeId} {f off k i j:Nat} (z:D7 P t f off) (I:o.op=.fieldAddr t x f):BU P o [(x,.lD k i j)] es (.lD k i (j+off)) es:=
 .pure fun ok H a w _ _ J=>by
  have q:=L8 J;simp only at q;generalize L:a.eval x=u at q;cases q with
  |lD _ _ _ b n cap s h=>
   refine⟨.pointer (some ⟨b,i*s+(j+off),none⟩),?_,.lD _ _ _ b n cap s h⟩;simp only[execOp,I,L,FT,z.run,Fh,Gj,Rx]
def ap5 {x y:Operand} {t e:TypeId} {k:IntKind} {i:Int} {xs:List D} {J:D} {agg:Bool} {size:Nat} (ht:P.underlying t=some (.slice e)) (hT:EM P e agg size) (h0:0≤i) (hi:xs[i.toNat]? =some J) (hs:J.cells.length=size)
 (ho:o.op=.indexAddr t x y):BU P o [(x,.d (.sl xs)),(y,.d (.lit (.int k i)))] es (.d (.ref J.cells 0)) es:=
 .pure fun ok H a w _ _ Z=>by
  have L:=(Ef Z).1;have h2:=(Ef Z).2.lit;simp only at L h2;generalize he:a.eval x=u at L;have hu:(underlying t).run P w=.ok (.slice e) w:=OH
  obtain⟨z,M⟩:=FP.1 hi;cases L with
  |d _ _ h=>
   cases h with
   |sl0 ad cap=>simp at z
   |sl _ b off cap q hcap O U hf hx hc=>
    have hd:xs.getD i.toNat DT=J:=by simp[List.getD,z,M]
    have Y:q=size:=by rw[←U _ z,hd,hs]
    subst Y;refine⟨.pointer (some ⟨b,off+i.toNat*q+0,none⟩),?_,.d _ _ (.ref J.cells 0 b (off+i.toNat*q) (fun h=>O AA (by rw[hs]at h;exact h)) ?_ ?_ ?_)⟩
    ·have hlen:0≤i∧i<(xs.length:Int):=⟨h0,AA⟩
     simp only[execOp,ho,he,h2,Instr.indexAt,asIntOf,FT,Gj,hu,Fh,Sem.run_ite,hlen,and_self,Jg,hT.size,addr_add,Pq]
    ·intro j I;rw[hs]at I;rw[←hd];exact hf _ z j I
    ·intro j I;rw[hs]at I;rw[Rx];exact hx _ z j I
    intro j I;rw[hs]at I;rw[Rx,←hd];exact hc _ z j I
def ac7 {x y:Operand} {t e e':TypeId} {kd:IntKind} {i:Int} {k size:Nat} {xs:List D} {agg:Bool} (Z:es[k]? =some (.arr e' size xs)) (ht:P.underlying t=some (.slice e)) (hT:EM P e agg size) (h0:0≤i) (hi:i.toNat<xs.length)
 (ho:o.op=.indexAddr t x y):BU P o [(x,.bn k),(y,.d (.lit (.int kd i)))] es (.lD k i.toNat 0) es:=
 .pure fun ok H a w q hl L=>by
  have z:=(Ef L).1;have M:=(Ef L).2.lit;simp only at z M;generalize he:a.eval x=u at z;have hu:(underlying t).run P w=.ok (.slice e) w:=OH
  obtain⟨h,O,I⟩:=GR q hl Z;cases z with
  |bn _ ad n cap s' U=>
   rw[O]at U;obtain rfl:=CV U;obtain⟨hs,_,ys,⟨_,J⟩,_⟩:=I;simp only at hs;subst hs;rcases J with⟨j,h3⟩|⟨g,Y,cur,j,_⟩
   ·omega
   simp only[lT]at j;obtain⟨rfl,rfl,rfl⟩:=j;refine⟨.pointer (some ⟨g,i.toNat*s'+0,none⟩),?_,.lD _ _ _ _ _ _ _ O⟩;have hlen:0≤i∧i<(xs.length:Int):=⟨h0,AA⟩
   simp only[execOp,ho,he,M,Instr.indexAt,asIntOf,FT,Gj,hu,Fh,Sem.run_ite,hlen,and_self,Jg,hT.size,addr_add,JJ,Pq]
def acH {x y:Operand} {t:TypeId} {k:IntKind} {i:Int} {s:ByteArray} {c:UInt8} (ht:P.underlying t=some .string) (z:0≤i) (hi:s[i.toNat]? =some c) (I:o.op=.index t x y):
 BU P o [(x,.d (.lit (.string s))),(y,.d (.lit (.int k i)))] es (.d (.lit (.int .u8 c.toNat))) es:=
 .pure fun ok H a w _ _ j=>by
  have q:=(Ef j).1.lit;have u:=(Ef j).2.lit;simp only at q u;have J:(underlying t).run P w=.ok .string w:=OH
  exact⟨_,by simp only[execOp,I,q,u,Instr.index,asIntOf,FT,Gj,J,Fh,z,Jg,hi],.d _ _ (.lit _)⟩
def Iy (l:List AV):List D:=l.map fun | .d x=>x|_=>DT
def AV.Au:AV→Bool
 | .d _=>true
 |_=>false
def R.toD {ok:Nat→Prop} {w:World} {H:List BO} {x:AV} {v:Value} (h:R ok w H x v) (hd:x.Au=true):Dc ok w ((fun | .d x=>x|_=>DT) x) v:=by
 cases h with
 |d _ _ h=>exact h
 |_=>simp[AV.Au]at hd
def QD (agg:Bool) (cs:List D) (off n:Nat):D:=if agg then .agg ((cs.drop off).take n)else cs.getD off DT
def aBQ {P:Program} {ok:Nat→Prop} {w:World} {t:TypeId} {agg:Bool} {n b p off:Nat} {cs:List D} (M:EM P t agg n) (hn:off+n≤cs.length) (U:agg=false→n=1)
 (Y:∀i,i<cs.length→(cs.getD i DT).leaf=true) (Z:∀j,j<cs.length→(w.cell? ⟨b,p+j,none⟩).isSome=true) (O:∀j,j<cs.length→Dc ok w (cs.getD j DT) (cellAt w b (p+j))):
 ∃v,(Instr.loadAt t (.pointer (some ⟨b,p+off,none⟩))).run P w=.ok v w∧Dc ok w (QD agg cs off n) v:=by
 have q:∀j,j<cs.length→w.cell? ⟨b,p+j,none⟩=some (cellAt w b (p+j)):=by
  intro j I;have :=Z j I;obtain⟨u,hu⟩:=SG.1 this;simp[cellAt,hu]
 cases agg with
 |false=>
  have :=U rfl;subst this;refine⟨cellAt w b (p+off),?_,O off AA⟩;have L:=q off AA;simp[Instr.loadAt,Instr.sureAddr,loadVar,M.agg,L]
 |true=>
  let vs:Array Value:=((List.range n).map fun j=>cellAt w b (p+(off+j))).toArray
  have z:vs.size=n:=by simp[vs]
  have J:∀j,j<n→vs.getD j undef=cellAt w b (p+(off+j)):=by
   intro j I;simp[vs,Array.getD,I]
  refine⟨.agg vs,?_,?_⟩
  ·simp only[Instr.loadAt,Instr.sureAddr,FT,Gj,Fh]
   have h:=aiF (P:=P) w t b (p+off) vs (M.agg w) (by rw[z];exact M.size w) (fun j I=>by
    rw[z]at I;rw[J j I,Rx]
    exact q (off+j) AA)
   exact h
  simp only[QD,Jg];have hlen:((cs.drop off).take n).length=n:=Dh
  have L:∀i,i<n→((cs.drop off).take n).getD i DT=cs.getD (off+i) DT:=by
   intro i hi;simp[List.getD,MB hi,QA]
  refine .agg _ vs (by rw[hlen,z]) (fun i hi=>?_) (fun i hi=>?_)
  ·rw[hlen]at hi;rw[L i hi];exact Y _ AA
  rw[hlen]at hi;rw[L i hi,J i hi];exact O _ AA
def ajD {x:Operand} {t:TypeId} {agg:Bool} {n off:Nat} {cs:List D} (z:EM P t agg n) (I:off+n≤cs.length) (J:agg=false→n=1) (L:o.op=.load t x):
 BU P o [(x,.d (.ref cs off))] es (.d (QD agg cs off n)) es:=
 .pure fun ok H a w _ _ q=>by
  have j:=L8 q;simp only at j;generalize M:a.eval x=u at j;cases j with
  |d _ _ h=>
   cases h with
   |ref _ _ b p O U Y Z=>
    obtain⟨v,hr,hd⟩:=aBQ z I J U Y Z;exact⟨v,by simp only[execOp,L,M,FT,hr,Fh,Gj],.d _ _ hd⟩
def wS (l:List AV):(Iy l).length=l.length:=by simp[Iy]
def aYI {l:List AV} {i:Nat} (h:i<l.length):(Iy l).getD i DT=(fun | .d x=>x|_=>DT) (l.getD i .junk):=by
 simp[Iy,List.getD,h]
def aJh {ok:Nat→Prop} {w:World} {H:List BO} {h:BO} {cs:List AV} (O:Eo ok w H h (.box cs)) (hd:cs.all AV.Au=true):
 ∃b,h.v=.pointer (some ⟨b,0,none⟩)∧(∀i,i<(Iy cs).length→((Iy cs).getD i DT).leaf=true)∧(∀j,j<(Iy cs).length→(w.cell? ⟨b,0+j,none⟩).isSome=true)∧(∀j,j<(Iy cs).length→Dc ok w ((Iy cs).getD j DT) (cellAt w b (0+j))):=by
 obtain⟨b,vs,T,U,Y,Z,I⟩:=O;rw[DY]at hd
 have q:∀j,j<cs.length→w.cell? ⟨b,0+j,none⟩=some (vs.toList.getD j undef):=by
  intro j u;rw[JJ];have z:j<vs.size:=by simpa using(by omega:j<vs.toList.length)
  simp[World.cell?,Y,z,List.getD]
 refine⟨b,U,fun i hi=>?_,fun j u=>?_,fun j u=>?_⟩
 ·rw[wS]at hi;rw[aYI hi];have J:=(I i hi).1;have L:=hd (cs.getD i .junk) N7;cases M:cs.getD i .junk with
  |d x=>rw[M]at J;exact J
  |_=>rw[M]at L;simp[AV.Au]at L
 ·rw[wS]at u;rw[q j u];rfl
 rw[wS]at u;rw[aYI u];unfold cellAt;rw[q j u];exact(I j u).2.toD (hd (cs.getD j .junk) aKv)
def aeG {x:Operand} {t:TypeId} {agg:Bool} {k n off:Nat} {cs:List AV} (O:es[k]? =some (.box cs)) (hd:cs.all AV.Au=true) (U:EM P t agg n) (Y:off+n≤cs.length) (Z:agg=false→n=1) (ho:o.op=.load t x):
 BU P o [(x,.ptr k off)] es (.d (QD agg (Iy cs) off n)) es:=
 .pure fun ok H a w q hl z=>by
  have j:=L8 z;simp only at j;generalize he:a.eval x=u at j;obtain⟨h,hh,I⟩:=GR q hl O;obtain⟨b,J,hf,hx,hc⟩:=aJh I hd;cases j with
  |ptr _ _ b' s L=>
   rw[hh]at L;obtain rfl:=CV L;simp at J;subst J;obtain⟨v,M,hD⟩:=aBQ U (by rw[wS];exact Y) Z hf hx hc;rw[JJ]at M;exact⟨v,by simp only[execOp,ho,he,FT,M,Fh,Gj],.d _ _ hD⟩
def aRU {x:Operand} {t:TypeId} {k off:Nat} {cs:List AV} {v:AV} (Y:es[k]? =some (.box cs)) (Z:cs[off]? =some v) (hT:EM P t false 1) (ho:o.op=.load t x):BU P o [(x,.ptr k off)] es v es:=
 .pure fun ok H a w z hl J=>by
  have q:=L8 J;simp only at q;generalize he:a.eval x=u at q;obtain⟨h,hh,b,vs,T,M,h2,h3,h4⟩:=GR z hl Y;cases q with
  |ptr _ _ b' s O=>
   rw[hh]at O;obtain rfl:=CV O;simp at M;subst M;obtain⟨I,L⟩:=FP.1 Z;have U:=(h4 off I).2;have e1:cs.getD off .junk=v:=by simp[List.getD,I,L]
   have j:off<vs.size:=by simpa using(by omega:off<vs.toList.length)
   have e2:vs.toList.getD off undef=vs[off]:=by simp[List.getD,j]
   rw[e1,e2]at U;refine⟨vs[off],?_,U⟩;have hc:w.cell? ⟨b',off,none⟩=some vs[off]:=by simp[World.cell?,h2,j]
   simp[execOp,ho,he,Instr.loadAt,Instr.sureAddr,loadVar,hT.agg,hc]
end
def Ch.change {C:ES} {ok ok':Nat→Prop} {H H':List BO} {es es':List BA} {w w':World} (hm:Ch C ok H es w) (B:Nat→Prop)
 (hos:w'.os=w.os) (O:w'.tape=w.tape) (hout:w'.output=w.output) (q:w.heap.size≤w'.heap.size)
 (L:∀b,b<w.heap.size→¬B b→w'.heap[b]? =w.heap[b]?) (hB:∀b,B b→b<w.heap.size→¬ok b∧(C.w0.heap.size≤b∨b∈C.X))
 (hok:∀b,ok b→ok' b) (M:∀b,ok' b→ok b∨(w.heap.size≤b∧b<w'.heap.size)) (z:Names H H') (hlen:H'.length=es'.length)
 (I:∀(k:Nat) (e:BA) (h:BO),es'[k]? =some e→H'[k]? =some h→
  (es[k]? =some e∧H[k]? =some h∧(e.live=true→∀b,Cx h.v=some b→¬B b))∨
  (Eo ok' w' H' h e∧(e.live=true→∀b,Cx h.v=some b→¬ok' b∧b<w'.heap.size∧(C.w0.heap.size≤b∨b∈C.X)∧
   ∀(k':Nat) (e':BA) (h':BO),k'≠k→es'[k']? =some e'→e'.live=true→H'[k']? =some h'→Cx h'.v≠some b))):
 Ch C ok' H' es' w'∧ER ok w ok' w':=by
 have hg:ER ok w ok' w':=fun b j=>⟨hok b j,L b (hm.kP b j) (fun u=>(hB b u (hm.kP b j)).1 j)⟩
 refine⟨⟨⟨hos.trans hm.fr.os,O.trans hm.fr.tape,hout.trans hm.fr.output,Ed hm.fr.size q,fun k hk hx=>?_⟩,fun b j=>hok b (hm.yR b j),?_,?_,hm.names.trans z,hlen,?_,?_,?_⟩,hg⟩
 ·have hkw:k<w.heap.size:=Uu hk hm.fr.size;rw[L k hkw (fun j=>(hB k j hkw).2.elim (fun h=>AA) hx)];exact hm.fr.block k hk hx
 ·intro b j;rcases M b j with h|⟨h,_⟩
  ·exact hm.yS b h
  exact .inr (.inl (Ed hm.fr.size h))
 ·intro b j;rcases M b j with h|⟨_,h⟩
  ·exact Uu (hm.kP b h) q
  exact h
 ·intro k e h he hh;rcases I k e h he hh with⟨J,h2,h3⟩|⟨J,_⟩
  ·exact(hm.ent k e h J h2).mono hg z (fun hl b j=>L b (hm.blk k e h b J hl h2 j).2.1 (h3 hl b j))
  exact J
 ·intro k e h b he hl hh j;rcases I k e h he hh with⟨J,h2,h3⟩|⟨_,J⟩
  ·have :=hm.blk k e h b J hl h2 j;refine⟨fun u=>?_,Uu this.2.1 q,this.2.2⟩;rcases M b u with h4|⟨h4,_⟩
   ·exact this.1 h4
   omega
  exact⟨(J hl b j).1,(J hl b j).2.1,(J hl b j).2.2.1⟩
 intro k k' e e' h h' b he he' hl U hh hh' j u;apply Xa;intro Y;rcases I k e h he hh with⟨J,h2,h3⟩|⟨_,J⟩
 ·rcases I k' e' h' he' hh' with⟨Z,h2',h3'⟩|⟨_,Z⟩
  ·exact Y (hm.DU k k' e e' h h' b J Z hl U h2 h2' j u)
  exact(Z U b u).2.2.2 k e h Y he hl hh j
 exact(J hl b j).2.2.2 k' e' h' (fun e=>Y e.symm) he' U hh' u
def aBu {α:Type} {l:List α} {i:Nat} {z:α} (h:i<l.length):l.getD i z=l[i]:=by simp[List.getD,h]
def X9 {α:Type} {l:List α} {a x:α} {k:Nat} (h:(l++[a])[k]? =some x):l[k]? =some x∨(k=l.length∧x=a):=by
 by_cases q:k<l.length
 ·rw[Gq q]at h;exact .inl h
 have j:=(FP.1 h).1;simp at j;have :k=l.length:=AA
 subst this;simp at h;exact .inr ⟨rfl,h.symm⟩
def Ch.push {C:ES} {ok:Nat→Prop} {H:List BO} {es:List BA} {w:World} (hm:Ch C ok H es w) (o:Obj) (h:BO) (e:BA) (J:∀b,Cx h.v=some b→b=w.heap.size)
 (he:Eo ok (w.alloc o) (H++[h]) h e):Ch C ok (H++[h]) (es++[e]) (w.alloc o)∧ER ok w ok (w.alloc o):=by
 refine hm.change (fun _=>False) rfl rfl rfl BF (fun b J _=>Js _ _ _ J) (fun _ h=>h.elim) (fun _ h=>h) (fun _ h=>.inl h) (Names.push _ _) dI ?_;intro k e' h' L q;rcases X9 L with I|⟨I,h2⟩
 ·left;refine⟨I,?_,fun _ _ _ h=>h⟩;have M:k<H.length:=by rw[hm.hlen];exact(FP.1 I).1
  rwa [Gq M]at q
 subst h2;have M:k=H.length:=by rw[hm.hlen];exact I
 subst M;simp at q;subst q;refine .inr ⟨he,fun _ b O=>?_⟩;obtain rfl:=J b O;refine⟨fun u=>absurd (hm.kP _ u) AA,BF,.inl hm.fr.size,fun k' U Y Z hk' hl j z=>?_⟩;rcases X9 hk' with u|⟨u,_⟩
 ·have hk2:k'<H.length:=by rw[hm.hlen];exact(FP.1 u).1
  rw[Gq hk2]at j;exact absurd (hm.blk k' U Y _ u hl j z).2.1 AA
 rw[←hm.hlen]at u;exact Z u
def Ch.fresh {C:ES} {ok:Nat→Prop} {H:List BO} {es:List BA} {w:World} (hm:Ch C ok H es w) (o:Obj):
 Ch C (fun b=>ok b∨b=w.heap.size) H es (w.alloc o)∧ER ok w (fun b=>ok b∨b=w.heap.size) (w.alloc o):=by
 refine hm.change (fun _=>False) rfl rfl rfl BF (fun b j _=>Js _ _ _ j) (fun _ h=>h.elim) (fun _ h=>.inl h) (fun b h=>?_) (.refl _) hm.hlen ?_
 ·rcases h with h|rfl
  ·exact .inl h
  exact .inr ⟨Dq _,BF⟩
 intro k e h q u;exact .inl ⟨q,u,fun _ _ _ h=>h⟩
def Ch.drew {C:ES} {ok:Nat→Prop} {H:List BO} {es:List BA} {w:World} (hm:Ch C ok H es w):Ch C ok H es w.drew∧ER ok w ok w.drew:=
 hm.change (fun _=>False) rfl rfl rfl (Dq _) (fun _ _ _=>rfl) (fun _ h=>h.elim) (fun _ h=>h) (fun _ h=>.inl h) (.refl _) hm.hlen fun _ _ _ j q=>.inl ⟨j,q,fun _ _ _ h=>h⟩
def Eo.dead {ok:Nat→Prop} {w:World} {H:List BO} {h:BO}:Eo ok w H h .dead:=trivial
def R.ajx {ok:Nat→Prop} {w:World} {H:List BO} {x:AV} {v:Value} (h:R ok w H x v) (hl:x.cells.all AV.leaf=true):Ez ok w H x.cells v.cells.toList:=by
 rw[DY]at hl;cases h with
 |d x v h=>
  cases h with
  |agg cs vs hs L O=>
   refine⟨by simp[AV.cells,D.cells,Value.cells,hs],fun i hi=>?_⟩;simp only[AV.cells,D.cells,CG]at hi;have U:(AV.cells (.d (.agg cs))).getD i .junk=.d (cs.getD i DT):=by simp[AV.cells,D.cells,List.getD,hi]
   have z:i<vs.size:=AA
   have M:(Value.cells (.agg vs)).toList.getD i undef=vs.getD i undef:=aRq
   rw[U,M];exact⟨L i hi,.d _ _ (O i hi)⟩
  |lit v=>
   have q:=hl (.d (.lit v)) (by simp[AV.cells,D.cells]);have e:v.cells= #[v]:=by cases v<;>first|rfl|(simp[AV.leaf,D.leaf,Value.oneCell']at q)
   refine⟨by simp[AV.cells,D.cells,e],fun i hi=>?_⟩;simp[AV.cells,D.cells]at hi;subst hi;rw[e];exact⟨q,.d _ _ (.lit v)⟩
  |sl0 ad cap=>
   refine⟨rfl,fun i hi=>?_⟩;simp[AV.cells,D.cells]at hi;subst hi;exact⟨rfl,.d _ _ (.sl0 ad cap)⟩
  |sl es b off cap size q u I J Y Z=>
   refine⟨rfl,fun i hi=>?_⟩;simp[AV.cells,D.cells]at hi;subst hi;exact⟨rfl,.d _ _ (.sl es b off cap size q u I J Y Z)⟩
  |ref cs off b o q u I J=>
   refine⟨rfl,fun i hi=>?_⟩;simp[AV.cells,D.cells]at hi;subst hi;exact⟨rfl,.d _ _ (.ref cs off b o q u I J)⟩
  |fn f first cap vs us q u I J=>
   refine⟨rfl,fun i hi=>?_⟩;simp[AV.cells,D.cells]at hi;subst hi;exact⟨rfl,.d _ _ (.fn f first cap vs us q u I J)⟩
  |OV t x v q=>
   refine⟨rfl,fun i hi=>?_⟩;simp[AV.cells,D.cells]at hi;subst hi;exact⟨rfl,.d _ _ (.OV t x v q)⟩
 |ptr k off b s h=>
  exact⟨rfl,fun i hi=>by simp[AV.cells]at hi;subst hi;exact⟨rfl,.ptr k off b s h⟩⟩
 |bn k ad n cap s h=>
  exact⟨rfl,fun i hi=>by simp[AV.cells]at hi;subst hi;exact⟨rfl,.bn k ad n cap s h⟩⟩
 |lD k i off b n cap s h=>
  exact⟨rfl,fun j hi=>by simp[AV.cells]at hi;subst hi;exact⟨rfl,.lD k i off b n cap s h⟩⟩
 |fn f first cap vs us q u I J=>
  exact⟨rfl,fun i hi=>by simp[AV.cells]at hi;subst hi;exact⟨rfl,.fn f first cap vs us q u I J⟩⟩
 |mp k v s hl h=>
  have e:v.cells= #[v]:=by cases v<;>first|rfl|(simp[Value.oneCell']at hl)
  exact⟨by simp[AV.cells,e],fun j hi=>by simp[AV.cells]at hi;subst hi;rw[e];exact⟨rfl,.mp k v s hl h⟩⟩
 |clip xs ad h=>exact⟨rfl,fun i hi=>by simp[AV.cells]at hi;subst hi;exact⟨rfl,.clip xs ad h⟩⟩
 |xG k ad n cap s h=>exact⟨rfl,fun i hi=>by simp[AV.cells]at hi;subst hi;exact⟨rfl,.xG k ad n cap s h⟩⟩
 |eu xs vs q u=>have :=hl (.eu xs) (by simp[AV.cells]);simp[AV.leaf]at this
 |ag xs vs q L u=>
  refine⟨by simp[AV.cells,Value.cells,q],fun i hi=>?_⟩;have z:i<vs.size:=by rw[q];exact hi
  have M:(Value.cells (.agg vs)).toList.getD i undef=vs.getD i undef:=aRq
  rw[M];exact⟨L i hi,u i hi⟩
 |junk v=>have :=hl .junk (by simp[AV.cells]);simp[AV.leaf]at this
section
variable {P : Program} {o : Oper} {es : List BA}
def aBS (w:World):∀b,Cx (BO.v ⟨.pointer (some ⟨w.heap.size,0,none⟩),0⟩)=some b→b=w.heap.size:=fun b j=>by simpa[Cx]using j.symm
def BU.eff {ns:List (Operand×AV)} {x:AV} {es':List BA}
 (h:∀(C:ES) (ok:Nat→Prop) (H:List BO) (a:Act) (w:World),Ch C ok H es w→(∀n∈ns,R ok w H n.2 (a.eval n.1))→
  ∃v w' ok' H',((execOp a.eval o).run P w=.ok (.value v) w'∨(v=undef∧(execOp a.eval o).run P w=.ok .skip w'))∧ER ok w ok' w'∧Names H H'∧Ch C ok' H' es' w'∧R ok' w' H' x v):BU P o ns es x es':=by
 intro C ok H a w Q hm J;obtain⟨v,w',ok',H',j,q,u,z,I⟩:=h C ok H a w hm J;unfold Oper.wp;rcases j with j|⟨rfl,j⟩
 ·rw[j];exact⟨v,ok',H',rfl,q,u,z,I⟩
 rw[j];exact⟨undef,ok',H',rfl,q,u,z,I⟩
def alI {t:TypeId} {x:Operand} {v:AV} (hl:v.cells.all AV.leaf=true) (u:o.op=.box t x):BU P o [(x,v)] es (.ptr es.length 0) (es++[.box v.cells]):=
 .eff fun C ok H a w hm z=>by
  have q:=L8 z;simp only at q
  have j:Eo ok (w.alloc (.cells (a.eval x).cells t)) (H++[⟨.pointer (some ⟨w.heap.size,0,none⟩),0⟩]) ⟨.pointer (some ⟨w.heap.size,0,none⟩),0⟩ (.box v.cells):=
   ⟨w.heap.size,(a.eval x).cells,t,rfl,YO w _,(q.ajx hl).mono (fun b j=>⟨j,Js _ _ _ (hm.kP b j)⟩) (Names.push _ _)⟩
  obtain⟨I,J⟩:=hm.push (.cells (a.eval x).cells t) ⟨.pointer (some ⟨w.heap.size,0,none⟩),0⟩ _ (aBS w) j;refine⟨_,_,ok,_,.inl ?_,J,Names.push _ _,I,.ptr _ _ w.heap.size 0 QC⟩;simp[execOp,u,Instr.box,newVar,newRow]
def PK :Value→D
 | .slice none 0 0=>.sl []
 |v=>.lit v
def je {ok:Nat→Prop} {w:World} (v:Value):Dc ok w (PK v) v:=by
 unfold PK;split
 ·exact .sl0 none 0
 exact .lit v
def yF {v:Value} (h:v.oneCell'=true):(PK v).leaf=true:=by
 unfold PK;split
 ·rfl
 exact h
def Fb (z:Value):List AV:=z.cells.toList.map fun v=>.d (PK v)
def aom {t:TypeId} {z:Value} (q:(P.info? t).bind (·.zero)=some z) (hl:z.cells.all (·.oneCell')=true) (u:o.op=.alloc t):BU P o [] es (.ptr es.length 0) (es++[.box (Fb z)]):=
 .eff fun C ok H a w hm U=>by
  have I:Eo ok (w.alloc (.cells z.cells t)) (H++[⟨.pointer (some ⟨w.heap.size,0,none⟩),0⟩]) ⟨.pointer (some ⟨w.heap.size,0,none⟩),0⟩ (.box (Fb z)):=by
   refine⟨w.heap.size,z.cells,t,rfl,YO w _,by simp[Fb],fun i hi=>?_⟩;simp only[Fb,CG,Td]at hi;have J:(Fb z).getD i .junk=.d (PK z.cells[i]):=by simp[Fb,List.getD,hi]
   have L:z.cells.toList.getD i undef=z.cells[i]:=N7
   rw[J,L];exact⟨yF ((U3.1 hl) _ BF),.d _ _ (je _)⟩
  obtain⟨M,O⟩:=hm.push (.cells z.cells t) ⟨.pointer (some ⟨w.heap.size,0,none⟩),0⟩ _ (aBS w) I;refine⟨_,_,ok,_,.inl ?_,O,Names.push _ _,M,.ptr _ _ w.heap.size 0 QC⟩;obtain⟨i,hi,j⟩:=kG.1 q;simp[execOp,u,Instr.alloc,zeroValue,typeInfo,hi,j,newVar,newRow]
def LH {l:List BA} {k j:Nat} {a x:BA} (q:k<l.length) (h:(l.set k a)[j]? =some x):(j=k∧x=a)∨(j≠k∧l[j]? =some x):=by
 by_cases e:k=j
 ·subst e;simp[q]at h;exact .inl ⟨rfl,h.symm⟩
 rw[Y7 e]at h;exact .inr ⟨fun h'=>e h'.symm,h⟩
def Ch.upd {C:ES} {ok:Nat→Prop} {H:List BO} {w w':World} (hm:Ch C ok H es w) {k:Nat} {M e:BA} {h:BO} {b:Nat} (hk:es[k]? =some M) (I:M.live=true) (hh:H[k]? =some h) (hb:Cx h.v=some b)
 (hos:w'.os=w.os) (J:w'.tape=w.tape) (O:w'.output=w.output) (hsize:w'.heap.size=w.heap.size)
 (z:∀c,c≠b→w'.heap[c]? =w.heap[c]?) (he:ER ok w ok w'→Eo ok w' H h e):Ch C ok H (es.set k e) w'∧ER ok w ok w':=by
 have U:=hm.blk k M h b hk I hh hb;have hg:ER ok w ok w':=fun c q=>⟨q,z c (fun e=>U.1 (e▸q))⟩
 refine hm.change (fun c=>c=b) hos J O AA (fun c _ q=>z c q) (fun c q _=>by subst q;exact⟨U.1,U.2.2⟩) (fun _ h=>h) (fun _ h=>.inl h) (.refl _) dI ?_;intro j e' h' hj u;have Y:k<es.length:=(FP.1 hk).1;rcases LH Y hj with⟨rfl,rfl⟩|⟨L,Z⟩
 ·rw[hh]at u;obtain rfl:=CV u;refine .inr ⟨he hg,fun _ c q=>?_⟩;rw[hb]at q;obtain rfl:=CV q;refine⟨U.1,AA,U.2.2,fun k' e'' h'' L hk' hl' aGf aGg=>L ?_⟩;rcases LH Y hk' with⟨rfl,_⟩|⟨_,hk''⟩
  ·rfl
  exact hm.DU k' j e'' M h'' h b hk'' hk hl' I aGf hh aGg hb
 refine .inl ⟨Z,u,fun hl c q hcb=>L ?_⟩;subst hcb;exact hm.DU j k e' M h' h c Z hk hl I u hh q hb
def aMs (w:World) (g:Nat) (cs:Array Value) (k:Nat) (h:k≠g):(w.setRow g cs).heap[k]? =w.heap[k]? :=setRow_other w g k cs h
def setAt {α:Type} (cs:List α) (off:Nat) (ys:List α):List α:=cs.take off++ys++cs.drop (off+ys.length)
def Sj {α:Type} {cs ys:List α} {off:Nat} (h:off+ys.length≤cs.length):(setAt cs off ys).length=cs.length:=by simp[setAt];omega
def Xl {α:Type} {cs ys:List α} {off:Nat} (h:off+ys.length≤cs.length) (i:Nat) (z:α):(setAt cs off ys).getD i z=if off≤i∧i<off+ys.length then ys.getD (i-off) z else cs.getD i z:=by
 unfold setAt;have j:(cs.take off).length=off:=Dh
 by_cases hi:i<off
 ·rw[CY AA];simp only[List.getD];rw[Hw,Gq AA,MB hi]
 by_cases q:i<off+ys.length
 ·rw[CS AA];simp only[List.getD];rw[Hw,Ju AA,j,Gq AA]
 rw[CY AA];simp only[List.getD];rw[Ju Dh,QA];congr 2;simp;omega
def aTT {t:TypeId} {x y:Operand} {k off n:Nat} {cs:List AV} {v:AV} (hk:es[k]? =some (.box cs)) (hl:v.cells.all AV.leaf=true) (hs:∀w,(sizeOf t).run P w=.ok n w) (hn:v.cells.length=n) (hle:off+n≤cs.length) (ho:o.op=.store t x y):
 BU P o [(x,.ptr k off),(y,v)] es .junk (es.set k (.box (setAt cs off v.cells))):=
 .eff fun C ok H a w hm I=>by
  have U:=(Ef I).1;have h2:=(Ef I).2;simp only at U h2;generalize he:a.eval x=u at U;obtain⟨h,hh,Y⟩:=GR hm.ent hm.hlen hk;obtain⟨b,vs,T,hb,q,J,L⟩:=Y;have j:=h2.ajx hl;cases U with
  |ptr _ _ M s hH=>
   rw[hh]at hH;obtain rfl:=CV hH;simp at hb;subst hb;have z:(a.eval y).cells.toList.length=n:=by rw[j.1,hn]
   have aJQ:vs.size=cs.length:=Rs
   have Z:(a.eval y).cells.size=n:=Me
   have hst:=aIz (P:=P) M off T (a.eval y).cells.toList 0 vs w q (by rw[z];omega) (fun u hu=>by
    obtain⟨i,hi,rfl⟩:=Fv hu;have O:=j.2 i (by rw[←j.1];exact hi);have :=O.2.leaf O.1
    rwa [aBu hi]at this)
   simp only[Pq]at hst;have hlt:M<w.heap.size:=(GX.1 q).1
   obtain⟨h3,h4⟩:=hm.upd (e:=.box (setAt cs off v.cells)) (w':=w.setRow M (vs.toList.take off++(a.eval y).cells.toList++vs.toList.drop (off+(a.eval y).cells.toList.length)).toArray) hk rfl hh rfl rfl rfl rfl aNa (fun c hc=>aMs _ _ _ _ hc) (fun hg=>by
    refine⟨M,_,T,rfl,uT w M vs _ T (0,0) q,?_,fun i hi=>?_⟩
    ·have e1:(vs.toList.take off++(a.eval y).cells.toList++vs.toList.drop (off+(a.eval y).cells.toList.length))=setAt vs.toList off (a.eval y).cells.toList:=rfl;rw[e1,aAD,Sj (by have :=vs.length_toList;omega),Sj AA];simpa using J
    have e1:(vs.toList.take off++(a.eval y).cells.toList++vs.toList.drop (off+(a.eval y).cells.toList.length))=setAt vs.toList off (a.eval y).cells.toList:=rfl;rw[Sj AA]at hi;rw[e1,aAD,Xl (by have :=vs.length_toList;omega),Xl AA,z,hn];split
    ·have O:=j.2 (i-off) AA;exact⟨O.1,O.2.mono hg (.refl _)⟩
    exact⟨(L i hi).1,(L i hi).2.mono hg (.refl _)⟩)
   refine⟨undef,_,ok,H,.inr ⟨rfl,?_⟩,h4,.refl _,h3,.junk _⟩;simp only[execOp,ho,he,Instr.storeAt,Instr.sureAddr,storeVar,FT,Gj,Fh,hs,Z,ne_eq,not_true_eq_false,Jh,hst]
end
def UN (x:D) (es:List D):flat (x::es)=x.cells.map .d++flat es:=UQ
def iD (xs ys:List D):flat (xs++ys)=flat xs++flat ys:=UQ
def RJ {size:Nat}:∀{es:List D},(∀x∈es,x.cells.length=size)→(flat es).length=es.length*size
 | [],_=>UQ
 |x::es,h=>by
  rw[UN,EI,CG,h x BF,RJ (fun y j=>h y (FB _ j)),G7,VR,VO]
def flat_get {size:Nat}:∀{es:List D},(∀x∈es,x.cells.length=size)→∀i j,i<es.length→j<size→(flat es).getD (i*size+j) .junk=.d ((es.getD i DT).cells.getD j DT)
 | [],_,i,j,hi,_=>P7
 |x::es,h,0,j,_,u=>by
  have q:=h x BF;rw[UN,Nat.zero_mul,JJ];simp only[List.getD];rw[Gq (by simp[q,u])];have z:j<x.cells.length:=AA
  simp[z]
 |x::es,h,i+1,j,hi,u=>by
  have q:=h x BF;have I:=flat_get (fun y J=>h y (FB _ J)) i j G9 u;rw[UN];simp only[List.getD]at I ⊢;rw[Ju (by simp[q,VR];omega)];have e:(i+1)*size+j-(x.cells.map AV.d).length=i*size+j:=by simp[q,VR];omega
  rw[e,I];simp
section
variable {P : Program} {o : Oper} {es : List BA}
structure WY (w:World) (v:Value) (m size:Nat) (news:List Value):Prop where
 len:news.length=m*size
 one:∀u∈news,u.oneCell'=true
 at_:(∃ad c,v=.slice (some ad) m c∧∀(j:Nat) (u:Value),news[j]? =some u→w.cell? (ad.add j)=some u)∨(∃c,v=.slice none 0 c∧m=0)
def fD {ok:Nat→Prop} {w:World} (H:List BO) {ys:List D} {v:Value} {size:Nat} (h:Dc ok w (.sl ys) v) (hs:∀x∈ys,x.cells.length=size):
 ∃z,WY w v ys.length size z∧Ez ok w H (flat ys) z:=by
 cases h with
 |sl0 ad cap=>
  refine⟨[],⟨BF,BF,?_⟩,UQ,fun i hi=>aFS⟩;cases ad with
  |none=>exact .inr ⟨cap,rfl,rfl⟩
  |some ad=>exact .inl ⟨ad,cap,rfl,fun j u h=>IK⟩
 |sl _ b off cap q hcap hok hs' hf hx hc=>
  by_cases hy:ys=[]
  ·subst hy;refine⟨[],⟨BF,BF,.inl ⟨⟨b,off,none⟩,cap,rfl,fun j u h=>IK⟩⟩,UQ,fun i hi=>aFS⟩
  have J:0<ys.length:=ig.2 hy;have hsz:q=size:=by rw[←hs' 0 J];exact hs _ (by simp[List.getD,J])
  subst hsz;have hl:=RJ hs
  have key:∀k,k<ys.length*q→∃i j,k=i*q+j∧i<ys.length∧j<q:=by
   intro k I
   have hp:0<q:=by
    rcases WT q with h0|h0
    ·rw[h0,Nat.mul_zero]at I;omega
    exact h0
   exact⟨k/q,k % q,by rw[UZ];exact(yw k q).symm,yK (by rwa [UZ]at I),jv _ hp⟩
  let z:List Value:=(List.range (ys.length*q)).map fun k=>cellAt w b (off+k)
  have L:z.length=ys.length*q:=by simp[z]
  have O:∀k,k<ys.length*q→z.getD k undef=cellAt w b (off+k):=by
   intro k I;simp[z,List.getD,I]
  have M:Ez ok w H (flat ys) z:=by
   refine⟨by rw[L,hl],fun k I=>?_⟩;rw[hl]at I;obtain⟨i,j,rfl,hi,U⟩:=key k I;rw[flat_get hs i j hi U,O _ I];exact⟨hf i hi j U,.d _ _ (hc i hi j U)⟩
  refine⟨z,⟨L,fun u hu=>?_,.inl ⟨⟨b,off,none⟩,cap,rfl,fun k u I=>?_⟩⟩,M⟩
  ·obtain⟨k,I,rfl⟩:=Fv hu;have h5:=M.2 k (by rw[←M.1];exact I);have :=h5.2.leaf h5.1
   rwa [aBu I]at this
  obtain⟨Y,rfl⟩:=FP.1 I;rw[addr_add];have Z:k<ys.length*q:=by rw[←L];exact Y
  obtain⟨i,j,e,hi,U⟩:=key k Z;have hxx:=hx i hi j U;rw[←e]at hxx;obtain⟨u',hu'⟩:=SG.1 hxx;have :=O k Z;rw[aBu Y]at this;rw[this];simp[cellAt,hu']
structure Gw (P:Program) (t e:TypeId) (size bytes:Nat):Prop where
 und:P.underlying t=some (.slice e)
 info:∃i z,P.info? e=some i∧i.zero=some z∧i.size=size∧i.bytes=bytes∧z.cells.size=size
 pos:0<size
def aXZ (P:Program) (t e size j:Nat):Bool:=
 (match P.underlying t with |some (.slice e')=>decide (e'=e)|_=>false)&&(match P.info? e with |some i=>decide (i.size=size)&&decide (i.bytes=j)&&(match i.zero with |some z=>decide (z.cells.size=size)|none=>false)|none=>false)&&decide (0<size)
def NM {P:Program} {t e size j:Nat} (h:aXZ P t e size j=true):Gw P t e size j:=by
 unfold aXZ at h;simp only[CW,Gg]at h;obtain⟨⟨q,u⟩,J⟩:=h;refine⟨?_,?_,J⟩
 ·split at q
  ·rename_i e' L;rw[L];simp at q;rw[q]
  cases q
 split at u
 ·rename_i i hi;simp only[CW,Gg]at u;obtain⟨⟨M,O⟩,I⟩:=u;split at I
  ·rename_i z U;exact⟨i,z,hi,U,M,O,SV⟩
  cases I
 cases u
def ai3 {w:World} {t e:TypeId} {ty:TypeId} {size O:Nat} (hE:Gw P t e size O) {v:Value} {n:Nat} {xs:List Value} (L:w.ownsRow 0 e size v n xs) {x:Value} {m:Nat} {I:List Value} (q:WY w x m size I)
 (hb:(n+m)*O≤140737488355328) (hn:n+m≤maxLen):
 ∃v' w',(Builtin.append_ #[t,t] ty #[v,x]).run P w=.ok v' w'∧w'.ownsRow 0 e size v' (n+m) (xs++I)∧w.grownBy w' v.ownBlock∧(∀g,Cx v'=some g→Cx v=some g∨w.heap.size≤g):=by
 obtain⟨i,z,hi,hz,hs,Z,hzs⟩:=hE.info;rcases q.at_ with⟨ad,c,rfl,J⟩|⟨c,rfl,rfl⟩
 ·obtain⟨v',w',hr,ho',hg,hnil⟩:=run_append_own (P:=P) w 0 t ty e i z size O hE.und hi hz hs Z hzs hE.pos v n xs L ad m c I q.len J q.one hn hb (Du _);refine⟨v',w',hr,ho',hg,fun g U=>?_⟩;rcases L.2 with⟨rfl,rfl⟩|⟨g0,cap,cur,rfl,hbg,hg0,hnc,hcm,hcs,htake⟩
  ·have hx:xs=[]:=Gf (by simpa using L.1);subst hx;obtain⟨v2,w2,M,ho2,_,_⟩:=run_append_own (P:=P) w w.heap.size t ty e i z size O hE.und hi hz hs Z hzs hE.pos _ 0 [] (aEU w w.heap.size e size) ad m c I q.len J q.one hn hb (Dq _);rw[hr]at M;simp only[Result.ok.injEq]at M;obtain⟨rfl,rfl⟩:=M;rcases ho2.2 with⟨rfl,_⟩|⟨g',_,_,rfl,hle,_⟩
   ·simp[Cx]at U
   simp[Cx]at U;subst U;exact .inr hle
  by_cases Y:n+m≤cap
  ·have hfit:n*i.size+I.length≤cur.size:=by rw[q.len,hcs,hs,←XU];exact Jl _ Y
   have M:=run_append_room (P:=P) w t ty e i hE.und hi g0 n cap cur hg0 ad m c I (by rw[hs];exact q.len) J q.one Y hfit;rw[hr]at M;simp only[Result.ok.injEq]at M;obtain⟨rfl,rfl⟩:=M;exact .inl U
  have holds:∀(j:Nat) (u:Value),xs[j]? =some u→w.cell? ((⟨g0,0,none⟩:Addr).add j)=some u:=L.cells (g:=g0) rfl;have M:=run_append_grow (P:=P) w t ty e i z hE.und hi hz ⟨g0,0,none⟩ n cap xs (by rw[hs];exact L.1) holds ad m c I (by rw[hs];exact q.len) J AA (by unfold maxLen at hn;omega) (growslice_fits AA (by rw[Z];exact hb));rw[hr]at M;simp only[Result.ok.injEq]at M;obtain⟨rfl,rfl⟩:=M;simp[Cx]at U;subst U;exact .inr (Dq _)
 have hnews:I=[]:=Gf (by simpa using q.len);subst hnews;refine⟨v,w,?_,Vm,⟨rfl,rfl,rfl,Dq _,fun _ _ _=>rfl⟩,fun g hg=>.inl hg⟩;rcases L.2 with⟨rfl,rfl⟩|⟨g,cap,cur,rfl,_,_,hnc,_⟩
 ·simp[Builtin.append_,aCr hE.und,sizeOf,typeInfo,hi,Builtin.lenOf,Builtin.firstCells]
 simp[Builtin.append_,aCr hE.und,sizeOf,typeInfo,hi,Builtin.lenOf,Builtin.firstCells,hnc,storeCells]
def aN1 {w:World} {t e:TypeId} {ty:TypeId} {size I:Nat} (hE:Gw P t e size I) {v:Value} {n:Nat} {xs:List Value} (u:lM w e size v n xs) {x:Value} {m:Nat} {q:List Value} (j:WY w x m size q)
 (hb:(n+m)*I≤140737488355328) (hn:n+m≤maxLen):
 ∃v' w',(Builtin.append_ #[t,t] ty #[v,x]).run P w=.ok v' w'∧lM w' e size v' (n+m) (xs++q)∧w.grownBy w' v.ownBlock∧(∀g,Cx v'=some g→Cx v=some g∨w.heap.size≤g):=by
 rcases u.2 with h|⟨g,cap,cur,rfl,h0,hg0,hnc,hcm,hcs,U⟩
 ·obtain⟨v',w',h1,h2,Y,h4⟩:=ai3 (ty:=ty) hE ⟨u.1,.inl h⟩ j hb hn;exact⟨v',w',h1,.of h2,Y,h4⟩
 obtain⟨i,z,hi,hz,hs,hby,hzs⟩:=hE.info;have hlen:(xs++q).length=(n+m)*size:=by rw[EI,u.1,j.len,XU]
 rcases j.at_ with⟨ad,c,rfl,L⟩|⟨c,rfl,rfl⟩
 ·by_cases J:n+m≤cap
  ·have O:n*i.size+q.length≤cur.size:=by
    rw[j.len,hs,←XU];exact Ed (Jl _ J) hcs
   have hr:=run_append_room (P:=P) w t ty e i hE.und hi g n cap cur hg0 ad m c q (by rw[hs];exact j.len) L j.one J O;rw[hs]at hr O;refine⟨_,_,hr,⟨hlen,.inr ⟨g,cap,_,rfl,Du _,uT w g cur _ e _ hg0,J,hcm,?_,?_⟩⟩,⟨rfl,rfl,rfl,BF,fun k _ hk=>setRow_other w g k _ (fun e=>hk (by simp[Value.ownBlock,e]))⟩,fun g' M=>.inl M⟩
   ·simp only[lu,EI,FD,IV,Td];omega
   rw[U,←hlen];exact aFu
  obtain⟨v',w',h1,h2,Y⟩:=run_append_arg_grows (P:=P) w t ty e i z size I hE.und hi hz hs hby hzs hE.pos ⟨g,0,none⟩ n cap xs u.1 (u.cells (g:=g) rfl) ad m c q j.len L AA hn hb;refine⟨v',w',h1,.of h2,⟨Y.os,Y.tape,Y.output,Y.size,fun k hk _=>Y.block k hk BF⟩,fun g' M=>.inr ?_⟩;rcases h2.2 with⟨rfl,_⟩|⟨g2,_,_,rfl,hle2,_⟩
  ·simp[Cx]at M
  simp[Cx]at M;subst M;exact hle2
 have Z:q=[]:=Gf (by simpa using j.len);subst Z;refine⟨.slice (some ⟨g,0,none⟩) n cap,w,?_,TP,⟨rfl,rfl,rfl,Dq _,fun _ _ _=>rfl⟩,fun g hg=>.inl hg⟩;simp[Builtin.append_,aCr hE.und,sizeOf,typeInfo,hi,Builtin.lenOf,Builtin.firstCells,hnc,storeCells]
def Ch.turn {C:ES} {ok:Nat→Prop} {H:List BO} {w w':World} (hm:Ch C ok H es w) {k:Nat} {e0 e:BA} {h h':BO} (hk:es[k]? =some e0) (M:e0.live=true) (hh:H[k]? =some h)
 (hos:w'.os=w.os) (O:w'.tape=w.tape) (hout:w'.output=w.output) (U:w.heap.size≤w'.heap.size)
 (J:∀c,c<w.heap.size→Cx h.v≠some c→w'.heap[c]? =w.heap[c]?) (hb':∀g,Cx h'.v=some g→g<w'.heap.size∧(Cx h.v=some g∨w.heap.size≤g))
 (he:ER ok w ok w'→Eo ok w' (H++[h']) h' e):Ch C ok (H++[h']) (es.set k .dead++[e]) w'∧ER ok w ok w':=by
 have h0:=fun b hb=>hm.blk k e0 h b hk M hh hb;have hkl:k<es.length:=(FP.1 hk).1;have hg:ER ok w ok w':=fun c I=>⟨I,J c (hm.kP c I) (fun e=>(h0 c e).1 I)⟩
 refine hm.change (fun c=>Cx h.v=some c) hos O hout U J (fun c I _=>⟨(h0 c I).1,(h0 c I).2.2⟩) (fun _ h=>h) (fun _ h=>.inl h) (Names.push _ _) dI ?_;intro j e' hj' hj u;rcases X9 hj with h1|⟨h1,h2⟩
 ·have hjl:j<H.length:=by rw[hm.hlen];simpa using(FP.1 h1).1
  rw[Gq hjl]at u;rcases LH hkl h1 with⟨rfl,rfl⟩|⟨Y,h3⟩
  ·exact .inr ⟨trivial,fun h=>Gy⟩
  refine .inl ⟨h3,u,fun hl c I hcb=>Y ?_⟩;exact hm.DU j k e' e0 hj' h c h3 hk hl M u hh I hcb
 subst h2;have hk2:j=H.length:=by rw[hm.hlen];simpa using h1
 subst hk2;simp at u;subst u;refine .inr ⟨he hg,fun _ c I=>?_⟩;obtain⟨h3,q⟩:=hb' c I;refine⟨fun hok=>?_,h3,?_,fun k' e'' h'' Y hk' Z z L=>?_⟩
 ·rcases q with q|q
  ·exact(h0 c q).1 hok
  have :=hm.kP c hok;omega
 ·rcases q with q|q
  ·exact(h0 c q).2.2
  exact .inl (Ed hm.fr.size q)
 rcases X9 hk' with h5|⟨h5,_⟩
 ·have hkl':k'<H.length:=by rw[hm.hlen];simpa using(FP.1 h5).1
  rw[Gq hkl']at z;rcases LH hkl h5 with⟨rfl,rfl⟩|⟨hne',h6⟩
  ·cases Z
  rcases q with q|q
  ·exact hne' (hm.DU k' k e'' e0 h'' h c h6 hk Z M z hh L q)
  have :=(hm.blk k' e'' h'' c h6 Z z L).2.1;omega
 simp at h5;exact Y (by rw[h5,hm.hlen])
def wR {w:World} {e size n:Nat} {v:Value} {xs:List Value} (h:lM w e size v n xs) {g:Nat} (j:Cx v=some g):g<w.heap.size:=by
 rcases h.2 with⟨rfl,_⟩|⟨u,_,_,rfl,_,q,_⟩
 ·simp[Cx]at j
 simp[Cx]at j;subst j;exact(GX.1 q).1
def aJl {w:World} {e size n:Nat} {v:Value} {xs:List Value} (h:lM w e size v n xs):v.ownBlock=Cx v:=by
 rcases h.2 with⟨rfl,_⟩|⟨j,_,_,rfl,_⟩<;>rfl
def O5 {ok:Nat→Prop} {w:World} {H:List BO} {k:Nat} {v:Value} {h:BO} (q:R ok w H (.bn k) v) (u:H[k]? =some h):v=h.v:=by
 cases q with
 |bn _ ad n cap s j=>rw[u]at j;rw[CV j]
def alg {C:ES} {ok:Nat→Prop} {H:List BO} {w:World} (hm:Ch C ok H es w) {t ty e:TypeId} {size q k:Nat} {xs ys:List D} (hE:Gw P t e size q) (hk:es[k]? =some (.arr e size xs))
 {v x:Value} (hv:R ok w H (.bn k) v) {j:List Value} (L:WY w x ys.length size j) (I:Ez ok w H (flat ys) j) (hys:∀y∈ys,y.cells.length=size) (hb:(xs.length+ys.length)*q≤140737488355328) (hn:xs.length+ys.length≤maxLen):
 ∃v' w' H',(Builtin.append_ #[t,t] ty #[v,x]).run P w=.ok v' w'∧ER ok w ok w'∧Names H H'∧Ch C ok H' (es.set k .dead++[.arr e size (xs++ys)]) w'∧R ok w' H' (.bn es.length) v':=by
 obtain⟨h,hh,hok⟩:=GR hm.ent hm.hlen hk;obtain rfl:=O5 hv hh;obtain⟨h1,h2,Cc,z,hrs⟩:=hok;obtain⟨v',w',hr,J,M,O⟩:=aN1 (P:=P) (ty:=ty) hE z L hb hn
 obtain⟨h3,h4⟩:=hm.turn (h':=⟨v',size⟩) (e:=.arr e size (xs++ys)) hk rfl hh M.os M.tape M.output M.size (fun c hc hne=>M.block c hc (by rw[aJl z];exact fun e=>hne e.symm)) (fun g U=>⟨wR J U,O g U⟩) (fun Y=>by
  refine⟨rfl,fun y hy=>?_,Cc++j,Rs,?_⟩
  ·rcases Hd.1 hy with h|h
   ·exact h2 y h
   exact hys y h
  have Z:=hrs.mono Y (Names.push H [⟨v',size⟩]);have a2:=I.mono Y (Names.push H [⟨v',size⟩]);rw[iD];refine⟨by rw[EI,EI,Z.1,a2.1],fun i hi=>?_⟩;by_cases u:i<(flat xs).length
  ·have e1:(flat xs++flat ys).getD i .junk=(flat xs).getD i .junk:=by simp[List.getD,Gq u]
   have e2:(Cc++j).getD i undef=Cc.getD i undef:=by simp[List.getD,Gq (by rw[Z.1];exact u:i<Cc.length)]
   rw[e1,e2];exact Z.2 i u
  have hi3:i-(flat xs).length<(flat ys).length:=aMN
  have e1:(flat xs++flat ys).getD i .junk=(flat ys).getD (i-(flat xs).length) .junk:=by simp[List.getD,Ju (UU u)]
  have e2:(Cc++j).getD i undef=j.getD (i-(flat xs).length) undef:=by simp[List.getD,Ju (by rw[Z.1];omega:Cc.length≤i),Z.1]
  rw[e1,e2];exact a2.2 _ hi3)
 refine⟨v',w',_,hr,h4,Names.push _ _,h3,?_⟩;have hH:(H++[(⟨v',size⟩:BO)])[es.length]? =some ⟨v',size⟩:=QC
 rcases J.2 with⟨rfl,_⟩|⟨g',c',_,rfl,_⟩
 ·exact .bn _ _ _ _ size hH
 exact .bn _ _ _ _ size hH
def aiB {s x:Operand} {t e:TypeId} {size j k:Nat} {xs ys:List D} (hE:Gw P t e size j) (U:es[k]? =some (.arr e size xs)) (q:∀y∈ys,y.cells.length=size)
 (Y:(xs.length+ys.length)*j≤140737488355328) (Z:xs.length+ys.length≤maxLen) (ho:o.op=.call { callee:=.builtin .append,args:= #[s,x],argTypes:= #[t,t] }):
 BU P o [(s,.bn k),(x,.d (.sl ys))] es (.bn es.length) (es.set k .dead++[.arr e size (xs++ys)]):=
 .eff fun C ok H a w hm u=>by
  have L:=(Ef u).1;have M:=(Ef u).2;simp only at L M;have I:Dc ok w (.sl ys) (a.eval x):=by cases M with |d _ _ h=>exact h
  obtain⟨O,z,J⟩:=fD H I q;obtain⟨v',w',H',hr,r1,r2,r3,r4⟩:=alg (ty:=o.type) hm hE U L z J q Y Z;refine⟨v',w',ok,H',.inl ?_,r1,r2,r3,r4⟩;simp[execOp,ho,resolve,invoke,builtin,hr]
def aIp {C:ES} {ok:Nat→Prop} {H:List BO} {w:World} (hm:Ch C ok H es w) (e:TypeId) (size:Nat):
 Ch C ok (H++[⟨.slice none 0 0,size⟩]) (es++[.arr e size []]) w∧R ok w (H++[⟨.slice none 0 0,size⟩]) (.bn es.length) (.slice none 0 0):=by
 obtain⟨h,_⟩:=hm.change (ok':=ok) (w':=w) (H':=H++[⟨.slice none 0 0,size⟩]) (es':=es++[.arr e size []]) (fun _=>False) rfl rfl rfl (Dq _) (fun _ _ _=>rfl) (fun _ h=>h.elim) (fun _ h=>h) (fun _ h=>.inl h) (Names.push _ _) dI (by
  intro k e' h' u j;rcases X9 u with q|⟨q,I⟩
  ·have z:k<H.length:=by rw[hm.hlen];exact(FP.1 q).1
   rw[Gq z]at j;exact .inl ⟨q,j,fun _ _ _ h=>h⟩
  subst I;have z:k=H.length:=by rw[hm.hlen];exact q
  subst z;simp at j;subst j
  exact .inr ⟨⟨rfl,BF,[],⟨BF,.inl ⟨rfl,rfl⟩⟩,UQ,fun i hi=>aFS⟩,fun _ b J=>by simp[Cx]at J⟩)
 exact⟨h,.bn _ _ _ _ size QC⟩
def DV (e:TypeId) (size:Nat) (j:o.op=.assign (.const (.slice none 0 0))):BU P o [] es (.bn es.length) (es++[.arr e size []]):=
 .eff fun C ok H a w hm _=>by
  obtain⟨q,u⟩:=aIp hm e size;exact⟨.slice none 0 0,w,ok,_,.inl aPB,.refl _ _,Names.push _ _,q,u⟩
def aoS (j:o.op=.assign (.const (.slice none 0 0))):BU P o [] es (.d (.sl [])) es:=
 .pure fun _ _ a w _ _ _=>⟨.slice none 0 0,aPB,.d _ _ (.sl0 none 0)⟩
def ak9 (j:o.op=.move (.const (.slice none 0 0))):BU P o [] es (.d (.sl [])) es:=
 .pure fun _ _ a w _ _ _=>⟨.slice none 0 0,aPB,.d _ _ (.sl0 none 0)⟩
end
def aQV (off:Nat):∀(vs:List Value) (i:Nat) (cells:Array Value),off+i+vs.length≤cells.size→
 ((vs.zipIdx i).foldl (fun cs (p:Value×Nat)=>cs.setIfInBounds (off+p.2) p.1) cells).toList=setAt cells.toList (off+i) vs
 | [],i,cells,h=>by simp[setAt]
 |v::vs,i,cells,h=>by
  simp only[G7]at h;rw[List.zipIdx_cons,F5];rw[aQV off vs (i+1) _ Dh];simp only[aOR];have j:off+i<cells.toList.length:=Dh
  unfold setAt;rw[aL0,CS j];have q:(cells.toList.take (off+i)).length=off+i:=Dh
  have u:(List.take (off+i) cells.toList++v::List.drop (off+i+1) cells.toList).take (off+(i+1))=cells.toList.take (off+i)++[v]:=by
   rw[aNg,q,QB AA];have :off+(i+1)-(off+i)=1:=AA
   rw[this];simp
  have z:(List.take (off+i) cells.toList++v::List.drop (off+i+1) cells.toList).drop (off+(i+1)+vs.length)=cells.toList.drop (off+i+(vs.length+1)):=by
   rw[List.drop_append,q,rW AA];have :off+(i+1)+vs.length-(off+i)=vs.length+1:=AA
   rw[this];simp[aOj];congr 1;omega
  rw[u,z];simp
def NS :List (Nat×Operand)→List AV→List (Operand×AV)
 |(_,x)::j,v::vs=>(x,v)::NS j vs
 |_,_=>[]
def NI (place:Nat→Option (Nat×Nat)) (n:Nat):List (Nat×Operand)→List AV→Bool
 |(i,_)::j,v::vs=>(match place i with |some (off,s)=>decide (v.cells.length=s)&&decide (off+s≤n)&&v.cells.all AV.leaf|none=>false)&&NI place n j vs
 | [],[]=>true
 |_,_=>false
def Jz (place:Nat→Option (Nat×Nat)):List AV→List (Nat×Operand)→List AV→List AV
 |cs,(i,_)::j,v::vs=>Jz place (setAt cs ((place i).getD (0,0)).1 v.cells) j vs
 |cs,_,_=>cs
def Ez.setAt {ok:Nat→Prop} {w:World} {H:List BO} {cs ys:List AV} {vs us:List Value} {off:Nat} (h:Ez ok w H cs vs) (k:Ez ok w H ys us) (j:off+ys.length≤cs.length):Ez ok w H (setAt cs off ys) (setAt vs off us):=by
 refine⟨by rw[Sj (by rw[h.1,k.1];exact j),Sj j,h.1],fun i hi=>?_⟩;rw[Sj j]at hi;rw[Xl j,Xl (by rw[h.1,k.1];exact j),k.1];split
 ·exact k.2 _ AA
 exact h.2 i hi
def wQ {ok:Nat→Prop} {w:World} {H:List BO} {place:Nat→Option (Nat×Nat)} {a:Act}:∀(q:List (Nat×Operand)) (vs:List AV) (cs:List AV) (cells:Array Value),Ez ok w H cs cells.toList→NI place cs.length q vs=true→
 (∀n∈NS q vs,R ok w H n.2 (a.eval n.1))→∃j,Instr.fill place cells (q.map fun p=>(p.1,a.eval p.2))=some j∧Ez ok w H (Jz place cs q vs) j.toList
 | [],[],cs,cells,J,_,_=>⟨cells,rfl,J⟩
 | [],_::_,_,_,_,h,_=>by simp[NI]at h
 |_::_,[],_,_,_,h,_=>by simp[NI]at h
 |(i,x)::q,v::vs,cs,cells,J,h,M=>by
  simp only[NI,CW]at h;obtain⟨u,Y⟩:=h;cases hp:place i with
  |none=>rw[hp]at u;cases u
  |some os=>
   obtain⟨off,s⟩:=os;rw[hp]at u;simp only[CW,Gg]at u;obtain⟨⟨h3,h4⟩,Z⟩:=u;have O:Ez ok w H v.cells (a.eval x).cells.toList:=(M (x,v) (by simp[NS])).ajx Z;have hsz:(a.eval x).cells.size=s:=by have :=O.1;simp at this;omega
   have U:cells.size=cs.length:=by simpa using J.1
   have z:((a.eval x).cells.zipIdx.foldl (fun cs (p:Value×Nat)=>cs.setIfInBounds (off+p.2) p.1) cells).toList=setAt cells.toList off (a.eval x).cells.toList:=by
    rw[←Array.foldl_toList,Array.toList_zipIdx];exact aQV off (a.eval x).cells.toList 0 cells Dh
   have I:=J.setAt O (off:=off) AA;rw[←z]at I;obtain⟨j,hc,hR⟩:=wQ q vs (setAt cs off v.cells) _ I (by rw[Sj AA];exact Y) (fun n L=>M n (by simp[NS,L]));refine⟨j,?_,?_⟩
   ·simp only[Ip,Instr.fill,hp];rw[CY Dh];exact hc
   simp only[Jz,hp,MK];exact hR
def RF (z:Value) (n:Nat):List AV:=(List.range n).map fun k=>(Fb z).getD (k % z.cells.size) .junk
def aoQ {ok:Nat→Prop} {w:World} {H:List BO} {z:Value} {n:Nat} (hl:z.cells.all (·.oneCell')=true) (q:0<z.cells.size):Ez ok w H (RF z n) (((Array.range n).map (z.cells[· % z.cells.size]!)).toList):=by
 refine⟨by simp[RF],fun i hi=>?_⟩;have j:i<n:=by simpa[RF]using hi
 have hm:i % z.cells.size<z.cells.size:=jv _ q;have u:(RF z n).getD i .junk=.d (PK z.cells[i % z.cells.size]):=by simp[RF,Fb,List.getD,j,hm]
 have I:(((Array.range n).map (z.cells[· % z.cells.size]!)).toList).getD i undef=z.cells[i % z.cells.size]:=by simp[List.getD,j,hm]
 rw[u,I];exact⟨yF ((U3.1 hl) _ BF),.d _ _ (je _)⟩
def aGX {ok:Nat→Prop} {w:World} {H:List BO} {z:Value} (hl:z.cells.all (·.oneCell')=true):Ez ok w H (Fb z) z.cells.toList:=by
 refine⟨by simp[Fb],fun i hi=>?_⟩;simp only[Fb,CG,Td]at hi;have j:(Fb z).getD i .junk=.d (PK z.cells[i]):=by simp[Fb,List.getD,hi]
 have q:z.cells.toList.getD i undef=z.cells[i]:=N7
 rw[j,q];exact⟨yF ((U3.1 hl) _ BF),.d _ _ (je _)⟩
def aGu {P:Program} {w:World}:∀(l:List Field),(∀f∈l,(P.info? f.type).isSome=true)→
 (l.mapM fun f=>(do pure (f.offset,←sizeOf f.type):Sem (Nat×Nat))).run P w=.ok (l.map fun f=>(f.offset,P.cellsOf f.type)) w
 | [],_=>rfl
 |f::l,h=>by
  obtain⟨i,hi⟩:=SG.1 (h f BF);have j:=aGu (P:=P) (w:=w) l (fun g q=>h g ZM);have hs:(sizeOf f.type).run P w=.ok i.size w:=by simp[sizeOf,typeInfo,hi]
  have u:P.cellsOf f.type=i.size:=by simp[Program.cellsOf,hi]
  simp only[List.mapM_cons,FT,hs,Fh,Gj,j,Ip,u]
structure JE (P:Program) (t:TypeId) (places:List (Nat×Nat)) (z:Value):Prop where
 fields:∃fs,P.underlying t=some (.struct fs)∧(∀f∈fs.toList,(P.info? f.type).isSome=true)∧(fs.toList.map fun f=>(f.offset,P.cellsOf f.type))=places
 zero:(P.info? t).bind (·.zero)=some z
 one:z.cells.all (·.oneCell')=true
def aUP (P:Program) (t:TypeId) (j:List (Nat×Nat)):Bool:=
 match P.underlying t with
 |some (.struct q)=>q.toList.all (fun f=>(P.info? f.type).isSome)&&decide ((q.toList.map fun f=>(f.offset,P.cellsOf f.type))=j)
 |_=>false
def LZ {P:Program} {t:TypeId} {j:List (Nat×Nat)} {z:Value} (h:aUP P t j=true) (q:(P.info? t).bind (·.zero)=some z) (u:z.cells.all (·.oneCell')=true):JE P t j z:=by
 unfold aUP at h;split at h
 ·rename_i I J;simp only[CW,DY,Gg]at h;exact⟨⟨I,J,h.1,h.2⟩,q,u⟩
 cases h
section
variable {P : Program} {o : Oper} {es : List BA}
def aFq {t:TypeId} {z:Value} (q:(P.info? t).bind (·.zero)=some z) (w:World):(zeroValue t).run P w=.ok z w:=by
 obtain⟨i,hi,j⟩:=kG.1 q;simp[zeroValue,typeInfo,hi,j]
def aah {l:List AV} (h:l.all AV.Au=true):l=(Iy l).map .d:=by
 rw[DY]at h;unfold Iy;rw[Uh]
 conv=>lhs;rw[←aCj l]
 refine XZ fun x j=>?_;have :=h x j;cases x<;>first|rfl|(simp[AV.Au]at this)
def ahn {t:TypeId} {q:Array (Nat×Operand)} {j:List (Nat×Nat)} {z:Value} (hS:JE P t j z) (vs:List AV) (hp:NI (fun(i:Nat)=>j[i]?) (Fb z).length q.toList vs=true) (ho:o.op=.build t q):
 BU P o (NS q.toList vs) es (.ag (Jz (fun(i:Nat)=>j[i]?) (Fb z) q.toList vs)) es:=
 .pure fun ok H a w _ _ hn=>by
  obtain⟨⟨Y,hu,hf,J⟩,hz,h1⟩:=hS;have L:=aFq (P:=P) hz w;have M:(underlying t).run P w=.ok (.struct Y) w:=aDm
  have hm:(Y.mapM fun f=>(do pure (f.offset,←sizeOf f.type):Sem (Nat×Nat))).run P w=.ok j.toArray w:=by
   rw[aNz];rw[yZ,aGu _ hf,J];rfl
  obtain⟨u,hc,I⟩:=wQ (place:=fun(i:Nat)=>j[i]?) q.toList vs (Fb z) z.cells (aGX (ok:=ok) (w:=w) (H:=H) h1) hp hn;refine⟨.agg u,?_,.ag _ _ (by simpa using I.1) (fun i hi=>(I.2 i hi).1) (fun i hi=>?_)⟩
  rotate_left
  ·have Z:=(I.2 i hi).2;have O:i<u.size:=by have :=I.1;simp at this;omega
   have U:u.toList.getD i undef=u.getD i undef:=by simp[List.getD,Array.getD,O]
   rw[U]at Z;exact Z
  have e:(q.map fun(i,x)=>(i,a.eval x)).toList=q.toList.map fun p=>(p.1,a.eval p.2):=BF
  have U:(fun(i:Nat)=>j.toArray[i]?)=(fun(i:Nat)=>j[i]?):=by funext i;simp
  simp only[execOp,ho,Instr.build,FT,L,M,hm,Fh];rw[e,U,hc];rfl
def anJ {t:TypeId} {q:Array (Nat×Operand)} {j:List (Nat×Nat)} {z:Value} (hS:JE P t j z) (vs:List AV) (hp:NI (fun(i:Nat)=>j[i]?) (Fb z).length q.toList vs=true)
 (hd:(Jz (fun(i:Nat)=>j[i]?) (Fb z) q.toList vs).all AV.Au=true) (ho:o.op=.build t q):
 BU P o (NS q.toList vs) es (.d (.agg (Iy (Jz (fun(i:Nat)=>j[i]?) (Fb z) q.toList vs)))) es:=
 .pure fun ok H a w _ _ hn=>by
  obtain⟨⟨fs,hu,hf,I⟩,hz,h1⟩:=hS;have J:=aFq (P:=P) hz w;have L:(underlying t).run P w=.ok (.struct fs) w:=aDm
  have hm:(fs.mapM fun f=>(do pure (f.offset,←sizeOf f.type):Sem (Nat×Nat))).run P w=.ok j.toArray w:=by
   rw[aNz];rw[yZ,aGu _ hf,I];rfl
  obtain⟨u,hc,M⟩:=wQ (place:=fun(i:Nat)=>j[i]?) q.toList vs (Fb z) z.cells (aGX (ok:=ok) (w:=w) (H:=H) h1) hp hn;refine⟨.agg u,?_,.d _ _ ?_⟩
  ·have e:(q.map fun(i,x)=>(i,a.eval x)).toList=q.toList.map fun p=>(p.1,a.eval p.2):=BF
   have e2:(fun(i:Nat)=>j.toArray[i]?)=(fun(i:Nat)=>j[i]?):=by funext i;simp
   simp only[execOp,ho,Instr.build,FT,J,L,hm,Fh];rw[e,e2,hc];rfl
  rw[aah hd]at M;generalize Iy (Jz (fun(i:Nat)=>j[i]?) (Fb z) q.toList vs)=xs at M ⊢;obtain⟨h2,O⟩:=M;simp only[CG]at h2 O
  have hg:∀i,i<xs.length→(xs.map AV.d).getD i .junk=.d (xs.getD i DT):=by
   intro i hi;simp[List.getD,hi]
  have U:u.size=xs.length:=uF
  refine .agg xs u U ?_ ?_<;>intro i hi
  ·have :=(O i hi).1;rw[hg i hi]at this;exact this
  have Y:=(O i hi).2;rw[hg i hi]at Y;have Z:i<u.size:=AA
  have e:u.toList.getD i undef=u.getD i undef:=by simp[List.getD,Array.getD,Z]
  rw[e]at Y;cases Y with |d _ _ h=>exact h
def acr {ok:Nat→Prop} {w:World} {H:List BO} {ys:List D} {size b:Nat} {cells:Array Value} {e:TypeId} {fr:Nat×Nat} (u:∀y∈ys,y.cells.length=size) (O:w.heap[b]? =some (.cells cells e fr)) (z:ok b) (I:Ez ok w H (flat ys) cells.toList):
 Dc ok w (.sl ys) (.slice (some ⟨b,0,none⟩) ys.length ys.length):=by
 have hl:=RJ u;have J:cells.size=ys.length*size:=by have :=I.1;simp at this;omega
 have U:∀i,i<ys.length→ys.getD i DT∈ys:=fun i hi=>N7
 have L:∀i j,i<ys.length→j<size→i*size+j<ys.length*size:=by
  intro i j hi q
  calc i*size+j<i*size+size:=AA
   _=(i+1)*size:=by rw[VR]
   _≤ys.length*size:=Jl _ hi
 have M:∀i j,i<ys.length→j<size→w.cell? ⟨b,0+(i*size+j),none⟩=some (cells.toList.getD (i*size+j) undef):=by
  intro i j hi q;have :=L i j hi q;rw[JJ];simp[World.cell?,O,J,this,List.getD]
 refine .sl ys b 0 ys.length size (Dq _) (fun _ _=>z) (fun i hi=>u _ (U i hi)) (fun i hi j q=>?_) (fun i hi j q=>?_) (fun i hi j q=>?_)
 ·have :=(I.2 (i*size+j) (by rw[hl];exact L i j hi q)).1;rw[flat_get u i j hi q]at this;exact this
 ·rw[M i j hi q];rfl
 have :=(I.2 (i*size+j) (by rw[hl];exact L i j hi q)).2;rw[flat_get u i j hi q]at this;unfold cellAt;rw[M i j hi q];cases this with |d _ _ h=>exact h
def aQ0 {t e:TypeId} {size u len:Nat} {z:Value} (hE:Gw P t e size u) (hz:(P.info? e).bind (·.zero)=some z) (h1:z.cells.all (·.oneCell')=true) (Y:z.cells.size=size) (hlen:len*size≤16777216) {j:Array (Nat×Operand)} {vs:List AV}
 (hp:NI (fun i=>some (i*size,size)) (len*size) j.toList vs=true) {ok:Nat→Prop} {w:World} {H:List BO} {a:Act} (hn:∀n∈NS j.toList vs,R ok w H n.2 (a.eval n.1)):
 ∃cells,(Instr.buildSlice t len (j.map fun(i,x)=>(i,a.eval x))).run P w=.ok (.slice (some ⟨w.heap.size,0,none⟩) len len) (w.alloc (.cells cells e))∧Ez ok w H (Jz (fun i=>some (i*size,size)) (RF z (len*size)) j.toList vs) cells.toList:=by
 obtain⟨i,z',hi,_,hs,_,_⟩:=hE.info;have Z:=aFq (P:=P) hz w;have I:(sizeOf e).run P w=.ok size w:=aI9
 have J:(underlying t).run P w=.ok (.slice e) w:=aHe
 have e0:(j.map fun(i,x)=>(i,a.eval x)).toList=j.toList.map fun p=>(p.1,a.eval p.2):=BF
 have hzl:(RF z (len*size)).length=len*size:=by simp[RF]
 have L:0<z.cells.size:=by rw[Y];exact hE.pos
 obtain⟨q,hc,hR⟩:=wQ (place:=fun i=>some (i*size,size)) j.toList vs (RF z (len*size)) _ (aoQ (ok:=ok) (w:=w) (H:=H) (n:=len*size) h1 L) (by rw[hzl];exact hp) hn;refine⟨q,?_,hR⟩;have M:¬(len*size>2^24):=AA
 by_cases O:len*size=0
 ·have hr0:(Array.range (len*size)).map (fun k=>(z.cells[k % z.cells.size]! :Value))= #[]:=by rw[O];simp
  rw[hr0]at hc;have U:(Array.range (len*size)).map (fun k=>((#[]:Array Value)[k % (#[]:Array Value).size]! :Value))= #[]:=by rw[O];simp
  simp only[Instr.buildSlice,FT,J,Fh,I,M,Jh,Sem.run_ite,O,Jg,Gj];simp only[O]at U;rw[U,e0,hc];rfl
 simp only[Instr.buildSlice,FT,J,Fh,I,M,Jh,Sem.run_ite,O,Z,Gj];rw[e0,hc];rfl
def amW {t e:TypeId} {size q len:Nat} {z:Value} (hE:Gw P t e size q) (O:(P.info? e).bind (·.zero)=some z) (U:z.cells.all (·.oneCell')=true) (J:z.cells.size=size) (hlen:len*size≤16777216) {j:Array (Nat×Operand)} (vs:List AV) (ys:List D)
 (hp:NI (fun i=>some (i*size,size)) (len*size) j.toList vs=true) (L:Jz (fun i=>some (i*size,size)) (RF z (len*size)) j.toList vs=flat ys) (hl:ys.length=len) (u:ys.all (fun y=>decide (y.cells.length=size))=true) (Y:o.op=.buildSlice t len j):
 BU P o (NS j.toList vs) es (.d (.sl ys)) es:=
 .eff fun C ok H a w hm Z=>by
  obtain⟨cells,hr,I⟩:=aQ0 hE O U J hlen hp Z;rw[L]at I;obtain⟨h2,M⟩:=hm.fresh (.cells cells e);refine⟨.slice (some ⟨w.heap.size,0,none⟩) len len,_,_,H,.inl ?_,M,.refl _,h2,.d _ _ ?_⟩
  ·simp only[execOp,Y,FT,hr,Fh,Gj]
  rw[←hl];exact acr (H:=H) (fun y L=>by rw[DY]at u;simpa using u y L) (YO w _) (.inr rfl) (I.mono M (.refl _))
def aUu {t e:TypeId} {size q len:Nat} {z:Value} (hE:Gw P t e size q) (hz:(P.info? e).bind (·.zero)=some z) (h1:z.cells.all (·.oneCell')=true) (U:z.cells.size=size) (hlen:len*size≤16777216) {j:Array (Nat×Operand)} (vs:List AV) (ys:List D)
 (hp:NI (fun i=>some (i*size,size)) (len*size) j.toList vs=true) (Y:Jz (fun i=>some (i*size,size)) (RF z (len*size)) j.toList vs=flat ys) (hl:ys.length=len) (I:ys.all (fun y=>decide (y.cells.length=size))=true) (ho:o.op=.buildSlice t len j):
 BU P o (NS j.toList vs) es (.bn es.length) (es++[.arr e size ys]):=
 .eff fun C ok H a w hm hn=>by
  obtain⟨cells,hr,u⟩:=aQ0 hE hz h1 U hlen hp hn;rw[Y]at u;have J:∀y∈ys,y.cells.length=size:=fun y Y=>by rw[DY]at I;simpa using I y Y
  have hfl:=RJ J;have L:cells.size=ys.length*size:=by have :=u.1;simp at this;omega
  have M:=hE.pos
  have Z:ys.length≤16777216:=by
   have :ys.length*1≤ys.length*size:=Nat.mul_le_mul_left _ M;rw[hl]at this ⊢;omega
  obtain⟨h2,h3⟩:=hm.push (.cells cells e) ⟨.slice (some ⟨w.heap.size,0,none⟩) len len,size⟩ (.arr e size ys) (fun b O=>by simpa[Cx]using O.symm) (by
   refine⟨rfl,J,cells.toList,⟨Vm,.inr ⟨w.heap.size,len,cells,by rw[hl],Du _,YO w _,AA,aDM,Yc (by rw[L,hl]),?_⟩⟩,?_⟩
   ·rw[QB Dh]
   exact u.mono (fun b O=>⟨O,Js _ _ _ (hm.kP b O)⟩) (Names.push _ _))
  refine⟨.slice (some ⟨w.heap.size,0,none⟩) len len,_,ok,_,.inl ?_,h3,Names.push _ _,h2,.bn _ _ _ _ size QC⟩;simp only[execOp,ho,FT,hr,Fh,Gj]
end
section
variable {P : Program} {ops : Array Oper} {Q : Exit → Act → World → Prop} {φ : Nat → Value → World → Prop} {W : World} {a0 : Act} {i : Nat}
variable {d : Option Tmp} {t : TypeId} {p : String} {af : Array Edge} {g : Option (Nat × Bool)}
def Enters (P:Program) (f:FuncId):Prop:=∀args w,(callFunc f args).run P w=.ok (.enter f args) w
def enters_of {f:FuncId} {fn:Func} {c:Code} (q:P.funcs[f]? =some fn) (j:(fn.name== "runtime.NumGoroutine")=false) (u:fn.body=some c):Enters P f:=by
 intro args w;have z:fn.name≠ "runtime.NumGoroutine" :=WS
 simp[callFunc,q,z,u]
def BD (P:Program) (f:FuncId):Bool:=match P.funcs[f]? with
 |some fn=> !(fn.name== "runtime.NumGoroutine")&&fn.body.isSome
 |none=>false
def TG {f:FuncId} (h:BD P f=true):Enters P f:=by
 unfold BD at h;cases j:P.funcs[f]? with
 |none=>rw[j]at h;cases h
 |some fn=>
  rw[j]at h;simp only[CW,MF]at h;obtain⟨c,q⟩:=SG.1 h.2;exact enters_of j h.1 q
def nK {o:Oper} {a:Act} {f:FuncId} {ats:Array TypeId} {aJZ:Array Operand} (j:o.op=.call { callee:=.value (.func f),args:=aJZ,argTypes:=ats }):execOp a.eval o=callFunc f (aJZ.map a.eval):=by
 have q:a.eval (.func f)=.func (.func f) #[] #[]:=rfl;unfold execOp;simp[j,resolve,Deferred.ofValue,invoke,q]
end
inductive Dj where
 |ent (k:Nat)
 |nil (size:Nat)
def Dj.hd (H:List BO):Dj→BO
 | .ent k=>H.getD k ⟨undef,0⟩
 | .nil s=>⟨.slice none 0 0,s⟩
def AV.UL (srcs:List Dj) (n:Nat):AV→AV
 | .d x=>.d x
 | .ptr k off=>match srcs[k]? with |some (.ent j)=>.ptr j off|some (.nil _)=>.junk|none=>.ptr (n+(k-srcs.length)) off
 | .bn k=>match srcs[k]? with |some (.ent j)=>.bn j|some (.nil _)=>.junk|none=>.bn (n+(k-srcs.length))
 | .lD k i off=>match srcs[k]? with |some (.ent j)=>.lD j i off|some (.nil _)=>.junk|none=>.lD (n+(k-srcs.length)) i off
 | .mp k=>match srcs[k]? with |some (.ent j)=>.mp j|some (.nil _)=>.junk|none=>.mp (n+(k-srcs.length))
 | .xG k=>match srcs[k]? with |some (.ent j)=>.xG j|some (.nil _)=>.junk|none=>.xG (n+(k-srcs.length))
 | .clip xs=>.clip xs
 |_=>.junk
def AV.up (srcs:List Dj) (n:Nat):AV→AV
 | .eu xs=>.eu (xs.map (AV.UL srcs n))
 | .fn f fi ca=>.fn f (fi.map (AV.UL srcs n)) (ca.map (AV.UL srcs n))
 |x=>x.UL srcs n
def aOg (srcs:List Dj):AV→AV→Prop
 | .d x,y=>y=.d x
 | .ptr k off,y=>∃i,y=.ptr i off∧srcs[i]? =some (.ent k)
 | .mp k,y=>∃i,y=.mp i∧srcs[i]? =some (.ent k)
 |_,_=>False
def pz (srcs:List Dj):List AV→List AV→Prop
 |x::xs,y::ys=>aOg srcs x y∧pz srcs xs ys
 | [],[]=>True
 |_,_=>False
def mM {srcs:List Dj}:∀{xs ys:List AV},pz srcs xs ys→xs.length=ys.length
 | [],[],_=>rfl
 |_::xs,_::ys,h=>by simp[mM h.2]
 | [],_::_,h=>h.elim
 |_::_,[],h=>h.elim
def aJv {srcs:List Dj}:∀{xs ys:List AV},pz srcs xs ys→∀i,i<ys.length→aOg srcs (xs.getD i .junk) (ys.getD i .junk)
 | [],[],_,i,hi=>P7
 |_::xs,_::ys,h,0,_=>by simpa using h.1
 |_::xs,_::ys,h,i+1,hi=>by simpa using aJv h.2 i G9
 | [],_::_,h,_,_=>h.elim
 |_::_,[],h,_,_=>h.elim
def aU2 (srcs:List Dj):AV→AV→Prop
 | .fn f fi ca,y=>∃j q,y=.fn f j q∧pz srcs fi j∧pz srcs ca q
 | .d x,y=>y=.d x∨(∃i s,x=.lit (.slice none 0 0)∧y=.bn i∧srcs[i]? =some (.nil s))∨(x=.lit (.slice none 0 0)∧y=.d (.sl []))
 | .bn k,y=>∃i,y=.bn i∧srcs[i]? =some (.ent k)
 | .ptr k off,y=>∃i,y=.ptr i off∧srcs[i]? =some (.ent k)
 | .mp k,y=>∃i,y=.mp i∧srcs[i]? =some (.ent k)
 |_,_=>False
def BA.closed:BA→Bool
 | .box cs=>cs.all AV.Au
 | .loop .. =>false
 |_=>true
def Eo.any {ok:Nat→Prop} {w:World} {H H2:List BO} {h:BO} {e:BA} (q:Eo ok w H h e) (I:e.closed=true):Eo ok w H2 h e:=by
 cases e with
 |dead=>trivial
 |box cs=>
  obtain⟨b,vs,T,J,L,M,z⟩:=q;refine⟨b,vs,T,J,L,M,fun i hi=>⟨(z i hi).1,?_⟩⟩;have u:=(z i hi).2;simp only[BA.closed,DY]at I;have j:=I (cs.getD i .junk) N7;cases O:cs.getD i .junk with
  |d x=>rw[O]at u;cases u with |d _ _ h=>exact .d _ _ h
  |_=>rw[O]at j;simp[AV.Au]at j
 |arr e s es=>
  obtain⟨J,L,xs,M,z,u⟩:=q;refine⟨J,L,xs,M,z,fun i hi=>⟨(u i hi).1,?_⟩⟩;have j:=(u i hi).2;have hm:(flat es).getD i .junk∈flat es:=N7
  unfold flat at hm ⊢;simp only[SI,E5]at hm;obtain⟨x,_,y,_,U⟩:=hm;unfold flat at j;rw[←U]at j ⊢;cases j with |d _ _ h=>exact .d _ _ h
 |map es=>exact q
 |fO es=>exact q
 |iter es vis=>exact q
 |loop=>cases I
def BA.up (srcs:List Dj) (n:Nat):BA→BA
 | .box cs=>.box (cs.map (AV.UL srcs n))
 |e=>e
def AV.arp (srcs:List Dj):AV→Bool
 | .d _=>true
 | .mp k=>match srcs[k]? with |some (.ent _)=>true|_=>false
 | .ptr k _=>match srcs[k]? with |some (.ent _)=>true|_=>false
 |_=>false
def BA.amU (srcs:List Dj):BA→Bool
 | .box cs=>cs.all (AV.arp srcs)
 | .loop .. =>false
 |_=>true
def BA.aoy (srcs:List Dj) (n:Nat):BA→Bool
 | .box cs=>cs.all fun x=>x.Au||(x.UL srcs n).leaf
 | .loop .. =>false
 |_=>true
def BA.adl (srcs:List Dj) (n:Nat) (e:BA):(e.up srcs n).live=e.live:=by cases e<;>rfl
def aa2 {srcs:List Dj} {n:Nat} {x:AV} (h:x.Au=true):x.UL srcs n=x:=by cases x<;>first|rfl|cases h
def BA.aym {srcs:List Dj} {n:Nat} {e:BA} (h:e.closed=true):e.up srcs n=e:=by
 cases e with
 |box cs=>
  simp only[BA.closed,DY]at h;show BA.box (cs.map (AV.UL srcs n))=BA.box cs
  rw[show cs.map (AV.UL srcs n)=cs from by
   conv=>rhs;rw[←aCj cs]
   exact XZ fun x j=>aa2 (h x j)]
 |_=>rfl
def aVc {srcs:List Dj} {n:Nat}:∀{E:List BA},E.all BA.closed=true→E.map (BA.up srcs n)=E
 | [],_=>rfl
 |e::E,h=>by
  simp only[wP,CW]at h;rw[Ip,BA.aym h.1,aVc h.2]
def aiv {srcs:List Dj} {n:Nat} {e:BA} (h:e.closed=true):e.aoy srcs n=true:=by
 cases e with
 |box cs=>
  simp only[BA.closed,BA.aoy,DY]at h ⊢;intro x j;rw[h x j];rfl
 |loop=>cases h
 |_=>rfl
def Eo.down {ok:Nat→Prop} {w:World} {H Hc:List BO} {h:BO} {srcs:List Dj} {n:Nat} {e:BA} (L:∀(j:Nat) (s:Dj),srcs[j]? =some s→Hc[j]? =some (Dj.hd H s)) (hd:e.amU srcs=true) (z:Eo ok w H h (e.up srcs n)):Eo ok w Hc h e:=by
 cases e with
 |dead=>trivial
 |arr=>exact z.any rfl
 |map=>exact z
 |fO=>exact z
 |iter=>exact z
 |loop=>cases hd
 |box cs=>
  obtain⟨b,vs,T,M,O,U,Y⟩:=z;refine⟨b,vs,T,M,O,by rw[U,CG],fun i hi=>?_⟩;obtain⟨I,u⟩:=Y i aPS;rw[SY _ _ _ hi]at u I;simp only[BA.amU,DY]at hd;have q:=hd (cs.getD i .junk) N7;generalize cs.getD i .junk=x at u q I ⊢;generalize vs.toList.getD i undef=v at u ⊢;cases x with
  |d x=>exact⟨I,by cases u with |d _ _ h=>exact .d _ _ h⟩
  |mp k=>
   refine⟨rfl,?_⟩;simp only[AV.arp]at q;simp only[AV.UL]at u;cases hs:srcs[k]? with
   |none=>rw[hs]at q;cases q
   |some s=>
    cases s with
    |nil _=>rw[hs]at q;cases q
    |ent j=>
     rw[hs]at u;cases u with
     |mp _ _ s hl J=>
      refine .mp k _ s hl ?_;rw[L k _ hs];simp[Dj.hd,List.getD,J]
  |ptr k off=>
   refine⟨rfl,?_⟩;simp only[AV.arp]at q;simp only[AV.UL]at u;cases hs:srcs[k]? with
   |none=>rw[hs]at q;cases q
   |some s=>
    cases s with
    |nil _=>rw[hs]at q;cases q
    |ent j=>
     rw[hs]at u;cases u with
     |ptr _ _ b s J=>
      refine .ptr k off b s ?_;rw[L k _ hs];simp[Dj.hd,List.getD,J]
  |_=>simp[AV.arp]at q
def LX (srcs:List Dj) (es E':List BA):List BA:=
 (es.zipIdx.map fun(e,j)=>match srcs.findIdx? (fun s=>match s with | .ent k=>k==j| .nil _=>false)with |some i=>(E'.getD i .dead).up srcs es.length|none=>e)++(E'.drop srcs.length).map (BA.up srcs es.length)
def RU (srcs:List Dj) (es E E':List BA):Bool:=
 decide (srcs.length=E.length)&&decide (srcs.length≤E'.length)&&E.all (BA.amU srcs)&&E'.all (BA.aoy srcs es.length)&&
 decide ((srcs.filterMap fun s=>match s with | .ent k=>some k| .nil _=>none).Nodup)&&
 ((srcs.zip E').all fun p=>match p.1 with | .ent _=>true| .nil _=> !p.2.live)&&(srcs.all fun s=>match s with | .ent k=>decide (k<es.length)&&(es.getD k .dead).live| .nil _=>true)
def xA (srcs:List Dj) (es:List BA):List BA→Prop
 |E=>∀(i:Nat) (s:Dj),srcs[i]? =some s→match s with | .ent k=>(E[i]?).map (BA.up srcs es.length)=es[k]? | .nil sz=>∃e,E[i]? =some (.arr e sz [])
def VD {ok:Nat→Prop} {w:World} {H Hc H':List BO} {srcs:List Dj} {x:AV} {v:Value} (O:Hc=srcs.map (Dj.hd H)) (I:∀(i k:Nat),srcs[i]? =some (.ent k)→k<H.length) (U:Names Hc H') (h:R ok w H' x v):R ok w (H++H'.drop srcs.length) (x.UL srcs H.length) v:=by
 have key:∀(k:Nat) (hd:BO),H'[k]? =some hd→(∀(j:Nat),srcs[k]? =some (.ent j)→(H++H'.drop srcs.length)[j]? =some hd)∧(srcs[k]? =none→(H++H'.drop srcs.length)[H.length+(k-srcs.length)]? =some hd):=by
  intro k hd L;refine⟨fun j M=>?_,fun J=>?_⟩
  ·have z:=I k j M;have u:Hc[k]? =some (H.getD j ⟨undef,0⟩):=by rw[O,JG,M];rfl
   have q:=U _ _ u;rw[L]at q;rw[Gq z];simp[List.getD,z]at q;simp[z,q]
  have Y:srcs.length≤k:=Rs
  rw[Ju AA,QA];have :srcs.length+(H.length+(k-srcs.length)-H.length)=k:=AA
  rw[this,L]
 cases h with
 |d x v h=>exact .d x v h
 |ptr k off b s h=>
  obtain⟨u,q⟩:=key k _ h;simp only[AV.UL];split<;>rename_i hs
  ·exact .ptr _ off b s (u _ hs)
  ·exact .junk _
  exact .ptr _ off b s (q hs)
 |bn k ad n cap s h=>
  obtain⟨u,q⟩:=key k _ h;simp only[AV.UL];split<;>rename_i hs
  ·exact .bn _ ad n cap s (u _ hs)
  ·exact .junk _
  exact .bn _ ad n cap s (q hs)
 |lD k i off b n cap s h=>
  obtain⟨u,q⟩:=key k _ h;simp only[AV.UL];split<;>rename_i hs
  ·exact .lD _ i off b n cap s (u _ hs)
  ·exact .junk _
  exact .lD _ i off b n cap s (q hs)
 |mp k v s hl h=>
  obtain⟨u,q⟩:=key k _ h;simp only[AV.UL];split<;>rename_i hs
  ·exact .mp _ v s hl (u _ hs)
  ·exact .junk _
  exact .mp _ v s hl (q hs)
 |clip xs ad h=>exact .clip xs ad h
 |xG k ad n cap s h=>
  obtain⟨u,q⟩:=key k _ h;simp only[AV.UL];split<;>rename_i hs
  ·exact .xG _ ad n cap s (u _ hs)
  ·exact .junk _
  exact .xG _ ad n cap s (q hs)
 |fn f first cap vs us hl hm h h'=>exact .junk _
 |eu xs vs hl h=>exact .junk _
 |ag xs vs hl Z h=>exact .junk _
 |junk v=>exact .junk _
def aRS {ok:Nat→Prop} {w:World} {H Hc H':List BO} {srcs:List Dj} {x:AV} {v:Value} (q:Hc=srcs.map (Dj.hd H)) (j:∀(i k:Nat),srcs[i]? =some (.ent k)→k<H.length) (u:Names Hc H') (h:R ok w H' x v):R ok w (H++H'.drop srcs.length) (x.up srcs H.length) v:=by
 cases h with
 |eu xs vs hl h=>exact .eu _ vs dM (fun i hi=>aSm)
 |ag xs vs hl z h=>exact .junk _
 |d x v h=>exact VD q j u (.d x v h)
 |ptr k off b s h=>exact VD q j u (.ptr k off b s h)
 |bn k ad n cap s h=>exact VD q j u (.bn k ad n cap s h)
 |lD k i off b n cap s h=>exact VD q j u (.lD k i off b n cap s h)
 |mp k v s hl h=>exact VD q j u (.mp k v s hl h)
 |clip xs ad h=>exact VD q j u (.clip xs ad h)
 |xG k ad n cap s h=>exact VD q j u (.xG k ad n cap s h)
 |fn f first cap vs us hl hm h h'=>exact .fn f _ _ vs us dM (by simp[hm]) (fun i hi=>aSm) (fun i hi=>by rw[CG]at hi;rw[SY _ _ _ hi];exact VD q j u (h' i hi))
 |junk v=>exact .junk _
def Eo.upw {ok:Nat→Prop} {w:World} {H Hc H':List BO} {h:BO} {srcs:List Dj} {n:Nat} {e:BA} (I:Hc=srcs.map (Dj.hd H)) (u:∀(i k:Nat),srcs[i]? =some (.ent k)→k<H.length) (J:Names Hc H') (hl:H.length=n) (z:e.aoy srcs n=true) (j:Eo ok w H' h e):
 Eo ok w (H++H'.drop srcs.length) h (e.up srcs n):=by
 cases e with
 |dead=>trivial
 |arr=>exact j.any rfl
 |map=>exact j
 |fO=>exact j
 |iter=>exact j
 |loop=>cases z
 |box cs=>
  obtain⟨b,vs,T,L,M,O,U⟩:=j;refine⟨b,vs,T,L,M,by rw[O,CG],fun i hi=>?_⟩;rw[CG]at hi;obtain⟨Y,Z⟩:=U i hi;simp only[BA.aoy,DY]at z;have q:=z (cs.getD i .junk) N7;rw[SY _ _ _ hi];refine⟨?_,by have :=VD I u J Z;rwa [hl]at this⟩;rcases Bool.or_eq_true_iff.1 q with q|q
  ·rw[aa2 q];exact Y
  exact q
def FM :List Operand→List AV→List (Operand×AV)
 |x::xs,v::vs=>(x,v)::FM xs vs
 |_,_=>[]
def NH (srcs:List Dj):List AV→List AV→Prop
 |x::xs,y::ys=>aU2 srcs x y∧NH srcs xs ys
 | [],[]=>True
 |_,_=>False
def aXq {srcs:List Dj}:∀{xs ys:List AV},NH srcs xs ys→xs.length=ys.length
 | [],[],_=>rfl
 |_::xs,_::ys,h=>by simp[aXq h.2]
 | [],_::_,h=>h.elim
 |_::_,[],h=>h.elim
def agN {srcs:List Dj} {ops:List Operand}:∀{xs ys:List AV},ops.length=xs.length→NH srcs xs ys→∀i,i<ys.length→∃o x,ops[i]? =some o∧(o,x)∈FM ops xs∧aU2 srcs x (ys.getD i .junk):=by
 induction ops with
 |nil=>
  intro xs ys hl h i hi;cases xs with
  |nil=>cases ys with |nil=>simp at hi|cons _ _=>exact h.elim
  |cons _ _=>simp at hl
 |cons o ops j=>
  intro xs ys hl h i hi;cases xs with
  |nil=>simp at hl
  |cons x xs=>
   cases ys with
   |nil=>exact h.elim
   |cons y ys=>
    cases i with
    |zero=>exact⟨o,x,rfl,by simp[FM],h.1⟩
    |succ i=>
     obtain⟨q,u,z,I,J⟩:=j Lc h.2 i G9;exact⟨q,u,Me,by simp[FM,I],Rs⟩
def am7 {srcs:List Dj} {H:List BO} {b:Nat}:b∈(srcs.filterMap fun s=>match s with | .ent k=>Cx (H.getD k ⟨undef,0⟩).v| .nil _=>none)↔∃k,.ent k∈srcs∧Cx (H.getD k ⟨undef,0⟩).v=some b:=by
 rw[Tj];constructor
 ·rintro⟨s,hs,h⟩;cases s with
  |ent k=>exact⟨k,hs,h⟩
  |nil _=>cases h
 rintro⟨k,hs,h⟩;exact⟨_,hs,h⟩
section
variable {P : Program} {o : Oper} {es : List BA}
def aQp :∀{srcs:List Dj},(srcs.filterMap fun s=>match s with | .ent k=>some k| .nil _=>none).Nodup→∀(i j k:Nat),srcs[i]? =some (.ent k)→srcs[j]? =some (.ent k)→i=j
 | [],_,i,j,k,h,_=>IK
 |s::srcs,u,i,j,k,hi,z=>by
  have q:∀(n:Nat),srcs[n]? =some (.ent k)→k∈srcs.filterMap fun s=>match s with | .ent k=>some k| .nil _=>none:=fun n h=>by
   rw[Tj];exact⟨_,Vr h,rfl⟩
  have I:(srcs.filterMap fun s=>match s with | .ent k=>some k| .nil _=>none).Nodup:=by
   cases s with
   |ent k'=>simp only[MP]at u;exact(Kr.1 u).2
   |nil _=>simpa only[MP]using u
  match i,j with
  |0,0=>rfl
  |0,j+1=>
   simp at hi z;subst hi;simp only[MP]at u;exact absurd (q j z) (Kr.1 u).1
  |i+1,0=>
   simp at hi z;subst z;simp only[MP]at u;exact absurd (q i hi) (Kr.1 u).1
  |i+1,j+1=>rw[aQp I i j k G9 Me]
def aaG {f:FuncId} {C:ES} {ok:Nat→Prop} {H:List BO} {w:World} (hm:Ch C ok H es w) (srcs:List Dj) {dX gV:List AV} {E E':List BA} {res:AV} (hr:Ar P f gV E res E')
 (hb:RU srcs es E E'=true) (hE:xA srcs es E) (ha:NH srcs dX gV) {ops:List Operand} (hl:ops.length=dX.length) {a:Act} (hn:∀n∈FM ops dX,R ok w H n.2 (a.eval n.1)):
 Calls P f (ops.map a.eval).toArray w fun e w'=>∃v ok' H',e=.returned v∧ER ok w ok' w'∧Names H H'∧Ch C ok' H' (LX srcs es E') w'∧R ok' w' H' (res.up srcs es.length) v:=by
 unfold RU at hb;simp only[CW,Gg,DY]at hb;obtain⟨⟨⟨⟨⟨⟨hb1,hb2⟩,hb3⟩,hb4⟩,hb5⟩,hb6⟩,hb7⟩:=hb;have hidx:=aQp hb5
 let Hc:=srcs.map (Dj.hd H)
 let X:=srcs.filterMap fun s=>match s with | .ent k=>Cx (H.getD k ⟨undef,0⟩).v| .nil _=>none
 have hX:∀b,b∈X↔∃k,.ent k∈srcs∧Cx (H.getD k ⟨undef,0⟩).v=some b:=fun b=>am7
 have U:∀(i k:Nat),srcs[i]? =some (.ent k)→k<es.length∧(es.getD k .dead).live=true:=by
  intro i k hi;have :=hb7 _ (Vr hi);simpa using this
 have hlt:∀(i k:Nat),srcs[i]? =some (.ent k)→k<H.length:=fun i k hi=>by rw[hm.hlen];exact(U i k hi).1
 have hHk:∀(k:Nat),k<H.length→H[k]? =some (H.getD k ⟨undef,0⟩):=fun k hk=>by simp[List.getD,hk]
 have aoz:∀(k:Nat),k<es.length→es[k]? =some (es.getD k .dead):=fun k hk=>by simp[List.getD,hk]
 have L:∀b,b∈X→∃(i k:Nat),srcs[i]? =some (.ent k)∧Cx (H.getD k ⟨undef,0⟩).v=some b∧¬ok b∧b<w.heap.size∧(C.w0.heap.size≤b∨b∈C.X):=by
  intro b hb;obtain⟨k,hk,hbk⟩:=(hX b).1 hb;obtain⟨i,hi,M⟩:=Fv hk;have hi':srcs[i]? =some (.ent k):=by simp[hi,M]
  have :=hm.blk k _ _ b (aoz k (U i k hi').1) (U i k hi').2 (hHk k (hlt i k hi')) hbk;exact⟨i,k,hi',hbk,this⟩
 have hmc:Ch ⟨w,ok,X,Hc⟩ ok Hc E w:=by
  refine⟨.refl _ _,fun _ h=>h,fun _ h=>.inl h,hm.kP,.refl _,by simp[Hc,hb1],?_,?_,?_⟩
  ·intro i e h M I;have hi:i<srcs.length:=aML
   have hcl:e.amU srcs=true:=hb3 e (Vr M);have aGh:∀(j:Nat) (s:Dj),srcs[j]? =some s→Hc[j]? =some (Dj.hd H s):=fun j s hs=>by simp[Hc,hs]
   have hs:srcs[i]? =some srcs[i]:=Tf
   have hd:=hE i _ hs;simp only[Hc,JG,hs,Ii,LQ]at I;cases hsi:srcs[i]with
   |ent k=>
    rw[hsi]at hd I hs;simp only[Dj.hd]at I;subst I;simp only at hd;rw[M,Ii]at hd;exact Eo.down aGh hcl (hm.ent k _ _ hd.symm (hHk k (hlt i k hs)))
   |nil sz=>
    rw[hsi]at hd I;simp only[Dj.hd]at I;subst I;obtain⟨e',he'⟩:=hd;rw[M]at he';obtain rfl:=CV he';exact⟨rfl,BF,[],⟨BF,.inl ⟨rfl,rfl⟩⟩,UQ,fun i hi=>aFS⟩
  ·intro i e h b M J I z;have hi:i<srcs.length:=aML
   have hs:srcs[i]? =some srcs[i]:=Tf
   simp only[Hc,JG,hs,Ii,LQ]at I;cases hsi:srcs[i]with
   |ent k=>
    rw[hsi]at I hs;simp only[Dj.hd]at I;subst I;have hbX:b∈X:=(hX b).2 ⟨k,Vr hs,z⟩;obtain⟨_,_,_,_,O,Y,_⟩:=L b hbX;exact⟨O,Y,.inr hbX⟩
   |nil sz=>
    rw[hsi]at I;simp only[Dj.hd]at I;subst I;simp[Cx]at z
  intro i j e e' h h' b M he' J Z I hh' z alv;have hi:i<srcs.length:=aML
  have hj:j<srcs.length:=by rw[hb1];exact(FP.1 he').1
  have hs:srcs[i]? =some srcs[i]:=Tf
  have hs':srcs[j]? =some srcs[j]:=by simp[hj]
  simp only[Hc,JG,hs,Ii,LQ]at I;simp only[Hc,JG,hs',Ii,LQ]at hh';cases hsi:srcs[i]with
  |nil sz=>rw[hsi]at I;simp only[Dj.hd]at I;subst I;simp[Cx]at z
  |ent k=>
   cases hsj:srcs[j]with
   |nil sz=>rw[hsj]at hh';simp only[Dj.hd]at hh';subst hh';simp[Cx]at alv
   |ent k'=>
    rw[hsi]at I hs;rw[hsj]at hh' hs';simp only[Dj.hd]at I hh';subst I;subst hh';have hkk:=hm.DU k k' _ _ _ _ b (aoz k (U i k hs).1) (aoz k' (U j k' hs').1) (U i k hs).2 (U j k' hs').2 (hHk k (hlt i k hs)) (hHk k' (hlt j k' hs')) z alv;subst hkk;exact hidx i j k hs hs'
 have hargs:∀i,i<gV.length→R ok w Hc (gV.getD i .junk) ((ops.map a.eval).toArray.getD i undef):=by
  intro i hi;obtain⟨op,x,ho,hmem,harg⟩:=agN hl ha i hi;have hR:=hn _ hmem
  have e:(ops.map a.eval).toArray.getD i undef=a.eval op:=by
   obtain⟨O,Y⟩:=FP.1 ho;simp[Array.getD,O,Y]
  rw[e];simp only at hR;generalize gV.getD i .junk=y at harg ⊢;generalize a.eval op=u at hR ⊢;have hHc:∀(j:Nat) (s:Dj),srcs[j]? =some s→Hc[j]? =some (Dj.hd H s):=fun j s hs=>by simp[Hc,hs]
  cases x with
  |d x=>
   rcases harg with rfl|⟨j,s,rfl,rfl,hs⟩|⟨rfl,rfl⟩
   ·cases hR with |d _ _ h=>exact .d _ _ h
   ·have :=hR.lit;rw[this];exact .bn j none 0 0 s (hHc j _ hs)
   have :=hR.lit;rw[this];exact .d _ _ (.sl0 none 0)
  |bn k=>
   obtain⟨j,rfl,hs⟩:=harg;cases hR with
   |bn _ ad n cap s hH=>
    refine .bn j ad n cap s ?_;rw[hHc j _ hs];simp[Dj.hd,List.getD,hH]
  |ptr k off=>
   obtain⟨j,rfl,hs⟩:=harg;cases hR with
   |ptr _ _ b s hH=>
    refine .ptr j off b s ?_;rw[hHc j _ hs];simp[Dj.hd,List.getD,hH]
  |mp k=>
   obtain⟨j,rfl,hs⟩:=harg;cases hR with
   |mp _ _ s hl hH=>
    refine .mp j _ s hl ?_;rw[hHc j _ hs];simp[Dj.hd,List.getD,hH]
  |fn f fi ca=>
   obtain⟨fi',ca',rfl,O,Y⟩:=harg
   have one:∀(x y:AV) (v:Value),aOg srcs x y→R ok w H x v→R ok w Hc y v:=by
    intro x y v hxy hx;cases x with
    |d x=>obtain rfl:=hxy;cases hx with |d _ _ h=>exact .d _ _ h
    |mp k=>
     obtain⟨j,rfl,hs⟩:=hxy;cases hx with
     |mp _ _ s hl hH=>
      refine .mp j _ s hl ?_;rw[hHc j _ hs];simp[Dj.hd,List.getD,hH]
    |ptr k off=>
     obtain⟨j,rfl,hs⟩:=hxy;cases hx with
     |ptr _ _ b s hH=>
      refine .ptr j off b s ?_;rw[hHc j _ hs];simp[Dj.hd,List.getD,hH]
    |_=>exact hxy.elim
   cases hR with
   |fn _ _ _ vs us hl1 hl2 h3 h4=>
    refine .fn f fi' ca' vs us (by rw[hl1,mM O]) (by rw[hl2,mM Y]) (fun i hi=>?_) (fun i hi=>?_)
    ·exact one _ _ _ (aJv O i hi) (h3 i (by rw[mM O];exact hi))
    exact one _ _ _ (aJv Y i hi) (h4 i (by rw[mM Y];exact hi))
  |_=>exact harg.elim
 refine(hr ok X Hc w _ hmc (by simp[hl,aXq ha]) hargs).mono ?_;rintro e w' ⟨v,ok',H',rfl,q,hR⟩;have hgr:ER ok w ok' w':=fun b hb=>⟨q.yR b hb,q.fr.block b (hm.kP b hb) (fun hbX=>by obtain⟨_,_,_,_,O,_⟩:=L b hbX;exact O hb)⟩
 have aIX:srcs.length≤H'.length:=by rw[q.hlen];exact hb2
 refine⟨v,ok',H++H'.drop srcs.length,rfl,hgr,Names.push _ _,?_,by have :=aRS rfl hlt q.names hR;rwa [hm.hlen]at this⟩
 let idx:Nat→Option Nat:=fun j=>srcs.findIdx? (fun s=>match s with | .ent k=>k==j| .nil _=>false)
 have aFc:∀(j i:Nat),idx j=some i→srcs[i]? =some (.ent j):=by
  intro j i h;simp only[idx,aYu]at h;obtain⟨O,Y,_⟩:=h;have :srcs[i]? =some srcs[i]:=by simp[O]
  cases hs:srcs[i]with
  |ent k=>rw[hs]at Y this;simp at Y;rw[this,Y]
  |nil _=>rw[hs]at Y;simp at Y
 have aFd:∀(j:Nat),idx j=none→∀(i:Nat),srcs[i]? ≠some (.ent j):=by
  intro j h i hi;simp only[idx,List.findIdx?_eq_none_iff]at h;have :=h _ (Vr hi);simp at this
 have hlow:∀(j:Nat),j<es.length→(LX srcs es E')[j]? =some (match idx j with |some i=>(E'.getD i .dead).up srcs es.length|none=>es.getD j .dead):=by
  intro j hj;unfold LX;rw[Gq (by simpa using hj)];simp only[JG,List.getElem?_zipIdx,aoz j hj,Ii,JJ];rfl
 have aDS:(LX srcs es E').length=es.length+(E'.length-srcs.length):=by simp[LX]
 have hhigh:∀(j:Nat),es.length≤j→(LX srcs es E')[j]? =(E'[srcs.length+(j-es.length)]?).map (BA.up srcs es.length):=by
  intro j hj;unfold LX;rw[Ju (by simpa using hj),JG,QA];simp
 have aFe:∀(j:Nat),j<es.length→(H++H'.drop srcs.length)[j]? =H[j]? :=fun j hj=>Gq (by rw[hm.hlen];exact hj)
 have aDT:∀(j:Nat),es.length≤j→(H++H'.drop srcs.length)[j]? =H'[srcs.length+(j-es.length)]? :=by
  intro j hj;rw[Ju (by rw[hm.hlen];exact hj),QA,hm.hlen]
 have hcls:∀(j:Nat) (e:BA) (h:BO),(LX srcs es E')[j]? =some e→e.live=true∨True→(H++H'.drop srcs.length)[j]? =some h→
  (∃(i:Nat) (e0:BA),e=e0.up srcs es.length∧E'[i]? =some e0∧H'[i]? =some h∧((j<es.length∧srcs[i]? =some (.ent j))∨(es.length≤j∧i=srcs.length+(j-es.length))))∨(j<es.length∧es[j]? =some e∧H[j]? =some h∧∀(i:Nat),srcs[i]? ≠some (.ent j)):=by
  intro j e h M _ I;by_cases hj:j<es.length
  ·rw[hlow j hj]at M;rw[aFe j hj]at I;cases hi:idx j with
   |none=>
    rw[hi]at M;simp only[LQ]at M;exact .inr ⟨hj,by rw[aoz j hj,M],I,aFd j hi⟩
   |some i=>
    rw[hi]at M;simp only[LQ]at M;have hs:=aFc j i hi;have hil:i<srcs.length:=(FP.1 hs).1;have hiE:i<E'.length:=AA
    refine .inl ⟨i,_,M.symm,by simp[List.getD,hiE],?_,.inl ⟨hj,hs⟩⟩;refine q.names i h ?_;simp only[Hc,JG,hs,Ii,Dj.hd];simp[List.getD,I]
  rw[hhigh j AA]at M;rw[aDT j AA]at I;rw[Rw]at M;obtain⟨e0,M,rfl⟩:=M;exact .inl ⟨_,_,rfl,M,I,.inr ⟨AA,rfl⟩⟩
 have hold:∀(j:Nat) (e:BA) (h:BO) (b:Nat),es[j]? =some e→H[j]? =some h→(∀(i:Nat),srcs[i]? ≠some (.ent j))→e.live=true→Cx h.v=some b→b<w.heap.size∧b∉X∧¬ok b∧(C.w0.heap.size≤b∨b∈C.X):=by
  intro j e h b M I hno J z;have O:=hm.blk j e h b M J I z;refine⟨O.2.1,fun hbX=>?_,O.1,O.2.2⟩;obtain⟨i,k,hs,hbk,_⟩:=L b hbX;have :=hm.DU j k e _ h _ b M (aoz k (U i k hs).1) J (U i k hs).2 I (hHk k (hlt i k hs)) z hbk;subst this;exact hno i hs
 have aoA:∀(i:Nat) (e:BA) (h:BO) (b:Nat),E'[i]? =some e→H'[i]? =some h→e.live=true→Cx h.v=some b→¬ok' b∧b<w'.heap.size∧(w.heap.size≤b∨b∈X):=fun i e h b M I J z=>q.blk i e h b M J I z;refine⟨⟨q.fr.os.trans hm.fr.os,q.fr.tape.trans hm.fr.tape,q.fr.output.trans hm.fr.output,Ed hm.fr.size q.fr.size,fun k hk hx=>?_⟩,fun b hb=>q.yR b (hm.yR b hb),?_,q.kP,hm.names.trans (Names.push _ _),?_,?_,?_,?_⟩
 ·have hkw:k<w.heap.size:=Uu hk hm.fr.size
  rw[q.fr.block k hkw (fun hkX=>by
   obtain⟨_,_,_,_,_,_,h⟩:=L k hkX;rcases h with h|h
   ·omega
   exact hx h)]
  exact hm.fr.block k hk hx
 ·intro b hb;rcases q.yS b hb with h|h|h
  ·exact hm.yS b h
  ·exact .inr (.inl (Ed hm.fr.size h))
  obtain⟨_,_,_,_,_,_,h⟩:=L b h;exact .inr h
 ·rw[aDS,EI,IV,hm.hlen,q.hlen]
 ·intro j e h M I;rcases hcls j e h M (.inr trivial) I with⟨i,e0,rfl,O,Y,_⟩|⟨_,O,Y,h3⟩
  ·exact Eo.upw rfl hlt q.names hm.hlen (hb4 e0 (Vr O)) (q.ent i e0 h O Y)
  refine(hm.ent j e h O Y).mono hgr (Names.push _ _) (fun J b z=>?_);have h4:=hold j e h b O Y h3 J z;exact q.fr.block b h4.1 h4.2.1
 ·intro j e h b M J I z;rcases hcls j e h M (.inr trivial) I with⟨i,e0,rfl,O,Y,_⟩|⟨_,O,Y,h3⟩
  ·have h4:=aoA i e0 h b O Y aLB z;refine⟨h4.1,h4.2.1,?_⟩;rcases h4.2.2 with h5|h5
   ·exact .inl (Ed hm.fr.size h5)
   obtain⟨_,_,_,_,_,_,h⟩:=L b h5;exact h
  have h4:=hold j e h b O Y h3 J z;refine⟨fun hok'=>?_,Uu h4.1 q.fr.size,h4.2.2.2⟩;rcases q.yS b hok' with h5|h5|h5
  ·exact h4.2.2.1 h5
  ·have :w.heap.size≤b:=h5;omega
  exact h4.2.1 h5
 intro j j' e e' h h' b M he' J Z I hh' z alv;rcases hcls j e h M (.inr trivial) I with⟨i,e0,rfl,O,Y,h3⟩|⟨_,O,Y,h3⟩
 ·rcases hcls j' e' h' he' (.inr trivial) hh' with⟨i',e0',rfl,h1',h2',h3'⟩|⟨_,h1',h2',h3'⟩
  ·have hii:=q.DU i i' e0 e0' h h' b O h1' aLB (by rw[BA.adl]at Z;exact Z) Y h2' z alv;subst hii;rcases h3 with⟨_,h4⟩|⟨h4,h5⟩
   ·rcases h3' with⟨_,h4'⟩|⟨h4',h5'⟩
    ·rw[h4]at h4';simpa using h4'
    have :=(FP.1 h4).1;omega
   rcases h3' with⟨_,h4'⟩|⟨h4',h5'⟩
   ·have :=(FP.1 h4').1;omega
   omega
  have h4:=hold j' e' h' b h1' h2' h3' Z alv;rcases(aoA i e0 h b O Y aLB z).2.2 with h5|h5
  ·omega
  exact absurd h5 h4.2.1
 rcases hcls j' e' h' he' (.inr trivial) hh' with⟨i',e0',rfl,h1',h2',h3'⟩|⟨_,h1',h2',h3'⟩
 ·have h4:=hold j e h b O Y h3 J z;rcases(aoA i' e0' h' b h1' h2' (by rw[BA.adl]at Z;exact Z) alv).2.2 with h5|h5
  ·omega
  exact absurd h5 h4.2.1
 exact hm.DU j j' e e' h h' b O h1' J Z Y h2' z alv
def aQc {f:FuncId} {ops:Array Operand} {ats:Array TypeId} (srcs:List Dj) {dX gV:List AV} {E E':List BA} {j:AV} (q:Ar P f gV E j E') (u:BD P f=true) (z:RU srcs es E E'=true) (hE:xA srcs es E) (ha:NH srcs dX gV) (hl:ops.toList.length=dX.length)
 (I:o.op=.call { callee:=.value (.func f),args:=ops,argTypes:=ats }):BU P o (FM ops.toList dX) es (j.up srcs es.length) (LX srcs es E'):=by
 intro C ok H a w Q hm J;unfold Oper.wp;rw[nK I,TG u,dS];have e:ops.map a.eval=(ops.toList.map a.eval).toArray:=aDG
 rw[e];refine(aaG hm srcs q z hE ha hl J).mono ?_;rintro e w' ⟨v,ok',H',rfl,L,M,O,U⟩;exact⟨v,ok',H',rfl,L,M,O,U⟩
end
def Ac (n:Int):D:=.lit (.int .i64 n)
def Ew (n:Int):D:=.lit (.int .u8 n)
def Dx (b:Bool):D:=.lit (.bool b)
def DK (s:ByteArray):D:=.lit (.string s)
def BL {α:Type} (e:α→D) (l:List α):D:=.sl (l.map e)
def BG (x:D):List AV:=x.cells.map .d
def Af {α:Type} (l:List α) (i:Int):Option α:=if 0≤i then l[i.toNat]? else none
def C9 {α:Type} (j:Nat) (l m:List α):Option (List α):=if(l.length+m.length)*j≤140737488355328 then some (l++m)else none
def Hf (s:ByteArray) (i:Int):Option Int:=if 0≤i then(s[i.toNat]?).map fun c=>(c.toNat:Int)else none
def He {α:Type} (l:List α) (lo hi:Int):Option (List α):=if 0≤lo∧lo≤hi∧hi≤l.length then some ((l.drop lo.toNat).take (hi.toNat-lo.toNat))else none
def NW (s:ByteArray) (lo hi:Int):Option ByteArray:=if 0≤lo∧lo≤hi∧hi≤s.size then some (s.extract lo.toNat hi.toNat)else none
def Ia {α:Type} (j:Nat) (z:α) (n c:Int):Option (List α):=if 0≤n∧n≤c∧(j:Int)*c≤140737488355328 then some (List.replicate n.toNat z)else none
def LU {α:Type} {l:List α} {i:Int} {x:α} (h:Af l i=some x):0≤i∧l[i.toNat]? =some x:=by
 unfold Af at h;split at h
 ·exact⟨‹_›,h⟩
 cases h
def akz {α β:Type} {l:List α} {i:Nat} {x:α} (f:α→β) (h:l[i]? =some x):(l.map f)[i]? =some (f x):=by simp[h]
def aCE {α:Type} {b:Bool} {x y z:α} (j:b=true) (h:(bif b then x else y)=z):x=z:=by subst j;exact h
def aB5 {α:Type} {b:Bool} {x y z:α} (j:b=false) (h:(bif b then x else y)=z):y=z:=by subst j;exact h
def Dn {α β:Type} {x:Option α} {f:α→Option β} {z:β} (h:x.bind f=some z):∃a,x=some a∧f a=some z:=kG.1 h
def Ag :Nat:=9223372036854775808
section
variable {P : Program} {o : Oper} {es : List BA} {α : Type}
def BR {x:Operand} {t e:TypeId} (enc:α→D) (l:List α) (ht:P.underlying t=some (.slice e)) (j:o.op=.call { callee:=.builtin .len,args:= #[x],argTypes:= #[t] }):
 BU P o [(x,.d (BL enc l))] es (.d (Ac l.length)) es:=by
 have :=anz (es:=es) (xs:=l.map enc) ht j;rw[CG]at this;exact this
def QV {x:Operand} {t e e':TypeId} {k s:Nat} (enc:α→D) (l:List α) (j:es[k]? =some (.arr e' s (l.map enc))) (ht:P.underlying t=some (.slice e)) (q:o.op=.call { callee:=.builtin .len,args:= #[x],argTypes:= #[t] }):
 BU P o [(x,.bn k)] es (.d (Ac l.length)) es:=by
 have :=afl j ht q;rw[CG]at this;exact this
def ajY {x:Operand} {t:TypeId} (s:ByteArray) (ht:P.underlying t=some .string) (j:o.op=.call { callee:=.builtin .len,args:= #[x],argTypes:= #[t] }):
 BU P o [(x,.d (DK s))] es (.d (Ac s.size)) es:=apc ht j
def aio {x y:Operand} {t e:TypeId} {k:IntKind} {i:Int} {agg:Bool} {size:Nat} (enc:α→D) {l:List α} {a:α} (h:Af l i=some a) (ht:P.underlying t=some (.slice e)) (j:EM P e agg size) (hs:(enc a).cells.length=size) (q:o.op=.indexAddr t x y):
 BU P o [(x,.d (BL enc l)),(y,.d (.lit (.int k i)))] es (.d (.ref (enc a).cells 0)) es:=
 ap5 ht j (LU h).1 (akz enc (LU h).2) hs q
def Rn {x y:Operand} {t e e':TypeId} {kd:IntKind} {i:Int} {k size:Nat} {agg:Bool} (enc:α→D) {l:List α} {a:α} (h:Af l i=some a) (j:es[k]? =some (.arr e' size (l.map enc))) (ht:P.underlying t=some (.slice e)) (q:EM P e agg size) (u:o.op=.indexAddr t x y):
 BU P o [(x,.bn k),(y,.d (.lit (.int kd i)))] es (.lD k i.toNat 0) es:=
 ac7 j ht q (LU h).1 (by have :=(FP.1 (LU h).2).1;simpa using this) u
def alH {s:ByteArray} {i n:Int} (h:Hf s i=some n):∃c,0≤i∧s[i.toNat]? =some c∧n=c.toNat:=by
 unfold Hf at h;split at h
 ·rename_i j;rw[Rw]at h;obtain⟨c,q,u⟩:=h;exact⟨c,j,q,u.symm⟩
 cases h
def WH {x y:Operand} {t:TypeId} {k:IntKind} {i n:Int} {s:ByteArray} (h:Hf s i=some n) (ht:P.underlying t=some .string) (j:o.op=.index t x y):
 BU P o [(x,.d (DK s)),(y,.d (.lit (.int k i)))] es (.d (Ew n)) es:=by
 obtain⟨c,q,u,rfl⟩:=alH h;exact acH ht q u j
def aDk {b:Nat} {l m r:List α} (h:C9 b l m=some r):r=l++m∧(l.length+m.length)*b≤140737488355328:=by
 unfold C9 at h;split at h
 ·exact⟨(CV h).symm, ‹_›⟩
 cases h
def aL2 {n b:Nat} (j:0<b) (h:n*b≤140737488355328):n≤maxLen:=by
 have :n*1≤n*b:=Nat.mul_le_mul_left _ j;unfold maxLen;omega
def FI {s x:Operand} {t e:TypeId} {size j k:Nat} (enc:α→D) {l m r:List α} (h:C9 j l m=some r) (hE:Gw P t e size j) (u:es[k]? =some (.arr e size (l.map enc))) (z:∀a,(enc a).cells.length=size) (I:0<j)
 (J:o.op=.call { callee:=.builtin .append,args:= #[s,x],argTypes:= #[t,t] }):
 BU P o [(s,.bn k),(x,.d (BL enc m))] es (.bn es.length) (es.set k .dead++[.arr e size (r.map enc)]):=by
 obtain⟨rfl,q⟩:=aDk h;have :=aiB (ys:=m.map enc) hE u (fun y L=>by obtain⟨a,_,rfl⟩:=E5.1 L;exact z a) MV (by simpa using aL2 I q) J;rw[←KL]at this;exact this
def aky {s r:ByteArray} {lo hi:Int} (h:NW s lo hi=some r):(0≤lo∧lo≤hi∧hi≤s.size)∧r=s.extract lo.toNat hi.toNat:=by
 unfold NW at h;split at h
 ·exact⟨‹_›,(CV h).symm⟩
 cases h
def xE (x:Option Operand) (n:Int):List (Operand×AV):=match x with |some y=>[(y,.d (Ac n))]|none=>[]
def aM8 {t:TypeId} {x:Operand} {lo hi:Option Operand} {l h:Int} {s r:ByteArray} (hr:NW s l h=some r) (hl:lo=none→l=0) (Z:hi=none→h=s.size) (ht:P.underlying t=some .string) (J:o.op=.slice t x lo hi none):
 BU P o ((x,.d (DK s))::(xE lo l++xE hi h)) es (.d (DK r)) es:=
 .pure fun ok H a w _ _ M=>by
  obtain⟨⟨O,h1,h2⟩,rfl⟩:=aky hr;have q:=(M (x,.d (DK s)) BF).lit;simp only at q;have L:(underlying t).run P w=.ok .string w:=OH
  refine⟨.string (s.extract l.toNat h.toNat),?_,.d _ _ (.lit _)⟩;have u:∀y,lo=some y→a.eval y=.int .i64 l:=fun y e=>(M (y,.d (Ac l)) aA9).lit;have I:∀y,hi=some y→a.eval y=.int .i64 h:=fun y e=>(M (y,.d (Ac h)) aA9).lit;have e1:((0:Int)≤h∧h≤(s.size:Int)):=⟨AA,h2⟩
  have e2:((0:Int)≤l∧l≤(h.toNat:Int)):=⟨O,AA⟩
  cases lo with
  |none=>
   have U:=hl rfl;subst U;cases hi with
   |none=>
    have j:=Z rfl;subst j;simp[execOp,J,q,Instr.sliceAt,Instr.slice,L,Instr.sliceBounds]
   |some y=>
    simp[execOp,J,q,Instr.sliceAt,Instr.slice,L,Instr.sliceBounds,Instr.sliceBound,I y rfl,asIntOf,e1]
  |some z=>
   cases hi with
   |none=>
    have j:=Z rfl;subst j;have Y:((0:Int)≤l∧l≤(s.size:Int)):=⟨O,AA⟩
    simp[execOp,J,q,Instr.sliceAt,Instr.slice,L,Instr.sliceBounds,Instr.sliceBound,u z rfl,asIntOf,Y]
   |some y=>
    simp[execOp,J,q,Instr.sliceAt,Instr.slice,L,Instr.sliceBounds,Instr.sliceBound,u z rfl,I y rfl,asIntOf,e1];intro hc;have :=hc O;omega
def aSx {l r:List α} {lo hi:Int} (h:He l lo hi=some r):(0≤lo∧lo≤hi∧hi≤l.length)∧r=(l.drop lo.toNat).take (hi.toNat-lo.toNat):=by
 unfold He at h;split at h
 ·exact⟨‹_›,(CV h).symm⟩
 cases h
def aYh {ok:Nat→Prop} {w:World} {xs:List D} {ad:Option Addr} {cap size l h:Nat} (Y:Dc ok w (.sl xs) (.slice ad xs.length cap)) (hs:∀x∈xs,x.cells.length=size) (Z:l≤h) (h2:h≤xs.length):
 Dc ok w (.sl ((xs.drop l).take (h-l))) (.slice (if cap=l then ad else ad.map (·.add (l*size))) (h-l) (cap-l)):=by
 have hlen:((xs.drop l).take (h-l)).length=h-l:=Dh
 by_cases hz:h-l=0
 ·have :(xs.drop l).take (h-l)=[]:=by rw[hz];rfl
  rw[this,hz];exact .sl0 _ _
 have z:0<xs.length:=AA
 generalize hn:xs.length=n at Y;cases Y with
 |sl0=>simp at z
 |sl _ b off _ q hcap L I hf hx hc=>
  have M:q=size:=by
   rw[←I 0 z];exact hs _ (by simp[List.getD,z])
  subst M;have O:cap≠l:=AA
  rw[CY O];simp only[Ii,addr_add]
  have U:∀i,i<h-l→((xs.drop l).take (h-l)).getD i DT=xs.getD (l+i) DT:=by
   intro i hi;simp[List.getD,MB hi,QA]
  have u:∀i j,off+l*q+(i*q+j)=off+((l+i)*q+j):=by
   intro i j;rw[XU];omega
  have :=Dc.sl ((xs.drop l).take (h-l)) b (off+l*q) (cap-l) q (ok:=ok) (w:=w) (by rw[hlen];omega) (fun Z h2=>L (by rw[hlen]at Z;omega) h2) (fun i hi=>by rw[hlen]at hi;rw[U i hi];exact I _ AA)
   (fun i hi j J=>by rw[hlen]at hi;rw[U i hi];exact hf _ AA j J) (fun i hi j J=>by rw[hlen]at hi;rw[u];exact hx _ AA j J)
   (fun i hi j J=>by rw[hlen]at hi;rw[U i hi,u];exact hc _ AA j J)
  rw[hlen]at this;exact this
def pY {t e:TypeId} {agg:Bool} {size:Nat} {x:Operand} {lo hi:Option Operand} {l h:Int} (enc:α→D) {xs r:List α} (hr:He xs l h=some r) (hl:lo=none→l=0) (hh:hi=none→h=xs.length) (ht:P.underlying t=some (.slice e)) (O:EM P e agg size)
 (hc:∀a,(enc a).cells.length=size) (U:o.op=.slice t x lo hi none):BU P o ((x,.d (BL enc xs))::(xE lo l++xE hi h)) es (.d (BL enc r)) es:=
 .pure fun ok H a w _ _ hn=>by
  obtain⟨⟨h0,h1,h2⟩,rfl⟩:=aSx hr;have hx:=hn (x,.d (BL enc xs)) BF;simp only at hx;generalize Y:a.eval x=v at hx;have Z:(underlying t).run P w=.ok (.slice e) w:=OH
  have L:∀y,lo=some y→a.eval y=.int .i64 l:=fun y e=>(hn (y,.d (Ac l)) aA9).lit;have M:∀y,hi=some y→a.eval y=.int .i64 h:=fun y e=>(hn (y,.d (Ac h)) aA9).lit;have u:Dc ok w (.sl (xs.map enc)) v:=by cases hx with |d _ _ h=>exact h
  have I:∃ad cap,v=.slice ad (xs.map enc).length cap∧(xs.map enc).length≤cap:=by
   generalize hys:xs.map enc=ys at u;cases u with
   |sl0 ad cap=>exact⟨ad,cap,rfl,Du _⟩
   |sl _ b off cap size j=>exact⟨_,cap,rfl,j⟩
  obtain⟨ad,cap,rfl,j⟩:=I;have q:=aYh (l:=l.toNat) (h:=h.toNat) u (size:=size) (fun y hy=>aHZ) AA Dh;rw[←aF,←ZA]at q;rw[CG]at j;refine⟨_,?_,.d _ _ q⟩;have e1:((0:Int)≤h∧h≤(cap:Int)):=⟨AA,AA⟩
  cases lo with
  |none=>
   have hl0:=hl rfl;subst hl0;cases hi with
   |none=>
    have J:=hh rfl;subst J;simp[execOp,U,Y,Instr.sliceAt,Instr.slice,Z,Instr.sliceBounds,O.size]
   |some y=>
    simp[execOp,U,Y,Instr.sliceAt,Instr.slice,Z,Instr.sliceBounds,Instr.sliceBound,M y rfl,asIntOf,e1,O.size]
  |some z=>
   cases hi with
   |none=>
    have J:=hh rfl;subst J;have e2':((0:Int)≤l∧l≤(xs.length:Int)):=⟨h0,AA⟩
    simp[execOp,U,Y,Instr.sliceAt,Instr.slice,Z,Instr.sliceBounds,Instr.sliceBound,L z rfl,asIntOf,e2',O.size]
   |some y=>
    simp[execOp,U,Y,Instr.sliceAt,Instr.slice,Z,Instr.sliceBounds,Instr.sliceBound,L z rfl,M y rfl,asIntOf,e1,O.size];intro hc';have :=hc' h0;omega
def kU (P:Program) (t:TypeId) (f off:Nat) (agg:Bool) (n:Nat):Bool:=
 match P.underlying t with
 |some (.struct q)=>match q[f]? with
  |some j=>decide (j.offset=off)&&aO5 P j.type agg n
  |none=>false
 |_=>false
def anM {x:Operand} {t:TypeId} {f off n:Nat} {agg:Bool} {cs:List D} (hp:kU P t f off agg n=true) (hn:off+n≤cs.length) (Z:agg=false→n=1) (M:o.op=.field t x f):BU P o [(x,.d (.agg cs))] es (.d (QD agg cs off n)) es:=
 .pure fun ok H a w _ _ I=>by
  have J:=L8 I;simp only at J;generalize O:a.eval x=v at J;unfold kU at hp;split at hp
  ·rename_i fs hu;split at hp
   ·rename_i j U;simp only[CW,Gg]at hp;obtain⟨rfl,q⟩:=hp;have q:=GI q;have u:(underlying t).run P w=.ok (.struct fs) w:=aDm
    cases J with
    |d _ _ h=>
     cases h with
     |agg _ vs hl L Y=>
      cases agg with
      |false=>
       have :=Z rfl;subst this;have z:j.offset<vs.size:=AA
       refine⟨vs[j.offset],?_,?_⟩
       ·simp[execOp,M,O,Instr.field,u,U,asAgg,part,q.agg,z]
       have :=Y j.offset AA;simp[Array.getD,z]at this;exact .d _ _ this
      |true=>
       refine⟨.agg (vs.extract j.offset (j.offset+n)),?_,?_⟩
       ·simp[execOp,M,O,Instr.field,u,U,asAgg,part,q.agg,q.size]
       simp only[QD,Jg];have hlen:((cs.drop j.offset).take n).length=n:=Dh
       have hg:∀i,i<n→((cs.drop j.offset).take n).getD i DT=cs.getD (j.offset+i) DT:=by
        intro i hi;simp[List.getD,MB hi,QA]
       refine .d _ _ (.agg _ _ (by rw[hlen];simp;omega) ?_ ?_)<;>intro i hi<;>rw[hlen]at hi<;>rw[hg i hi]
       ·exact L _ AA
       have :=Y (j.offset+i) AA
       have e:(vs.extract j.offset (j.offset+n)).getD i undef=vs.getD (j.offset+i) undef:=by
        have h3:j.offset+i<vs.size:=AA
        have h4:i<(vs.extract j.offset (j.offset+n)).size:=Dh
        have h5:i<min (j.offset+n) vs.size-j.offset:=AA
        simp[Array.getD,h3,h5]
       rw[e];exact this
   cases hp
  cases hp
def AV.flat:AV→Bool
 | .d (.lit _)=>true
 | .eu xs=>xs.all fun x=>match x with | .d (.lit _)=>true|_=>false
 |_=>false
def aTL (es:List BA):AV→AV→Prop
 | .d x,y=>y=.d x
 | .bn k,y=>∃e s xs,es[k]? =some (.arr e s xs)∧y=.d (.sl xs)
 |_,_=>False
def bP (es:List BA):List AV→List AV→Prop
 |x::xs,y::ys=>aTL es x y∧bP es xs ys
 | [],[]=>True
 |_,_=>False
def aNu :∀{xs ys:List AV},bP es xs ys→xs.length=ys.length
 | [],[],_=>rfl
 |_::xs,_::ys,h=>by simp[aNu h.2]
 | [],_::_,h=>h.elim
 |_::_,[],h=>h.elim
def aSP {ops:List Operand}:∀{xs ys:List AV},ops.length=xs.length→bP es xs ys→∀i,i<ys.length→∃o x,ops[i]? =some o∧(o,x)∈FM ops xs∧aTL es x (ys.getD i .junk):=by
 induction ops with
 |nil=>
  intro xs ys hl h i hi;cases xs with
  |nil=>cases ys with |nil=>simp at hi|cons _ _=>exact h.elim
  |cons _ _=>simp at hl
 |cons o ops j=>
  intro xs ys hl h i hi;cases xs with
  |nil=>simp at hl
  |cons x xs=>
   cases ys with
   |nil=>exact h.elim
   |cons y ys=>
    cases i with
    |zero=>exact⟨o,x,rfl,by simp[FM],h.1⟩
    |succ i=>
     obtain⟨q,u,z,I,J⟩:=j Lc h.2 i G9;exact⟨q,u,Me,by simp[FM,I],Rs⟩
def dD {ok ok':Nat→Prop} {w:World} {H:List BO} {h:BO} {e s:Nat} {xs:List D} (he:Eo ok w H h (.arr e s xs)) (u:∀b,ok b→ok' b) (M:∀b,Cx h.v=some b→ok' b):Dc ok' w (.sl xs) h.v:=by
 obtain⟨h1,J,ys,⟨h3,h4⟩,h5⟩:=he;rcases h4 with⟨L,h7⟩|⟨g,cap,cur,L,h7,h8,h9,h10,O,U⟩
 ·rw[Gf h7,L];exact .sl0 none 0
 rw[L];have z:=M g (by rw[L];rfl);have I:=RJ J
 have Y:∀i j,i<xs.length→j<s→i*s+j<xs.length*s:=by
  intro i j hi q
  calc i*s+j<i*s+s:=AA
   _=(i+1)*s:=by rw[VR]
   _≤xs.length*s:=Jl _ hi
 have hcur:xs.length*s≤cur.size:=by
  exact Ed (Jl _ h9) O
 have hc:∀i j,i<xs.length→j<s→w.cell? ⟨g,0+(i*s+j),none⟩=some (ys.getD (i*s+j) undef):=by
  intro i j hi q;have Z:=Y i j hi q;rw[JJ]
  have e1:ys.getD (i*s+j) undef=cur[i*s+j]' AA:=by
   rw[←U];simp[List.getD,MB Z,show i*s+j<cur.size by omega]
  rw[e1];simp[World.cell?,h8,show i*s+j<cur.size by omega]
 have hg:∀i,i<xs.length→xs.getD i DT∈xs:=fun i hi=>N7
 refine .sl xs g 0 cap s h9 (fun _ _=>z) (fun i hi=>J _ (hg i hi)) (fun i hi j q=>?_) (fun i hi j q=>?_) (fun i hi j q=>?_)
 ·have :=(h5.2 (i*s+j) (by rw[I];exact Y i j hi q)).1;rw[flat_get J i j hi q]at this;exact this
 ·rw[hc i j hi q];rfl
 have :=(h5.2 (i*s+j) (by rw[I];exact Y i j hi q)).2;rw[flat_get J i j hi q]at this;unfold cellAt;rw[hc i j hi q];cases this with |d _ _ h=>exact h.mono (fun b M=>⟨u b M,rfl⟩)
def aXw {f:FuncId} {ops:Array Operand} {ats:Array TypeId} {dX gV:List AV} {I:AV} (hr:Ar P f gV [] I []) (hf:BD P f=true) (z:I.flat=true) (ha:bP es dX gV) (hl:ops.toList.length=dX.length)
 (ho:o.op=.call { callee:=.value (.func f),args:=ops,argTypes:=ats }):BU P o (FM ops.toList dX) es I es:=by
 intro C ok H a w Q hm hn;unfold Oper.wp;rw[nK ho,TG hf,dS];have e:ops.map a.eval=(ops.toList.map a.eval).toArray:=aDG
 rw[e]
 let J:Nat→Prop:=fun b=>b<w.heap.size
 have hmc:Ch ⟨w,J,[],[]⟩ J [] [] w:=
  ⟨.refl _ _,fun _ h=>h,fun _ h=>.inl h,fun _ h=>h,.refl _,rfl,fun k e h L _=>by simp at L,fun k e h b L=>by simp at L,fun k k' e e' h h' b L=>by simp at L⟩
 refine(hr J [] [] w _ hmc (by simp[hl,aNu ha]) (fun i hi=>?_)).mono ?_
 ·obtain⟨op,x,ho',U,j⟩:=aSP hl ha i hi;have O:=hn _ U
  have e:(ops.toList.map a.eval).toArray.getD i undef=a.eval op:=by
   obtain⟨h1,h2⟩:=FP.1 ho';have Y:i<ops.size:=by simpa using h1
   have Z:ops[i]=op:=uF
   simp[Array.getD,Y,Z]
  rw[e];simp only at O;generalize gV.getD i .junk=y at j;generalize a.eval op=u at O;cases x with
  |d x=>
   obtain rfl:=j;cases O with |d _ _ h=>exact .d _ _ (h.mono (fun b M=>⟨hm.kP b M,rfl⟩))
  |bn k=>
   obtain⟨e',s,xs,hk,rfl⟩:=j;obtain⟨h,hh,hok⟩:=GR hm.ent hm.hlen hk;obtain rfl:=O5 O hh;exact .d _ _ (dD hok (fun b M=>hm.kP b M) (fun b M=>(hm.blk k _ h b hk rfl hh M).2.1))
  |_=>exact j.elim
 rintro e w' ⟨v,ok',H',rfl,q,O⟩;have hblk:∀b,b<w.heap.size→¬False→w'.heap[b]? =w.heap[b]? :=fun b M _=>q.fr.block b M BF;obtain⟨h1,h2⟩:=hm.change (ok':=ok) (H':=H) (es':=es) (w':=w') (fun _=>False) q.fr.os q.fr.tape q.fr.output q.fr.size hblk (fun _ h=>h.elim) (fun _ h=>h) (fun _ h=>.inl h) (.refl _) hm.hlen (fun k e h L hh=>.inl ⟨L,hh,fun _ _ _ h=>h⟩);refine⟨v,ok,H,rfl,h2,.refl _,h1,?_⟩;cases O with
 |d x v h=>
  cases x with
  |lit u=>cases h;exact .d _ _ (.lit _)
  |_=>simp[AV.flat]at z
 |eu xs vs hl' h=>
  refine .eu xs vs hl' (fun i hi=>?_);simp only[AV.flat,DY]at z;have Y:=z (xs.getD i .junk) N7;have Z:=h i hi;generalize xs.getD i .junk=x at Y Z;generalize vs.getD i undef=u at Z;cases Z with
  |d y _ h5=>
   cases y with
   |lit u=>cases h5;exact .d _ _ (.lit _)
   |_=>simp at Y
  |_=>simp at Y
 |_=>simp[AV.flat]at z
end
def AV.thaw (k:Nat) (xs:List D):AV→AV
 | .bn j=>if j=k then .d (.sl xs)else .bn j
 | .lD j i off=>if j=k then .junk else .lD j i off
 |x=>x
def Am.thaw (σ:Am) (k:Nat) (xs:List D):Am:=⟨σ.slots.map (AV.thaw k xs),σ.ents.set k .dead,σ.base⟩
def O1 {σ:Am} (k:Nat) {e s:Nat} {xs:List D} (hk:σ.ents[k]? =some (.arr e s xs)):∀C ok H a w,Holds C ok H σ a w→∃ok',Holds C ok' H (σ.thaw k xs) a w:=by
 intro C ok H a w u;obtain⟨hd,O,hok⟩:=GR u.mem.ent u.mem.hlen hk;have I:k<σ.ents.length:=(FP.1 hk).1
 let ok':Nat→Prop:=fun b=>ok b∨Cx hd.v=some b
 have M:=fun b q=>u.mem.blk k _ hd b hk rfl O q;have hg:ER ok w ok' w:=fun b q=>⟨.inl q,rfl⟩
 refine⟨ok',⟨u.mem.fr,fun b q=>.inl (u.mem.yR b q),?_,?_,u.mem.names,by simp[Am.thaw,u.mem.hlen],?_,?_,?_⟩,by simp[Am.thaw,u.size],u.defers.mono hg,u.base,?_⟩
 ·rintro b (q|q)
  ·exact u.mem.yS b q
  exact .inr (M b q).2.2
 ·rintro b (q|q)
  ·exact u.mem.kP b q
  exact(M b q).2.1
 ·intro j e' h' he J;rcases LH I he with⟨rfl,rfl⟩|⟨_,L⟩
  ·trivial
  exact(u.mem.ent j e' h' L J).mono hg (.refl _) (fun _ _ _=>rfl)
 ·intro j e' h' b he hl J q;rcases LH I he with⟨rfl,rfl⟩|⟨hne,L⟩
  ·cases hl
  have h3:=u.mem.blk j e' h' b L hl J q;refine⟨fun z=>?_,h3.2⟩;rcases z with z|z
  ·exact h3.1 z
  exact hne (u.mem.DU j k e' _ h' hd b L hk hl rfl J O q z)
 ·intro i j e1 e2 h1 h2 b he1 he2 Y Z hh1 hh2 hb1 hb2;rcases LH I he1 with⟨rfl,rfl⟩|⟨_,ar5⟩
  ·cases Y
  rcases LH I he2 with⟨rfl,rfl⟩|⟨_,aly⟩
  ·cases Z
  exact u.mem.DU i j e1 e2 h1 h2 b ar5 aly Y Z hh1 hh2 hb1 hb2
 intro t ht;simp only[Am.thaw,CG]at ht
 have e1:(σ.thaw k xs).slots.getD t .junk=(σ.slots.getD t .junk).thaw k xs:=by
  simp only[Am.thaw];exact SY _ _ _ ht
 rw[e1];have U:=(u.slot t ht).mono hg (Names.refl H);generalize σ.slots.getD t .junk=x at U ⊢;generalize a.tmps.getD t undef=v at U ⊢;cases x with
 |bn j=>
  simp only[AV.thaw];split
  ·rename_i hj;subst hj;obtain rfl:=O5 U O;exact .d _ _ (dD hok (fun b q=>.inl q) (fun b q=>.inr q))
  exact U
 |lD j i off=>
  simp only[AV.thaw];split
  ·exact .junk _
  exact U
 |_=>exact U
def AQ.thaw {P:Program} {c:Code} {σ:Am} {Q:Exit→Am→Prop} (k:Nat) {e s:Nat} {xs:List D} (q:σ.ents[k]? =some (.arr e s xs)) (h:AQ P c (σ.thaw k xs) Q):AQ P c σ Q:=by
 refine⟨fun ro u C ok H a w z=>?_⟩;obtain⟨ok',j⟩:=O1 k q C ok H a w z;exact h.run ro u C ok' H a w j
def Ar.view {P:Program} {f:FuncId} {args:List AV} {e s:Nat} {xs:List D} (h:Ar P f args [] (.bn 0) [.arr e s xs]):Ar P f args [] (.d (.sl xs)) []:=by
 intro ok X H w q hm hs ha;refine(h ok X H w q hm hs ha).mono ?_;rintro e' w' ⟨v,ok',H',rfl,j,L⟩;have M:H=[]:=Gf hm.hlen;have hl:H'.length=1:=j.hlen
 match H',hl with
 | [hd],_=>
   obtain rfl:=O5 L (h:=hd) rfl;have I:=j.ent 0 _ hd rfl rfl;have z:=fun b z=>j.blk 0 _ hd b rfl rfl rfl z
   let J:Nat→Prop:=fun b=>ok' b∨Cx hd.v=some b
   refine⟨hd.v,J,[],rfl,⟨j.fr,fun b h=>.inl (j.yR b h),?_,?_,by intro k v O;subst M;simp at O,rfl,fun k e h u=>by simp at u,fun k e h b u=>by simp at u,fun k k' e e' h h' b u=>by simp at u⟩,.d _ _ (dD I (fun b h=>.inl h) (fun b h=>.inr h))⟩
   ·rintro b (h|h)
    ·exact j.yS b h
    exact .inr (z b h).2.2
   rintro b (h|h)
   ·exact j.kP b h
   exact(z b h).2.1
def ana (es E':List BA) (j:E'.all BA.closed=true):LX [] es E'=es++E':=by
 unfold LX;simp only[List.findIdx?_nil,LY,gU];rw[aVc j];congr 1;apply aX;intro i;simp only[JG,List.getElem?_zipIdx];cases es[i]? <;>rfl
def abM {P:Program} {o:Oper} {es:List BA} {f:FuncId} {ops:Array Operand} {ats:Array TypeId} {dX gV:List AV} {j res':AV} {E':List BA} (z:Ar P f gV [] j E') (I:BD P f=true) (q:E'.all BA.closed=true)
 (ha:NH [] dX gV) (hl:ops.toList.length=dX.length) (J:j.up [] es.length=res') (L:o.op=.call { callee:=.value (.func f),args:=ops,argTypes:=ats }):BU P o (FM ops.toList dX) es res' (es++E'):=by
 have :=aQc (es:=es) [] z I (by
  have u:E'.all (BA.aoy [] es.length)=true:=by
   rw[DY]at q ⊢;exact fun e M=>aiv (q e M)
  simp[RU,u]) (fun i s h=>IK) ha hl L
 rw[ana _ _ q,J]at this;exact this
def aQW {P:Program} {o:Oper} {es:List BA} {f:FuncId} {ops:Array Operand} {ats:Array TypeId} {dX gV:List AV} {j res':AV} (q:Ar P f gV [] j []) (u:BD P f=true)
 (ha:NH [] dX gV) (hl:ops.toList.length=dX.length) (z:j.up [] es.length=res') (I:o.op=.call { callee:=.value (.func f),args:=ops,argTypes:=ats }):BU P o (FM ops.toList dX) es res' es:=by
 have :=abM (es:=es) q u rfl ha hl z I;rw[Oe]at this;exact this
section
variable {P : Program} {σ : Am} {Q : Exit → Am → Prop}
def aJ6 (P:Program) (σ:Am):ResultVar→AV→Prop
 | .tmp t,x=>x=σ.slots.getD t .junk
 | .cell t T,x=>∃k cs agg n,σ.slots.getD t .junk=.ptr k 0∧σ.ents[k]? =some (.box cs)∧cs.all AV.Au=true∧EM P T agg n∧n≤cs.length∧(agg=false→n=1)∧x=.d (QD agg (Iy cs) 0 n)
def JI {P:Program} {σ:Am} {t:Tmp} {x:AV} (h:x=σ.slots.getD t .junk):aJ6 P σ (.tmp t) x:=h
def Yz (P:Program) (σ:Am):List ResultVar→List AV→Prop
 |r::rs,x::xs=>aJ6 P σ r x∧Yz P σ rs xs
 | [],[]=>True
 |_,_=>False
def jW :List AV→AV
 | [x]=>x
 |xs=>.eu xs
def aR0 (P:Program) (fn:Func) (j:AV) (E':List BA):Exit→Am→Prop
 | .ret,σ=>∃xs π,Yz P σ fn.results.toList xs∧VH σ.base σ.ents π=true∧j=(jW xs).back π∧E'=SL σ.ents π
 | .normal,σ=>∃xs π,Yz P σ fn.results.toList xs∧VH σ.base σ.ents π=true∧j=(jW xs).back π∧E'=SL σ.ents π
 |_,_=>False
def aIT (tmps:Array Value):ResultVar→Sem Value
 | .tmp t=>pure (tmps.getD t undef)
 | .cell t T=>do loadVar T (←asAddr (tmps.getD t undef))
def ahF {C:ES} {ok:Nat→Prop} {H:List BO} {a:Act} {w:World} (h:Holds C ok H σ a w) {r:ResultVar} {x:AV} (j:aJ6 P σ r x):
 ∃v,(aIT a.tmps r).run P w=.ok v w∧R ok w H x v:=by
 cases r with
 |tmp t=>
  obtain rfl:=j;exact⟨_,rfl,h.avG t⟩
 |cell t T=>
  obtain⟨k,cs,agg,n,hs,J,hd,L,hn,M,rfl⟩:=j;have hp:=hs▸h.avG t;obtain⟨O,U,q⟩:=GR h.mem.ent h.mem.hlen J;obtain⟨b,z,Y,Z,hc⟩:=aJh q hd;generalize hu:a.tmps.getD t undef=u at hp;cases hp with
  |ptr _ _ b' s I=>
   rw[U]at I;obtain rfl:=CV I;simp at z;subst z;show ∃v,((do loadVar T (←asAddr (a.tmps.getD t undef)):Sem Value)).run P w=.ok v w∧_;rw[hu];obtain⟨v,j,hD⟩:=aBQ L (off:=0) (by rw[wS];omega) M Y Z hc;refine⟨v,?_,.d _ _ hD⟩;simp only[Instr.loadAt,Instr.sureAddr,FT,Gj,Fh,JJ]at j;simp only[asAddr,FT,Gj,Fh];exact j
def aS8 {C:ES} {ok:Nat→Prop} {H:List BO} {a:Act} {w:World} (h:Holds C ok H σ a w):∀(rs:List ResultVar) (xs:List AV),Yz P σ rs xs→
 ∃vs:List Value,(rs.mapM (aIT a.tmps)).run P w=.ok vs w∧vs.length=xs.length∧∀i,i<xs.length→R ok w H (xs.getD i .junk) (vs.getD i undef)
 | [],[],_=>⟨[],rfl,rfl,fun i hi=>P7⟩
 | [],_::_,h'=>h'.elim
 |_::_,[],h'=>h'.elim
 |r::rs,x::xs,h'=>by
  obtain⟨v,u,z⟩:=ahF (P:=P) h h'.1;obtain⟨vs,j,hl,q⟩:=aS8 h rs xs h'.2;refine⟨v::vs,?_,dM,fun i hi=>?_⟩
  ·simp only[List.mapM_cons,FT,u,j,Fh,Gj]
  cases i with
  |zero=>exact z
  |succ i=>simpa using q i G9
def anh {C:ES} {ok:Nat→Prop} {H:List BO} {a:Act} {w:World} (h:Holds C ok H σ a w) {fn:Func} {xs:List AV} (I:Yz P σ fn.results.toList xs):
 ∃v,(results fn a.tmps).run P w=.ok v w∧R ok w H (jW xs) v:=by
 obtain⟨vs,u,hl,j⟩:=aS8 (P:=P) h _ _ I
 have hm:(results fn a.tmps).run P w=.ok (if h:vs.toArray.size=1 then vs.toArray[0]else .tuple vs.toArray) w:=by
  have e:results fn a.tmps=(do let vs ←fn.results.mapM (aIT a.tmps);pure (if h:vs.size=1 then vs[0]else .tuple vs)):=rfl;rw[e,aNz];simp only[FT,yZ,u,Fh,Gj]
 refine⟨_,hm,?_⟩
 match xs,hl,j with
 | [x],hl,j=>
   have q:vs.toArray.size=1:=Lc
   rw[dif_pos q];have :=j 0 BF
   have e:vs.getD 0 undef=vs.toArray[0]:=by
    have :0<vs.length:=dM
    simp[List.getD,this]
   rw[e]at this;exact this
 | [],hl,j=>
   have q:¬vs.toArray.size=1:=by simp at hl;simp[hl]
   rw[dif_neg q];exact .eu [] _ Lc (fun i hi=>P7)
 |x::y::xs,hl,j=>
  have q:¬vs.toArray.size=1:=by simp at hl;simp[hl]
  rw[dif_neg q];refine .eu _ _ Lc (fun i hi=>?_);have :=j i hi;have z:i<vs.length:=AA
  have e:vs.toArray.getD i undef=vs.getD i undef:=by simp[Array.getD,List.getD,z]
  rw[e];exact this
def aiL {w:World} {D:Nat} {x:Option (List Deferred)} (h:w.heap[D]? =some (.deferred x)) (o:Nat):w.cell? ⟨D,o,none⟩=none:=by
 unfold World.cell?;rw[h]
def Holds.take {C:ES} {ok:Nat→Prop} {H:List BO} {σ:Am} {a:Act} {w:World} (hC:∀b,C.ok0 b→b<C.w0.heap.size) (h:Holds C ok H σ a w) {D:Nat} {Ds:List Nat} (hd:∀d∈Ds,ok d∧C.w0.heap.size≤d∧w.heap[d]? =some (.deferred (some [])))
 (hD:ok D∧C.w0.heap.size≤D∧w.heap[D]? =some (.deferred (some []))) (J:(D::Ds).Nodup):
 ∃ok',Holds C ok' H σ { a with defers:=Ds.map fun D=>{ target:=.collected D,args:= #[] } } (w.putObj D (.deferred none))∧∀d∈Ds,ok' d∧C.w0.heap.size≤d∧(w.putObj D (.deferred none)).heap[d]? =some (.deferred (some [])):=by
 obtain⟨h1,h2,h3⟩:=hD;have q:∀b,b≠D→(w.putObj D (.deferred none)).heap[b]? =w.heap[b]? :=fun b j=>Xk j;have L:∀b o,ok b→(w.cell? ⟨b,o,none⟩).isSome=true→ok b∧b≠D:=fun b o j M=>⟨j,fun e=>by subst e;rw[aiL h3]at M;cases M⟩
 have hg:ER (fun b=>ok b∧b≠D) w (fun b=>ok b∧b≠D) (w.putObj D (.deferred none)):=fun b j=>⟨j,q b j.2⟩
 have Y:∀(k:Nat) (e:BA) (hd:BO) (b:Nat),σ.ents[k]? =some e→e.live=true→H[k]? =some hd→Cx hd.v=some b→b≠D:=fun k e hd b z hl I j Z=>(h.mem.blk k e hd b z hl I j).1 (Z▸h1)
 have O:∀d∈Ds,(ok d∧d≠D)∧C.w0.heap.size≤d∧(w.putObj D (.deferred none)).heap[d]? =some (.deferred (some [])):=fun d u=>by
  have U:d≠D:=fun e=>(Kr.1 J).1 (e▸u);exact⟨⟨(hd d u).1,U⟩,(hd d u).2.1,by rw[q d U];exact(hd d u).2.2⟩
 refine⟨fun b=>ok b∧b≠D,⟨⟨⟨h.mem.fr.os,h.mem.fr.tape,h.mem.fr.output,by simpa[World.putObj]using h.mem.fr.size,fun k hk hX=>by rw[q k AA];exact h.mem.fr.block k hk hX⟩,fun b j=>⟨h.mem.yR b j,fun e=>by have :=hC b j;omega⟩,fun b j=>h.mem.yS b j.1,fun b j=>by simpa[World.putObj]using h.mem.kP b j.1,h.mem.names,h.mem.hlen,?_,?_,?_⟩,h.size,⟨Ds,rfl,(Kr.1 J).2,O⟩,h.base,fun t ht=>((h.slot t ht).shrink L).mono hg (.refl _)⟩,O⟩
 ·intro k e hd z I;exact((h.mem.ent k e hd z I).shrink L (fun b ms c j M=>⟨j,fun e=>by subst e;rw[h3]at M;cases M⟩)).mono hg (.refl _) fun hl b j=>q b (Y k e hd b z hl I j)
 ·intro k e hd b z hl I j;obtain⟨h4,h5,h6⟩:=h.mem.blk k e hd b z hl I j;exact⟨fun hx=>h4 hx.1,by simpa[World.putObj]using h5,h6⟩
 exact h.mem.DU
def aJe {fn:Func} {Rr:Ending→World→Prop} {C:ES} (u:∀b,C.ok0 b→b<C.w0.heap.size) {H:List BO} {σ:Am}
 (z:∀ok a w,Holds C ok H σ a w→∃v,(results fn a.tmps).run P w=.ok v w∧Rr (.returned v) w):∀(Ds:List Nat) {ok:Nat→Prop} {a:Act} {w:World},Holds C ok H σ a w→(∀d∈Ds,ok d∧C.w0.heap.size≤d∧w.heap[d]? =some (.deferred (some [])))→Ds.Nodup→
  LeavesInM (J3 none) 0 P fn a.tmps Rr (Ds.map fun D=>{ target:=.collected D,args:= #[] }) .returning w
 | [],ok,a,w,h,_,_=>z ok a w h
 |D::Ds,ok,a,w,h,hd,I=>by
  obtain⟨ok',h',j⟩:=h.take u (fun d q=>hd d (FB _ q)) (hd D (EU ..)) I;have J:=aJe u z Ds h' j (Kr.1 I).2;exact⟨BF,.inl ⟨D,_,rfl,run_takeDeferred (hd D (EU ..)).2.2,J⟩⟩
def Ar.aN {f:FuncId} {fn:Func} {c:Code} {args:List AV} {E E':List BA} {u:AV} (hf:P.funcs[f]? =some fn) (hb:fn.body=some c)
 (h:AQ P c (.enter args fn.ntmps E) (aR0 P fn u E')):Ar P f args E u E':=by
 intro ok X H w j hm hs ha;refine(aEc (ro:=none) (n:=0)).1 (aOh hf hb trivial (Uo (h.run none (.inl rfl) ⟨w,ok,X,H⟩ ok H _ w ?_) ?_) rfl)
 ·refine⟨hm,?_,.nil _ _ _,hm.hlen,fun t ht=>?_⟩
  ·simp[Am.enter,hs]
  simp only[Am.enter];by_cases e:t<args.length
  ·have J:(args++List.replicate (fn.ntmps-args.length) AV.junk).getD t .junk=args.getD t .junk:=aPW
   have e2:(j++Array.replicate (fn.ntmps-j.size) undef).getD t undef=j.getD t undef:=by
    simp[Ih,Zx (show t<j.size by omega)]
   rw[J,e2];exact ha t e
  have J:(args++List.replicate (fn.ntmps-args.length) AV.junk).getD t .junk=.junk:=by
   simp only[List.getD,Ju (UU e),aNj];split<;>rfl
  rw[J];exact .junk _
 rintro e a' w' ⟨ok',H',σ',h1,L⟩;obtain⟨Ds,M,O,U⟩:=h1.defers
 have key:∀(x:List AV) (π:List (Nat×Bool)),Yz P σ' fn.results.toList x→VH σ'.base σ'.ents π=true→u=(jW x).back π→E'=SL σ'.ents π→
  LeavesInM (J3 none) 0 P fn a'.tmps (fun e w'=>∃v ok' H',e=.returned v∧Ch ⟨w,ok,X,H⟩ ok' H' E' w'∧R ok' w' H' u v) a'.defers .returning w':=by
  rintro x π I q rfl rfl;rw[M];refine aJe (P:=P) (C:=⟨w,ok,X,H⟩) hm.kP (fun Y a2 w2 z=>?_) Ds h1 U O;obtain⟨v,hv,hR⟩:=anh (P:=P) z I;exact⟨v,hv,v,Y,_,rfl,z.mem.norm π (z.base▸q),hR.back π⟩
 cases e with
 |ret=>obtain⟨x,π,I,q,z,Z⟩:=L;exact key x π I q z Z
 |normal=>obtain⟨x,π,I,q,z,Z⟩:=L;exact key x π I q z Z
 |_=>exact L.elim
def Ad {x y:Code} (j:AQ P x σ (KZ (fun s=>AQ P y s Q) Q)):AQ P (.seq x y) σ Q:=AQ.seq _ j (fun _ h=>h)
def Dv {x y:Code} (K:Am→Prop) (j:∀s,K s→AQ P y s Q) (q:(∀s,K s→AQ P y s Q)→AQ P x σ (KZ (fun s=>AQ P y s Q) Q)):AQ P (.seq x y) σ Q:=AQ.seq _ (q j) (fun _ h=>h)
def TV {c:Operand} {x y:Code} (j:σ.get c=.d (.lit (.bool true))) (h:AQ P x σ Q):AQ P (.cond c x y) σ Q:=AQ.cond true j (fun _=>h) (fun h=>Gy)
def Ou {c:Operand} {x y:Code} (j:σ.get c=.d (.lit (.bool false))) (h:AQ P y σ Q):AQ P (.cond c x y) σ Q:=AQ.cond false j (fun h=>Gy) (fun _=>h)
def HY {id:Nat} {ops:Array Oper} {y:Code} {σ':Am} {rs:List AV} {ess:List (List BA)} {bs:List Bool} (hm:P.follows .mixedOrders=true) (j:(Vs ops&&X6 ops&&X7 ops σ.slots.length&&Vw ops)=true) (q:UR ops bs=true)
 (h:Ep P ops ops.toList σ rs ess bs σ') (u:AQ P y σ' Q):AQ P (.seq (.region id ops true) y) σ Q:=
 AQ.seq (fun s=>s=σ') (.draw hm j q h rfl) (fun _ e=>e▸u)
end
section
variable {P : Program} {o : Oper} {es : List BA}
def amZ {x:Operand} {t:TypeId} {agg:Bool} {n off:Nat} {cs:List D} {y:D} (j:y=QD agg cs off n) (q:EM P t agg n) (u:off+n≤cs.length) (z:agg=false→n=1) (I:o.op=.load t x):BU P o [(x,.d (.ref cs off))] es (.d y) es:=j▸ajD q u z I
def ao1 {x:Operand} {t:TypeId} {agg:Bool} {k n off:Nat} {cs:List AV} {y:D} (j:y=QD agg (Iy cs) off n) (q:es[k]? =some (.box cs)) (hd:cs.all AV.Au=true) (u:EM P t agg n) (z:off+n≤cs.length) (I:agg=false→n=1) (J:o.op=.load t x):
 BU P o [(x,.ptr k off)] es (.d y) es:=j▸aeG q hd u z I J
def ajQ {x:Operand} {t:TypeId} {f off n:Nat} {agg:Bool} {cs:List D} {y:D} (j:y=QD agg cs off n) (hp:kU P t f off agg n=true) (q:off+n≤cs.length) (u:agg=false→n=1) (z:o.op=.field t x f):BU P o [(x,.d (.agg cs))] es (.d y) es:=j▸anM hp q u z
def akh {t:TypeId} {q:Array (Nat×Operand)} {j:List (Nat×Nat)} {z:Value} {y:D} (u:JE P t j z) (vs:List AV) (I:o.op=.build t q) (J:y=.agg (Iy (Jz (fun(i:Nat)=>j[i]?) (Fb z) q.toList vs))) (hp:NI (fun(i:Nat)=>j[i]?) (Fb z).length q.toList vs=true)
 (hd:(Jz (fun(i:Nat)=>j[i]?) (Fb z) q.toList vs).all AV.Au=true):BU P o (NS q.toList vs) es (.d y) es:=J▸anJ u vs hp hd I
def ae8 {s t:TypeId} {x:Operand} {j k:IntKind} {n:Int} (hs:P.underlying s=some (.int j)) (ht:P.underlying t=some (.int k)) (q:o.op=.convert s t x):BU P o [(x,.d (.lit (.int j n)))] es (.d (.lit (.int k (k.wrap n)))) es:=
 aXX q fun w=>by simp[convert,underlying,hs,ht,Conv.intToInt]
def acK {s t:TypeId} {x:Operand} {u:ByteArray} (hs:P.underlying s=some .string) (ht:P.underlying t=some .string) (j:o.op=.convert s t x):BU P o [(x,.d (DK u))] es (.d (DK u)) es:=
 aXX j fun w=>by simp[convert,underlying,hs,ht]
def aeX {t t':TypeId} {x y:Operand} {a b:Bool} (ht:P.underlying t=some .bool) (j:o.op=.binOp .eql t x y t'):BU P o [(x,.d (Dx a)),(y,.d (Dx b))] es (.d (Dx (a==b))) es:=
 MC (u:=.bool a) (v:=.bool b) (r:=.bool (a==b)) j (fun w=>by
  show((do pure (.bool (←Op.equal t (.bool a) (.bool b))):Sem Value)).run P w=_
  simp only[FT,run_equal_bool w t a b ht,Fh,Gj]) ⟨rfl,rfl⟩
def ank {t t':TypeId} {x y:Operand} {a b:Bool} (ht:P.underlying t=some .bool) (j:o.op=.binOp .neq t x y t'):BU P o [(x,.d (Dx a)),(y,.d (Dx b))] es (.d (Dx (!(a==b)))) es:=
 MC (u:=.bool a) (v:=.bool b) (r:=.bool (!(a==b))) j (fun w=>by
  show((do pure (.bool (!(←Op.equal t (.bool a) (.bool b)))):Sem Value)).run P w=_
  simp only[FT,run_equal_bool w t a b ht,Fh,Gj]) ⟨rfl,rfl⟩
end
def bI {A Rr:Type} (body:(A→Option Rr)→A→Option Rr):Nat→A→Option Rr
 |0,_=>none
 |n+1,a=>body (bI body n) a
def Fl {P:Program} {σ:Am} {Q:Exit→Am→Prop} {q:Code} {A Rr:Type} (S:A→Am) (body:(A→Option Rr)→A→Option Rr) (r:Rr) (a0:A) (hs:CX σ (S a0)) (h:Go.Proofs.YtkkdimcnpacjhaaGreat.bI body Ag a0=some r)
 (round:∀(J:Am→Prop) (k:A→Option Rr),(∀σ' a,CX σ' (S a)→k a=some r→J σ')→∀a,body k a=some r→AQ P q (S a) (KZ J Q)):AQ P (.loop q) σ Q:=by
 refine AQ.loop (fun n s=>∃a,CX s (S a)∧Go.Proofs.YtkkdimcnpacjhaaGreat.bI body n a=some r) Ag ⟨a0,hs,h⟩ ?_;rintro n s ⟨a,j,u⟩;refine DI j ?_;cases n with
 |zero=>cases u
 |succ n=>exact round _ (Go.Proofs.YtkkdimcnpacjhaaGreat.bI body n) (fun σ' a z I=>⟨n,WC n,a,z,I⟩) a u
def aV {A B Rr:Type} (body:(A→B→Option Rr)→A→B→Option Rr):Nat→A→B→Option Rr
 |0,_,_=>none
 |n+1,a,b=>body (aV body n) a b
def Em {P:Program} {σ:Am} {Q:Exit→Am→Prop} {u:Code} {A B Rr:Type} (S:A→B→Am) (body:(A→B→Option Rr)→A→B→Option Rr) (r:Rr) (a0:A) (q:B) (hs:CX σ (S a0 q)) (h:Go.Proofs.YtkkdimcnpacjhaaGreat.aV body Ag a0 q=some r)
 (round:∀(J:Am→Prop) (k:A→B→Option Rr),(∀σ' a b,CX σ' (S a b)→k a b=some r→J σ')→∀a b,body k a b=some r→AQ P u (S a b) (KZ J Q)):AQ P (.loop u) σ Q:=by
 refine AQ.loop (fun n s=>∃a b,CX s (S a b)∧Go.Proofs.YtkkdimcnpacjhaaGreat.aV body n a b=some r) Ag ⟨a0,q,hs,h⟩ ?_;rintro n s ⟨a,b,j,z⟩;refine DI j ?_;cases n with
 |zero=>cases z
 |succ n=>exact round _ (Go.Proofs.YtkkdimcnpacjhaaGreat.aV body n) (fun σ' a b I L=>⟨n,WC n,a,b,I,L⟩) a b z
def ku {A B C Rr:Type} (body:(A→B→C→Option Rr)→A→B→C→Option Rr):Nat→A→B→C→Option Rr
 |0,_,_,_=>none
 |n+1,a,b,c=>body (ku body n) a b c
def qj {P:Program} {σ:Am} {Q:Exit→Am→Prop} {z:Code} {A B C Rr:Type} (S:A→B→C→Am) (body:(A→B→C→Option Rr)→A→B→C→Option Rr) (r:Rr) (a0:A) (q:B) (u:C) (hs:CX σ (S a0 q u)) (h:Go.Proofs.YtkkdimcnpacjhaaGreat.ku body Ag a0 q u=some r)
 (round:∀(J:Am→Prop) (k:A→B→C→Option Rr),(∀σ' a b c,CX σ' (S a b c)→k a b c=some r→J σ')→∀a b c,body k a b c=some r→AQ P z (S a b c) (KZ J Q)):AQ P (.loop z) σ Q:=by
 refine AQ.loop (fun n s=>∃a b c,CX s (S a b c)∧Go.Proofs.YtkkdimcnpacjhaaGreat.ku body n a b c=some r) Ag ⟨a0,q,u,hs,h⟩ ?_;rintro n s ⟨a,b,c,j,I⟩;refine DI j ?_;cases n with
 |zero=>cases I
 |succ n=>exact round _ (Go.Proofs.YtkkdimcnpacjhaaGreat.ku body n) (fun σ' a b c L M=>⟨n,WC n,a,b,c,L,M⟩) a b c I
def Xq {A B C D Rr:Type} (body:(A→B→C→D→Option Rr)→A→B→C→D→Option Rr):Nat→A→B→C→D→Option Rr
 |0,_,_,_,_=>none
 |n+1,a,b,c,d=>body (Xq body n) a b c d
def AQ.Xq {P:Program} {σ:Am} {Q:Exit→Am→Prop} {I:Code} {A B C D Rr:Type} (S:A→B→C→D→Am) (body:(A→B→C→D→Option Rr)→A→B→C→D→Option Rr) (r:Rr) (a0:A) (q:B) (u:C) (z:D) (hs:CX σ (S a0 q u z)) (h:Go.Proofs.YtkkdimcnpacjhaaGreat.Xq body Ag a0 q u z=some r)
 (round:∀(J:Am→Prop) (k:A→B→C→D→Option Rr),(∀σ' a b c d,CX σ' (S a b c d)→k a b c d=some r→J σ')→∀a b c d,body k a b c d=some r→AQ P I (S a b c d) (KZ J Q)):AQ P (.loop I) σ Q:=by
 refine AQ.loop (fun n s=>∃a b c d,CX s (S a b c d)∧Go.Proofs.YtkkdimcnpacjhaaGreat.Xq body n a b c d=some r) Ag ⟨a0,q,u,z,hs,h⟩ ?_;rintro n s ⟨a,b,c,d,j,L⟩;refine DI j ?_;cases n with
 |zero=>cases L
 |succ n=>exact round _ (Go.Proofs.YtkkdimcnpacjhaaGreat.Xq body n) (fun σ' a b c d M O=>⟨n,WC n,a,b,c,d,M,O⟩) a b c d L
def E8 {A B C D E Rr:Type} (body:(A→B→C→D→E→Option Rr)→A→B→C→D→E→Option Rr):Nat→A→B→C→D→E→Option Rr
 |0,_,_,_,_,_=>none
 |n+1,a,b,c,d,e=>body (E8 body n) a b c d e
def AQ.E8 {P:Program} {σ:Am} {Q:Exit→Am→Prop} {L:Code} {A B C D E Rr:Type} (S:A→B→C→D→E→Am) (body:(A→B→C→D→E→Option Rr)→A→B→C→D→E→Option Rr) (r:Rr) (a0:A) (q:B) (u:C) (z:D) (I:E) (hs:CX σ (S a0 q u z I)) (h:Go.Proofs.YtkkdimcnpacjhaaGreat.E8 body Ag a0 q u z I=some r)
 (round:∀(J:Am→Prop) (k:A→B→C→D→E→Option Rr),(∀σ' a b c d e,CX σ' (S a b c d e)→k a b c d e=some r→J σ')→∀a b c d e,body k a b c d e=some r→AQ P L (S a b c d e) (KZ J Q)):AQ P (.loop L) σ Q:=by
 refine AQ.loop (fun n s=>∃a b c d e,CX s (S a b c d e)∧Go.Proofs.YtkkdimcnpacjhaaGreat.E8 body n a b c d e=some r) Ag ⟨a0,q,u,z,I,hs,h⟩ ?_;rintro n s ⟨a,b,c,d,e,j,M⟩;refine DI j ?_;cases n with
 |zero=>cases M
 |succ n=>exact round _ (Go.Proofs.YtkkdimcnpacjhaaGreat.E8 body n) (fun σ' a b c d e O U=>⟨n,WC n,a,b,c,d,e,O,U⟩) a b c d e M
def E9 {A B C D E F Rr:Type} (body:(A→B→C→D→E→F→Option Rr)→A→B→C→D→E→F→Option Rr):Nat→A→B→C→D→E→F→Option Rr
 |0,_,_,_,_,_,_=>none
 |n+1,a,b,c,d,e,f=>body (E9 body n) a b c d e f
def AQ.E9 {P:Program} {σ:Am} {Q:Exit→Am→Prop} {M:Code} {A B C D E F Rr:Type} (S:A→B→C→D→E→F→Am) (body:(A→B→C→D→E→F→Option Rr)→A→B→C→D→E→F→Option Rr) (r:Rr) (a0:A) (q:B) (u:C) (z:D) (I:E) (L:F) (hs:CX σ (S a0 q u z I L)) (h:Go.Proofs.YtkkdimcnpacjhaaGreat.E9 body Ag a0 q u z I L=some r)
 (round:∀(J:Am→Prop) (k:A→B→C→D→E→F→Option Rr),(∀σ' a b c d e f,CX σ' (S a b c d e f)→k a b c d e f=some r→J σ')→∀a b c d e f,body k a b c d e f=some r→AQ P M (S a b c d e f) (KZ J Q)):AQ P (.loop M) σ Q:=by
 refine AQ.loop (fun n s=>∃a b c d e f,CX s (S a b c d e f)∧Go.Proofs.YtkkdimcnpacjhaaGreat.E9 body n a b c d e f=some r) Ag ⟨a0,q,u,z,I,L,hs,h⟩ ?_;rintro n s ⟨a,b,c,d,e,f,j,O⟩;refine DI j ?_;cases n with
 |zero=>cases O
 |succ n=>exact round _ (Go.Proofs.YtkkdimcnpacjhaaGreat.E9 body n) (fun σ' a b c d e f U Y=>⟨n,WC n,a,b,c,d,e,f,U,Y⟩) a b c d e f O
def aaA {A B C D E F G Rr:Type} (body:(A→B→C→D→E→F→G→Option Rr)→A→B→C→D→E→F→G→Option Rr):Nat→A→B→C→D→E→F→G→Option Rr
 |0,_,_,_,_,_,_,_=>none
 |n+1,a,b,c,d,e,f,g=>body (aaA body n) a b c d e f g
def AQ.aaA {P:Program} {σ:Am} {Q:Exit→Am→Prop} {O:Code} {A B C D E F G Rr:Type} (S:A→B→C→D→E→F→G→Am) (body:(A→B→C→D→E→F→G→Option Rr)→A→B→C→D→E→F→G→Option Rr) (r:Rr) (a0:A) (q:B) (u:C) (z:D) (I:E) (L:F) (M:G) (hs:CX σ (S a0 q u z I L M)) (h:Go.Proofs.YtkkdimcnpacjhaaGreat.aaA body Ag a0 q u z I L M=some r)
 (round:∀(J:Am→Prop) (k:A→B→C→D→E→F→G→Option Rr),(∀σ' a b c d e f g,CX σ' (S a b c d e f g)→k a b c d e f g=some r→J σ')→∀a b c d e f g,body k a b c d e f g=some r→AQ P O (S a b c d e f g) (KZ J Q)):AQ P (.loop O) σ Q:=by
 refine AQ.loop (fun n s=>∃a b c d e f g,CX s (S a b c d e f g)∧Go.Proofs.YtkkdimcnpacjhaaGreat.aaA body n a b c d e f g=some r) Ag ⟨a0,q,u,z,I,L,M,hs,h⟩ ?_;rintro n s ⟨a,b,c,d,e,f,g,j,U⟩;refine DI j ?_;cases n with
 |zero=>cases U
 |succ n=>exact round _ (Go.Proofs.YtkkdimcnpacjhaaGreat.aaA body n) (fun σ' a b c d e f g Y Z=>⟨n,WC n,a,b,c,d,e,f,g,Y,Z⟩) a b c d e f g U
section
variable {P : Program} {o : Oper} {es : List BA} {α : Type}
def akT {b:Nat} {z:α} {n c:Int} {r:List α} (h:Ia b z n c=some r):(0≤n∧n≤c∧(b:Int)*c≤140737488355328)∧r=List.replicate n.toNat z:=by
 unfold Ia at h;split at h
 ·exact⟨‹_›,(CV h).symm⟩
 cases h
def WE {x y:Operand} {t e:TypeId} {size j:Nat} {q:Value} {n c:Int} {r:List α} (enc:α→D) (z:α) (h:Ia j z n c=some r) (hE:Gw P t e size j) (hz:(P.info? e).bind (·.zero)=some q) (h1:q.cells.all (·.oneCell')=true) (M:q.cells.size=size)
 (u:Fb q=(enc z).cells.map .d) (hb:0<j) (ho:o.op=.makeSlice t x y):BU P o [(x,.d (Ac n)),(y,.d (Ac c))] es (.bn es.length) (es++[.arr e size (List.map enc r)]):=
 .eff fun C ok H a w hm hn=>by
  obtain⟨⟨h0,hnc,hbc⟩,rfl⟩:=akT h;have hx:=(Ef hn).1.lit;have O:=(Ef hn).2.lit;simp only at hx O;obtain⟨i,z',hi,hz',hs,hby,_⟩:=hE.info;have hzv:i.zero=some q:=by rw[hi]at hz;simpa using hz
  have U:c≤9223372036854775807:=by
   have h2:(1:Int)*c≤(j:Int)*c:=Int.mul_le_mul_of_nonneg_right AA AA;omega
  have hr:=run_make (P:=P) w t e i q hE.und hi hzv .i64 .i64 n c h0 hnc (by rw[hby];omega) U;rw[hs]at hr
  let cells:=madeCells q.cells (c.toNat*size)
  have Y:=hE.pos;have I:cells.size=c.toNat*size:=size_madeCells _ _;have Z:(Fb q).length=size:=by simp[Fb,M]
  have J:∀y∈List.map enc (List.replicate n.toNat z),y.cells.length=size:=by
   intro y O;simp only[List.map_replicate,List.mem_replicate]at O;rw[O.2,←Z,u];simp
  have L:=RJ J;have hlen:(List.map enc (List.replicate n.toNat z)).length=n.toNat:=BF
  rw[hlen]at L;have aJR:n.toNat*size≤c.toNat*size:=Jl _ AA
  have hrs:∀{ok:Nat→Prop} {w:World} {H:List BO},Ez ok w H (flat (List.map enc (List.replicate n.toNat z))) (cells.toList.take (n.toNat*size)):=by
   intro ok w H;refine⟨by rw[L,FD,Td,I];omega,fun k hk=>?_⟩;rw[L]at hk;have hd:=yw k size;have hq:k/size<n.toNat:=yK (by rwa [UZ]at hk);have hm':k % size<size:=jv _ Y;have e0:k=k/size*size+k % size:=by rw[UZ];exact hd.symm
   have e1:(flat (List.map enc (List.replicate n.toNat z))).getD k .junk=.d ((enc z).cells.getD (k % size) DT):=by
    have hg:=flat_get J (k/size) (k % size) (by rw[hlen];exact hq) hm';rw[←e0]at hg;rw[hg];congr 3;simp[List.getD,hq]
   have hcl:(enc z).cells.length=size:=by rw[←Z,u];simp
   have e2:(AV.d ((enc z).cells.getD (k % size) DT))=(Fb q).getD (k % size) .junk:=by
    rw[u];have :k % size<(enc z).cells.length:=AA
    simp[List.getD,this]
   have hmz:k % size<q.cells.size:=AA
   have e3:(cells.toList.take (n.toNat*size)).getD k undef=q.cells[k % size]:=by
    have hk2:k<c.toNat*size:=AA
    have e:cells.toList=(List.range (c.toNat*size)).map fun i=>q.cells[i % q.cells.size]! :=by
     show(madeCells q.cells (c.toNat*size)).toList=_;simp[madeCells]
    rw[e];simp only[List.getD,MB hk];simp[hk2,M];rw[YS q.cells (k % size) hmz]
   rw[e1,e2,e3];have e4:(Fb q).getD (k % size) .junk=.d (PK q.cells[k % size]):=by simp[Fb,List.getD,hmz]
   rw[e4];exact⟨yF ((U3.1 h1) _ BF),.d _ _ (je _)⟩
  obtain⟨h2,h3⟩:=hm.push (.cells cells e) ⟨.slice (some ⟨w.heap.size,0,none⟩) n.toNat c.toNat,size⟩ (.arr e size (List.map enc (List.replicate n.toNat z))) (fun b hb=>by simpa[Cx]using hb.symm) (by
   refine⟨rfl,J,cells.toList.take (n.toNat*size),⟨?_,.inr ⟨w.heap.size,c.toNat,cells,by rw[hlen],Du _,YO w _,by rw[hlen];omega,aDM,Yc I.symm,by rw[hlen]⟩⟩,hrs⟩
   rw[hlen,FD,Td,I];omega)
  refine⟨.slice (some ⟨w.heap.size,0,none⟩) n.toNat c.toNat,_,ok,_,.inl ?_,h3,Names.push _ _,h2,.bn _ _ _ _ size QC⟩;simp only[execOp,ho,hx,O,FT,hr,Fh,Gj];rfl
def gCopy (l m:List α):List α:=m.take l.length++l.drop m.length
def aVD {x y:Operand} {t e:TypeId} {size bytes k:Nat} (enc:α→D) (l m:List α) (hE:Gw P t e size bytes) (hk:es[k]? =some (.arr e size (List.map enc l))) (hc:∀a,(enc a).cells.length=size) (ho:o.op=.call { callee:=.builtin .copy,args:= #[x,y],argTypes:= #[t,t] }):
 BU P o [(x,.bn k),(y,.d (BL enc m))] es .junk (es.set k (.arr e size (List.map enc (gCopy l m)))):=
 .eff fun C ok H a w hm hn=>by
  have hx:=(Ef hn).1;have hy:=(Ef hn).2;simp only at hx hy;obtain⟨h,hh,hok⟩:=GR hm.ent hm.hlen hk;have hxv:=O5 hx hh;obtain⟨i,z',hi,hz',hs,hby,_⟩:=hE.info;have hu:(underlying t).run P w=.ok (.slice e) w:=aHe
  have hsz:(sizeOf e).run P w=.ok size w:=aI9
  have U:∀(q:List α),∀y∈q.map enc,y.cells.length=size:=fun q y hy=>aHZ
  have hyR:Dc ok w (.sl (m.map enc)) (a.eval y):=by cases hy with |d _ _ h=>exact h
  obtain⟨z,O,aGi⟩:=fD H hyR (U m);obtain⟨h1,h2,ys,Y,hrs⟩:=hok;have Z:(m.map enc).length=m.length:=BF
  have hll:(l.map enc).length=l.length:=BF
  have hnl:z.length=m.length*size:=by rw[O.len,Z]
  let n:=Nat.min m.length l.length
  have hlenx:(Builtin.lenOf (a.eval y)).run P w=.ok m.length w:=by
   rcases O.at_ with⟨ad,c,e1,_⟩|⟨c,e1,e2⟩
   ·rw[e1];simp[Builtin.lenOf]
   rw[e1];rw[Z]at e2;simp[Builtin.lenOf,e2]
  have J:(Builtin.firstCells size n (a.eval y)).run P w=.ok (z.take (n*size)).toArray w:=by
   rcases O.at_ with⟨ad,c,e1,hcells⟩|⟨c,e1,e2⟩
   ·rw[e1];refine run_firstCells_some (P:=P) w size n ad _ c (z.take (n*size)) ?_ ?_
    ·rw[FD,hnl];have :n*size≤m.length*size:=Jl _ (aKV _ _);omega
    intro j v hj;rw[wM]at hj;split at hj
    ·exact hcells j v hj
    cases hj
   rw[e1];rw[Z]at e2;have :z=[]:=Gf (by rw[hnl,e2];simp);simp[Builtin.firstCells,this]
  have hone:∀u∈z.take (n*size),u.oneCell'=true:=fun u hu=>O.one u (YC hu);have hn1:n≤m.length:=aKV _ _;have hn2:n≤l.length:=Nat.min_le_right _ _
  have I:(z.take (n*size)).length=n*size:=by
   rw[FD,hnl];have :n*size≤m.length*size:=Jl _ hn1;omega
  have hgc:gCopy l m=m.take n++l.drop n:=by
   unfold gCopy;by_cases hle:m.length≤l.length
   ·have e1:n=m.length:=vO hle;rw[e1,QB hle,FV]
   have e1:n=l.length:=Nat.min_eq_right AA;rw[e1,rW AA,PU]
  have L:(gCopy l m).length=l.length:=by rw[hgc];simp;omega
  rcases Y.2 with⟨hv,hl0⟩|⟨g,cap,cur,hv,_,hg,hncap,hcm,hcs,htake⟩
  ·
   rw[hll]at hl0;have hn0:n=0:=AA
   have hl:l=[]:=Gf hl0;have hge:gCopy l m=l:=by rw[hgc,hn0];simp
   rw[hge]
   have hset:es.set k (.arr e size (List.map enc l))=es:=by
    apply aX;intro j;by_cases hj:k=j
    ·subst hj;have hkl:=(FP.1 hk).1;rw[List.getElem?_set_self hkl,hk]
    rw[Y7 hj]
   rw[hset];refine⟨goInt n,w,ok,H,.inl ?_,.refl _ _,.refl _,hm,.junk _⟩;have e0:Nat.min m.length 0=n:=by rw[hn0];simp
   have hf0:(Builtin.firstCells size 0 (a.eval y)).run P w=.ok #[] w:=by rw[hn0]at J;simpa using J
   simp[execOp,ho,resolve,invoke,builtin,Builtin.copy_,hxv,hv,hu,hlenx,hsz,hf0,hn0]
  ·rw[hll]at hv hncap htake;have hlt:g<w.heap.size:=(GX.1 hg).1
   have hfit:n*size≤cur.size:=by
    exact Ed (Jl _ AA) hcs
   have hst:=aIz (P:=P) g 0 e (z.take (n*size)) 0 cur w hg (by rw[I];omega) hone;have aAc:∀y∈(gCopy l m).map enc,y.cells.length=size:=U _
   obtain⟨h3,h4⟩:=hm.upd (e:=.arr e size (List.map enc (gCopy l m))) (w':=w.setRow g (cur.toList.take (0+0)++z.take (n*size)++cur.toList.drop (0+0+(z.take (n*size)).length)).toArray) hk rfl hh (by rw[hv];rfl) rfl rfl rfl aNa (fun c hc=>aMs _ _ _ _ hc) (fun hg'=>by
    refine⟨h1,aAc,z.take (n*size)++ys.drop (n*size),?_,?_⟩
    ·refine⟨?_,.inr ⟨g,cap,_,by rw[CG,L];exact hv,Du _,uT w g cur _ e (0,0) hg,by rw[CG,L];exact hncap,hcm,?_,?_⟩⟩
     ·simp only[EI,I,IV,Y.1,CG,L];have :n*size≤l.length*size:=Jl _ hn2;omega
     ·simp only[Pq,vw,II,JJ,I];simp only[lu,EI,I,IV,Td];rw[show n*size+(cur.size-n*size)=cur.size by omega];exact hcs
     simp only[Pq,vw,II,JJ,I,aAD];rw[CG,L,←htake];rw[aNg,I,QB (by rw[I];exact Jl _ hn2)];congr 1;rw[List.drop_take]
    have ha:=aGi.mono hg' (Names.refl H);have hb:=hrs.mono hg' (Names.refl H);have aGj:=RJ (U l);have aGk:=RJ (U m);have aDX:=RJ aAc;have aJS:n*size≤l.length*size:=Jl _ hn2;have aJT:n*size≤m.length*size:=Jl _ hn1;refine⟨by simp only[aDX,EI,I,IV,Y.1,CG,L];omega,fun j hj=>?_⟩;rw[aDX,CG,L]at hj;have hpos:=hE.pos;have e0:j=j/size*size+j % size:=by rw[UZ];exact(yw j size).symm
    have hq:j/size<l.length:=yK (by rwa [UZ]at hj);have hr:j % size<size:=jv _ hpos;have hg3:=flat_get aAc (j/size) (j % size) (by rw[CG,L];exact hq) hr;rw[←e0]at hg3;by_cases hjn:j<n*size
    ·have hqn:j/size<n:=yK (by rwa [UZ]at hjn);have hg2:=flat_get (U m) (j/size) (j % size) (by rw[Z];omega) hr;rw[←e0]at hg2
     have M:((gCopy l m).map enc).getD (j/size) DT=(m.map enc).getD (j/size) DT:=by
      rw[hgc];simp only[List.getD,KL];rw[Gq Dh,ZA,MB hqn]
     rw[hg3,M,←hg2]
     have e5:(z.take (n*size)++ys.drop (n*size)).getD j undef=z.getD j undef:=by
      simp only[List.getD];rw[Gq (by rw[I];exact hjn),MB hjn]
     rw[e5];exact ha.2 j (by rw[aGk,Z];omega)
    have hqn:n≤j/size:=(Nat.le_div_iff_mul_le hpos).2 AA;have hg1:=flat_get (U l) (j/size) (j % size) (by rw[hll];exact hq) hr;rw[←e0]at hg1
    have M:((gCopy l m).map enc).getD (j/size) DT=(l.map enc).getD (j/size) DT:=by
     rw[hgc];have hlt':(m.take n).length=n:=Dh
     simp only[List.getD,KL];rw[Ju (by rw[CG,hlt'];exact hqn),CG,hlt',aF,QA];congr 2;omega
    rw[hg3,M,←hg1]
    have e5:(z.take (n*size)++ys.drop (n*size)).getD j undef=ys.getD j undef:=by
     simp only[List.getD];rw[Ju (by rw[I];omega),I,QA];congr 2;omega
    rw[e5]
    exact hb.2 j (by rw[aGj,hll];omega))
   refine⟨goInt n,_,ok,H,.inl ?_,h4,.refl _,h3,.junk _⟩;have e0:Nat.min m.length l.length=n:=rfl;simp[execOp,ho,resolve,invoke,builtin,Builtin.copy_,hxv,hv,hu,hlenx,hsz,e0,J];rw[hst];simp
end
def BX (s:ByteArray):List Int:=s.data.toList.map fun c=>(c.toNat:Int)
def Ic (s:ByteArray):(BX s).length=s.size:=by unfold BX;rw[CG,Td];rfl
section
variable {P : Program} {o : Oper} {es : List BA} {α : Type}
def aC3 :∀(l:List Int),flat (l.map Ew)=l.map fun n=>.d (Ew n)
 | []=>rfl
 |n::l=>by rw[Ip,UN,aC3 l];rfl
def adT {w:World} {t u ty e:TypeId} {i:TypeInfo} (ht:P.underlying t=some (.slice e)) (hu:P.underlying u=some .string) (hi:P.info? e=some i) (hz:i.zero=some (.int .u8 0)) (j:i.size=1) (Z:i.bytes=1)
 {v:Value} {n:Nat} {xs:List Value} (z:lM w e 1 v n xs) (s:ByteArray) (O:n+s.size≤maxLen) (L:n+s.size≤140737488355328):
 ∃v' w',(Builtin.append_ #[t,u] ty #[v,.string s]).run P w=.ok v' w'∧lM w' e 1 v' (n+s.size) (xs++Lib.strCells s)∧w.grownBy w' v.ownBlock∧(∀Y,Cx v'=some Y→Cx v=some Y∨w.heap.size≤Y):=by
 have M:xs.length=n:=by simpa using z.1
 have hlen:(xs++Lib.strCells s).length=(n+s.size)*1:=by rw[EI,M,aPU,kN]
 rcases z.2 with⟨rfl,rfl⟩|⟨g,cap,cur,rfl,_,hg,hnc,U,hcs,I⟩
 ·have hx:xs=[]:=Gf M;subst hx;obtain⟨v',w',q1,q2,q3,q4⟩:=Lib.run_append_own_string (P:=P) w w.heap.size t u ty e i ht hu hi hz j Z _ 0 [] (aEU w w.heap.size e 1) s O L (Dq _);refine⟨v',w',q1,.of q2,q3,fun Y q=>.inr ?_⟩;rcases q2.2 with⟨rfl,_⟩|⟨g2,_,_,rfl,hle,_⟩
  ·simp[Cx]at q
  simp[Cx]at q;subst q;exact hle
 rw[kN]at hcs I;by_cases J:n+s.size≤cap
 ·have hr:=Lib.run_append_room_string (P:=P) w t u ty e i ht hu hi j g n cap cur hg s J AA;refine⟨_,_,hr,⟨hlen,.inr ⟨g,cap,_,rfl,Du _,uT w g cur _ e _ hg,J,U,?_,?_⟩⟩,⟨rfl,rfl,rfl,BF,fun k _ hk=>setRow_other w g k _ (fun e=>hk (by simp[Value.ownBlock,e]))⟩,fun Y q=>.inl q⟩
  ·simp only[lu,EI,FD,IV,Td,aPU];omega
  rw[I,←hlen];exact aFu
 have hr:=Lib.run_append_grow_string (P:=P) w t u ty e i (.int .u8 0) ht hu hi hz ⟨g,0,none⟩ n cap xs (by rw[j];simpa using M) (z.cells (g:=g) rfl) s AA (by unfold maxLen at O;omega) (by rw[Z];exact growslice_fits AA AA);have hge:=grownCap_ge w (n+s.size) cap e;have U:grownCap w (n+s.size) cap e≤maxLen:=grownCap_le_maxLen w (n+s.size) cap e O;refine⟨_,_,hr,⟨hlen,.inr ⟨w.heap.size,_,_,rfl,Du _,YO w.drew _,hge,U,Yc ?_,?_⟩⟩,⟨rfl,rfl,rfl,BF,fun k hk _=>Js w.drew _ k hk⟩,fun Y q=>.inr (by simp[Cx]at q;omega)⟩
 ·have hz1:(Value.int IntKind.u8 0).cells.size=1:=rfl;simp only[Array.size_append,lu,size_zeroCells,hz1,M,aPU];omega
 simp only[Array.toList_append,Hw];rw[←Hw,←hlen];exact aFu
def aj0 {s x:Operand} {t u e:TypeId} {k:Nat} {l r:List Int} {j:ByteArray} (h:C9 1 l (BX j)=some r) (hE:Gw P t e 1 1) (hz:(P.info? e).bind (·.zero)=some (.int .u8 0)) (hu:P.underlying u=some .string) (hk:es[k]? =some (.arr e 1 (List.map Ew l)))
 (ho:o.op=.call { callee:=.builtin .append,args:= #[s,x],argTypes:= #[t,u] }):BU P o [(s,.bn k),(x,.d (DK j))] es (.bn es.length) (es.set k .dead++[.arr e 1 (List.map Ew r)]):=
 .eff fun C ok H a w hm hn=>by
  obtain⟨rfl,hlen⟩:=aDk h;rw[Ic,kN]at hlen;have hs:=(Ef hn).1;have hx:=(Ef hn).2.lit;simp only at hs hx;obtain⟨hd,hh,hok⟩:=GR hm.ent hm.hlen hk;have hsv:=O5 hs hh;obtain⟨h1,h2,ys,I,hrs⟩:=hok;obtain⟨i,z',hi,hz',hs1,hby,_⟩:=hE.info;have hz2:i.zero=some (.int .u8 0):=by rw[hi]at hz;simpa using hz
  have L:(l.map Ew).length=l.length:=BF
  have M:(l.map Ew).length+j.size≤maxLen:=by rw[L];unfold maxLen;omega
  obtain⟨v',w',hr,J,O,U⟩:=adT (P:=P) (ty:=o.type) hE.und hu hi hz2 hs1 hby I j M (by rw[L];exact hlen)
  obtain⟨h3,h4⟩:=hm.turn (h':=⟨v',1⟩) (e:=.arr e 1 (List.map Ew (l++BX j))) hk rfl hh O.os O.tape O.output O.size (fun c hc hne=>O.block c hc (by rw[aJl I];exact fun e=>hne e.symm)) (fun g Y=>⟨wR J Y,U g Y⟩) (fun hgr=>by
   refine⟨rfl,fun y hy=>by obtain⟨q,_,rfl⟩:=E5.1 hy;rfl,ys++Lib.strCells j,?_,?_⟩
   ·have e:(List.map Ew (l++BX j)).length=(l.map Ew).length+j.size:=by simp[Ic]
    rw[e];exact J
   have Z:=hrs.mono hgr (Names.push H [⟨v',1⟩]);have hfl:(flat (l.map Ew)).length=l.length:=by rw[aC3];simp
   have hcl:(Lib.strCells j)=(BX j).map (.int .u8):=by unfold Lib.strCells BX;rw[Uh];rfl
   rw[KL,iD,aC3 (BX j),hcl];refine⟨by rw[EI,EI,Z.1,CG,CG],fun i hi=>?_⟩;by_cases z:i<(flat (l.map Ew)).length
   ·have e1:(flat (l.map Ew)++(BX j).map fun n=>AV.d (Ew n)).getD i .junk=(flat (l.map Ew)).getD i .junk:=by simp[List.getD,Gq z]
    have e2:(ys++(BX j).map (Value.int .u8)).getD i undef=ys.getD i undef:=by simp[List.getD,Gq (by rw[Z.1];exact z:i<ys.length)]
    rw[e1,e2];exact Z.2 i z
   have hi3:i-(flat (l.map Ew)).length<(BX j).length:=by rw[EI,CG]at hi;omega
   have e1:(flat (l.map Ew)++(BX j).map fun n=>AV.d (Ew n)).getD i .junk=.d (Ew (BX j)[i-(flat (l.map Ew)).length]):=by simp[List.getD,Ju (UU z),hi3]
   have e2:(ys++(BX j).map (Value.int .u8)).getD i undef=.int .u8 (BX j)[i-(flat (l.map Ew)).length]:=by simp[List.getD,Ju (by rw[Z.1];omega:ys.length≤i),Z.1,hi3]
   rw[e1,e2]
   exact⟨rfl,.d _ _ (.lit _)⟩)
  have hH:(H++[(⟨v',1⟩:BO)])[es.length]? =some ⟨v',1⟩:=QC
  refine⟨v',w',ok,_,.inl ?_,h4,Names.push _ _,h3,?_⟩
  ·simp[execOp,ho,resolve,invoke,builtin,hx,hsv,hr]
  rcases J.2 with⟨rfl,_⟩|⟨g',c',_,rfl,_⟩
  ·exact .bn _ _ _ _ 1 hH
  exact .bn _ _ _ _ 1 hH
def ET (op:BinOp) (k:IntKind) (x y:Int):Int:=
 match op with
 | .and=>k.wrap ((BitVec.ofInt k.bits x&&& BitVec.ofInt k.bits y).toNat)
 | .or=>k.wrap ((BitVec.ofInt k.bits x|||BitVec.ofInt k.bits y).toNat)
 | .xor=>k.wrap ((BitVec.ofInt k.bits x^^^BitVec.ofInt k.bits y).toNat)
 |_=>k.wrap ((BitVec.ofInt k.bits x&&& ~~~(BitVec.ofInt k.bits y)).toNat)
def Qz {t t':TypeId} {x y:Operand} {k:IntKind} {u v:Int} (j:o.op=.binOp .and t x y t'):BU P o [(x,.d (.lit (.int k u))),(y,.d (.lit (.int k v)))] es (.d (.lit (.int k (ET .and k u v)))) es:=
 MC j (fun w=>aDB) ⟨rfl,rfl⟩
def Wp {t t':TypeId} {x y:Operand} {k:IntKind} {u v:Int} (j:o.op=.binOp .or t x y t'):BU P o [(x,.d (.lit (.int k u))),(y,.d (.lit (.int k v)))] es (.d (.lit (.int k (ET .or k u v)))) es:=
 MC j (fun w=>aDB) ⟨rfl,rfl⟩
def agx {t t':TypeId} {x y:Operand} {k:IntKind} {u v:Int} (j:o.op=.binOp .xor t x y t'):BU P o [(x,.d (.lit (.int k u))),(y,.d (.lit (.int k v)))] es (.d (.lit (.int k (ET .xor k u v)))) es:=
 MC j (fun w=>aDB) ⟨rfl,rfl⟩
def abY {t t':TypeId} {x y:Operand} {k:IntKind} {u v:Int} (j:o.op=.binOp .andNot t x y t'):BU P o [(x,.d (.lit (.int k u))),(y,.d (.lit (.int k v)))] es (.d (.lit (.int k (ET .andNot k u v)))) es:=
 MC j (fun w=>aDB) ⟨rfl,rfl⟩
def jX (k:IntKind) (x:Int):Int:=ET .xor k (if k.signed then -1 else k.max) x
def abf {t:TypeId} {x:Operand} {k:IntKind} {u:Int} (j:o.op=.unOp .xor t x):BU P o [(x,.d (.lit (.int k u)))] es (.d (.lit (.int k (jX k u)))) es:=
 aNY j (fun w=>by simp[Op.unary,Op.intBits,jX,ET])
def Ox (op:BinOp) (k:IntKind) (x y:Int):Option Int:=
 if y<0 then none else some (match op with | .shl=>k.wrap (x*2^(min y.toNat k.bits))|_=>x.fdiv (2^(min y.toNat k.bits)))
def aGo {t t':TypeId} {x y:Operand} {k k':IntKind} {u v r:Int} (h:Ox .shl k u v=some r) (j:o.op=.binOp .shl t x y t'):BU P o [(x,.d (.lit (.int k u))),(y,.d (.lit (.int k' v)))] es (.d (.lit (.int k r))) es:=by
 unfold Ox at h;split at h
 ·cases h
 rename_i q;obtain rfl:=CV h;exact MC j (fun w=>by simp[binOp,Op.shift,q]) ⟨rfl,rfl⟩
def aXc {t t':TypeId} {x y:Operand} {k k':IntKind} {u v r:Int} (h:Ox .shr k u v=some r) (j:o.op=.binOp .shr t x y t'):BU P o [(x,.d (.lit (.int k u))),(y,.d (.lit (.int k' v)))] es (.d (.lit (.int k r))) es:=by
 unfold Ox at h;split at h
 ·cases h
 rename_i q;obtain rfl:=CV h;exact MC j (fun w=>by simp[binOp,Op.shift,q]) ⟨rfl,rfl⟩
def aJG (k:IntKind) (a b:Int):Option Int:=if b=0 then none else some (k.wrap (a.tdiv b))
def aO (a b:Int):Option Int:=if b=0 then none else some (a.tmod b)
end
section
variable {P : Program} {o : Oper} {es : List BA} {α : Type}
def aWu {ok:Nat→Prop} {w:World} {H:List BO} {h:BO} {e size k i off:Nat} {xs:List D} {v:Value} (O:H[k]? =some h) (u:Eo ok w H h (.arr e size xs)) (hi:i<xs.length) (U:R ok w H (.lD k i off) v):
 ∃g cap cur ys,h.v=.slice (some ⟨g,0,none⟩) xs.length cap∧w.heap[g]? =some (.cells cur e (0,0))∧xs.length≤cap∧cap≤maxLen∧xs.length*size≤cur.size∧cap*size≤cur.size∧cur.toList.take (xs.length*size)=ys∧ys.length=xs.length*size∧Ez ok w H (flat xs) ys∧(∀x∈xs,x.cells.length=size)∧v=.pointer (some ⟨g,i*size+off,none⟩):=by
 obtain⟨J,Y,ys,⟨Z,h4⟩,h5⟩:=u;rcases h4 with⟨q,h7⟩|⟨g,cap,cur,q,h7,h8,L,z,j,I⟩
 ·omega
 refine⟨g,cap,cur,ys,q,h8,L,z,Ed (Jl _ L) j,j,I,Z,h5,Y,?_⟩;cases U with
 |lD _ _ _ b n c s M=>
  rw[O]at M;obtain rfl:=CV M;simp only[lT,LQ,Addr.mk.injEq]at q;simp only at J;rw[q.1.1,J]
def aSs {size n i j:Nat} (hi:i<n) (q:j<size):i*size+j<n*size:=
 calc i*size+j<i*size+size:=AA
  _=(i+1)*size:=by rw[VR]
  _≤n*size:=Jl _ hi
def Yy {x:Operand} {t:TypeId} {agg:Bool} {k n i off e size:Nat} {y:D} (enc:α→D) {l:List α} {a:α} (hy:y=QD agg (enc a).cells off n) (hk:es[k]? =some (.arr e size (List.map enc l))) (ha:l[i]? =some a) (hT:EM P t agg n) (hn:off+n≤(enc a).cells.length) (h1:agg=false→n=1)
 (ho:o.op=.load t x):BU P o [(x,.lD k i off)] es (.d y) es:=
 .pure fun ok H ac w M hl Y=>by
  have hx:=L8 Y;simp only at hx;subst hy;obtain⟨h,hh,Z⟩:=GR M hl hk;obtain⟨I,O⟩:=FP.1 ha;have q:i<(List.map enc l).length:=SV
  obtain⟨g,cap,cur,ys,e1,e2,e3,e4,e5,e5',e6,e7,e8,e9,e10⟩:=aWu hh Z q hx;have J:(List.map enc l).getD i DT=enc a:=by simp[List.getD,I,O]
  have hsz:(enc a).cells.length=size:=by
   refine e9 _ ?_;exact E5.2 ⟨a,by rw[←O];exact EJ I,rfl⟩
  have hfl:=RJ e9
  have u:∀j,j<size→w.cell? ⟨g,i*size+j,none⟩=some (ys.getD (i*size+j) undef):=by
   intro j L;have z:=aSs q L;have hcur:(List.map enc l).length*size≤cur.size:=e5;have h15:i*size+j<cur.size:=AA
   have e11:ys.getD (i*size+j) undef=cur[i*size+j]'(h15):=by
    rw[←e6];have h14:i*size+j<l.length*size:=Me
    simp[List.getD,MB h14,show i*size+j<cur.size by omega]
   rw[e11];simp[World.cell?,e2,show i*size+j<cur.size by omega]
  have U:∀j,j<size→((enc a).cells.getD j DT).leaf=true∧Dc ok w ((enc a).cells.getD j DT) (ys.getD (i*size+j) undef):=by
   intro j L;have z:=e8.2 (i*size+j) (by rw[hfl];exact aSs q L);rw[flat_get e9 i j q L,J]at z;refine⟨z.1,?_⟩;cases z.2 with |d _ _ h=>exact h
  obtain⟨v,hr,hD⟩:=aBQ (ok:=ok) (w:=w) (b:=g) (p:=i*size) (cs:=(enc a).cells) hT hn h1 (fun j L=>(U j AA).1) (fun j L=>by rw[u j AA];rfl) (fun j L=>by unfold cellAt;rw[u j AA];exact(U j AA).2);exact⟨v,by simp only[execOp,ho,e10,FT,hr,Fh,Gj],.d _ _ hD⟩
def aCM {t:TypeId} {x y:Operand} {k i off n e size:Nat} (enc:α→D) {l:List α} {a a':α} {v:AV} (hk:es[k]? =some (.arr e size (List.map enc l))) (ha:l[i]? =some a) (hl:v.cells.all AV.leaf=true) (hs:∀w,(sizeOf t).run P w=.ok n w) (hn:v.cells.length=n)
 (hle:off+n≤(enc a).cells.length) (hset:(enc a').cells.map AV.d=setAt ((enc a).cells.map AV.d) off v.cells) (hc:∀b,(enc b).cells.length=size) (ho:o.op=.store t x y):
 BU P o [(x,.lD k i off),(y,v)] es .junk (es.set k (.arr e size (List.map enc (l.set i a')))):=
 .eff fun C ok H I w hm hn'=>by
  have h1:=(Ef hn').1;have h2:=(Ef hn').2;simp only at h1 h2;obtain⟨h,hh,hok⟩:=GR hm.ent hm.hlen hk;obtain⟨U,hia⟩:=FP.1 ha;have aGl:i<(List.map enc l).length:=Fin
  have hok1:=hok.1;obtain⟨g,cap,cur,ys,e1,e2,e3,e4,e5,e5',e6,e7,e8,e9,e10⟩:=aWu hh hok aGl h1;have z:=h2.ajx hl;have hll:(List.map enc l).length=l.length:=BF
  rw[hll]at e1 e3 e6 e7;have hea:(enc a).cells.length=size:=hc a;have Y:(I.eval y).cells.toList.length=n:=by rw[z.1,hn]
  have hsz:(I.eval y).cells.size=n:=Vl
  have hcur:l.length*size≤cur.size:=by simpa using e5
  have hend:i*size+off+n≤l.length*size:=by
   have :(i+1)*size≤l.length*size:=Jl _ U;rw[VR]at this;omega
  have hst:=aIz (P:=P) g (i*size+off) e (I.eval y).cells.toList 0 cur w e2 (by rw[Y];omega) (fun u hu=>by
   obtain⟨j,J,rfl⟩:=Fv hu;have h5:=z.2 j (by rw[←z.1];exact J);have :=h5.2.leaf h5.1
   rwa [aBu J]at this)
  simp only[Pq]at hst;have M:∀(q:List α),∀y∈q.map enc,y.cells.length=size:=fun q y hy=>aHZ
  obtain⟨h3,h4⟩:=hm.upd (e:=.arr e size (List.map enc (l.set i a'))) (w':=w.setRow g (cur.toList.take (i*size+off)++(I.eval y).cells.toList++cur.toList.drop (i*size+off+(I.eval y).cells.toList.length)).toArray) hk rfl hh (by rw[e1];rfl) rfl rfl rfl aNa (fun c hc=>aMs _ _ _ _ hc) (fun hg'=>by
   have esz:(setAt cur.toList (i*size+off) (I.eval y).cells.toList).length=cur.toList.length:=Sj (by have :=cur.length_toList;omega);refine⟨hok1,M _,setAt ys (i*size+off) (I.eval y).cells.toList,⟨?_,.inr ⟨g,cap,_,by simp;exact e1,Du _,uT w g cur _ e (0,0) e2,by simpa using e3,e4,?_,?_⟩⟩,?_⟩
   ·rw[Sj AA];simpa using e7
   ·have h9:(setAt cur.toList (i*size+off) (I.eval y).cells.toList).toArray.size=cur.size:=by rw[lu,esz];simp
    show _≤(setAt cur.toList (i*size+off) (I.eval y).cells.toList).toArray.size;rw[h9];exact e5'
   ·rw[aAD];show(setAt cur.toList (i*size+off) (I.eval y).cells.toList).take _=_;rw[←e6];have hlen':(List.map enc (l.set i a')).length=l.length:=BF
    rw[hlen'];apply aX;intro j;have hcl:=cur.length_toList;by_cases J:j<l.length*size
    ·have a1:((setAt cur.toList (i*size+off) (I.eval y).cells.toList).take (l.length*size))[j]? =some ((setAt cur.toList (i*size+off) (I.eval y).cells.toList).getD j undef):=by
      rw[MB J];simp[List.getD,show j<(setAt cur.toList (i*size+off) (I.eval y).cells.toList).length by rw[esz];omega]
     have tl:(cur.toList.take (l.length*size)).length=l.length*size:=Dh
     have sl:(setAt (cur.toList.take (l.length*size)) (i*size+off) (I.eval y).cells.toList).length=l.length*size:=by rw[Sj AA,tl]
     have a2:(setAt (cur.toList.take (l.length*size)) (i*size+off) (I.eval y).cells.toList)[j]? =some ((setAt (cur.toList.take (l.length*size)) (i*size+off) (I.eval y).cells.toList).getD j undef):=by
      simp[List.getD,show j<(setAt (cur.toList.take (l.length*size)) (i*size+off) (I.eval y).cells.toList).length by omega]
     rw[a1,a2,Xl AA,Xl AA];congr 1;split
     ·rfl
     simp[List.getD,MB J]
    have tl:(cur.toList.take (l.length*size)).length=l.length*size:=Dh
    have sl:(setAt (cur.toList.take (l.length*size)) (i*size+off) (I.eval y).cells.toList).length=l.length*size:=by rw[Sj AA,tl]
    rw[Ib Dh,Ib AA]
   have hb:=e8.mono hg' (Names.refl H);have hcr:=z.mono hg' (Names.refl H);have hfl:=RJ (M l);have Z:=RJ (M (l.set i a'));refine⟨by rw[Sj AA,e7,Z];simp,fun j J=>?_⟩;rw[Z]at J;simp only[CG,dY]at J
   have hpos:0<size:=by
    rcases WT size with h0|h0
    ·rw[h0,Nat.mul_zero]at J;omega
    exact h0
   have e0:j=j/size*size+j % size:=by rw[UZ];exact(yw j size).symm
   have hq:j/size<l.length:=yK (by rwa [UZ]at J);have hr:j % size<size:=jv _ hpos
   have hdiv:j/size=i↔i*size≤j∧j<i*size+size:=by
    rw[Nat.div_eq_iff hpos,UZ];omega
   rw[Y]at hb hcr;generalize j/size=qd at e0 hq hdiv;generalize j % size=L at e0 hr;have hg3:=flat_get (M (l.set i a')) qd L (by simpa using hq) hr;rw[←e0]at hg3;have hg1:=flat_get (M l) qd L (by simpa using hq) hr;rw[←e0]at hg1;rw[hg3,Xl AA,Y];by_cases O:qd=i
   ·have hnew:(List.map enc (l.set i a')).getD (qd) DT=enc a':=by rw[O];simp[List.getD,U]
    have hold:(List.map enc l).getD (qd) DT=enc a:=by rw[O];simp[List.getD,U,hia]
    rw[hnew];have aJU:(enc a').cells.length=size:=hc a'
    have e11:AV.d ((enc a').cells.getD (L) DT)=(setAt ((enc a).cells.map AV.d) off v.cells).getD (L) .junk:=by
     rw[←hset];simp[List.getD,show L<(enc a').cells.length by omega]
    rw[e11,Xl (by rw[CG,hn];exact hle),hn];have hji:j=i*size+L:=by rw[←O];exact e0
    by_cases hin:off≤L∧L<off+n
    ·rw[CS hin,CS AA];have :j-(i*size+off)=L-off:=AA
     rw[this];exact hcr.2 _ AA
    rw[CY hin,CY AA];have e12:((enc a).cells.map AV.d).getD (L) .junk=.d ((enc a).cells.getD (L) DT):=by simp[List.getD,show L<(enc a).cells.length by omega]
    rw[e12,←hold,←hg1];exact hb.2 j (by rw[hfl];simpa using J)
   have hsame:(List.map enc (l.set i a')).getD (qd) DT=(List.map enc l).getD (qd) DT:=by
    simp[List.getD,Y7 (Ne.symm O)]
   have hnot:¬(i*size+off≤j∧j<i*size+off+n):=by
    rintro⟨ha1,ha2⟩;exact O (hdiv.2 ⟨AA,AA⟩)
   rw[CY hnot,hsame,←hg1]
   exact hb.2 j (by rw[hfl];simpa using J))
  refine⟨undef,_,ok,H,.inr ⟨rfl,?_⟩,h4,.refl _,h3,.junk _⟩;simp only[execOp,ho,e10,Instr.storeAt,Instr.sureAddr,storeVar,FT,Gj,Fh,hs,hsz,ne_eq,not_true_eq_false,Jh,hst]
end
def AV.TS (k:Nat) (cs:List D):AV→AV
 | .ptr j off=>if j=k then .d (.ref cs off)else .ptr j off
 |x=>x
def Am.TS (σ:Am) (k:Nat) (cs:List D):Am:=⟨σ.slots.map (AV.TS k cs),σ.ents.set k .dead,σ.base⟩
def VE {σ:Am} (k:Nat) {cs:List AV} (hk:σ.ents[k]? =some (.box cs)) (hd:cs.all AV.Au=true):∀C ok H a w,Holds C ok H σ a w→∃ok',Holds C ok' H (σ.TS k (Iy cs)) a w:=by
 intro C ok H a w q;obtain⟨h,O,hok⟩:=GR q.mem.ent q.mem.hlen hk;have I:k<σ.ents.length:=(FP.1 hk).1;obtain⟨b0,U,hf,hx,hc⟩:=aJh hok hd
 let ok':Nat→Prop:=fun b=>ok b∨Cx h.v=some b
 have M:=fun b u=>q.mem.blk k _ h b hk rfl O u;have hg:ER ok w ok' w:=fun b u=>⟨.inl u,rfl⟩
 refine⟨ok',⟨q.mem.fr,fun b u=>.inl (q.mem.yR b u),?_,?_,q.mem.names,by simp[Am.TS,q.mem.hlen],?_,?_,?_⟩,by simp[Am.TS,q.size],q.defers.mono hg,q.base,?_⟩
 ·rintro b (u|u)
  ·exact q.mem.yS b u
  exact .inr (M b u).2.2
 ·rintro b (u|u)
  ·exact q.mem.kP b u
  exact(M b u).2.1
 ·intro j e' h' he J;rcases LH I he with⟨rfl,rfl⟩|⟨_,L⟩
  ·trivial
  exact(q.mem.ent j e' h' L J).mono hg (.refl _) (fun _ _ _=>rfl)
 ·intro j e' h' b he hl J u;rcases LH I he with⟨rfl,rfl⟩|⟨hne,L⟩
  ·cases hl
  have h3:=q.mem.blk j e' h' b L hl J u;refine⟨fun z=>?_,h3.2⟩;rcases z with z|z
  ·exact h3.1 z
  exact hne (q.mem.DU j k e' _ h' h b L hk hl rfl J O u z)
 ·intro i j e1 e2 h1 h2 b he1 he2 Y Z hh1 hh2 hb1 hb2;rcases LH I he1 with⟨rfl,rfl⟩|⟨_,ar5⟩
  ·cases Y
  rcases LH I he2 with⟨rfl,rfl⟩|⟨_,aly⟩
  ·cases Z
  exact q.mem.DU i j e1 e2 h1 h2 b ar5 aly Y Z hh1 hh2 hb1 hb2
 intro t ht;simp only[Am.TS,CG]at ht
 have e1:(σ.TS k (Iy cs)).slots.getD t .junk=(σ.slots.getD t .junk).TS k (Iy cs):=by
  simp only[Am.TS];exact SY _ _ _ ht
 rw[e1];have hR:=(q.slot t ht).mono hg (Names.refl H);generalize σ.slots.getD t .junk=x at hR ⊢;generalize a.tmps.getD t undef=v at hR ⊢;cases x with
 |ptr j off=>
  simp only[AV.TS];split
  ·rename_i hj;subst hj;cases hR with
   |ptr _ _ b s hH=>
    rw[O]at hH;obtain rfl:=CV hH;simp at U;subst U;have :=Dc.ref (ok:=ok') (w:=w) (Iy cs) off b 0 (fun _=>.inr rfl) hf hx (fun j hj=>(hc j hj).mono hg);rw[JJ]at this;exact .d _ _ this
  exact hR
 |_=>exact hR
section
variable {P : Program} {o : Oper} {es : List BA} {α β γ : Type}
def qL {ok:Nat→Prop} {w:World} {H:List BO} {a:Act}:∀{xs:List Operand} {vs:List AV},xs.length=vs.length→(∀n∈FM xs vs,R ok w H n.2 (a.eval n.1))→∀i,i<vs.length→R ok w H (vs.getD i .junk) ((xs.map a.eval).getD i undef)
 | [],[],_,_,i,hi=>P7
 | [],_::_,h,_,_,_=>IK
 |_::_,[],h,_,_,_=>IK
 |x::xs,v::vs,h,j,0,_=>by simpa using j (x,v) (by simp[FM])
 |x::xs,v::vs,h,j,i+1,hi=>by
  have :=qL JZ (fun n q=>j n (by simp[FM,q])) i G9;simpa using this
def Vj {fn:Fn} {j:Array Operand} (q:List D) (hl:j.toList.length=q.length) (I:o.op=.makeFunc fn #[] j):BU P o (FM j.toList (q.map .d)) es (.d (.fn fn [] q)) es:=
 .pure fun ok H a w _ _ J=>by
  refine⟨.func fn #[] (j.map a.eval),by simp[execOp,I,Instr.makeFunc],.d _ _ (.fn fn [] q #[] _ rfl Lc (fun i hi=>P7) (fun i hi=>?_))⟩;have z:=qL (xs:=j.toList) (vs:=q.map .d) Lc J i G9;have L:(q.map AV.d).getD i .junk=.d (q.getD i DT):=N7
  have u:i<j.size:=by have :j.size=q.length:=Lc
                      omega
  have M:(j.toList.map a.eval).getD i undef=(j.map a.eval).getD i undef:=by simp[List.getD,Array.getD,u]
  rw[L,M]at z;cases z with |d _ _ h=>exact h
def aUx {f:FuncId} {C:ES} {ok:Nat→Prop} {H:List BO} {w:World} (hm:Ch C ok H es w) {z:List D} {u:AV} (Z:Ar P f (z.map .d) [] u []) (q:Array Value) (hs:q.size=z.length) (O:∀i,i<z.length→Dc ok w (z.getD i DT) (q.getD i undef)) (J:u.up [] es.length=u):
 Calls P f q w fun e w'=>∃v ok' H',e=.returned v∧ER ok w ok' w'∧Names H H'∧Ch C ok' H' es w'∧R ok' w' H' u v:=by
 have U:Ch ⟨w,ok,[],[]⟩ ok [] [] w:=
  ⟨.refl _ _,fun _ h=>h,fun _ h=>.inl h,hm.kP,.refl _,rfl,fun k e h I _=>by simp at I,fun k e h b I=>by simp at I,fun k k' e e' h h' b I=>by simp at I⟩
 refine(Z ok [] [] w q U ru (fun i hi=>?_)).mono ?_
 ·have L:i<z.length:=G9
  have e1:(z.map AV.d).getD i .junk=.d (z.getD i DT):=by simp[List.getD,L]
  rw[e1];exact .d _ _ (O i L)
 rintro e w' ⟨v,ok',H',rfl,j,hR⟩;have Y:H'=[]:=Gf j.hlen
 obtain⟨h1,h2⟩:=hm.change (ok':=ok') (H':=H) (es':=es) (w':=w') (fun _=>False) j.fr.os j.fr.tape j.fr.output j.fr.size (fun b M _=>j.fr.block b M BF) (fun _ h=>h.elim) j.yR (fun b M=>by
  rcases j.yS b M with h|h|h
  ·exact .inl h
  ·exact .inr ⟨h,j.kP b M⟩
  simp at h) (.refl _) hm.hlen (fun k e h I hh=>.inl ⟨I,hh,fun _ _ _ h=>h⟩)
 refine⟨v,ok',H,rfl,h2,.refl _,h1,?_⟩;have :=aRS (srcs:=[]) (H:=H) (Hc:=[]) (H':=H') rfl (fun i k h=>IK) (fun k v O=>by simp at O) hR;rw[hm.hlen,J,Y]at this;simpa using this
def aV8 {f:FuncId} {x:Operand} {ops:Array Operand} {ats:Array TypeId} (j cs:List D) {q:AV} (hr:Ar P f ((j++cs).map .d) [] q []) (hf:BD P f=true) (hl:ops.toList.length=j.length) (J:q.up [] es.length=q)
 (ho:o.op=.call { callee:=.value x,args:=ops,argTypes:=ats }):BU P o ((x,.d (.fn (.func f) [] cs))::FM ops.toList (j.map .d)) es q es:=by
 intro C ok H a w Q hm hn;have O:=hn (x,.d (.fn (.func f) [] cs)) BF;simp only at O;have z:=qL (xs:=ops.toList) (vs:=j.map .d) Lc (fun n U=>hn n (FB _ U));generalize hv:a.eval x=v at O;cases O with
 |d _ _ h=>
  cases h with
  |fn _ _ _ vs us Y Z h1 h2=>
   have hvs:vs= #[]:=WX Vl;subst hvs;unfold Oper.wp
   have he:(execOp a.eval o).run P w=.ok (.enter f ((ops.map a.eval)++us)) w:=by
    have :=TG hf (ops.map a.eval++us) w;simp[execOp,ho,resolve,hv,Deferred.ofValue,invoke,this]
   rw[he,dS];have L:(ops.map a.eval).size=j.length:=Lc
   refine(aUx hm hr _ (by simp[L,Z]) (fun i hi=>?_) J).mono ?_
   ·by_cases u:i<j.length
    ·have M:=z i TP;have e1:(j.map AV.d).getD i .junk=.d (j.getD i DT):=aKv
     have I:i<ops.size:=aXC
     have e2:(ops.toList.map a.eval).getD i undef=(ops.map a.eval++us).getD i undef:=by
      simp[List.getD,Ih,Zx,I]
     have e3:(j++cs).getD i DT=j.getD i DT:=by simp[List.getD,Gq u]
     rw[e1,e2]at M;rw[e3];cases M with |d _ _ h=>exact h
    have I:i-j.length<cs.length:=aMN
    have e3:(j++cs).getD i DT=cs.getD (i-j.length) DT:=by simp[List.getD,Ju (UU u)]
    have e4:(ops.map a.eval++us).getD i undef=us.getD (i-j.length) undef:=by
     simp only[Ih];rw[aK3 AA,L]
    rw[e3,e4];exact h2 _ I
   rintro e w' ⟨v,ok',H',rfl,M,h4,h5,h6⟩;exact⟨v,ok',H',rfl,M,h4,h5,h6⟩
def UD (P:Program) (j:α→D) (q:β→D) (d:D) (g:α→Option β):Prop:=∃f cs,d=.fn (.func f) [] cs∧BD P f=true∧∀a b,g a=some b→Ar P f (([j a]++cs).map .d) [] (.d (q b)) []
def WV (P:Program) (j:α→D) (q:β→D) (u:γ→D) (d:D) (g:α→β→Option γ):Prop:=∃f cs,d=.fn (.func f) [] cs∧BD P f=true∧∀a b c,g a b=some c→Ar P f (([j a,q b]++cs).map .d) [] (.d (u c)) []
def uG {x y:Operand} {ats:Array TypeId} {j:α→D} {q:β→D} {d:D} {g:α→Option β} {a:α} {b:β} (hd:UD P j q d g) (h:g a=some b) (u:o.op=.call { callee:=.value x,args:= #[y],argTypes:=ats }):
 BU P o [(x,.d d),(y,.d (j a))] es (.d (q b)) es:=by
 obtain⟨f,cs,rfl,z,I⟩:=hd;exact aV8 [j a] cs (I a b h) z rfl rfl u
def Xm {x y z:Operand} {ats:Array TypeId} {j:α→D} {q:β→D} {u:γ→D} {d:D} {g:α→β→Option γ} {a:α} {b:β} {c:γ} (hd:WV P j q u d g) (h:g a b=some c) (I:o.op=.call { callee:=.value x,args:= #[y,z],argTypes:=ats }):
 BU P o [(x,.d d),(y,.d (j a)),(z,.d (q b))] es (.d (u c)) es:=by
 obtain⟨f,cs,rfl,J,L⟩:=hd;exact aV8 [j a,q b] cs (L a b c h) J rfl rfl I
end
end Go.Proofs.YtkkdimcnpacjhaaGreat
end
