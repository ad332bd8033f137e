/- Part 1 of what the laws' proofs lean on: states of the walk, typed functions of the program and their laws (short forms written by wip/shrink.py; no condition). -/
import Derived.Test.YtldfpencimjjlaaGreatRows
import Derived.WalkKit
import Derived.WalkSpells
import Derived.WalkLawsBesides
import Derived.Lib.Hide
import Derived.Laws.AppendOwnNone
import Derived.Laws.CopyOwn
import Derived.Lib.AppendStr
import Derived.Laws.IdiomStrings
import Derived.Laws.BitsAllLaws
import Derived.OrdersIn
import Derived.ControlIn
import Derived.TacticsIn
import Derived.ArgAppend
import Derived.RangeFuncLeaves
import Derived.RangeFuncRecord
import Derived.Laws.StructEq
import Derived.Laws.BytesString
import Derived.Lib.OwnBridge
import Derived.Sort.OwnSortedInts
import Derived.Lib.SliceRun
import Derived.ProofKit
import Derived.Deep.Slices
import Derived.Lib.SlicesCompact
import Derived.Test.YtldfpencimjjlaaGreatProg
import Derived.Shelf.Small.Bits
import Derived.Shelf.Small.Strs
import Derived.Shelf.Small.Wraps
import Derived.Shelf.Strconv.Itoa0
import Derived.Shelf.Strings.Search1
import Derived.Shelf.Strings.Search2
import Derived.Shelf.Strings.Cut
import Derived.Shelf.LaysM
import Derived.Shelf.Strings.Shaped
import Derived.Shelf.Sort.Plain
import Derived.Shelf.Slices.Turned
import Derived.Ground.Names2Prog
import Derived.Shelf.Slices.Clone
import Derived.Shelf.Slices.CompactI
import Derived.Shelf.Slices.SearchI
import Derived.Shelf.Slices.Cells
import Derived.Shelf.Slices.In.SortNone
import Derived.Shelf.Slices.Empties
import Derived.Ground.SlgnProg
import Derived.Shelf.SlicesE.Clone
import Derived.RangeFuncIn
import Derived.Scope
import Derived.Tactics
import Derived.Tactics2
import Derived.Defers
import Derived.Recover
import Derived.Laws.Pointers
import Derived.Shelf.SlLaysF0
import Derived.Shelf.SlSortCmp.NoneTotal
import Derived.Laws.IdiomRangeMap
import Derived.Laws.Small
import Derived.Laws.IdiomCopy
import Derived.Lib.Overlaps
import Derived.Lib.AppendZerosOnto
import Derived.Shelf.Spec.SlicesInsertGrow
import Derived.Laws.Bits64
import Derived.Lib.Bytealg
set_option linter.defProp false
set_option linter.unnecessarySimpa false
set_option linter.unusedVariables false
set_option linter.unusedSimpArgs false
namespace Go.Proofs.YtldfpencimjjlaaGreat
open Go.RowKit
def Aa:=@Option.bind_some
def BM:=@cond_false
def BL:=@congrArg
def Dj:=@List.getElem?_eq_getElem
def BZ:=@cond_true
def Cm:=@List.length_map
def EP:=@List.length_append
def Dt:=@Nat.le_of_ble_eq_true
def D5:=@Option.some.inj
def DT:=@Bool.and_eq_true
def OV:=@List.length_singleton
def G5:=@List.getElem?_eq_some_iff
def EM:=@Go.Proofs.Tryz.underlying3
def GZ:=@Array.getElem?_eq_some_iff
def H9:=@List.eq_nil_of_length_eq_zero
def EU:=@List.getElem_mem
def Ea:=@List.all_eq_true
def Gs:=@List.getElem?_append_left
def FH:=@List.mem_map
def Hd:=@Array.getD_eq_getD_getElem?
def EL:=@Bool.not_true
def FY:=@List.mem_cons_self
def Gf:=@List.mem_cons_of_mem
def Fr:=@List.length_take
def Fb:=@Go.Result.andThen_ok
def EG:=@Nat.le_refl
def Fh:=@Go.Proofs.Tryz.underlying35
def FM:=@List.mem_filter
def GI:=@List.length_cons
def Fe:=@List.not_mem_nil
def FZ:=@List.foldl_cons
def IC:=@List.getElem?_eq_none
def KR:=@Array.getElem?_setIfInBounds_ne
def F8:=@List.mem_cons
def D9:=@if_pos
def Gm:=@List.take_length
def OD:=@Nat.add_assoc
def Gi:=@decide_eq_true_eq
def El:=@Nat.zero_le
def F6:=@Nat.le_trans
def Jr:=@List.getElem?_append_right
def DL:=@if_neg
def IK:=@List.mem_singleton
def FV:=@Go.Sem.run_bind
def QU:=@Nat.add_comm
def Ht:=@List.append_assoc
def Ia:=@List.getElem_of_mem
def Gw:=@List.mem_append
def GK:=@Bool.true_and
def Hq:=@Go.Proofs.Tryz.underlying9
def IL:=@Go.Proofs.Tryz.underlying29
def La:=@List.drop_eq_getElem_cons
def IJ:=@List.any_eq_true
def Jq:=@List.length_filter_le
def IV:=@List.nil_append
def Ox:=@List.take_succ_eq_append_getElem
def MO:=@List.pairwise_iff_getElem
def Ik:=@Go.Proofs.Tryz.underlying31
def GY:=@Go.Sem.run_pure
def Jw:=@Nat.mul_le_mul_right
def Ic:=@Option.map_some
def NK:=@List.length_nil
def Qc:=@Array.all_eq_true_iff_forall_mem
def Jk:=@of_decide_eq_false
def JO:=@List.getElem?_map
def Nv:=@List.getElem?_take_of_lt
def Io:=@Bool.not_false
def JM:=@List.map_append
def Jh:=@decide_eq_false
def KC:=@Go.RowKit.Below.heap_alloc
def JI:=@decide_eq_true
abbrev Am:=IntKind.i64.wrap
def ZQ (n:Int):Am n=(n+9223372036854775808)%18446744073709551616-9223372036854775808:=Go.IntKind.wrap_i64 n
def MK:=@Option.some.injEq
def LK:=@Bool.not_eq_true
def LP:=@List.length_drop
def Oi:=@Array.getElem?_modify
def JJ:=@Nat.zero_add
def Nz:=@List.flatMap_cons
def Ql:=@List.take_of_length_le
def MJ:=@List.nodup_cons
def U3:=@List.mem_of_find?_eq_some
def Nr:=@Option.getD_some
def PG:=@List.pairwise_cons
def QD:=@List.filterMap_cons
def TL:=@Option.isSome_iff_exists
def Ri:=@Go.MapKept.run_getObj_map
def LC:=@List.map_cons
def LQ:=@Bool.or_false
def Q7:=@List.filter_append
def QJ:=@List.getElem?_drop
def PK:=@List.drop_length
def Ot:=@Go.Proofs.Tryz.underlying4
def Pn:=@beq_self_eq_true
def NM:=@Bool.false_or
def XG:=@Classical.byContradiction
def PS:=@List.append_nil
def QI:=@List.getElem_map
def VL:=@Option.map_eq_some_iff
def RX:=@Bool.false_eq_true
def TA:=@Option.toList_some
def aH:=@Array.eq_empty_of_size_eq_zero
def TB:=@Array.length_toList
def Tz:=@List.filter_sublist
def YW:=@Array.getElem?_append_left
def OM:=@Bool.and_true
def Rn:=@Bool.not_eq_true'
def Rh:=@of_decide_eq_true
def Xp:=@List.getElem?_set_ne
def TK:=@List.mem_filterMap
def WJ:=@Go.World.putObj_heap_same
def Qm:=@Bool.eq_iff_iff
def Rl:=@List.filter_cons
def OE:=@Bool.or_true
def TJ:=@List.findIdx_cons
def Yf:=@Go.World.putObj_heap_other
def Y7:=@decide_eq_false_iff_not
def Qs:=@Go.Oper.wpIn_mono
def XE:=@List.mem_of_getElem?
def P5:=@Nat.add_zero
def RS:=@List.find?_cons
def TD:=@List.mem_flatMap
def KN:=@if_false
def V6:=@List.foldl_append
def Uh:=@List.take_add_one
def Vr:=@Nat.lt_of_lt_of_le
def Jv:=@if_true
def Um:=@Nat.le_of_not_lt
def UQ:=@List.foldlM_cons
def Rk:=@Prod.mk.injEq
def yT:=@List.takeWhile_append_dropWhile
def WU:=@Go.Proofs.Tryz.underlying22
def XL:=@Go.Proofs.Tryz.underlying68
def WW:=@Go.Proofs.Tryz.underlying97
def WO:=@Go.Proofs.Tryz.underlying33
def Xw:=@beq_eq_false_iff_ne
def jP:=@Array.getElem?_eq_getElem
def aP:=@List.take_append_drop
def Yp:=@Nat.eq_zero_or_pos
def Zz:=@List.pairwise_append
def Pv:=@Go.wpS_region
def jR:=@Option.bind_eq_some_iff
def Xr:=@Go.Proofs.Tryz.underlying24
def Xl:=@Int.toNat_natCast
def Yj:=@bne_self_eq_false
def kH:=@List.filter_eq_nil_iff
def Qo:=@beq_iff_eq
def qX:=@List.getD_eq_getElem?_getD
def Yb:=@Nat.lt_succ_self
def XW:=@List.cons_append
def lK:=@List.filterMap_append
def gZ:=@Array.toArray_toList
def Yt:=@Bool.or_eq_true
def Un:=@Nat.succ_mul
def Uf:=@Nat.mul_comm
def jo:=@Go.World.alloc_heap_new
def jW:=@Bool.or_eq_false_iff
def lR:=@List.mem_append_left
def bU:=@List.ext_getElem?
def jq:=@List.length_pos_iff
def Y1:=@Go.heap_alloc_new
def qo:=@List.findIdx_lt_length
def zD:=@Array.getElem?_toList
def Za:=@Go.Oper.upon_enter
def bZ:=@Go.Proofs.Tryz.zeroValue3
def Ze:=@Go.run_equalIn_int
def Yd:=@List.map_take
def ji:=@Go.Value.slice.injEq
def l9:=@List.size_toArray
def gX:=@Go.Proofs.Tryz.underlying23
def jH:=@Go.Proofs.Tryz.underlying25
def nN:=@Nat.div_lt_of_lt_mul
def nT:=@List.mem_of_mem_take
def aQ1:=@List.set_eq_take_append_cons_drop
def aN:=@List.nodup_nil
def Pg:=@Go.wpS_seq
def Zm:=@Go.wp_region_list
def kT:=@Go.IntKind.wrap_u64
def lC:=@decide_eq_decide
def vg:=@List.filter_eq_self
def aHI:=@List.getElem?_cons_succ
def ZR:=@List.map_drop
def dM:=@List.any_cons
def zM:=@List.getElem?_take
def fV:=@List.length_set
def UW:=@Go.wpIn_mono
def iF:=@Go.Proofs.Tryz.zeroValue4
def vN:=@Array.ext_getElem?
def jr:=@beq_false_of_ne
def kY:=@Go.IntKind.wrap_u8
def Yl:=@Nat.add_mul
def aEH:=@List.drop_of_length_le
def aEI:=@List.findIdx_le_length
def wF:=@Function.comp_def
def xG:=@List.nodup_append
def rF:=@List.find?_append
def wX:=@List.filter_congr
def ZW:=@Nat.le_of_eq
def dG:=@Go.Proofs.Tryz.sizeOf3
def aKe:=@Array.getElem?_setIfInBounds
def bf:=@Nat.lt_or_ge
def Mid:=@List.mem_append_right
def aKO:=@Array.getElem?_append_right
def zL:=@List.ext_getElem
def yP:=@Go.Proofs.Tryz.underlying5
def aJ6:=@Array.toList_setIfInBounds
def eP:=@Go.Oper.semAt_eq
def aPp:=@List.nodup_iff_pairwise_ne
def dO:=@Nat.mul_one
def bC:=@Go.Proofs.Tryz.isAgg3
def aAl:=@List.toList_toArray
def aAw:=@List.map_congr_left
def aOy:=@Array.mapM_eq_mapM_toList
def qP:=@Nat.min_eq_left
def nX:=@Go.Proofs.Tryz.zeroValue5
def sG:=@Go.Proofs.Tryz.zeroValue9
def vP:=@List.take_left'
def zh:=@List.find?_some
def aO2:=@Go.returnsInHanded_of_change
def aMy:=@List.getElem_append_left
def jc:=@Go.Proofs.Tryz.sizeOf4
def aEx:=@Go.Proofs.Tryz.underlying118
def aFV:=@Go.Proofs.Tryz.underlying144
def mJ:=@Go.Addr.add_lit
def aCY:=@List.find?_eq_none
def uy:=@List.mem_range
def oJ:=@List.drop_zero
def aIs:=@Nat.exists_eq_add_of_le
def aMX:=@List.getElem?_replicate
def aIk:=@List.getElem?_cons_zero
def aOV:=@List.pairwise_singleton
def aKY:=@Go.OpenClaim.holds_of_wide
def Rep:=@Go.World.ownsRow_nil
def aAQ:=@Go.Proofs.Tryz.zeroValue118
def aH8:=@Go.Proofs.Tryz.zeroValue144
def aF6:=@Nat.lt_trichotomy
def aCu:=@List.getElem_take
def acX:=@List.findIdx?_eq_some_iff_getElem
def aIn:=@List.dropWhile_sublist
def fB:=@Go.Proofs.Tryz.isAgg4
def aN6:=@ByteArray.size_extract
def rC:=@List.all_cons
def aAB:=@List.perm_middle
def Zd:=@Array.ext
def aJZ:=@Nat.eq_of_beq_eq_true
def aLy:=@Go.Lib.wpList_append_run
def aMt:=@Bool.and_eq_false_iff
def aCM:=@Go.wpIn_region_any
def aEk:=@Nat.div_add_mod
def mW:=@Nat.mod_lt
def zU:=@List.map_map
def aOM:=@Array.ext'
def rG:=@getElem!_pos
def qV:=@Go.Proofs.Tryz.sizeOf5
def yF:=@Go.Proofs.Tryz.sizeOf9
def aWg:=@List.Nodup.length_le_of_subset
def aM4:=@List.mem_of_mem_drop
def aIt:=@List.findIdx_getElem
def qB:=@Bool.not_not
def aNu:=@Go.callsIn_of_wp_marks
def aIa:=@Go.Lib.strCells_length
def aJY:=@Array.getElem?_push
def aNm:=@List.reverse_append
def aPY:=@Go.ChangeSpec.witness6
def aCq:=@Go.run_underlying
def aHS:=@Go.Proofs.Tryz.sizeOf118
def aCQ:=@Go.Proofs.Tryz.sizeOf144
def aAK:=@Nat.mul_le_mul
def xY:=@Go.setRow_heap
def yg:=@Go.Sem.run_map
def qw:=@Go.Proofs.Tryz.isAgg5
def wV:=@Go.Proofs.Tryz.isAgg9
def aR5:=@Nat.min_def
def aLO:=@Go.run_loadCells_list
def aJ3:=@Int.natCast_nonneg
def aKt:=@Go.MapKept.heap_alloc
def aKb:=@Nat.eq_or_lt_of_le
def aUM:=@List.dropWhile_cons_of_pos
def abG:=@List.dropWhile_cons_of_neg
def aCW:=@Go.callsD_of_wpS
def aUS:=@Int.fdiv_eq_ediv_of_nonneg
def aT7:=@Int.tmod_eq_emod_of_nonneg
def aK5:=@Bool.not_eq_false
def aMk:=@Go.run_storeCells_at
def aIb:=@List.getElem?_set
def aPc:=@List.pairwise_map
def abb:=@List.getElem_append_right
def aa2:=@List.getElem?_zip_eq_some
def aL8:=@Go.wpIn_region_list
def aL4:=@List.take_append
def eu:=@or_false
def aLu:=@Go.World.size_alloc
def aDc:=@List.map_set
def iD:=@Go.wpS_cond
def aQ8:=@List.getElem_zip
def aPK:=@List.map_reverse
def aPM:=@Nat.min_le_left
def aMU:=@List.cons.injEq
def aJ5:=@List.any_append
def aDF:=@Nat.one_mul
def aOf:=@List.take_left
def aOq:=@List.drop_drop
def aJa:=@List.take_zero
def aN5:=@List.take_take
end Go.Proofs.YtldfpencimjjlaaGreat
namespace Go.Proofs.YtldfpencimjjlaaGreat
open Go.RowKit
abbrev D7:=Value.int .i64
end Go.Proofs.YtldfpencimjjlaaGreat
namespace Go.Proofs.YtldfpencimjjlaaGreat
open Go.RowKit
def AA {p:Prop} (h:p:=by kernel_rfl):p:=h
def AB {p:Prop} (h:p:=by omega):p:=h
def CO {p:Prop} (h:p:=by cases h;exact .ret (Ed [])):p:=h
def CJ {p:Prop} (h:p:=by cases h;kernel_rfl):p:=h
def BU {p:Prop} (h:p:=by decide):p:=h
def BP {p:Prop} (h:p:=by simp):p:=h
def Pj {p:Prop} (h:p:=by cases h;exact .ret (Ed [(0,true)])):p:=h
def Dz {p:Prop} (h:p:=by simp;omega):p:=h
def G7 {p:Prop} (h:p:=by simp only[OV];omega):p:=h
def MS {p:Prop} (h:p:=by simpa using u):p:=h
def KU {p:Prop} (h:p:=by cases h;exact .ret (Ed [(1,true)])):p:=h
def L8 {p:Prop} (h:p:=by cases h;exact .ret (Ed [(2,true)])):p:=h
def GR {p:Prop} (h:p:=by simpa using hi):p:=h
def UR {p:Prop} (h:p:=by have :=L (k+1) y (by simpa using u);simpa[OD,QU 1 k]using this):p:=h
def Yn {p:Prop} (h:p:=by rw[←CU h];exact⟨[],[(0,true)],trivial,by kernel_rfl,by kernel_rfl,by kernel_rfl⟩):p:=h
def Mc {p:Prop} (h:p:=by obtain⟨a,_,rfl⟩:=FH.1 j;rfl):p:=h
def acj {p:Prop} (h:p:=by rintro s ⟨j,hs,h⟩;exact CZ hs<|AX<|AO.ret<|by rw[←CU h];exact⟨[I9 j],[],⟨⟨0,BJ (EZ j),true,9,by kernel_rfl,by kernel_rfl,by kernel_rfl,Yq,Dt (by kernel_rfl),(by intro m;cases m),by kernel_rfl⟩,trivial⟩,by kernel_rfl,by kernel_rfl,by kernel_rfl⟩):p:=h
def Xf {p:Prop} (h:p:=by cases h;exact .ret (Ed [(0,true),(1,true),(2,true),(3,true)])):p:=h
def aVI {p:Prop} (h:p:=by rw[←CU h];exact⟨[DC F9,Ae false],[],⟨⟨0,BJ (BD F9),true,29,by kernel_rfl,by kernel_rfl,by kernel_rfl,Cb,Dt (by kernel_rfl),(by intro m;cases m),by kernel_rfl⟩,MN (by kernel_rfl),trivial⟩,by kernel_rfl,by kernel_rfl,by kernel_rfl⟩):p:=h
def aTQ {p:Prop} (h:p:=by rw[←CU h];exact⟨[DC u,Ae true],[],⟨⟨0,BJ (BD u),true,29,by kernel_rfl,by kernel_rfl,by kernel_rfl,Cb,Dt (by kernel_rfl),(by intro m;cases m),by kernel_rfl⟩,MN (by kernel_rfl),trivial⟩,by kernel_rfl,by kernel_rfl,by kernel_rfl⟩):p:=h
def Lp {p:Prop} (h:p:=by intro hh;cases hh):p:=h
def ath {p:Prop} (h:p:=by rw[←CU h];exact⟨[I9 j],[],⟨⟨0,BJ (EZ j),true,9,by kernel_rfl,by kernel_rfl,by kernel_rfl,Yq,Dt (by kernel_rfl),(by intro m;cases m),by kernel_rfl⟩,trivial⟩,by kernel_rfl,by kernel_rfl,by kernel_rfl⟩):p:=h
def OT {p:Prop} (h:p:=by decide+kernel):p:=h
def ND {p:Prop} (h:p:=by simp[List.getD,hi]):p:=h
def Gh {p:Prop} (h:p:=by cases h):p:=h
def Kr {p:Prop} (h:p:=by rw[EP];omega):p:=h
def IU {p:Prop} (h:p:=by simp at h):p:=h
def aL2 {p:Prop} (h:p:=by unfold Func.isWrapper;first|(rw[D9 (by decide+kernel)];kernel_rfl)|(rw[DL (by decide+kernel)];exact⟨rfl,rfl⟩)):p:=h
def LJ {p:Prop} (h:p:=by simpa using h):p:=h
def vC {p:Prop} (h:p:=by have :=J (k+1) y (by simpa using u);simpa[OD,QU 1 k]using this):p:=h
def xH {p:Prop} (h:p:=by have :=Y (k+1) y (by simpa using u);simpa[OD,QU 1 k]using this):p:=h
def tV {p:Prop} (h:p:=by have :=hl (k+1) (by simpa using hk);simpa[OD,QU 1 k]using this):p:=h
def yh {p:Prop} (h:p:=by have :=M (k+1) y (by simpa using u);simpa[OD,QU 1 k]using this):p:=h
def yA {p:Prop} (h:p:=by have :=Z (k+1) y (by simpa using u);simpa[OD,QU 1 k]using this):p:=h
def NP {p:Prop} (h:p:=by simpa using hl):p:=h
def Uw {p:Prop} (h:p:=by simp only[EP,OV];omega):p:=h
def iO {p:Prop} (h:p:=by cases h;exact .ret (Ed [(0,false),(1,true)])):p:=h
def TM {p:Prop} (h:p:=by simp only[NK];omega):p:=h
def aV3 {p:Prop} (h:p:=by rintro s ⟨I,hs,h⟩;exact CZ hs<|Az h (fun h=>AX<|by cases h;exact .ret (Ed [])) fun h=>AX<|by cases h;exact .ret (Ed [])):p:=h
def ig {p:Prop} (h:p:=by have :Aj=9223372036854775808:=rfl;omega):p:=h
def N9 {p:Prop} (h:p:=by rw[hl];rfl):p:=h
def PO {p:Prop} (h:p:=by simpa using j):p:=h
def PL {p:Prop} (h:p:=by simpa using q):p:=h
def SP {p:Prop} (h:p:=by intro j;cases j):p:=h
def oD {p:Prop} (h:p:=by have :=hl (k+1);simpa[OD,QU 1 k]using this):p:=h
def Xe {p:Prop} (h:p:=by first|exact q|kernel_rfl):p:=h
def Zl {p:Prop} (h:p:=by obtain⟨a,_,rfl⟩:=FH.1 hx;rfl):p:=h
def aUL {p:Prop} (h:p:=by rw[←CU h];exact⟨[],[(0,true),(1,true),(2,true),(3,true)],trivial,by kernel_rfl,by kernel_rfl,by kernel_rfl⟩):p:=h
def Tc {p:Prop} (h:p:=by simp at I;omega):p:=h
def Qr {p:Prop} (h:p:=by simpa using I):p:=h
def kC {p:Prop} (h:p:=by simp[Act.eval,Array.replicate]):p:=h
def OX {p:Prop} (h:p:=by simp at hi):p:=h
def QY {p:Prop} (h:p:=by rw[ZQ];omega):p:=h
def ab2 {p:Prop} (h:p:=by subst e;have h:=i;exact .a 2<|AP h fun I q h=>.mg 12 3 (Ae I) (.bi q)<|.aW<|by cases h;kernel_rfl):p:=h
def SB {p:Prop} (h:p:=by simpa using e):p:=h
def Wp {p:Prop} (h:p:=by rw[IQ]at h;exact h):p:=h
def oP {p:Prop} (h:p:=by cases h;exact .ret (Ed [(3,true)])):p:=h
def Yr {p:Prop} (h:p:=by rw[IQ];exact aM5 hs):p:=h
def QC {p:Prop} (h:p:=by rw[asf];rfl):p:=h
def VA {p:Prop} (h:p:=by rw[Cm];omega):p:=h
def aH5 {p:Prop} (h:p:=by have :=hinj j j' o o' t u ho' q hd';omega):p:=h
def o7 {p:Prop} (h:p:=by simpa using(hl 0 (by simp)).symm):p:=h
def UZ {p:Prop} (h:p:=by simpa using J):p:=h
def VN {p:Prop} (h:p:=by simpa using z):p:=h
def bG {p:Prop} (h:p:=by intro q;cases q):p:=h
def adb {p:Prop} (h:p:=by intro m;cases m):p:=h
def aBx {p:Prop} (h:p:=by simp[Array.getD,hil]at hf ⊢;exact hf):p:=h
def Qy {p:Prop} (h:p:=by simp[hi]):p:=h
def aP2 {p:Prop} (h:p:=by rw[alloc_eq_grow,alloc_eq_grow,grow_grow];rfl):p:=h
def TV {p:Prop} (h:p:=by simp[flat]):p:=h
def aIj {p:Prop} (h:p:=by by_cases h:(s.size:Int)>32<;>simp[h]<;>omega):p:=h
def aEa {p:Prop} (h:p:=by simpa using z.lt x (by simp[hx])):p:=h
def aOa {p:Prop} (h:p:=by cases h;exact .ret (Ed [(0,true),(1,true)])):p:=h
def aaA {p:Prop} (h:p:=by rintro s ⟨U,hs,h⟩;exact CZ hs<|by cases h;exact .ret (Ed [])):p:=h
def aMG {p:Prop} (h:p:=by by_cases h:(s.size:Int)<1<;>simp[h]<;>omega):p:=h
def mY {p:Prop} (h:p:=by rw[ha,Cm,Fr];omega):p:=h
def Xb {p:Prop} (h:p:=by simpa using m):p:=h
def aSW {p:Prop} (h:p:=by simpa using hk):p:=h
def aH6 {p:Prop} (h:p:=by simp only[aR5];split<;>omega):p:=h
def eS {p:Prop} (h:p:=by simp[Aj];omega):p:=h
def qc {p:Prop} (h:p:=by simpa using(hl 0).symm):p:=h
def aES {p:Prop} (h:p:=by rw[EP];simp only[OV];omega):p:=h
def jE {p:Prop} (h:p:=by rw[aJv j J];simp):p:=h
def aHT {p:Prop} (h:p:=by simpa using J 0 x (by simp)):p:=h
def V3 {p:Prop} (h:p:=by simp at q):p:=h
def aEL {p:Prop} (h:p:=by simpa using L 0 x (by simp)):p:=h
def iQ {p:Prop} (h:p:=by intro u;cases u):p:=h
def aM7 {p:Prop} (h:p:=by obtain⟨b,_,rfl⟩:=FH.1 hy;exact hc b):p:=h
def aM8 {p:Prop} (h:p:=by obtain⟨a,_,rfl⟩:=FH.1 hy;exact hc a):p:=h
def cZ {p:Prop} (h:p:=by simpa using U):p:=h
def aaX {p:Prop} (h:p:=by show DF C ok H (U ops.size).ents w;rw[hE];exact hmem):p:=h
def aGJ {p:Prop} (h:p:=by simp[binOp,Op.intBits,Ec]):p:=h
def aGn {p:Prop} (h:p:=by simp only[GI];simp;omega):p:=h
def aJQ {p:Prop} (h:p:=by rw[M rfl b (by rw[q];rfl)];exact u):p:=h
def aP7 {p:Prop} (h:p:=by cases h;exact .ret (Ed [(4,true)])):p:=h
def aS7 {p:Prop} (h:p:=by rw[Cm]at hi;rw[V5 _ _ _ hi];exact Uo m j q (h i hi)):p:=h
def acA {p:Prop} (h:p:=by subst e;have h:=i;exact DU.aW<|by cases h;kernel_rfl):p:=h
def Rch {p:Prop} (h:p:=by simp[Act.eval,Act.put]):p:=h
def aOD {p:Prop} (h:p:=by simpa using L 0 σ.ents (by simp)):p:=h
def aOb {p:Prop} (h:p:=by simpa using M 0 σ.ents (by simp)):p:=h
def adh {p:Prop} (h:p:=by rw[Cm]at hi;rw[V5 _ _ _ hi];exact(h i hi).vH π):p:=h
def adA {p:Prop} (h:p:=by rw[M]at ho';obtain rfl:=D5 ho';exact(O m hm).1):p:=h
def oN {p:Prop} (h:p:=by rw[j]at h;exact h):p:=h
def aBM {p:Prop} (h:p:=by simp[Op.bytesLess]at h):p:=h
def aQI {p:Prop} (h:p:=by simp only[aA0,dec_lt h,BZ,CV h,Aa,Pn,EL,BM]):p:=h
def yI {p:Prop} (h:p:=by intro h;cases h):p:=h
def aal {p:Prop} (h:p:=by simpa using(by omega:i<(ops.map a.eval).size)):p:=h
def aAO {p:Prop} (h:p:=by rw[World.cell?,j];rfl):p:=h
def aB5 {p:Prop} (h:p:=by constructor<;>omega):p:=h
def qK {p:Prop} (h:p:=by simpa using he):p:=h
def vM {p:Prop} (h:p:=by simpa using hs):p:=h
def aVY {p:Prop} (h:p:=by cases h;exact .ret (Ed [(0,false),(5,true)])):p:=h
def aFl {p:Prop} (h:p:=by unfold maxLen;omega):p:=h
def aHB {p:Prop} (h:p:=by rw[map_take hi,ha]):p:=h
def aLa {p:Prop} (h:p:=by simp[sizeOf,typeInfo,hi,hs]):p:=h
def aQs {p:Prop} (h:p:=by have :=l7 s ⟨k,key,0⟩;unfold Ey at *;omega):p:=h
def nR {p:Prop} (h:p:=by simpa using q2):p:=h
def YF {p:Prop} (h:p:=by rw[q,←z]):p:=h
def aFp {p:Prop} (h:p:=by simp[underlying,ht]):p:=h
def tZ {p:Prop} (h:p:=by simpa using L):p:=h
def aCB {p:Prop} (h:p:=by simp[underlying,hu]):p:=h
def aLB {p:Prop} (h:p:=by rw[al0];exact hdf.mono hgr):p:=h
def nS {p:Prop} (h:p:=by simpa using h2):p:=h
def aP3 {p:Prop} (h:p:=by first|exact L|kernel_rfl):p:=h
def aaq {p:Prop} (h:p:=by simp[Value.cells,List.getD,Array.getD,u]):p:=h
def Zq {p:Prop} (h:p:=by simp[hl]):p:=h
def aPO {p:Prop} (h:p:=by have :=eq_of_beq h;omega):p:=h
def aI3 {p:Prop} (h:p:=by rw[←q.hlen];simp):p:=h
def aAx {p:Prop} (h:p:=by rw[←m.hlen];simp):p:=h
def aHY {p:Prop} (h:p:=by rw[←hm.hlen];simp):p:=h
def aP4 {p:Prop} (h:p:=by rw[hb1];exact(G5.1 L).1):p:=h
def aPy {p:Prop} (h:p:=by rw[BN.aeu]at I;exact I):p:=h
def aDV {p:Prop} (h:p:=by simp[List.getD,j]):p:=h
def aGQ {p:Prop} (h:p:=by simp[List.getD,m]):p:=h
def aAs {p:Prop} (h:p:=by intro z;cases z):p:=h
def aEd {p:Prop} (h:p:=by intro Y;cases Y):p:=h
def aUo {p:Prop} (h:p:=by unfold KI at j;rw[Dj hl]at j;exact j):p:=h
def aIX {p:Prop} (h:p:=by simp[Array.getD,h1,hi']):p:=h
def aOK {p:Prop} (h:p:=by simp[underlying,hE.und]):p:=h
def dN {p:Prop} (h:p:=by cases h'):p:=h
def aCd {p:Prop} (h:p:=by simp[Array.getD]):p:=h
def aJh {p:Prop} (h:p:=by rw[size_put];exact hsz):p:=h
def oZ {p:Prop} (h:p:=by rw[ha,Gm]):p:=h
def aUZ {p:Prop} (h:p:=by simp[stepG,stepG.exec,Frame.atR]):p:=h
def aVQ {p:Prop} (h:p:=by rw[yR];exact fuel_lt (by decide)):p:=h
def aNG {p:Prop} (h:p:=by simp[List.getD,Xp e]):p:=h
def aEW {p:Prop} (h:p:=by simpa using M):p:=h
def aIG {p:Prop} (h:p:=by simp[ev,List.getD,hy]):p:=h
def aAi {p:Prop} (h:p:=by simpa using hi1):p:=h
def aI0 {p:Prop} (h:p:=by simp[flat]at hi):p:=h
def aK8 {p:Prop} (h:p:=by simp[List.getD,Gs e]):p:=h
def aJr {p:Prop} (h:p:=by simpa[Df]using u.symm):p:=h
def aA9 {p:Prop} (h:p:=by rw[IV];omega):p:=h
def aNX {p:Prop} (h:p:=by rw[aGO];exact .ret rfl):p:=h
def acy {p:Prop} (h:p:=by rw[q];rfl):p:=h
def aIv {p:Prop} (h:p:=by simp[r,List.getD,hy]):p:=h
def aOw {p:Prop} (h:p:=by rw[hev];exact hmem):p:=h
def aNt {p:Prop} (h:p:=by rw[aAb];exact hh.base):p:=h
def aNn {p:Prop} (h:p:=by simp[World.setRow]):p:=h
def aO8 {p:Prop} (h:p:=by simp only[aA0,DV,BM]):p:=h
def zq {p:Prop} (h:p:=by apply aOM;simp):p:=h
def xM {p:Prop} (h:p:=by rw[e];rfl):p:=h
def qZ {p:Prop} (h:p:=by rw[u];rfl):p:=h
def aAv {p:Prop} (h:p:=by simp[go_sem]):p:=h
def aCk {p:Prop} (h:p:=by rw[IQ];exact h):p:=h
def aId {p:Prop} (h:p:=by rw[EP];simp;omega):p:=h
def mD {p:Prop} (h:p:=by simp[j]):p:=h
def aGm {p:Prop} (h:p:=by simpa using Y):p:=h
def rO {p:Prop} (h:p:=by rw[j];rfl):p:=h
def aIF {p:Prop} (h:p:=by simp[execOp,j];rfl):p:=h
def ahi {p:Prop} (h:p:=by simp[hx]):p:=h
def aN2 {p:Prop} (h:p:=by simp[underlying,m]):p:=h
def aQ7 {p:Prop} (h:p:=by rw[EP]at hi;omega):p:=h
def aMQ {p:Prop} (h:p:=by rw[ZQ];simp;omega):p:=h
def aLf {p:Prop} (h:p:=by simp[List.getD,q]):p:=h
def aLZ {p:Prop} (h:p:=by simpa using this):p:=h
def aNY {p:Prop} (h:p:=by rw[Cm];exact hi):p:=h
def aLv {p:Prop} (h:p:=by simpa using hee):p:=h
def aDI {p:Prop} (h:p:=by simp[nY,e]):p:=h
def oI {p:Prop} (h:p:=by simp at j):p:=h
def oM {p:Prop} (h:p:=by simp at M):p:=h
def aJ0 {p:Prop} (h:p:=by rw[z]at m;omega):p:=h
def aNP {p:Prop} (h:p:=by intro O;cases O):p:=h
end Go.Proofs.YtldfpencimjjlaaGreat
namespace Go.Proofs.YtldfpencimjjlaaGreat
open Go.RowKit
def Bg {p:Prop} (h:p:=by exact fun h=>AX<|CO):p:=h
def EO {p:Prop} (h:p:=by exact AO.exit<|AX<|CO):p:=h
def HY {p:Prop} (h:p:=by exact AO.exit<|AX<|Pj):p:=h
def gB {p:Prop} (h:p:=by exact MV AA<|MV AA<|MV AA<|MV AA<|trivial):p:=h
def aHx {p:Prop} (h:p:=by exact .nil<|Or.inl ⟨(),(CU h).symm,(⟨[],[],trivial,AA,AA,AA⟩)⟩):p:=h
def aRw {p:Prop} (h:p:=by exact .aW<|AX<|AO.ret<|by rw[←CU h];exact⟨[DC ({ aS with Content:=j })],[],⟨⟨1,BJ (BD ({ aS with Content:=j })),true,29,AA,AA,AA,Cb,Dt AA,bG,AA⟩,trivial⟩,AA,AA,AA⟩):p:=h
def aRV {p:Prop} (h:p:=by exact fun h=>AO.ret<|⟨.inr rfl,(Xd z).slots,(.ready,none),.normal,AA,rfl,(K3 _ ⟨m,q,AZ 16 32 [(2,true),(6,true)],h⟩)⟩):p:=h
def abw {p:Prop} (h:p:=by exact AO.ret<|⟨.inr rfl,(Vm iW j).slots,(.ready,none),.normal,AA,rfl,(K3 _ ⟨v7,v8,AZ 21 80 [(0,true),(1,true)],h⟩)⟩):p:=h
def aDB {p:Prop} (h:p:=by exact .nil<|m _ _ _ (AZ 16 449 [(0,true)]) h):p:=h
def ZK {p:Prop} (h:p:=by exact AX<|AX<|CO):p:=h
def lV {p:Prop} (h:p:=by exact fun h=>AX<|Pj):p:=h
def aNq {p:Prop} (h:p:=by exact fun h=>AO.exit<|K4 _ ⟨AZ 18 2 [],h⟩):p:=h
def aJt {p:Prop} (h:p:=by exact .nil<|j _ _ (AZ 26 35 []) h):p:=h
def JL {p:Prop} (h:p:=by exact Az h Bg fun h=>AX<|CO):p:=h
def vK {p:Prop} (h:p:=by exact AY<|AX<|JL):p:=h
end Go.Proofs.YtldfpencimjjlaaGreat
section
namespace Go.Proofs.YtldfpencimjjlaaGreat
open Go.RowKit
def addr_add (b o j:Nat):(⟨b,o,none⟩:Addr).add j=⟨b,o+j,none⟩:=by
 unfold Addr.add;split<;>simp_all
section
variable {P : Program} {ops : Array Oper} {rest : List Oper} {o : Oper} {a : Act} {w : World} {Q : Exit → Act → World → Prop}
def aqH (w:World) (ty:TypeId) (b off:Nat) (cs:Array Value) (u:(isAgg ty).run P w=.ok true w) (z:(sizeOf ty).run P w=.ok cs.size w)
 (I:∀j,j<cs.size→w.cell? ⟨b,off+j,none⟩=some (cs.getD j undef)):(loadVar ty ⟨b,off,none⟩).run P w=.ok (.agg cs) w:=by
 have hl:(loadCells ⟨b,off,none⟩ cs.toList.length).run P w=.ok cs.toList.toArray w:=
  aLO (P:=P) w ⟨b,off,none⟩ cs.toList (fun j v m=>by
   rw[addr_add]
   have q:j<cs.size:=by
    have :=(G5.1 m).1;simpa using this
   rw[I j q];simp only[zD]at m;simp[Array.getD,q]at m ⊢
   exact m)
 simp only[TB,gZ]at hl;simp only[loadVar,FV,u,z,Fb,Jv,hl,GY]
end
inductive D where
 |lit (v:Value)
 |agg (cs:List D)
 |sl (es:List D)
 |ref (cs:List D) (off:Nat)
 |fn (f:Fn) (first cap:List D)
 |P7 (t:TypeId) (x:D)
def D.cells:D→List D
 | .agg cs=>cs
 |x=>[x]
def D.leaf:D→Bool
 | .lit v=>v.oneCell'
 | .agg _=>false
 |_=>true
abbrev Dp :D:=.lit undef
abbrev cellAt (w:World) (b o:Nat):Value:=(w.cell? ⟨b,o,none⟩).getD undef
inductive Dv (ok:Nat→Prop) (w:World):D→Value→Prop
 |lit (v:Value):Dv ok w (.lit v) v
 |agg (cs:List D) (vs:Array Value) (hl:vs.size=cs.length) (hf:∀i,i<cs.length→(cs.getD i Dp).leaf=true)
  (h:∀i,i<cs.length→Dv ok w (cs.getD i Dp) (vs.getD i undef)):Dv ok w (.agg cs) (.agg vs)
 |sl0 (ad:Option Addr) (cap:Nat):Dv ok w (.sl []) (.slice ad 0 cap)
 |sl (es:List D) (b off cap size:Nat) (hcap:es.length≤cap) (hok:0<es.length→0<size→ok b) (hs:∀i,i<es.length→(es.getD i Dp).cells.length=size)
  (hf:∀i,i<es.length→∀j,j<size→((es.getD i Dp).cells.getD j Dp).leaf=true)
  (hx:∀i,i<es.length→∀j,j<size→(w.cell? ⟨b,off+(i*size+j),none⟩).isSome=true)
  (hc:∀i,i<es.length→∀j,j<size→Dv ok w ((es.getD i Dp).cells.getD j Dp) (cellAt w b (off+(i*size+j)))):
  Dv ok w (.sl es) (.slice (some ⟨b,off,none⟩) es.length cap)
 |ref (cs:List D) (off b o:Nat) (hok:0<cs.length→ok b) (hf:∀i,i<cs.length→(cs.getD i Dp).leaf=true)
  (hx:∀j,j<cs.length→(w.cell? ⟨b,o+j,none⟩).isSome=true)
  (hc:∀j,j<cs.length→Dv ok w (cs.getD j Dp) (cellAt w b (o+j))):Dv ok w (.ref cs off) (.pointer (some ⟨b,o+off,none⟩))
 |fn (f:Fn) (first cap:List D) (vs us:Array Value) (hl:vs.size=first.length) (hm:us.size=cap.length)
  (h:∀i,i<first.length→Dv ok w (first.getD i Dp) (vs.getD i undef)) (h':∀i,i<cap.length→Dv ok w (cap.getD i Dp) (us.getD i undef)):
  Dv ok w (.fn f first cap) (.func f vs us)
 |P7 (t:TypeId) (x:D) (v:Value) (h:Dv ok w x v):Dv ok w (.P7 t x) (.iface t v)
def Eb (ok:Nat→Prop) (w:World) (ok':Nat→Prop) (w':World):Prop:=∀b,ok b→ok' b∧w'.heap[b]? =w.heap[b]?
def Eb.refl (ok:Nat→Prop) (w:World):Eb ok w ok w:=fun _ h=>⟨h,rfl⟩
def Eb.trans {ok j m:Nat→Prop} {w u z:World} (h:Eb ok w j u) (k:Eb j u m z):Eb ok w m z:=
 fun b q=>⟨(k b (h b q).1).1,((k b (h b q).1).2).trans (h b q).2⟩
def Eb.cell {ok ok':Nat→Prop} {w w':World} (h:Eb ok w ok' w') {b o:Nat} (j:ok b):w'.cell? ⟨b,o,none⟩=w.cell? ⟨b,o,none⟩:=
 World.cell?_of_block (w:=w) (a:=⟨b,o,none⟩) (h b j).2
def Dv.mono {ok ok':Nat→Prop} {w w':World} (z:Eb ok w ok' w') {x:D} {v:Value} (h:Dv ok w x v):Dv ok' w' x v:=by
 induction h with
 |lit v=>exact .lit v
 |agg cs vs hl I _ u=>exact .agg cs vs hl I u
 |sl0 ad cap=>exact .sl0 ad cap
 |sl es b off cap size J m hs I L _ u=>
  have U:∀i j,i<es.length→j<size→ok b:=fun i j hi q=>m AB AB;refine .sl es b off cap size J (fun M Y=>(z b (m M Y)).1) hs I (fun i hi j q=>?_) (fun i hi j q=>?_)
  ·rw[z.cell (U i j hi q)];exact L i hi j q
  unfold cellAt;rw[z.cell (U i j hi q)];exact u i hi j q
 |ref cs off b o m I L _ u=>
  refine .ref cs off b o (fun M=>(z b (m M)).1) I (fun j q=>?_) (fun j q=>?_)
  ·rw[z.cell (m AB)];exact L j q
  unfold cellAt;rw[z.cell (m AB)];exact u j q
 |fn f first cap vs us hl Z _ _ u O=>exact .fn f first cap vs us hl Z u O
 |P7 t x v _ u=>exact .P7 t x v u
def Dv.shrink {ok ok':Nat→Prop} {w:World} (hs:∀b o,ok b→(w.cell? ⟨b,o,none⟩).isSome=true→ok' b) {x:D} {v:Value} (h:Dv ok w x v):Dv ok' w x v:=by
 induction h with
 |lit v=>exact .lit v
 |agg cs vs hl q _ j=>exact .agg cs vs hl q j
 |sl0 ad cap=>exact .sl0 ad cap
 |sl es b off cap size u m J q z _ j=>exact .sl es b off cap size u (fun I M=>hs b _ (m I M) (z 0 I 0 M)) J q z j
 |ref cs off b o m q z _ j=>exact .ref cs off b o (fun I=>hs b _ (m I) (z 0 I)) q z j
 |fn f first cap vs us hl O _ _ j L=>exact .fn f first cap vs us hl O j L
 |P7 t x v _ j=>exact .P7 t x v j
def Dv.leaf {ok:Nat→Prop} {w:World} {x:D} {v:Value} (h:Dv ok w x v) (hl:x.leaf=true):v.oneCell'=true:=by
 cases h<;>first|rfl|exact hl|(simp[D.leaf]at hl)
inductive Ag where
 |d (x:D)
 |ptr (k off:Nat)
 |aO (k:Nat)
 |mG (k i off:Nat)
 |fn (f:Fn) (first cap:List Ag)
 |mp (k:Nat)
 |clip (xs:List D)
 |xK (k:Nat)
 |fP (vs:List Ag)
 |ag (vs:List Ag)
 |junk
def Ag.leaf:Ag→Bool
 | .d x=>x.leaf
 | .fP _| .ag _| .junk=>false
 |_=>true
def Ag.cells:Ag→List Ag
 | .d x=>x.cells.map .d
 | .ag xs=>xs
 |x=>[x]
inductive BN where
 |dead
 |box (cs:List Ag)
 |arr (e:TypeId) (size:Nat) (es:List D)
 |map (es:List (Value×D))
 |gV (es:List (Value×D))
 |iter (es:List (Value×D)) (vis:List Nat)
 |loop (tm:Array Value) (slots:List Ag) (rc:Array Tmp×Code×Code) (st:LoopState) (pe:Option Code)
def BN.live:BN→Bool
 | .dead=>false
 |_=>true
structure Bj where
 v:Value
 size:Nat:=0
inductive R (ok:Nat→Prop) (w:World) (H:List Bj):Ag→Value→Prop
 |d (x:D) (v:Value) (h:Dv ok w x v):R ok w H (.d x) v
 |ptr (k off b s:Nat) (h:H[k]? =some ⟨.pointer (some ⟨b,0,none⟩),s⟩):R ok w H (.ptr k off) (.pointer (some ⟨b,off,none⟩))
 |aO (k:Nat) (ad:Option Addr) (n cap s:Nat) (h:H[k]? =some ⟨.slice ad n cap,s⟩):R ok w H (.aO k) (.slice ad n cap)
 |mG (k i off b n cap s:Nat) (h:H[k]? =some ⟨.slice (some ⟨b,0,none⟩) n cap,s⟩):R ok w H (.mG k i off) (.pointer (some ⟨b,i*s+off,none⟩))
 |fn (f:Fn) (first cap:List Ag) (vs us:Array Value) (hl:vs.size=first.length) (hm:us.size=cap.length) (h:∀i,i<first.length→R ok w H (first.getD i .junk) (vs.getD i undef))
  (h':∀i,i<cap.length→R ok w H (cap.getD i .junk) (us.getD i undef)):R ok w H (.fn f first cap) (.func f vs us)
 |mp (k:Nat) (v:Value) (s:Nat) (hl:v.oneCell'=true) (h:H[k]? =some ⟨v,s⟩):R ok w H (.mp k) v
 |clip (xs:List D) (ad:Option Addr) (h:Dv ok w (.sl xs) (.slice ad xs.length xs.length)):R ok w H (.clip xs) (.slice ad xs.length xs.length)
 |xK (k:Nat) (ad:Option Addr) (n cap s:Nat) (h:H[k]? =some ⟨.slice ad n cap,s⟩):R ok w H (.xK k) (.slice ad n n)
 |fP (xs:List Ag) (vs:Array Value) (hl:vs.size=xs.length) (h:∀i,i<xs.length→R ok w H (xs.getD i .junk) (vs.getD i undef)):R ok w H (.fP xs) (.tuple vs)
 |ag (xs:List Ag) (vs:Array Value) (hl:vs.size=xs.length) (hf:∀i,i<xs.length→(xs.getD i .junk).leaf=true) (h:∀i,i<xs.length→R ok w H (xs.getD i .junk) (vs.getD i undef)):R ok w H (.ag xs) (.agg vs)
 |junk (v:Value):R ok w H .junk v
def Names (H H':List Bj):Prop:=∀(k:Nat) (v:Bj),H[k]? =some v→H'[k]? =some v
def Names.refl (H:List Bj):Names H H:=fun _ _ h=>h
def Names.trans {H H1 H2:List Bj} (h:Names H H1) (k:Names H1 H2):Names H H2:=fun i v j=>k i v (h i v j)
def Names.push (H H':List Bj):Names H (H++H'):=fun k v h=>by
 rw[Gs (G5.1 h).1];exact h
def R.mono {ok ok':Nat→Prop} {w w':World} {H H':List Bj} (u:Eb ok w ok' w') (j:Names H H') {x:Ag} {v:Value} (h:R ok w H x v):R ok' w' H' x v:=by
 induction h with
 |d x v h=>exact .d x v (h.mono u)
 |ptr k off b s h=>exact .ptr k off b s (j _ _ h)
 |aO k ad n cap s h=>exact .aO k ad n cap s (j _ _ h)
 |mG k i off b n cap s h=>exact .mG k i off b n cap s (j _ _ h)
 |fn f first cap vs us hl z _ _ m q=>exact .fn f first cap vs us hl z m q
 |mp k v s hl h=>exact .mp k v s hl (j _ _ h)
 |clip xs ad h=>exact .clip xs ad (h.mono u)
 |xK k ad n cap s h=>exact .xK k ad n cap s (j _ _ h)
 |fP xs vs hl _ m=>exact .fP xs vs hl m
 |ag xs vs hl I _ m=>exact .ag xs vs hl I m
 |junk v=>exact .junk v
def R.shrink {ok ok':Nat→Prop} {w:World} (hs:∀b o,ok b→(w.cell? ⟨b,o,none⟩).isSome=true→ok' b) {H:List Bj} {x:Ag} {v:Value} (h:R ok w H x v):R ok' w H x v:=by
 induction h with
 |d x v h=>exact .d x v (h.shrink hs)
 |ptr k off b s h=>exact .ptr k off b s h
 |aO k ad n cap s h=>exact .aO k ad n cap s h
 |mG k i off b n cap s h=>exact .mG k i off b n cap s h
 |fn f first cap vs us hl q _ _ j m=>exact .fn f first cap vs us hl q j m
 |mp k v s hl h=>exact .mp k v s hl h
 |clip xs ad h=>exact .clip xs ad (h.shrink hs)
 |xK k ad n cap s h=>exact .xK k ad n cap s h
 |fP xs vs hl _ j=>exact .fP xs vs hl j
 |ag xs vs hl u _ j=>exact .ag xs vs hl u j
 |junk v=>exact .junk v
def R.leaf {ok:Nat→Prop} {w:World} {H:List Bj} {x:Ag} {v:Value} (h:R ok w H x v) (hl:x.leaf=true):v.oneCell'=true:=by
 cases h with
 |d x v h=>exact h.leaf hl
 |fP=>simp[Ag.leaf]at hl
 |ag=>simp[Ag.leaf]at hl
 |junk=>simp[Ag.leaf]at hl
 |mp k v s hl h=>exact hl
 |_=>rfl
def G8 (ok:Nat→Prop) (w:World) (H:List Bj) (xs:List Ag) (vs:List Value):Prop:=
 vs.length=xs.length∧∀i,i<xs.length→(xs.getD i .junk).leaf=true∧R ok w H (xs.getD i .junk) (vs.getD i undef)
def G8.mono {ok ok':Nat→Prop} {w w':World} {H H':List Bj} (j:Eb ok w ok' w') (m:Names H H') {xs:List Ag} {vs:List Value} (h:G8 ok w H xs vs):G8 ok' w' H' xs vs:=
 ⟨h.1,fun i hi=>⟨(h.2 i hi).1,(h.2 i hi).2.mono j m⟩⟩
def G8.shrink {ok ok':Nat→Prop} {w:World} (hs:∀b o,ok b→(w.cell? ⟨b,o,none⟩).isSome=true→ok' b) {H:List Bj} {xs:List Ag} {vs:List Value} (h:G8 ok w H xs vs):G8 ok' w H xs vs:=
 ⟨h.1,fun i hi=>⟨(h.2 i hi).1,(h.2 i hi).2.shrink hs⟩⟩
def flat (es:List D):List Ag:=es.flatMap fun x=>x.cells.map .d
def nO (w:World) (e:TypeId) (size:Nat) (v:Value) (n:Nat) (xs:List Value):Prop:=
 xs.length=n*size∧
 ((v=.slice none 0 0∧n=0)∨
  ∃g cap j,v=.slice (some ⟨g,0,none⟩) n cap∧0≤g∧w.heap[g]? =some (.cells j e (0,0))∧n≤cap∧cap≤maxLen∧cap*size≤j.size∧j.toList.take (n*size)=xs)
def nO.of {w:World} {base:Nat} {e:TypeId} {size:Nat} {v:Value} {n:Nat} {xs:List Value} (h:w.ownsRow base e size v n xs):nO w e size v n xs:=by
 refine⟨h.1,?_⟩;rcases h.2 with j|⟨g,cap,m,j,L,q,u,z,I,J⟩
 ·exact .inl j
 exact .inr ⟨g,cap,m,j,El _,q,u,z,ZW I.symm,J⟩
def nO.cells {w:World} {e:TypeId} {size:Nat} {v:Value} {n:Nat} {xs:List Value} (h:nO w e size v n xs) {g:Nat} (I:v.ownBlock=some g):∀j u,xs[j]? =some u→w.cell? ((⟨g,0,none⟩:Addr).add j)=some u:=by
 intro j u z;rcases h.2 with⟨rfl,_⟩|⟨J,cap,L,rfl,_,M,_,_,_,m⟩
 ·simp[Value.ownBlock]at I
 simp[Value.ownBlock]at I;subst I;have q:(⟨J,0,none⟩:Addr).add j=⟨J,j,none⟩:=by unfold Addr.add;split<;>simp_all
 rw[q,cell_of_row w J j L e (0,0) M];rw[←m,zM]at z;split at z
 ·simpa using z
 cases z
structure Ku (ok:Nat→Prop) (w:World) (es:List (Value×D)) (ms:Array MapEntry) (clock:Nat):Prop where
 len:ms.size=es.length
 ent:∀(i:Nat) (e:Value×D) (m:MapEntry),es[i]? =some e→ms[i]? =some m→m.key=e.1∧Dv ok w e.2 m.val∧m.born<clock
 inc:∀(i j:Nat) (m n:MapEntry),i<j→ms[i]? =some m→ms[j]? =some n→m.born<n.born
def Ry (ms:Array MapEntry) (clock:Nat):Prop:=clock=ms.size∧∀(i:Nat) (e:MapEntry),ms[i]? =some e→e.born=i
def Ez (ok:Nat→Prop) (w:World) (H:List Bj) (h:Bj):BN→Prop
 | .dead=>True
 | .box cs=>∃b vs T,h.v=.pointer (some ⟨b,0,none⟩)∧w.heap[b]? =some (.cells vs T (0,0))∧G8 ok w H cs vs.toList
 | .arr e size es=>h.size=size∧(∀x∈es,x.cells.length=size)∧∃xs,nO w e size h.v es.length xs∧G8 ok w H (flat es) xs
 | .map es=>∃b ms clock,h.v=.map (some b)∧w.heap[b]? =some (.map ms clock)∧Ku ok w es ms clock
 | .gV es=>∃b ms clock,h.v=.map (some b)∧w.heap[b]? =some (.map ms clock)∧Ku ok w es ms clock∧Ry ms clock
 | .iter es vis=>∃bi m ms clock seen,h.v=.pointer (some ⟨bi,0,none⟩)∧w.heap[bi]? =some (.mapIter (some m) clock seen clock)∧ok m∧w.heap[m]? =some (.map ms clock)∧Ku ok w es ms clock∧
  seen.size=vis.length∧∀(j i:Nat),vis[j]? =some i→∃e,ms[i]? =some e∧seen[j]? =some e.born
 | .loop tm slots rc st q=>∃l fn D,h.v=.func (.yield l) #[] #[]∧w.heap[l]? =some (.loop { state:=st,pending:=q,fn,tmps:=tm,params:=rc.1,assign:=rc.2.1,body:=rc.2.2,defers:=D })∧tm.size=slots.length∧∀t,t<slots.length→R ok w H (slots.getD t .junk) (tm.getD t undef)
def Df :Value→Option Nat
 | .pointer (some a)=>some a.block
 | .slice (some a) _ _=>some a.block
 | .map (some b)=>some b
 | .func (.yield l) _ _=>some l
 |_=>none
structure xq (w0:World) (X:List Nat) (w:World):Prop where
 os:w.os=w0.os
 tape:w.tape=w0.tape
 output:w.output=w0.output
 size:w0.heap.size≤w.heap.size
 block:∀k,k<w0.heap.size→k∉X→w.heap[k]? =w0.heap[k]?
def xq.refl (w:World) (X:List Nat):xq w X w:=⟨rfl,rfl,rfl,EG _,fun _ _ _=>rfl⟩
def xq.below {w0 w:World} (h:xq w0 [] w):Below w0.heap.size w0 w:=⟨h.os,h.tape,h.output,h.size,fun k j=>h.block k j BP⟩
structure EW where
 w0:World
 ok0:Nat→Prop
 X:List Nat
 H0:List Bj
structure DF (C:EW) (ok:Nat→Prop) (H:List Bj) (es:List BN) (w:World):Prop where
 fr:xq C.w0 C.X w
 yZ:∀b,C.ok0 b→ok b
 y8:∀b,ok b→C.ok0 b∨C.w0.heap.size≤b∨b∈C.X
 kW:∀b,ok b→b<w.heap.size
 names:Names C.H0 H
 hlen:H.length=es.length
 ent:∀(k:Nat) (e:BN) (h:Bj),es[k]? =some e→H[k]? =some h→Ez ok w H h e
 blk:∀(k:Nat) (e:BN) (h:Bj) (b:Nat),es[k]? =some e→e.live=true→H[k]? =some h→Df h.v=some b→¬ok b∧b<w.heap.size∧(C.w0.heap.size≤b∨b∈C.X)
 Fj:∀(k k':Nat) (e e':BN) (h h':Bj) (b:Nat),es[k]? =some e→es[k']? =some e'→e.live=true→e'.live=true→H[k]? =some h→H[k']? =some h'→Df h.v=some b→Df h'.v=some b→k=k'
def Ez.mono {ok ok':Nat→Prop} {w w':World} {H H':List Bj} {h:Bj} {e:BN} (J:Eb ok w ok' w') (Y:Names H H') (M:e.live=true→∀b,Df h.v=some b→w'.heap[b]? =w.heap[b]?) (O:Ez ok w H h e):Ez ok' w' H' h e:=by
 cases e with
 |dead=>trivial
 |box cs=>
  obtain⟨b,vs,T,q,u,j⟩:=O;exact⟨b,vs,T,q,aJQ,j.mono J Y⟩
 |arr e s es=>
  obtain⟨q,u,xs,⟨j,I⟩,L⟩:=O;refine⟨q,u,xs,⟨j,?_⟩,L.mono J Y⟩;rcases I with I|⟨g,cap,Z,U,h7,h8,h9⟩
  ·exact .inl I
  exact .inr ⟨g,cap,Z,U,h7,by rw[M rfl g (by rw[U];rfl)];exact h8,h9⟩
 |map es=>
  obtain⟨b,ms,clock,q,u,j⟩:=O;exact⟨b,ms,clock,q,aJQ,j.len,fun i e m hi z=>⟨(j.ent i e m hi z).1,(j.ent i e m hi z).2.1.mono J,(j.ent i e m hi z).2.2⟩,j.inc⟩
 |gV es=>
  obtain⟨b,ms,clock,q,u,j,I⟩:=O;exact⟨b,ms,clock,q,aJQ,⟨j.len,fun i e m hi z=>⟨(j.ent i e m hi z).1,(j.ent i e m hi z).2.1.mono J,(j.ent i e m hi z).2.2⟩,j.inc⟩,I⟩
 |iter es vis=>
  obtain⟨bi,bm,ms,clock,seen,q,u,j,I,L,U,h7⟩:=O;exact⟨bi,bm,ms,clock,seen,q,by rw[M rfl bi acy];exact u,(J bm j).1,by rw[(J bm j).2];exact I,⟨L.len,fun i e m hi z=>⟨(L.ent i e m hi z).1,(L.ent i e m hi z).2.1.mono J,(L.ent i e m hi z).2.2⟩,L.inc⟩,U,h7⟩
 |loop tm slots rc st pe=>
  obtain⟨l,fn,D,q,u,j,I⟩:=O;exact⟨l,fn,D,q,by rw[M rfl l acy];exact u,j,fun t ht=>(I t ht).mono J Y⟩
def Ez.shrink {ok ok':Nat→Prop} {w:World} (hs:∀b o,ok b→(w.cell? ⟨b,o,none⟩).isSome=true→ok' b) (M:∀(b:Nat) (ms:Array MapEntry) (c:Nat),ok b→w.heap[b]? =some (.map ms c)→ok' b) {H:List Bj} {h:Bj} {e:BN} (J:Ez ok w H h e):Ez ok' w H h e:=by
 cases e with
 |dead=>trivial
 |box cs=>
  obtain⟨b,vs,T,q,u,j⟩:=J;exact⟨b,vs,T,q,u,j.shrink hs⟩
 |arr e s es=>
  obtain⟨q,u,xs,j,I⟩:=J;exact⟨q,u,xs,j,I.shrink hs⟩
 |map es=>
  obtain⟨b,ms,clock,q,u,j⟩:=J;exact⟨b,ms,clock,q,u,j.len,fun i e m hi z=>⟨(j.ent i e m hi z).1,(j.ent i e m hi z).2.1.shrink hs,(j.ent i e m hi z).2.2⟩,j.inc⟩
 |gV es=>
  obtain⟨b,ms,clock,q,u,j,L⟩:=J;exact⟨b,ms,clock,q,u,⟨j.len,fun i e m hi z=>⟨(j.ent i e m hi z).1,(j.ent i e m hi z).2.1.shrink hs,(j.ent i e m hi z).2.2⟩,j.inc⟩,L⟩
 |iter es vis=>
  obtain⟨bi,O,ms,clock,seen,q,u,j,L,I,U,Y⟩:=J;exact⟨bi,O,ms,clock,seen,q,u,M O ms clock j L,L,⟨I.len,fun i e m hi z=>⟨(I.ent i e m hi z).1,(I.ent i e m hi z).2.1.shrink hs,(I.ent i e m hi z).2.2⟩,I.inc⟩,U,Y⟩
 |loop tm slots rc st pe=>
  obtain⟨l,fn,D,q,u,j,L⟩:=J;exact⟨l,fn,D,q,u,j,fun t Z=>(L t Z).shrink hs⟩
def Ez.drew {ok:Nat→Prop} {w:World} {H:List Bj} {h:Bj} {e:BN} {n:Nat} (j:Ez ok w H h e):Ez ok { w with drawn:=n } H h e:=
 Ez.mono (w:=w) (ok:=ok) (fun _ m=>⟨m,rfl⟩) (.refl _) (fun _ _ _=>rfl) j
def Bl (P:Program) (o:Oper) (ns:List (Operand×Ag)) (es:List BN) (x:Ag) (es':List BN):Prop:=
 ∀(C:EW) (ok:Nat→Prop) (H:List Bj) (a:Act) (w:World) (Q:Exit→Act→World→Prop),
  DF C ok H es w→(∀n∈ns,R ok w H n.2 (a.eval n.1))→
  o.wp P a w (fun a' w'=>∃v ok' H',a'=a.put o.dst v∧Eb ok w ok' w'∧Names H H'∧DF C ok' H' es' w'∧R ok' w' H' x v) Q
def Bl.pure {P:Program} {o:Oper} {ns:List (Operand×Ag)} {es:List BN} {x:Ag}
 (h:∀(ok:Nat→Prop) (H:List Bj) (a:Act) (w:World),(∀(k:Nat) (e:BN) (h:Bj),es[k]? =some e→H[k]? =some h→Ez ok w H h e)→H.length=es.length→(∀n∈ns,R ok w H n.2 (a.eval n.1))→∃v,(execOp a.eval o).run P w=.ok (.value v) w∧R ok w H x v):Bl P o ns es x es:=by
 intro C ok H a w Q j m;obtain⟨v,q,u⟩:=h ok H a w j.ent j.hlen m;unfold Oper.wp;rw[q];exact⟨v,ok,H,rfl,.refl _ _,.refl _,j,u⟩
structure BI where
 slots:List Ag
 ents:List BN
 base:Nat:=0
def BI.get (σ:BI):Operand→Ag
 | .tmp t=>σ.slots.getD t .junk
 | .const v=>.d (.lit v)
 | .global g=>.d (.lit (.pointer (some ⟨g,0,none⟩)))
 | .func f=>.d (.fn (.func f) [] [])
def BI.put (σ:BI) (d:Option Tmp) (x:Ag) (es:List BN):BI:=
 ⟨match d with |some t=>σ.slots.set t x|none=>σ.slots,es,σ.base⟩
def BI.sF (σ:BI) (d:Option Tmp) (x:Ag):BI:=
 ⟨match d with |some t=>σ.slots.set t x|none=>σ.slots,σ.ents,σ.base⟩
def BI.Y2 (σ:BI) (d:Option Tmp) (x:Ag):σ.sF d x=σ.put d x σ.ents:=rfl
def Marks (C:EW) (ok:Nat→Prop) (w:World) (j:List Deferred):Prop:=
 ∃Ds:List Nat,j=Ds.map (fun D=>{ target:=.collected D,args:= #[] })∧Ds.Nodup∧∀D∈Ds,ok D∧C.w0.heap.size≤D∧w.heap[D]? =some (.deferred (some []))
def Marks.nil (C:EW) (ok:Nat→Prop) (w:World):Marks C ok w []:=⟨[],rfl,aN,fun _ h=>Gh⟩
def Marks.mono {C:EW} {ok ok':Nat→Prop} {w w':World} {q:List Deferred} (h:Marks C ok w q) (u:Eb ok w ok' w'):Marks C ok' w' q:=by
 obtain⟨Ds,z,I,j⟩:=h;exact⟨Ds,z,I,fun D m=>⟨(u D (j D m).1).1,(j D m).2.1,((u D (j D m).1).2).trans (j D m).2.2⟩⟩
structure Holds (C:EW) (ok:Nat→Prop) (H:List Bj) (σ:BI) (a:Act) (w:World):Prop where
 mem:DF C ok H σ.ents w
 size:a.tmps.size=σ.slots.length
 defers:Marks C ok w a.defers
 base:C.H0.length=σ.base
 slot:∀t,t<σ.slots.length→R ok w H (σ.slots.getD t .junk) (a.tmps.getD t undef)
def jO {l:List Ag} {t:Nat} (h:¬t<l.length):l.getD t .junk=.junk:=by
 simp[List.getD,IC (Um h)]
def Holds.get {C:EW} {ok:Nat→Prop} {H:List Bj} {σ:BI} {a:Act} {w:World} (h:Holds C ok H σ a w) (x:Operand):R ok w H (σ.get x) (a.eval x):=by
 cases x with
 |tmp t=>
  show R ok w H (σ.slots.getD t .junk) (a.tmps.getD t undef);by_cases j:t<σ.slots.length
  ·exact h.slot t j
  rw[jO j];exact .junk _
 |const v=>exact .d _ _ (.lit v)
 |global g=>exact .d _ _ (.lit _)
 |func f=>exact .d _ _ (.fn (.func f) [] [] #[] #[] rfl rfl (fun i hi=>OX) (fun i hi=>OX))
def Holds.put {C:EW} {ok ok':Nat→Prop} {H H':List Bj} {σ:BI} {a:Act} {w w':World} (h:Holds C ok H σ a w) (d:Option Tmp) {x:Ag} {v:Value} {es':List BN}
 (m:Eb ok w ok' w') (z:Names H H') (I:DF C ok' H' es' w') (J:R ok' w' H' x v):Holds C ok' H' (σ.put d x es') (a.put d v) w':=by
 cases d with
 |none=>exact⟨I,h.size,h.defers.mono m,h.base,fun t j=>(h.slot t j).mono m z⟩
 |some d=>
  refine⟨I,by simp[BI.put,Act.put,h.size],h.defers.mono m,h.base,fun t j=>?_⟩;simp only[BI.put,fV]at j;simp only[BI.put,Act.put];by_cases e:d=t
  ·subst e;have q:(σ.slots.set d x).getD d .junk=x:=aDV
   have u:(a.tmps.setIfInBounds d v).getD d undef=v:=by simp[Array.getD,h.size,j]
   rw[q,u];exact J
  have q:(σ.slots.set d x).getD t .junk=σ.slots.getD t .junk:=aNG
  have u:(a.tmps.setIfInBounds d v).getD t undef=a.tmps.getD t undef:=by simp[Hd,KR e]
  rw[q,u];exact(h.slot t j).mono m z
def Ag.vH (π:List (Nat×Bool)):Ag→Ag
 | .d x=>.d x
 | .ptr k off=>match π.idxOf? (k,true)with |some j=>.ptr j off|none=>.junk
 | .aO k=>match π.idxOf? (k,true)with |some j=>.aO j|none=>.junk
 | .mG k i off=>match π.idxOf? (k,true)with |some j=>.mG j i off|none=>.junk
 | .mp k=>match π.idxOf? (k,true)with |some j=>.mp j|none=>.junk
 | .xK k=>match π.idxOf? (k,true)with |some j=>.xK j|none=>.junk
 | .clip xs=>.clip xs
 |_=>.junk
def Ag.back (π:List (Nat×Bool)):Ag→Ag
 | .fn f first cap=>.fn f (first.map (Ag.vH π)) (cap.map (Ag.vH π))
 | .fP vs=>.fP (vs.map (Ag.vH π))
 |x=>x.vH π
def BN.back (π:List (Nat×Bool)):BN→BN
 | .dead=>.dead
 | .box cs=>.box (cs.map (Ag.vH π))
 | .arr e s es=>.arr e s es
 | .map es=>.map es
 | .gV es=>.gV es
 | .iter es vis=>.iter es vis
 | .loop tm slots rc st j=>.loop tm (slots.map (Ag.back π)) rc st j
def yH {π:List (Nat×Bool)} {H:List Bj} {k j:Nat} {h:Bj} (q:π.idxOf? (k,true)=some j) (u:H[k]? =some h):(π.map fun p=>H.getD p.1 ⟨undef,0⟩)[j]? =some h:=by
 rw[List.idxOf?,acX]at q;obtain⟨m,z, -⟩:=q;have e:π[j]=(k,true):=VN
 simp[m,e,List.getD,u]
def R.vH {ok:Nat→Prop} {w:World} {H:List Bj} (π:List (Nat×Bool)) {x:Ag} {v:Value} (h:R ok w H x v):R ok w (π.map fun p=>H.getD p.1 ⟨undef,0⟩) (x.vH π) v:=by
 cases h with
 |d x v h=>exact .d x v h
 |ptr k off b s h=>
  simp only[Ag.vH];split<;>rename_i j m
  ·exact .ptr _ off b s (yH m h)
  exact .junk _
 |aO k ad n cap s h=>
  simp only[Ag.vH];split<;>rename_i j m
  ·exact .aO _ ad n cap s (yH m h)
  exact .junk _
 |mG k i off b n cap s h=>
  simp only[Ag.vH];split<;>rename_i j m
  ·exact .mG _ i off b n cap s (yH m h)
  exact .junk _
 |mp k v s hl h=>
  simp only[Ag.vH];split<;>rename_i j m
  ·exact .mp _ v s hl (yH m h)
  exact .junk _
 |clip xs ad h=>exact .clip xs ad h
 |xK k ad n cap s h=>
  simp only[Ag.vH];split<;>rename_i j m
  ·exact .xK _ ad n cap s (yH m h)
  exact .junk _
 |fn f first cap vs us hl q h h'=>exact .junk _
 |fP xs vs hl h=>exact .junk _
 |ag xs vs hl u h=>exact .junk _
 |junk v=>exact .junk _
def V5 (f:Ag→Ag) (l:List Ag) (i:Nat) (h:i<l.length):(l.map f).getD i .junk=f (l.getD i .junk):=by
 simp[List.getD,h]
def R.back {ok:Nat→Prop} {w:World} {H:List Bj} (π:List (Nat×Bool)) {x:Ag} {v:Value} (h:R ok w H x v):R ok w (π.map fun p=>H.getD p.1 ⟨undef,0⟩) (x.back π) v:=by
 cases h with
 |fn f first cap vs us hl j h h'=>
  exact .fn f _ _ vs us Zq mD (fun i hi=>adh) (fun i hi=>by rw[Cm]at hi;rw[V5 _ _ _ hi];exact(h' i hi).vH π)
 |fP xs vs hl h=>exact .fP _ vs Zq (fun i hi=>adh)
 |ag xs vs hl m h=>exact .junk _
 |d x v h=>exact(R.d x v h).vH π
 |ptr k off b s h=>exact(R.ptr k off b s h).vH π
 |aO k ad n cap s h=>exact(R.aO k ad n cap s h).vH π
 |mG k i off b n cap s h=>exact(R.mG k i off b n cap s h).vH π
 |mp k v s hl h=>exact(R.mp k v s hl h).vH π
 |clip xs ad h=>exact(R.clip xs ad h).vH π
 |xK k ad n cap s h=>exact(R.xK k ad n cap s h).vH π
 |junk v=>exact .junk _
def BN.backOk (π:List (Nat×Bool)):BN→Bool
 | .box cs=>cs.all fun x=>(x.vH π).leaf
 |_=>true
def Ue (base:Nat) (es:List BN) (π:List (Nat×Bool)):Bool:=
 π.all (fun p=>decide (p.1<es.length))&&decide ((π.filterMap fun p=>if p.2 then some p.1 else none).Nodup)&&((π.take base).map (·.1)==List.range base)&&π.all fun p=>(es.getD p.1 .dead).backOk π
def SX (es:List BN) (π:List (Nat×Bool)):List BN:=π.map fun p=>if p.2 then(es.getD p.1 .dead).back π else .dead
def adi :∀{π:List (Nat×Bool)},(π.filterMap fun p=>if p.2 then some p.1 else none).Nodup→∀(i j k:Nat),π[i]? =some (k,true)→π[j]? =some (k,true)→i=j
 | [],_,i,j,k,h,_=>IU
 |p::π,m,i,j,k,hi,u=>by
  have q:∀(n:Nat),π[n]? =some (k,true)→k∈π.filterMap fun p=>if p.2 then some p.1 else none:=fun n h=>by
   rw[TK];exact⟨_,XE h,rfl⟩
  have z:(π.filterMap fun p=>if p.2 then some p.1 else none).Nodup:=by
   rw[QD]at m;split at m
   ·exact m
   exact(MJ.1 m).2
  match i,j with
  |0,0=>rfl
  |0,j+1=>
   simp at hi u;subst hi;simp only[QD,Jv]at m;exact absurd (q j u) (MJ.1 m).1
  |i+1,0=>
   simp at hi u;subst u;simp only[QD,Jv]at m;exact absurd (q i hi) (MJ.1 m).1
  |i+1,j+1=>rw[adi z i j k GR MS]
def Ez.back {ok:Nat→Prop} {w:World} {H:List Bj} {h:Bj} {e:BN} (π:List (Nat×Bool)) (M:e.backOk π=true) (j:Ez ok w H h e):Ez ok w (π.map fun p=>H.getD p.1 ⟨undef,0⟩) h (e.back π):=by
 cases e with
 |dead=>trivial
 |box cs=>
  obtain⟨b,vs,T,m,q,u,z⟩:=j;refine⟨b,vs,T,m,q,MS,fun i hi=>?_⟩;rw[Cm]at hi;rw[V5 _ _ _ hi];refine⟨?_,(z i hi).2.vH π⟩;simp only[BN.backOk,Ea]at M;exact M _ ND
 |arr e s es=>
  obtain⟨m,q,xs,u,z,O⟩:=j;refine⟨m,q,xs,u,z,fun i hi=>⟨(O i hi).1,?_⟩⟩;have I:=(O i hi).2;have J:(flat es).getD i .junk∈flat es:=ND
  unfold flat at J ⊢;simp only[TD,FH]at J;obtain⟨x,_,y,_,U⟩:=J;unfold flat at I;rw[←U]at I ⊢;cases I with |d _ _ h=>exact .d _ _ h
 |map es=>exact j
 |gV es=>exact j
 |iter es vis=>exact j
 |loop tm slots rc st Y=>
  obtain⟨l,fn,D,m,q,u,z⟩:=j;refine⟨l,fn,D,m,q,MS,fun t L=>?_⟩;rw[Cm]at L;rw[V5 _ _ _ L];exact(z t L).back π
def aTc {π:List (Nat×Bool)} {e:BN}:(e.back π).live=e.live:=by cases e<;>rfl
def DF.norm {C:EW} {ok:Nat→Prop} {H:List Bj} {es:List BN} {w:World} (M:DF C ok H es w) (π:List (Nat×Bool)) (Y:Ue C.H0.length es π=true):
 DF C ok (π.map fun p=>H.getD p.1 ⟨undef,0⟩) (SX es π) w:=by
 unfold Ue at Y;simp only[DT,Gi,Qo,Ea]at Y;obtain⟨⟨⟨hlt,hnd⟩,hpre⟩,hbk⟩:=Y
 have u:∀(j:Nat) (h:Bj),(π.map fun p=>H.getD p.1 ⟨undef,0⟩)[j]? =some h→∃p,π[j]? =some p∧p.1<es.length∧H[p.1]? =some h:=by
  intro j h m;rw[JO]at m;cases q:π[j]? with
  |none=>rw[q]at m;simp at m
  |some p=>
   rw[q]at m;have z:p.1<es.length:=hlt p (XE q);refine⟨p,rfl,z,?_⟩;have hkH:p.1<H.length:=by rw[M.hlen];exact z
   simp[List.getD,hkH]at m ⊢;exact m
 have I:∀(j:Nat) (p:Nat×Bool) (e:BN),(SX es π)[j]? =some e→π[j]? =some p→p.1<es.length→(p.2=false∧e=.dead)∨(p.2=true∧∃O,es[p.1]? =some O∧e=O.back π∧p∈π):=by
  intro j p e m q z;unfold SX at m;rw[JO,q]at m;cases hb:p.2 with
  |false=>simp[hb]at m;exact .inl ⟨rfl,m.symm⟩
  |true=>
   simp[hb,List.getD,z]at m;exact .inr ⟨rfl,es[p.1],by simp[z],m.symm,XE q⟩
 refine⟨M.fr,M.yZ,M.y8,M.kW,?_,by simp[SX],?_,?_,?_⟩
 ·intro k v hv;have z:k<C.H0.length:=(G5.1 hv).1;have h1:((π.take C.H0.length).map (·.1))[k]? =some k:=by rw[hpre];simp[z]
  rw[JO,Nv z]at h1;have h2:=M.names k v hv;cases q:π[k]? with
  |none=>rw[q]at h1;simp at h1
  |some p=>
   rw[q]at h1;have hpk:p.1=k:=by simpa using h1
   rw[JO,q];simp[List.getD,hpk,h2]
 ·intro j e h m hh;obtain⟨p,q,z,hH⟩:=u j h hh;rcases I j p e m q z with⟨_,rfl⟩|⟨_,O,J,rfl,L⟩
  ·trivial
  refine(M.ent p.1 O h J hH).back π ?_;have :=hbk p L;simpa[List.getD,J]using this
 ·intro j e h b m hl hh hb;obtain⟨p,q,z,hH⟩:=u j h hh;rcases I j p e m q z with⟨_,rfl⟩|⟨_,O,J,rfl,L⟩
  ·cases hl
  rw[aTc]at hl;exact M.blk p.1 O h b J hl hH hb
 intro j j' e e' h h' b m hj' hl Z hh hh' hb hb';obtain⟨p,q,z,hH⟩:=u j h hh;obtain⟨p',hp',hk',hH'⟩:=u j' h' hh';rcases I j p e m q z with⟨_,rfl⟩|⟨hpt,O,J,rfl,L⟩
 ·cases hl
 rcases I j' p' e' hj' hp' hk' with⟨_,rfl⟩|⟨U,e0',aGp,rfl,hmem'⟩
 ·cases Z
 rw[aTc]at hl Z;have hkk:=M.Fj p.1 p'.1 O e0' h h' b J aGp hl Z hH hH' hb hb';obtain⟨k,bb⟩:=p;obtain⟨k',bb'⟩:=p';simp only at hkk hpt U;subst hkk;subst hpt;subst U;exact adi hnd j j' k q hp'
def Lu (π:List (Nat×Bool)):List Bool→List Ag→List Ag
 |_,[]=>[]
 |true::m,x::xs=>x.back π::Lu π m xs
 |false::m,_::xs=>.junk::Lu π m xs
 | [],_::xs=>.junk::Lu π [] xs
def Res (π:List (Nat×Bool)):∀(m:List Bool) (l:List Ag),(Lu π m l).length=l.length
 |_,[]=>by unfold Lu;rfl
 |true::m,x::xs=>by simp[Lu,Res π m xs]
 |false::m,x::xs=>by simp[Lu,Res π m xs]
 | [],x::xs=>by simp[Lu,Res π [] xs]
def aCL (π:List (Nat×Bool)):∀(m:List Bool) (l:List Ag) (t:Nat),(Lu π m l).getD t .junk=(l.getD t .junk).back π∨(Lu π m l).getD t .junk=.junk
 |_,[],t=>by unfold Lu;right;simp
 |true::m,x::xs,0=>by left;simp[Lu]
 |false::m,x::xs,0=>by right;simp[Lu]
 | [],x::xs,0=>by right;simp[Lu]
 |true::m,x::xs,t+1=>by simpa[Lu]using aCL π m xs t
 |false::m,x::xs,t+1=>by simpa[Lu]using aCL π m xs t
 | [],x::xs,t+1=>by simpa[Lu]using aCL π [] xs t
def aAZ (σ S:BI):Prop:=∃(m:List Bool) (π:List (Nat×Bool)),Ue σ.base σ.ents π=true∧S=⟨Lu π m σ.slots,SX σ.ents π,σ.base⟩
def Holds.aGq {C:EW} {ok:Nat→Prop} {H:List Bj} {σ S:BI} {a:Act} {w:World} (h:Holds C ok H σ a w) (hs:aAZ σ S):∃H',Holds C ok H' S a w:=by
 obtain⟨m,π,j,rfl⟩:=hs;refine⟨π.map fun p=>H.getD p.1 ⟨undef,0⟩,h.mem.norm π (h.base▸j),by simp[Res,h.size],h.defers,h.base,fun t q=>?_⟩;rcases aCL π m σ.slots t with e|e
 ·simp only[e];exact(h.get (.tmp t)).back π
 simp only[e];exact .junk _
def Bz (σ S:BI):Prop:=∀(C:EW) (ok:Nat→Prop) (H:List Bj) (a:Act) (w:World),Holds C ok H σ a w→∃ok' H',Holds C ok' H' S a w
def aAZ.sub {σ S:BI} (h:aAZ σ S):Bz σ S:=fun _ ok _ _ _ j=>let⟨H',h'⟩:=j.aGq h;⟨ok,H',h'⟩
def arC {σ S:BI} (j:BI) (h:∀C ok H a w,Holds C ok H σ a w→∃ok',Holds C ok' H j a w) (k:Bz j S):Bz σ S:=fun C _ H a w m=>let⟨ok',h'⟩:=h C _ H a w m;k C ok' H a w h'
section
variable {P : Program} {ops : Array Oper} {Q : Exit → Act → World → Prop}
def toCome (j:Array Bool):Nat:=(j.toList.filter (!·)).length
def toCome_set {j:Array Bool} {i:Nat} (hi:i<j.size) (h:j.getD i true=false):toCome (j.setIfInBounds i true)+1=toCome j:=by
 unfold toCome;have hl:j.toList[i]' GR=false:=by simpa[Array.getD,hi]using h
 have e:j.toList=j.toList.take i++false::j.toList.drop (i+1):=by
  rw[←hl,List.getElem_cons_drop,aP]
 have m:(j.setIfInBounds i true).toList=j.toList.take i++true::j.toList.drop (i+1):=by
  rw[aJ6,aQ1,D9 GR]
 rw[m]
 conv=>rhs;rw[e]
 simp[Q7];omega
def written (ops:Array Oper):List Tmp:=ops.toList.filterMap (·.dst)
def XM (ops:Array Oper):Bool:=(List.range ops.size).all fun i=>(List.range ops.size).all fun j=>i==j||match(ops[i]?).bind (·.dst),(ops[j]?).bind (·.dst)with
 |some d,some m=>d != m
 |_,_=>true
def VE (ops:Array Oper) (n:Nat):Bool:=(written ops).all fun d=>decide (d<n)
def aMd (h:XM ops=true):∀(i j:Nat) (o m:Oper) (d:Tmp),ops[i]? =some o→ops[j]? =some m→o.dst=some d→m.dst=some d→i=j:=by
 intro i j o m d q u z I;unfold XM at h;rw[Ea]at h;have hi:i<ops.size:=(GZ.1 q).1;have J:j<ops.size:=(GZ.1 u).1;have :=h i GR;rw[Ea]at this;have :=this j UZ;rw[q,u]at this;simp[z,I]at this;exact this
def aLT {i:Nat} {o:Oper} {d:Tmp} (h:ops[i]? =some o) (hd:o.dst=some d):d∈written ops:=by
 unfold written;rw[TK]
 exact⟨o,by
  have⟨hi,j⟩:=GZ.1 h
  rw[←j];exact Array.getElem_mem_toList hi,hd⟩
def aMS {a:Act} {d:Tmp} {v:Value} (h:d<a.tmps.size):(a.put (some d) v).tmps.getD d undef=v:=by
 simp[Act.put,Array.getD,h]
def aLL {a:Act} {d t:Tmp} {v:Value} (h:d≠t):(a.put (some d) v).tmps.getD t undef=a.tmps.getD t undef:=by
 simp[Act.put,Hd,KR h]
def size_put {a:Act} {d:Option Tmp} {v:Value}:(a.put d v).tmps.size=a.tmps.size:=by cases d<;>simp[Act.put]
def al0 {a:Act} {d:Option Tmp} {v:Value}:(a.put d v).defers=a.defers:=by cases d<;>rfl
end
def Vs (ops:Array Oper) (σ:BI) (g:Option (Nat×Bool)):Prop:=g=none∨
 ∃j m d b,g=some (j,m)∧(ops[j]?).bind (·.dst)=some d∧σ.slots.getD d .junk=.d (.lit (.bool b))∧b=m
def XQ (ops:Array Oper) (σ:BI) (g:Option (Nat×Bool)):Prop:=
 ∃j m d v,g=some (j,m)∧(ops[j]?).bind (·.dst)=some d∧σ.slots.getD d .junk=.d (.lit v)∧(v=.bool (!m)∨v=undef)
def ars {ops:Array Oper} {σ:BI} {g:Option (Nat×Bool)} (j:Nat) (m:Bool) (d:Nat) (b:Bool) (q:g=some (j,m)) (hd:(ops[j]?).bind (·.dst)=some d) (hs:σ.slots.getD d .junk=.d (.lit (.bool b))) (u:b= !m):XQ ops σ g:=⟨j,m,d,_,q,hd,hs,.inl (by rw[u])⟩
def arG {ops:Array Oper} {σ:BI} {g:Option (Nat×Bool)} (j:Nat) (m:Bool) (d:Nat) (q:g=some (j,m)) (hd:(ops[j]?).bind (·.dst)=some d) (hs:σ.slots.getD d .junk=.d (.lit undef)):XQ ops σ g:=⟨j,m,d,_,q,hd,hs,.inr rfl⟩
def R.bool {ok:Nat→Prop} {w:World} {H:List Bj} {u v:Value} (h:R ok w H (.d (.lit u)) v):v=u:=by
 cases h with |d _ _ h=>cases h;rfl
def afW {C:EW} {ok:Nat→Prop} {H:List Bj} {σ:BI} {a:Act} {w:World} (h:Holds C ok H σ a w) {ops:Array Oper} {j d:Nat} {v:Value}
 (u:(ops[j]?).bind (·.dst)=some d) (m:σ.slots.getD d .junk=.d (.lit v)):yielded ops a.tmps j=(match v with | .bool b=>some b|_=>none):=by
 have hd:d<σ.slots.length:=by
  apply XG;intro z;rw[jO z]at m;cases m
 have q:=(m▸h.slot d hd).bool
 have hs:a.tmps[d]? =some v:=by
  have :d<a.tmps.size:=by rw[h.size];exact hd
  simp[Array.getD,this]at q;simp[this,q]
 unfold yielded;rw[u];simp only[Aa,hs];cases v<;>rfl
def aoM {C:EW} {ok:Nat→Prop} {H:List Bj} {σ:BI} {a:Act} {w:World} (h:Holds C ok H σ a w) {ops:Array Oper} {j d:Nat} {b:Bool}
 (u:(ops[j]?).bind (·.dst)=some d) (m:σ.slots.getD d .junk=.d (.lit (.bool b))):yielded ops a.tmps j=some b:=by
 have hd:d<σ.slots.length:=by
  apply XG;intro z;rw[jO z]at m;cases m
 have q:=(m▸h.slot d hd).bool
 have hs:a.tmps[d]? =some (.bool b):=by
  have :d<a.tmps.size:=by rw[h.size];exact hd
  simp[Array.getD,this]at q;simp[this,q]
 unfold yielded;rw[u];simp only[Aa,hs]
def PZ {C:EW} {ok:Nat→Prop} {H:List Bj} {σ:BI} {a:Act} {w:World} (h:Holds C ok H σ a w) {ops:Array Oper} {o:Oper} (m:Vs ops σ o.guard):Region.wanted o (yielded ops a.tmps)=true:=by
 unfold Region.wanted;rcases m with m|⟨j,q,d,b,m,u,z,rfl⟩
 ·rw[m]
 rw[m];show(yielded ops a.tmps j==some b)=true;rw[aoM h u z];simp
def aJv {C:EW} {ok:Nat→Prop} {H:List Bj} {σ:BI} {a:Act} {w:World} (h:Holds C ok H σ a w) {ops:Array Oper} {o:Oper} (q:XQ ops σ o.guard):Region.wanted o (yielded ops a.tmps)=false:=by
 unfold Region.wanted;obtain⟨j,m,d,v,q,u,z,I⟩:=q;rw[q];show(yielded ops a.tmps j==some m)=false;rw[afW h u z];rcases I with rfl|rfl
 ·simp
 rfl
def needs (σ:BI):List (Operand×Ag)→Prop
 | []=>True
 |n::ns=>σ.get n.1=n.2∧needs σ ns
def QA {σ:BI}:∀{ns:List (Operand×Ag)},needs σ ns→∀n∈ns,σ.get n.1=n.2
 | [],_,n,h=>IU
 |m::ns,j,n,h=>by
  rcases F8.1 h with rfl|h
  ·exact j.1
  exact QA j.2 n h
def tmpsOf (o:Oper):List Tmp:=o.op.operands.toList.filterMap fun | .tmp t=>some t|_=>none
def MX (ns:List (Operand×Ag)):List Tmp:=ns.filterMap fun n=>match n.1 with | .tmp t=>some t|_=>none
def Si (P:Program) (ops:Array Oper) (σ:BI) (x:Ag) (E:List BN) (bar:Bool) (o:Oper):Prop:=
 ((∃ns,Bl P o ns σ.ents x E∧needs σ ns∧(MX ns).all (tmpsOf o).contains=true∧Vs ops σ o.guard)∨(x=.d (.lit undef)∧E=σ.ents∧XQ ops σ o.guard))∧(bar=false→E=σ.ents)
def aSa {P:Program} {ops:Array Oper} {σ:BI} {x:Ag} {o:Oper} {ns:List (Operand×Ag)} (h:Bl P o ns σ.ents x σ.ents) (j:needs σ ns) (m:Vs ops σ o.guard) (q:(MX ns).all (tmpsOf o).contains=true):Si P ops σ x σ.ents false o:=
 ⟨.inl ⟨ns,h,j,q,m⟩,fun _=>rfl⟩
def J5 (ro:Option Nat):Fence:={ fn:=fun _=>True,depth:=none,alive:=false,round:=ro }
def aGL {ro:Option Nat} {n:Nat} {P:Program} {f:FuncId} {args:Array Value} {w:World} {R:Ending→World→Prop}:CallsIn (J5 ro) n P f args w R↔Calls P f args w R:=
 callsIn_wide (n:=n)
def agB {ro:Option Nat} {n:Nat} {P:Program} {j:String} {args:Array Value} {w:World} {R:Value→World→Prop} (h:Rows P j args w R):RowsIn (J5 ro) n P j args w R:=
 fun c cs _=>let⟨v,w',r,s⟩:=h c cs;⟨v,w',r,(stepsIn_wide (P:=P)).2 s⟩
def Bl.aCX {P:Program} {o:Oper} {ns:List (Operand×Ag)} {es es':List BN} {x:Ag} (h:Bl P o ns es x es') {C:EW} {ok:Nat→Prop} {H:List Bj} {a:Act} {w:World} (q:DF C ok H es w) (u:∀n∈ns,R ok w H n.2 (a.eval n.1)):∀c,o.op≠ .defer c:=by
 intro c z;have j:=h C ok H a w (fun _ _ _=>False) q u;unfold Oper.wp execOp at j;rw[z]at j;simp only[FV]at j;cases m:(resolve a.eval c o.type).run P w with
 |ok d w'=>
  rw[m]at j;simp only[Result.andThen]at j;obtain⟨v,_,_,I,_⟩:=j;have :=BL (fun a=>a.defers.length) I;cases J:o.dst<;>simp[Act.put,J]at this
 |halt x w'=>
  rw[m]at j;cases x<;>exact j
def Bl.inR {P:Program} {o:Oper} {ns:List (Operand×Ag)} {es es':List BN} {x:Ag} (h:Bl P o ns es x es') (ro:Option Nat) (C:EW) (ok:Nat→Prop) (H:List Bj) (a:Act) (w:World) (Q:Exit→Act→World→Prop)
 (m:DF C ok H es w) (q:∀n∈ns,R ok w H n.2 (a.eval n.1)):
 o.wpIn (J5 ro) 0 P a w (fun a' w'=>∃v ok' H',a'=a.put o.dst v∧Eb ok w ok' w'∧Names H H'∧DF C ok' H' es' w'∧R ok' w' H' x v) Q:=by
 have j:=h C ok H a w Q m q;refine⟨fun _ _=>trivial,?_⟩;rw[eP _ _ _ (h.aCX m q)];unfold Oper.wp at j;generalize(execOp a.eval o).run P w=r at j;cases r with
 |ok n w'=>
  cases n<;>first
   |exact j
   |exact j.elim
   |exact⟨fun h=>Gh,aGL.2 j⟩
   |exact⟨fun h=>Gh,agB j⟩
 |halt x w'=>cases x<;>exact j
inductive Chain (P:Program) (ops:Array Oper):List Oper→BI→BI→Prop
 |nil (σ:BI):Chain P ops [] σ σ
 |op {o:Oper} {rest:List Oper} {σ σ':BI} {ns:List (Operand×Ag)} {x:Ag} (d:Option Tmp) (h:Bl P o ns σ.ents x σ.ents) (hn:needs σ ns) (hg:Vs ops σ o.guard) (hd:o.dst=d)
  (k:Chain P ops rest (σ.sF d x) σ'):Chain P ops (o::rest) σ σ'
 |oe {o:Oper} {rest:List Oper} {σ σ':BI} {ns:List (Operand×Ag)} {x:Ag} {es':List BN} (d:Option Tmp) (E:List BN) (h:Bl P o ns σ.ents x es') (he:es'=E) (hn:needs σ ns) (hg:Vs ops σ o.guard) (hd:o.dst=d)
  (k:Chain P ops rest (σ.put d x E) σ'):Chain P ops (o::rest) σ σ'
 |skip {o:Oper} {rest:List Oper} {σ σ':BI} (d:Option Tmp) (hg:XQ ops σ o.guard) (hd:o.dst=d) (k:Chain P ops rest (σ.sF d (.d (.lit undef))) σ'):Chain P ops (o::rest) σ σ'
 |any {o:Oper} {rest:List Oper} {σ σ':BI} {x:Ag} (d:Option Tmp) (h:Si P ops σ x σ.ents false o) (hd:o.dst=d) (k:Chain P ops rest (σ.sF d x) σ'):Chain P ops (o::rest) σ σ'
 |afx {o:Oper} {rest:List Oper} {σ σ':BI} {x:Ag} {E:List BN} {bar:Bool} (d:Option Tmp) (h:Si P ops σ x E bar o) (hd:o.dst=d) (k:Chain P ops rest (σ.put d x E) σ'):Chain P ops (o::rest) σ σ'
 |conv {rest:List Oper} {σ σ':BI} (σ2:BI) (h:∀C ok H a w,Holds C ok H σ a w→∃ok',Holds C ok' H σ2 a w) (k:Chain P ops rest σ2 σ'):Chain P ops rest σ σ'
def Chain.sound {P:Program} {ops:Array Oper} {l:List Oper} {σ σ':BI} (h:Chain P ops l σ σ') {ro:Option Nat} {C:EW} {H0:List Bj} {Q:Exit→Act→World→Prop}:
 ∀{ok:Nat→Prop} {H:List Bj} {a:Act} {w:World},Holds C ok H σ a w→Names H0 H→(∀ok' H' a' w',Holds C ok' H' σ' a' w'→Names H0 H'→Q .normal a' w')→wpListIn (J5 ro) 0 P ops Q l a w:=by
 induction h with
 |nil σ=>intro ok H a w j M u;exact u ok H a w j M
 | @op o rest σ σ' ns x d O M J hd k L=>
   intro ok H a w j m u;subst hd;unfold wpListIn;rw[D9 (PZ j J)];refine Qs ?_ (O.inR ro C ok H a w Q j.mem (fun n z=>QA M n z▸j.get n.1));rintro a' w' ⟨v,ok',H',rfl,I,q,U,Y⟩;exact L (j.put o.dst I q U Y) (m.trans q) u
 | @oe o rest σ σ' ns x es' d E O he M J hd k L=>
   intro ok H a w j m u;subst hd;subst he;unfold wpListIn;rw[D9 (PZ j J)];refine Qs ?_ (O.inR ro C ok H a w Q j.mem (fun n z=>QA M n z▸j.get n.1));rintro a' w' ⟨v,ok',H',rfl,I,q,U,Y⟩;exact L (j.put o.dst I q U Y) (m.trans q) u
 | @skip o rest σ σ' d J hd k L=>
   intro ok H a w j m u;subst hd;unfold wpListIn;rw[DL jE];exact⟨fun _ _=>trivial,L (j.put o.dst (.refl _ _) (.refl _) j.mem (.d _ _ (.lit _))) m u⟩
 | @any o rest σ σ' x d hs hd k L=>
   intro ok H a w j m u;subst hd;unfold wpListIn;rcases hs.1 with⟨ns,O,M,_,J⟩|⟨rfl,_,J⟩
   ·rw[D9 (PZ j J)];refine Qs ?_ (O.inR ro C ok H a w Q j.mem (fun n z=>QA M n z▸j.get n.1));rintro a' w' ⟨v,ok',H',rfl,I,q,U,Y⟩;exact L (j.put o.dst I q U Y) (m.trans q) u
   rw[DL jE];exact⟨fun _ _=>trivial,L (j.put o.dst (.refl _ _) (.refl _) j.mem (.d _ _ (.lit _))) m u⟩
 | @afx o rest σ σ' x E bar d hs hd k L=>
   intro ok H a w j m u;subst hd;unfold wpListIn;rcases hs.1 with⟨ns,O,M,_,J⟩|⟨rfl,rfl,J⟩
   ·rw[D9 (PZ j J)];refine Qs ?_ (O.inR ro C ok H a w Q j.mem (fun n z=>QA M n z▸j.get n.1));rintro a' w' ⟨v,ok',H',rfl,I,q,U,Y⟩;exact L (j.put o.dst I q U Y) (m.trans q) u
   rw[DL jE];exact⟨fun _ _=>trivial,L (j.put o.dst (.refl _ _) (.refl _) j.mem (.d _ _ (.lit _))) m u⟩
 |conv σ2 hc k L=>
  intro ok H a w j m u;obtain⟨ok',Z⟩:=hc C ok H a w j;exact L Z m u
def Pm :Code→Bool
 | .seq a b=>Pm a&&Pm b
 | .cond _ a b=>Pm a&&Pm b
 | .block _ a=>Pm a
 | .loop a=>Pm a
 | .scope a=>Pm a
 | .rangeFunc .. =>false
 |_=>true
def uw (ro:Option Nat) (c:Code):Prop:=ro=none∨Pm c=true
def uw.two {ro:Option Nat} {c x y:Code} (h:uw ro c) (e:Pm c=(Pm x&&Pm y)):uw ro x∧uw ro y:=by
 rcases h with h|h
 ·exact⟨.inl h,.inl h⟩
 rw[e,DT]at h;exact⟨.inr h.1,.inr h.2⟩
def ahk (P:Program) (c:Code) (σ:BI) (Q:Exit→BI→Prop):Prop:=
 ∀(ro:Option Nat),uw ro c→∀(C:EW) (ok:Nat→Prop) (H:List Bj) (a:Act) (w:World),Holds C ok H σ a w→c.wpIn (J5 ro) 0 P (fun e a' w'=>∃ok' H' σ',Holds C ok' H' σ' a' w'∧Q e σ') a w
structure AO (P:Program) (c:Code) (σ:BI) (Q:Exit→BI→Prop):Prop where
 run:ahk P c σ Q
section
variable {P : Program} {σ σ' : BI} {Q : Exit → BI → Prop}
def AO.mono {c:Code} {Q':Exit→BI→Prop} (h:AO P c σ Q) (j:∀e σ,Q e σ→Q' e σ):AO P c σ Q':=
 ⟨fun ro m C ok H a w q=>UW (h.run ro m C ok H a w q) fun _ _ _ ⟨ok',H',σ',u,z⟩=>⟨ok',H',σ',u,j _ _ z⟩⟩
def AO.region {id:Nat} {ops:Array Oper} (h:Chain P ops ops.toList σ σ') (j:Q .normal σ'):AO P (.region id ops false) σ Q:=⟨fun ro _ C ok H a w m=>
 aL8 (h.sound m (.refl H) fun ok' H' a' w' q _=>⟨ok',H',σ',q,j⟩)⟩
def AO.skip (h:Q .normal σ):AO P .skip σ Q:=⟨fun _ _ _ ok H a w j=>wpIn_skip ⟨ok,H,σ,j,h⟩⟩
def AO.label {l:Nat} (h:Q .normal σ):AO P (.label l) σ Q:=⟨fun _ _ _ ok H a w j=>wpIn_label ⟨ok,H,σ,j,h⟩⟩
def AO.exit {i:Nat} (h:Q (.exit i) σ):AO P (.exit i) σ Q:=⟨fun _ _ _ ok H a w j=>wpIn_exit ⟨ok,H,σ,j,h⟩⟩
def AO.ret (h:Q .ret σ):AO P .ret σ Q:=⟨fun _ _ _ ok H a w j=>wpIn_ret ⟨ok,H,σ,j,h⟩⟩
def Lc (K:BI→Prop) (Q:Exit→BI→Prop):Exit→BI→Prop
 | .normal,σ=>K σ
 |e,σ=>Q e σ
def AO.seq {x y:Code} (K:BI→Prop) (u:AO P x σ (Lc K Q)) (z:∀σ',K σ'→AO P y σ' Q):AO P (.seq x y) σ Q:=⟨fun ro j C ok H a w I=>
 wpIn_seq (UW (u.run ro (j.two rfl).1 C ok H a w I) (by
  rintro e a' w' ⟨ok',H',σ',m,q⟩;cases e with
  |normal=>exact(z σ' q).run ro (j.two rfl).2 C ok' H' a' w' m
  |_=>exact⟨ok',H',σ',m,q⟩))⟩
def AO.seq1 {x y:Code} (j:BI) (m:AO P x σ (Lc (fun σ'=>σ'=j) Q)) (q:AO P y j Q):AO P (.seq x y) σ Q:=AO.seq _ m (fun _ e=>e▸q)
def AO.cond {c:Operand} {x y:Code} (b:Bool) (q:σ.get c=.d (.lit (.bool b))) (u:b=true→AO P x σ Q) (z:b=false→AO P y σ Q):AO P (.cond c x y) σ Q:=by
 refine⟨fun ro m C ok H a w j=>?_⟩;have e:=(q▸j.get c).bool;exact wpIn_cond_split e (fun h=>(u h).run ro (m.two rfl).1 C ok H a w j) (fun h=>(z h).run ro (m.two rfl).2 C ok H a w j)
def aUs (i:Nat) (Q:Exit→BI→Prop):Exit→BI→Prop
 | .exit j,σ=>if j=i then Q .normal σ else Q (.exit j) σ
 |e,σ=>Q e σ
def AO.block {i:Nat} {c:Code} (h:AO P c σ (aUs i Q)):AO P (.block i c) σ Q:=⟨fun ro z C ok H a w I=>
 wpIn_block (UW (h.run ro z C ok H a w I) (by
  rintro e a' w' ⟨ok',H',σ',q,m⟩;cases e with
  |exit j=>
   show if j=i then _ else _
   simp only[aUs]at m;split<;>rename_i u
   ·rw[D9 u]at m;exact⟨ok',H',σ',q,m⟩
   rw[DL u]at m;exact⟨ok',H',σ',q,m⟩
  |_=>exact⟨ok',H',σ',q,m⟩))⟩
def ami {ro:Option Nat} {P:Program} {Q:Exit→Act→World→Prop} {c:Code} (I:Nat→Act→World→Prop)
 (round:∀n a w,I n a w→c.wpIn (J5 ro) 0 P (Exit.then (fun a' w'=>∃m,m<n∧I m a' w') Q) a w):∀n a w,I n a w→(Code.loop c).wpIn (J5 ro) 0 P Q a w:=by
 intro n a w Z b k cs J L M
 have key:∀n a w,I n a w→∃e a' w',Q e a' w'∧ArrivesIn (Machine.fenced P (J5 ro)) P (lone (b.atR a (.code c::.inLoop c::k)) cs w) b k cs e a' w':=by
  intro n
  induction n using Nat.strongRecOn with
  |_ n ih=>
   intro a w hI;obtain⟨e,u,z,j,harr⟩:=round n a w hI b (.inLoop c::k) cs J L M;cases e with
   |normal=>
    obtain⟨m,O,U⟩:=j;obtain⟨e₂,a₂,w₂,Y,q⟩:=ih m O u z U;exact⟨e₂,a₂,w₂,Y,.of_steps (StepsIn.trans harr (.one (fenced_calm L M rfl) stepR_inLoop)) q⟩
   |exit id=>exact⟨_,u,z,j,.pass (x:=.inLoop c) rfl (fun _ _=>.inl BP) harr⟩
   |goto l=>exact⟨_,u,z,j,.pass (x:=.inLoop c) rfl (fun _ _=>.inl BP) harr⟩
   |ret=>exact⟨_,u,z,j,.pass (x:=.inLoop c) rfl (fun _ _=>.inl BP) harr⟩
   |panic ch=>exact⟨_,u,z,j,.pass (x:=.inLoop c) rfl (fun _ _=>.inl BP) harr⟩
   |outgrown=>exact⟨_,u,z,j,.pass (x:=.inLoop c) rfl (fun _ _=>.inl BP) harr⟩
 obtain⟨e,a',w',j,harr⟩:=key n a w Z;exact⟨e,a',w',j,.of_steps (.one (fenced_calm L M rfl) stepR_loop) harr⟩
def AO.loop {c:Code} (I:Nat→BI→Prop) (n:Nat) (h:I n σ) (round:∀n σ,I n σ→AO P c σ (Lc (fun σ'=>∃m,m<n∧I m σ') Q)):AO P (.loop c) σ Q:=by
 refine⟨fun ro J C ok H a w j=>?_⟩;refine ami (fun n a w=>∃ok H σ,Holds C ok H σ a w∧I n σ) ?_ n a w ⟨ok,H,σ,j,h⟩;rintro n a w ⟨ok,H,σ,j,L⟩;refine UW ((round n σ L).run ro J C ok H a w j) ?_;rintro e a' w' ⟨ok',H',σ',u,z⟩;cases e with
 |normal=>obtain⟨m,M,q⟩:=z;exact⟨m,M,ok',H',σ',u,q⟩
 |_=>exact⟨ok',H',σ',u,z⟩
end
def CZ {P:Program} {σ S:BI} {Q:Exit→BI→Prop} {c:Code} (hs:Bz σ S) (h:AO P c S Q):AO P c σ Q:=⟨fun ro j C ok H a w m=>by
 obtain⟨ok',H',h'⟩:=hs C ok H a w m
 exact h.run ro j C ok' H' a w h'⟩
section
variable {P : Program} {ops : Array Oper} {Q : Exit → Act → World → Prop}
def aI1 {F:Fence} {n:Nat} (I:Array Bool→Act→World→Prop) (j:∀l a w,I l a w→l.size=ops.size)
 (u:∀l a w,I l a w→∀i,i∈Region.ready .any ops l→wpOpIn F n P ops Q i (fun a' w'=>I (l.setIfInBounds i true) a' w') a w)
 (q:∀l a w,I l a w→Region.ready .any ops l=[]→Q .normal a w):
 ∀(Aj:Nat) l a w,toCome l≤Aj→I l a w→wpAnyIn F n P .any ops Q Aj l a w:=by
 intro Aj
 induction Aj with
 |zero=>
  intro l a w M J
  have O:Region.ready .any ops l=[]:=by
   unfold Region.ready;rw[kH];intro i hi;have z:i<l.size:=by rw[j l a w J];simpa using hi
   have U:l.toList.filter (!·)=[]:=H9 (by unfold toCome at M;omega);rw[kH]at U;have :=U (l[i]) BP;have L:l[i]=true:=aLZ
   simp[Array.getD,z,L]
  exact⟨O,q l a w J O⟩
 |succ Aj Y=>
  intro l a w M J;refine⟨q l a w J,fun i hi=>?_⟩;have m:=hi;unfold Region.ready at m;rw[FM]at m;have z:i<l.size:=by rw[j l a w J];simpa using m.1
  have Z:l.getD i true=false:=by
   have :=m.2;simp only[DT,Rn]at this;exact this.1
  have hs:=toCome_set z Z;exact wpOpIn_mono (fun a' w' h=>Y _ a' w' AB h) (u l a w J i hi)
end
def Gn (o:Oper) (j:Nat):Bool:=o.after.toList.any fun e=>decide (e.on=j)&&Region.binds .any e
def WG (ops:Array Oper):Bool:=(List.range ops.size).all fun i=>match ops[i]? with
 |some o=>((List.range ops.size).all fun j=>match(ops[j]?).bind (·.dst)with
  |some d=> !(tmpsOf o).contains d||Gn o j||(match ops[j]? with |some m=>Gn m i|none=>false)
  |none=>true)&&(match o.guard with |some (j,_)=>Gn o j|none=>true)
 |none=>true
inductive FB (P:Program) (ops:Array Oper):List Oper→BI→List Ag→List (List BN)→List Bool→BI→Prop
 |nil (σ:BI):FB P ops [] σ [] [] [] σ
 |op {o:Oper} {rest:List Oper} {σ σ':BI} {ns:List (Operand×Ag)} {x:Ag} {rs:List Ag} {ess:List (List BN)} {bs:List Bool} (d:Option Tmp) (h:Bl P o ns σ.ents x σ.ents) (hn:needs σ ns)
  (hg:Vs ops σ o.guard) (hd:o.dst=d) (ht:(MX ns).all (tmpsOf o).contains=true) (k:FB P ops rest (σ.sF d x) rs ess bs σ'):FB P ops (o::rest) σ (x::rs) (σ.ents::ess) (false::bs) σ'
 |oe {o:Oper} {rest:List Oper} {σ σ':BI} {ns:List (Operand×Ag)} {x:Ag} {es':List BN} {rs:List Ag} {ess:List (List BN)} {bs:List Bool} (d:Option Tmp) (E:List BN) (h:Bl P o ns σ.ents x es') (he:es'=E) (hn:needs σ ns)
  (hg:Vs ops σ o.guard) (hd:o.dst=d) (ht:(MX ns).all (tmpsOf o).contains=true) (k:FB P ops rest (σ.put d x E) rs ess bs σ'):FB P ops (o::rest) σ (x::rs) (E::ess) (true::bs) σ'
 |any {o:Oper} {rest:List Oper} {σ σ':BI} {x:Ag} {rs:List Ag} {ess:List (List BN)} {bs:List Bool} (d:Option Tmp) (h:Si P ops σ x σ.ents false o) (hd:o.dst=d) (k:FB P ops rest (σ.sF d x) rs ess bs σ'):FB P ops (o::rest) σ (x::rs) (σ.ents::ess) (false::bs) σ'
 |afx {o:Oper} {rest:List Oper} {σ σ':BI} {x:Ag} {E:List BN} {bar:Bool} {rs:List Ag} {ess:List (List BN)} {bs:List Bool} (d:Option Tmp) (h:Si P ops σ x E bar o) (hd:o.dst=d) (k:FB P ops rest (σ.put d x E) rs ess bs σ'):FB P ops (o::rest) σ (x::rs) (E::ess) (bar::bs) σ'
 |skip {o:Oper} {rest:List Oper} {σ σ':BI} {rs:List Ag} {ess:List (List BN)} {bs:List Bool} (d:Option Tmp) (hg:XQ ops σ o.guard) (hd:o.dst=d) (k:FB P ops rest (σ.sF d (.d (.lit undef))) rs ess bs σ'):FB P ops (o::rest) σ (.d (.lit undef)::rs) (σ.ents::ess) (false::bs) σ'
section
variable {P : Program} {ops : Array Oper} {es : List BN}
def Ep (ops:Array Oper) (σ0:BI) (r:Nat→Ag) (ev:Nat→List BN):Nat→BI
 |0=>σ0
 |i+1=>match ops[i]? with
  |some o=>(Ep ops σ0 r ev i).put o.dst (r i) (ev i)
  |none=>Ep ops σ0 r ev i
def FB.facts {l:List Oper} {σ σ':BI} {rs:List Ag} {ess:List (List BN)} {bs:List Bool} (h:FB P ops l σ rs ess bs σ') (σ0:BI) (r:Nat→Ag) (ev:Nat→List BN) (bar:Nat→Bool):∀i,(∀k:Nat,l[k]? =ops[i+k]?)→i+l.length=ops.size→σ=Ep ops σ0 r ev i→
 (∀(k:Nat) y,rs[k]? =some y→r (i+k)=y)→(∀(k:Nat) y,ess[k]? =some y→ev (i+k)=y)→(∀(k:Nat) y,bs[k]? =some y→bar (i+k)=y)→
 (∀j (o:Oper),i≤j→ops[j]? =some o→Si P ops (Ep ops σ0 r ev j) (r j) (ev j) (bar j) o)∧σ'=Ep ops σ0 r ev ops.size:=by
 induction h with
 |nil σ=>
  intro i hl I z J _ _;have :i=ops.size:=Qr
  subst this;refine⟨fun j o U ho=>?_,z⟩;have :=(GZ.1 ho).1;omega
 | @op o rest σ σ' ns x rs ess bs d ho hn hg hd ht k Z=>
   intro i hl I z J L Y;subst hd;have M:ops[i]? =some o:=qc
   have O:r i=x:=aHT
   have q:ev i=σ.ents:=aOD
   obtain⟨h1,h2⟩:=Z (i+1) (fun k=>oD) Tc (by
    rw[BI.Y2];simp only[Ep,M,O,q];rw[←z]) (fun k y u=>vC)
    (fun k y u=>UR) (fun k y u=>xH)
   refine⟨fun j o' U m=>?_,h2⟩;by_cases e:i=j
   ·subst e;rw[M]at m;obtain rfl:=D5 m;exact⟨.inl ⟨ns,by rw[O,q,←z];exact ho,z▸hn,ht,z▸hg⟩,fun _=>YF⟩
   exact h1 j o' AB m
 | @oe o rest σ σ' ns x es' rs ess bs d E ho hE hn hg hd ht k Z=>
   intro i hl I z J L Y;subst hd;subst hE;have M:ops[i]? =some o:=qc
   have O:r i=x:=aHT
   have q:ev i=es':=by simpa using L 0 es' BP
   have hbr:bar i=true:=by simpa using Y 0 true BP
   obtain⟨h1,h2⟩:=Z (i+1) (fun k=>oD) Tc (by
    simp only[Ep,M,O,q];rw[←z]) (fun k y u=>vC)
    (fun k y u=>UR) (fun k y u=>xH)
   refine⟨fun j o' U m=>?_,h2⟩;by_cases e:i=j
   ·subst e;rw[M]at m;obtain rfl:=D5 m;exact⟨.inl ⟨ns,by rw[O,q,←z];exact ho,z▸hn,ht,z▸hg⟩,fun hf=>by rw[hbr]at hf;cases hf⟩
   exact h1 j o' AB m
 | @any o rest σ σ' x rs ess bs d hs hd k Z=>
   intro i hl I z J L Y;subst hd;have M:ops[i]? =some o:=qc
   have O:r i=x:=aHT
   have q:ev i=σ.ents:=aOD
   obtain⟨h1,h2⟩:=Z (i+1) (fun k=>oD) Tc (by
    rw[BI.Y2];simp only[Ep,M,O,q];rw[←z]) (fun k y u=>vC)
    (fun k y u=>UR) (fun k y u=>xH)
   refine⟨fun j o' U m=>?_,h2⟩;by_cases e:i=j
   ·subst e;rw[M]at m;obtain rfl:=D5 m;refine⟨?_,fun _=>YF⟩;rw[O,q,←z];exact hs.1
   exact h1 j o' AB m
 | @afx o rest σ σ' x E br rs ess bs d hs hd k Z=>
   intro i hl I z J L Y;subst hd;have M:ops[i]? =some o:=qc
   have O:r i=x:=aHT
   have q:ev i=E:=by simpa using L 0 E BP
   have hbr:bar i=br:=by simpa using Y 0 br BP
   obtain⟨h1,h2⟩:=Z (i+1) (fun k=>oD) Tc (by
    simp only[Ep,M,O,q];rw[←z]) (fun k y u=>vC)
    (fun k y u=>UR) (fun k y u=>xH)
   refine⟨fun j o' U m=>?_,h2⟩;by_cases e:i=j
   ·subst e;rw[M]at m;obtain rfl:=D5 m;rw[O,q,hbr,←z];exact hs
   exact h1 j o' AB m
 | @skip o rest σ σ' rs ess bs d hg hd k Z=>
   intro i hl I z J L Y;subst hd;have M:ops[i]? =some o:=qc
   have O:r i=.d (.lit undef):=by simpa using J 0 (.d (.lit undef)) BP
   have q:ev i=σ.ents:=aOD
   obtain⟨h1,h2⟩:=Z (i+1) (fun k=>oD) Tc (by
    rw[BI.Y2];simp only[Ep,M,O,q];rw[←z]) (fun k y u=>vC)
    (fun k y u=>UR) (fun k y u=>xH)
   refine⟨fun j o' U m=>?_,h2⟩;by_cases e:i=j
   ·subst e;rw[M]at m;obtain rfl:=D5 m;exact⟨.inr ⟨O,YF,z▸hg⟩,fun _=>YF⟩
   exact h1 j o' AB m
def U5 {σ0:BI} {r:Nat→Ag} {ev:Nat→List BN} {t:Nat}:∀i,(∀j (o:Oper),j<i→ops[j]? =some o→o.dst≠some t)→(Ep ops σ0 r ev i).slots.getD t .junk=σ0.slots.getD t .junk
 |0,_=>rfl
 |i+1,h=>by
  have m:=U5 (σ0:=σ0) (r:=r) (ev:=ev) i (fun j o I q=>h j o AB q);simp only[Ep];split
  ·rename_i o q;have u:=h i o AB q;cases hd:o.dst with
   |none=>exact m
   |some d=>
    have z:d≠t:=fun e=>u (by rw[hd,e]);show((Ep ops σ0 r ev i).slots.set d (r i)).getD t .junk=_;rw[←m];simp[List.getD,Xp z]
  exact m
def Ui {σ0:BI} {r:Nat→Ag} {ev:Nat→List BN}:∀i,(Ep ops σ0 r ev i).slots.length=σ0.slots.length
 |0=>rfl
 |i+1=>by
  simp only[Ep];split
  ·rename_i o j;cases hd:o.dst with
   |none=>exact Ui i
   |some d=>show((Ep ops σ0 r ev i).slots.set d (r i)).length=_;rw[fV];exact Ui i
  exact Ui i
def aAb {σ0:BI} {r:Nat→Ag} {ev:Nat→List BN}:∀i,(Ep ops σ0 r ev i).base=σ0.base
 |0=>rfl
 |i+1=>by
  simp only[Ep];split
  ·exact aAb i
  exact aAb i
def VH {σ0:BI} {r:Nat→Ag} {ev:Nat→List BN} (m:∀(i j:Nat) (o q:Oper) (d:Tmp),ops[i]? =some o→ops[j]? =some q→o.dst=some d→q.dst=some d→i=j) {t j:Nat} {o:Oper} (u:ops[j]? =some o) (hd:o.dst=some t) (M:t<σ0.slots.length):
 ∀i,j<i→(Ep ops σ0 r ev i).slots.getD t .junk=r j
 |0,h=>AB
 |i+1,h=>by
  by_cases e:j=i
  ·subst e;simp only[Ep,u,hd];have hl:t<(Ep ops σ0 r ev j).slots.length:=by rw[Ui];exact M
   show((Ep ops σ0 r ev j).slots.set t (r j)).getD t .junk=_;simp[List.getD,hl]
  have z:=VH (r:=r) (ev:=ev) m u hd M i AB;simp only[Ep];split
  ·rename_i q I;cases J:q.dst with
   |none=>exact z
   |some d=>
    have L:d≠t:=fun e'=>e (m j i o q t u I hd (by rw[J,e']));show((Ep ops σ0 r ev i).slots.set d (r i)).getD t .junk=_;rw[←z];simp[List.getD,Xp L]
  exact z
def aKu (h:WG ops=true):∀(i:Nat) (o:Oper),ops[i]? =some o→(∀(j:Nat) (u:Oper) (d:Tmp),ops[j]? =some u→u.dst=some d→d∈tmpsOf o→Gn o j=true∨Gn u i=true)∧(∀j b,o.guard=some (j,b)→Gn o j=true):=by
 intro i o I;unfold WG at h;rw[Ea]at h;have hi:i<ops.size:=(GZ.1 I).1;have z:=h i GR;rw[I]at z;simp only[DT,Ea]at z;refine⟨fun j u d q hd J=>?_,fun j b L=>?_⟩
 ·have M:j<ops.size:=(GZ.1 q).1;have m:=z.1 j aEW;rw[q]at m;simp only[Aa,hd,Yt,Rn]at m;rcases m with(m|m)|m
  ·have :(tmpsOf o).contains d=true:=UZ
   rw[this]at m;cases m
  ·exact .inl m
  exact .inr m
 have m:=z.2;rw[L]at m;exact m
def Z7 (ops:Array Oper) (bs:List Bool):Bool:=(List.range ops.size).all fun i=> !(bs.getD i false)||
 (((List.range i).all fun j=>(List.range (i+1)).any fun m=>decide (j<m)&&(match ops[m]? with |some o=>Gn o j|none=>false))&&
  ((List.range ops.size).all fun k=> !decide (i<k)||(List.range k).any fun m=>decide (i≤m)&&(match ops[k]? with |some o=>Gn o m|none=>false)))
def VQ {bs:List Bool} (h:Z7 ops bs=true) {i:Nat} (hi:i<ops.size) (O:bs.getD i false=true) {D:Nat→Prop} (hd:∀(j:Nat) (o:Oper),ops[j]? =some o→D j→∀m,Gn o m=true→D m)
 (U:∀(o:Oper),ops[i]? =some o→∀m,Gn o m=true→D m):∀j,j<i→D j:=by
 unfold Z7 at h;rw[Ea]at h;have I:=h i GR;simp only[O,EL,NM,DT,Ea]at I
 have key:∀n j,i-j≤n→j<i→D j:=by
  intro n
  induction n with
  |zero=>intro j Y J;omega
  |succ n Z=>
   intro j Y J;have L:=I.1 j UZ;rw[IJ]at L;obtain⟨m,hm,M⟩:=L;simp only[uy]at hm;simp only[DT,Gi]at M;obtain⟨h6,q⟩:=M;have u:m<ops.size:=AB
   have z:ops[m]? =some ops[m]:=by simp[u]
   rw[z]at q;by_cases e:m=i
   ·subst e;exact U _ z j q
   exact hd m _ z (Z m AB AB) j q
 exact fun j hj=>key (i-j) j (EG _) hj
def aHN {bs:List Bool} (h:Z7 ops bs=true) {i:Nat} (hi:i<ops.size) (Z:bs.getD i false=true) {D:Nat→Prop} (hd:∀(j:Nat) (o:Oper),ops[j]? =some o→D j→∀m,Gn o m=true→D m):
 ∀k,i<k→∀(o:Oper),ops[k]? =some o→(∀m,Gn o m=true→D m)→D i:=by
 unfold Z7 at h;rw[Ea]at h;have L:=h i GR;simp only[Z,EL,NM,DT,Ea]at L;intro k
 induction k using Nat.strongRecOn with
 |_ k ih=>
  intro I o M q;have hk:k<ops.size:=(GZ.1 M).1;have O:=L.2 k aSW;simp only[I,decide_true,EL,NM,IJ]at O;obtain⟨m,U,Y⟩:=O;simp only[uy]at U;simp only[DT,Gi,M]at Y;obtain⟨h6,h7⟩:=Y;have u:=q m h7;by_cases e:m=i
  ·subst e;exact u
  have J:m<ops.size:=AB
  have z:ops[m]? =some ops[m]:=by simp[J]
  exact ih m U AB _ z (hd m _ z u)
def Wh (ops:Array Oper):Bool:=(List.range ops.size).all fun i=>match ops[i]? with
 |some o=>o.after.toList.all fun(e:Edge)=> !Region.binds .any e||decide (e.on<i)
 |none=>true
def aN8 (h:Wh ops=true):∀(i:Nat) (o:Oper),ops[i]? =some o→∀e∈o.after.toList,Region.binds .any e=true→e.on<i:=by
 intro i o j e m q;unfold Wh at h;rw[Ea]at h;have hi:i<ops.size:=(GZ.1 j).1;have :=h i GR;rw[j]at this;rw[Ea]at this;have :=this e m;simpa[q]using this
def AO.draw {id:Nat} {σ σ':BI} {Q:Exit→BI→Prop} {rs:List Ag} {ess:List (List BN)} {bs:List Bool} (hm:P.follows .mixedOrders=true) (Z:(Wh ops&&XM ops&&VE ops σ.slots.length&&WG ops)=true) (akf:Z7 ops bs=true)
 (h:FB P ops ops.toList σ rs ess bs σ') (hQ:Q .normal σ'):AO P (.region id ops true) σ Q:=by
 refine⟨fun ro _ C ok H a w hh=>?_⟩;simp only[DT]at Z;obtain⟨⟨⟨he,hd⟩,hs⟩,hc⟩:=Z;have Qa:=aN8 he;have hinj:=aMd hd;have Z:=aKu hc
 have Iz:∀(i:Nat) (o:Oper) (d:Tmp),ops[i]? =some o→o.dst=some d→d<σ.slots.length:=by
  intro i o d h1 h2;unfold VE at hs;rw[Ea]at hs;simpa using hs d (aLT h1 h2)
 let r:Nat→Ag:=fun i=>rs.getD i .junk
 let ev:Nat→List BN:=fun i=>ess.getD i []
 let bar:Nat→Bool:=fun i=>bs.getD i false
 obtain⟨Jb,hend⟩:=h.facts σ r ev bar 0 (fun k=>BP) BP rfl (fun k y hy=>aIv) (fun k y hy=>aIG) (fun k y hy=>by simp[bar,List.getD,hy])
 let U:Nat→BI:=Ep ops σ r ev
 have hU:∀i,i<ops.size→(U (i+1)).ents=ev i:=by
  intro i hi;have O:ops[i]? =some ops[i]:=Qy
  show(Ep ops σ r ev (i+1)).ents=_;simp only[Ep,O];rfl
 have hconst:∀n lo,(∀b,lo≤b→b<lo+n→bar b=false)→lo+n≤ops.size→(U (lo+n)).ents=(U lo).ents:=by
  intro n
  induction n with
  |zero=>intro lo _ _;rfl
  |succ n ih=>
   intro lo J hle;have h1:=ih lo (fun b h1 h2=>J b h1 AB) AB;have hi:lo+n<ops.size:=AB
   have O:ops[lo+n]? =some ops[lo+n]:=Qy
   have h2:=(Jb (lo+n) _ AB O).2 (J (lo+n) AB AB);rw[←OD,hU _ hi,h2];exact h1
 have L:∀lo hi,lo≤hi→hi≤ops.size→(∀b,lo≤b→b<hi→bar b=false)→(U hi).ents=(U lo).ents:=by
  intro lo hi h1 h2 h3;obtain⟨n,rfl⟩:=aIs h1;exact hconst n lo h3 h2
 refine aCM hm ?_
 let I:Array Bool→Act→World→Prop:=fun l a w=>l.size=ops.size∧∃ok H m,m≤ops.size∧(∀b,bar b=true→b<ops.size→(l.getD b false=true↔b<m))∧DF C ok H (U m).ents w∧a.tmps.size=σ.slots.length∧Marks C ok w a.defers∧
  (∀t,t<σ.slots.length→(∀(j:Nat) (o:Oper),ops[j]? =some o→o.dst=some t→l.getD j false=false)→R ok w H (σ.slots.getD t .junk) (a.tmps.getD t undef))∧
  (∀(i:Nat) (o:Oper) (d:Tmp),ops[i]? =some o→o.dst=some d→l.getD i false=true→R ok w H (r i) (a.tmps.getD d undef))∧
  (∀(j:Nat) (o:Oper),ops[j]? =some o→l.getD j false=true→∀i,Gn o i=true→l.getD i false=true)
 refine aI1 I (fun l a w h=>h.1) ?_ ?_ ops.size _ _ _ ?_ ?_
 ·rintro l a w ⟨h1,ok,H,m,MC,z,hmem0,hsz,hdf,h5,h6,h7⟩ i hi;unfold Region.ready at hi;rw[FM]at hi;obtain⟨hi1,hi2⟩:=hi;have hi':i<ops.size:=aAi
  have O:ops[i]? =some ops[i]:=by simp[hi']
  simp only[DT]at hi2;have Qb:=hi2.2;rw[O]at Qb;simp only[Ic,Nr]at Qb;have ahV:=fun e he=>(Qc.1 Qb) e he
  have hdone:∀j,Gn ops[i] j=true→l.getD j false=true∧j<i:=by
   intro j u;unfold Gn at u;rw[IJ]at u;obtain⟨e,hee,u⟩:=u;simp only[DT,Gi]at u;have :=ahV e aLv;simp only[u.2,EL,NM]at this;rw[u.1]at this;exact⟨this,u.1▸Qa i _ O e hee u.2⟩
  have M:l.getD i false=false:=by
   have h8:=hi2.1;have hil:i<l.size:=AB
   simp[Array.getD,hil]at h8 ⊢;exact h8
  have Y:∀(j:Nat) (o:Oper),ops[j]? =some o→l.getD j false=true→∀m,Gn o m=true→l.getD m false=true:=fun j o u hl m hm=>h7 j o u hl m hm
  have hmem:DF C ok H (U i).ents w:=by
   have hE:(U i).ents=(U m).ents:=by
    by_cases him:i≤m
    ·refine(L i m him MC (fun b h2 h3=>?_)).symm;rw[←LK];intro J;have hbl:=(z b J AB).2 h3;by_cases e:b=i
     ·subst e;rw[M]at hbl;cases hbl
     have hob:ops[b]? =some (ops[b]' AB):=by simp[show b<ops.size by omega]
     have :=VQ akf (show b<ops.size by omega) J (D:=fun j=>l.getD j false=true) Y (fun o O m hm=>Y b o O hbl m hm) i AB;rw[M]at this;cases this
    refine L m i AB AB (fun b h2 h3=>?_);rw[←LK];intro J;have :=aHN akf (show b<ops.size by omega) J (D:=fun j=>l.getD j false=true) Y i h3 _ O (fun m hm=>(hdone m hm).1);exact absurd ((z b J AB).1 this) AB
   rw[hE];exact hmem0
  have hread:∀t,t∈tmpsOf ops[i]→R ok w H ((Ep ops σ r ev i).slots.getD t .junk) (a.tmps.getD t undef):=by
   intro t ht;by_cases hw:∃(j:Nat) (o:Oper),ops[j]? =some o∧o.dst=some t
   ·obtain⟨j,o,u,q⟩:=hw;rcases(Z i _ O).1 j o t u q ht with hce|hce
    ·obtain⟨hdj,hji⟩:=hdone j hce;rw[VH hinj u q (Iz j o t u q) i hji];exact h6 j o t u q hdj
    have hij:i<j:=by
     unfold Gn at hce;rw[IJ]at hce;obtain⟨e,hee,hce⟩:=hce;simp only[DT,Gi]at hce;exact hce.1▸Qa j _ u e hee hce.2
    rw[U5 i (fun j' o' hj' ho' hd'=>aH5)];refine h5 t (Iz j o t u q) (fun j' o' ho' hd'=>?_);have hjj:=hinj j j' o o' t u ho' q hd';subst hjj;rw[←LK];intro hd;rw[h7 j o u hd i hce]at M;cases M
   have hw':∀(j:Nat) (o:Oper),ops[j]? =some o→o.dst≠some t:=fun j o h1 h2=>hw ⟨j,o,h1,h2⟩;rw[U5 i (fun j o _ u=>hw' j o u)];by_cases htn:t<σ.slots.length
   ·exact h5 t htn (fun j o u q=>absurd q (hw' j o u))
   rw[jO htn];exact .junk _
  have VT:∀j d v,Gn ops[i] j=true→(ops[j]?).bind (·.dst)=some d→(Ep ops σ r ev i).slots.getD d .junk=.d (.lit v)→yielded ops a.tmps j=(match v with | .bool b=>some b|_=>none):=by
   intro j d v u q J;cases hoj:ops[j]? with
   |none=>rw[hoj]at q;simp at q
   |some oj=>
    rw[hoj]at q;simp only[Aa]at q;obtain⟨hdj,hji⟩:=hdone j u;have hdn:=Iz j oj d hoj q;rw[VH hinj hoj q hdn i hji]at J;have hv:=(J▸h6 j oj d hoj q hdj).bool
    have hs:a.tmps[d]? =some v:=by
     have :d<a.tmps.size:=by rw[hsz];exact hdn
     simp[Array.getD,this]at hv;simp[this,hv]
    unfold yielded;rw[hoj];simp only[Aa,q,hs];cases v<;>rfl
  have hput:∀(x:Ag) (v:Value) (ok':Nat→Prop) (H':List Bj) (w':World),x=r i→Eb ok w ok' w'→Names H H'→DF C ok' H' (ev i) w'→R ok' w' H' x v→I (l.setIfInBounds i true) (a.put ops[i].dst v) w':=by
   intro x v ok' H' w' hx hgr hnm hmem' hR;subst hx
   have hother:∀(d t:Nat),ops[i].dst=some d→d≠t→(a.put ops[i].dst v).tmps.getD t undef=a.tmps.getD t undef:=by
    intro d t hd hne;rw[hd];exact aLL hne
   obtain⟨m',ana,aeo,anb⟩:∃m',m'≤ops.size∧(∀b,bar b=true→b<ops.size→((l.setIfInBounds i true).getD b false=true↔b<m'))∧DF C ok' H' (U m').ents w':=by
    have hget:∀b,b≠i→(l.setIfInBounds i true).getD b false=l.getD b false:=fun b J=>by
     simp only[Hd,KR (Ne.symm J)]
    have anc:(l.setIfInBounds i true).getD i false=true:=aIX
    cases hbi:bar i with
    |false=>
     refine⟨m,MC,fun b J hbs=>?_,?_⟩
     ·have hne:b≠i:=fun e=>by subst e;rw[hbi]at J;cases J
      rw[hget b hne];exact z b J hbs
     have h2:=(Jb i _ AB O).2 hbi;rw[h2]at hmem'
     have hE:(U i).ents=(U m).ents:=by
      by_cases him:i≤m
      ·refine(L i m him MC (fun b h2 h3=>?_)).symm;rw[←LK];intro J;have hbl:=(z b J AB).2 h3;by_cases e:b=i
       ·subst e;rw[M]at hbl;cases hbl
       have :=VQ akf (show b<ops.size by omega) J (D:=fun j=>l.getD j false=true) Y (fun o O m hm=>Y b o O hbl m hm) i AB;rw[M]at this;cases this
      refine L m i AB AB (fun b h2 h3=>?_);rw[←LK];intro J;have :=aHN akf (show b<ops.size by omega) J (D:=fun j=>l.getD j false=true) Y i h3 _ O (fun m hm=>(hdone m hm).1);exact absurd ((z b J AB).1 this) AB
     rw[←hE];exact hmem'
    |true=>
     refine⟨i+1,AB,fun b J hbs=>?_,by rw[hU i hi'];exact hmem'⟩;by_cases e:b=i
     ·subst e;rw[anc];simp
     rw[hget b e];constructor
     ·intro hbl;apply XG;intro hn;have :=VQ akf hbs J (D:=fun j=>l.getD j false=true) Y (fun o O m hm=>Y b o O hbl m hm) i AB;rw[M]at this;cases this
     intro hlt;exact VQ akf hi' hbi (D:=fun j=>l.getD j false=true) Y (fun o ho' m hm=>by rw[O]at ho';obtain rfl:=D5 ho';exact(hdone m hm).1) b AB
   refine⟨by simp[h1],ok',H',m',ana,aeo,anb,aJh,aLB,?_,?_,?_⟩
   ·intro t ht hno
    have hne:ops[i].dst≠some t:=by
     intro e;have :=hno i _ O e;simp[Array.getD,h1,hi']at this
    have hold:(a.put ops[i].dst v).tmps.getD t undef=a.tmps.getD t undef:=by
     cases hdi:ops[i].dst with
     |none=>rfl
     |some d=>exact hdi▸hother d t hdi (fun e=>hne (by rw[hdi,e]))
    rw[hold];refine(h5 t ht (fun j o u q=>?_)).mono hgr hnm;have hij:i≠j:=fun e=>by subst e;rw[O]at u;obtain rfl:=D5 u;exact hne q
    have :=hno j o u q;simpa only[Hd,KR hij]using this
   ·intro k o d hk hkd hl;by_cases hik:i=k
    ·subst hik;rw[O]at hk;obtain rfl:=D5 hk;rw[hkd,aMS (by rw[hsz];exact Iz i _ d O hkd)];exact hR
    have hl':l.getD k false=true:=by
     simp only[Hd,KR hik]at hl ⊢;exact hl
    have :=(h6 k o d hk hkd hl').mono hgr hnm;cases hdst:ops[i].dst with
    |none=>exact this
    |some d'=>
     have hne:d'≠d:=fun e=>hik (hinj i k _ _ d' O hk hdst (e▸hkd));rw[←hdst,hother d' d hdst hne];exact this
   intro j o u hl k hk;have hil:i<l.size:=AB
   by_cases hik:i=k
   ·subst hik;simp[Array.getD,hil]
   have hkk:l.getD k false=true:=by
    by_cases hij:i=j
    ·subst hij;rw[O]at u;obtain rfl:=D5 u;exact(hdone k hk).1
    have hl':l.getD j false=true:=by
     simp only[Hd,KR hij]at hl ⊢;exact hl
    exact h7 j o u hl' k hk
   simp only[Hd,KR hik]at hkk ⊢;exact hkk
  unfold wpOpIn;rw[O];show if Region.wanted ops[i] (yielded ops a.tmps)=true then _ else _
  rcases(Jb i ops[i] AB O).1 with⟨ns,hop,afy,hnt,hg⟩|⟨hx,hev,hg⟩
  ·have hwant:Region.wanted ops[i] (yielded ops a.tmps)=true:=by
    unfold Region.wanted;rcases hg with hg|⟨j,want,d,b,hg,u,J,rfl⟩
    ·rw[hg]
    rw[hg];show(yielded ops a.tmps j==some b)=true;rw[VT j d _ ((Z i _ O).2 j b hg) u J];simp
   rw[D9 hwant];refine Qs ?_ (hop.inR ro C ok H a w _ hmem (fun n hn=>?_))
   ·rintro a' w' ⟨v,ok',H',rfl,hgr,hnn,hm',hx⟩;exact hput _ v ok' H' w' rfl hgr hnn hm' hx
   have hnv:=QA afy n hn;obtain⟨x,y⟩:=n;simp only at hnv ⊢;subst hnv;cases x with
   |tmp t=>
    refine hread t ?_;rw[Ea]at hnt
    have :t∈MX ns:=by
     unfold MX;rw[TK];exact⟨_,hn,rfl⟩
    simpa using hnt t this
   |const v=>exact .d _ _ (.lit v)
   |global g=>exact .d _ _ (.lit _)
   |func f=>exact .d _ _ (.fn (.func f) [] [] #[] #[] rfl rfl (fun i hi=>OX) (fun i hi=>OX))
  have hwant:Region.wanted ops[i] (yielded ops a.tmps)=false:=by
   unfold Region.wanted;obtain⟨j,want,d,v,hg,u,J,hv⟩:=hg;rw[hg];show(yielded ops a.tmps j==some want)=false;rw[VT j d _ ((Z i _ O).2 j want hg) u J];rcases hv with rfl|rfl
   ·simp
   rfl
  rw[DL (by rw[hwant];simp)];exact⟨fun _ _=>trivial,hput _ _ ok H w hx.symm (.refl _ _) (.refl _) aOw (.d _ _ (.lit _))⟩
 ·rintro l a w ⟨h1,ok,H,m,MC,z,hmem,hsz,hdf,h5,h6,h7⟩ hr
  have hall:∀n i,i<n→i<ops.size→l.getD i false=true:=by
   intro n
   induction n with
   |zero=>intro i hi;omega
   |succ n ih=>
    intro i hi hi2;by_cases hn:i<n
    ·exact ih i hn hi2
    have hin:i=n:=AB
    subst hin;rw[←aK5];intro hf;have O:ops[i]? =some ops[i]:=by simp[hi2]
    have hmem:i∈Region.ready .any ops l:=by
     unfold Region.ready;rw[FM];refine⟨by simpa using hi2,?_⟩;have hil:i<l.size:=AB
     have hf':l.getD i true=false:=aBx
     rw[hf',O];simp only[Io,GK,Ic,Nr];rw[Qc];intro e he;cases hbe:Region.binds .any e with
     |false=>simp
     |true=>
      have hlt:=Qa i _ O e qK hbe;rw[ih e.on AB AB];simp
    rw[hr]at hmem;simp at hmem
  refine⟨ok,H,σ',?_,hQ⟩;subst hend
  have hE:(U ops.size).ents=(U m).ents:=L m ops.size MC (EG _) (fun b h2 h3=>by
   rw[←LK];intro J
   exact absurd ((z b J h3).1 (hall (b+1) b AB h3)) AB)
  refine⟨aaX,by rw[Ui];exact hsz,hdf,aNt,fun t ht=>?_⟩;rw[Ui]at ht;by_cases hw:∃(j:Nat) (o:Oper),ops[j]? =some o∧o.dst=some t
  ·obtain⟨j,o,u,q⟩:=hw;have hjn:j<ops.size:=(GZ.1 u).1;rw[VH hinj u q ht ops.size hjn];exact h6 j o t u q (hall (j+1) j AB hjn)
  have hw':∀(j:Nat) (o:Oper),ops[j]? =some o→o.dst≠some t:=fun j o h1 h2=>hw ⟨j,o,h1,h2⟩;rw[U5 ops.size (fun j o _ u=>hw' j o u)];exact h5 t ht (fun j o u q=>absurd q (hw' j o u))
 ·unfold toCome;simp
 refine⟨BP,ok,H,0,El _,fun b J _=>aCd,?_,hh.size,hh.defers.mono (fun b J=>⟨J,rfl⟩),fun t ht _=>?_,fun i o d _ _ hl=>?_,fun j o _ hl=>?_⟩
 ·exact⟨⟨hh.mem.fr.os,hh.mem.fr.tape,hh.mem.fr.output,hh.mem.fr.size,hh.mem.fr.block⟩,hh.mem.yZ,hh.mem.y8,hh.mem.kW,hh.mem.names,hh.mem.hlen,fun k e h h1 h2=>(hh.mem.ent k e h h1 h2).drew,hh.mem.blk,hh.mem.Fj⟩
 ·exact R.mono (w:=w) (ok:=ok) (w':={ w with drawn:=w.drawn+1 }) (fun b J=>⟨J,rfl⟩) (.refl _) (hh.slot t ht)
 ·simp[Array.getD]at hl
 simp[Array.getD]at hl
end
def Ah (P:Program) (f:FuncId) (args:List Ag) (E:List BN) (m:Ag) (E':List BN):Prop:=
 ∀(ok:Nat→Prop) (X:List Nat) (H:List Bj) (w:World) (j:Array Value),DF ⟨w,ok,X,H⟩ ok H E w→j.size=args.length→(∀i,i<args.length→R ok w H (args.getD i .junk) (j.getD i undef))→
  Calls P f j w fun e w'=>∃v ok' H',e=.returned v∧DF ⟨w,ok,X,H⟩ ok' H' E' w'∧R ok' w' H' m v
def Holds.awU {C:EW} {ok:Nat→Prop} {H:List Bj} {σ:BI} {a:Act} {w:World} (h:Holds C ok H σ a w) (t:Nat):R ok w H (σ.slots.getD t .junk) (a.tmps.getD t undef):=h.get (.tmp t)
def BI.enter (args:List Ag) (n:Nat) (E:List BN):BI:=⟨args++List.replicate (n-args.length) .junk,E,E.length⟩
def R.lit {ok:Nat→Prop} {w:World} {H:List Bj} {u v:Value} (h:R ok w H (.d (.lit u)) v):v=u:=by
 cases h with |d _ _ h=>cases h;rfl
structure ET (P:Program) (t:TypeId) (agg:Bool) (size:Nat):Prop where
 agg:∀w,(isAgg t).run P w=.ok agg w
 size:∀w,(sizeOf t).run P w=.ok size w
def aJp (P:Program) (t:TypeId) (agg:Bool) (size:Nat):Bool:=
 (match P.underlying t with |some (.struct _)|some (.array _ _)=>agg|some _=> !agg|none=>false)&&(match P.info? t with |some i=>decide (i.size=size)|none=>false)
def GL {P:Program} {t:TypeId} {agg:Bool} {size:Nat} (h:aJp P t agg size=true):ET P t agg size:=by
 unfold aJp at h;simp only[DT]at h;refine⟨fun w=>?_,fun w=>?_⟩
 ·have m:=h.1;cases q:P.underlying t with
  |none=>rw[q]at m;cases m
  |some d=>
   rw[q]at m;have e:(underlying t).run P w=.ok d w:=by simp[underlying,q]
   simp only[isAgg,FV,e,Fb];cases d<;>cases agg<;>simp_all
 have j:=h.2;cases hi:P.info? t with
 |none=>rw[hi]at j;cases j
 |some i=>
  rw[hi]at j;have :i.size=size:=PO
  simp[sizeOf,typeInfo,hi,this]
section
variable {P : Program} {o : Oper} {es : List BN}
def Kv {α:Type} {p:α→Prop} {a:α} (h:∀n∈[a],p n):p a:=h a BP
def Ej {α:Type} {p:α→Prop} {a b:α} (h:∀n∈[a,b],p n):p a∧p b:=⟨h a BP,h b BP⟩
def apf {x:Operand} {v:Ag} (j:o.op=.move x):Bl P o [(x,v)] es v es:=
 .pure fun _ _ a _ _ _ m=>⟨a.eval x,by simp[execOp,j],m (x,v) BP⟩
def arR {x:Operand} {v:Ag} (j:o.op=.assign x):Bl P o [(x,v)] es v es:=
 .pure fun _ _ a _ _ _ m=>⟨a.eval x,by simp[execOp,j],m (x,v) BP⟩
def anj {c x y:Operand} {v:Ag} (b:Bool) (m:b=true) (q:o.op=.pick c x y):Bl P o [(c,.d (.lit (.bool b))),(x,v)] es v es:=
 .pure fun _ _ a _ _ _ j=>⟨a.eval x,by
  have :=(Ej j).1.lit;simp only at this
  simp[execOp,q,this,asBool,m],(Ej j).2⟩
def arD {c x y:Operand} {v:Ag} (b:Bool) (m:b=false) (q:o.op=.pick c x y):Bl P o [(c,.d (.lit (.bool b))),(y,v)] es v es:=
 .pure fun _ _ a _ _ _ j=>⟨a.eval y,by
  have :=(Ej j).1.lit;simp only at this
  simp[execOp,q,this,asBool,m],(Ej j).2⟩
def GV {op:BinOp} {t t':TypeId} {x y:Operand} {u v r:Value} (z:o.op=.binOp op t x y t') (h:∀w,(binOp op t u v).run P w=.ok r w) (I:u.oneCell'=true∧u matches .int _ _| .string _| .bool _):
 Bl P o [(x,.d (.lit u)),(y,.d (.lit v))] es (.d (.lit r)) es:=
 .pure fun _ _ a w _ _ j=>⟨r,by
  have m:=(Ej j).1.lit;have q:=(Ej j).2.lit;simp only at m q
  have J:(eqGuard op t x y u v).run P w=.ok () w:=by
   unfold eqGuard;cases u<;>simp at I<;>(cases op<;>simp[pure,Sem.run_pure'])
  simp only[execOp,z,m,q,FV,J,h w,Fb,GY],.d _ _ (.lit _)⟩
def aJJ {op:UnOp} {t:TypeId} {x:Operand} {u r:Value} (m:o.op=.unOp op t x) (h:∀w,(Op.unary op u).run P w=.ok r w):Bl P o [(x,.d (.lit u))] es (.d (.lit r)) es:=
 .pure fun _ _ a w _ _ q=>⟨r,by
  have j:=(Kv q).lit;simp only at j
  simp only[execOp,m,j,FV,h w,Fb,GY],.d _ _ (.lit _)⟩
def aVo {s t:TypeId} {x:Operand} {u r:Value} (m:o.op=.convert s t x) (h:∀w,(convert s t u).run P w=.ok r w):Bl P o [(x,.d (.lit u))] es (.d (.lit r)) es:=
 .pure fun _ _ a w _ _ q=>⟨r,by
  have j:=(Kv q).lit;simp only at j
  simp only[execOp,m,j,FV,h w,Fb,GY],.d _ _ (.lit _)⟩
def ahF {x:Operand} {i:Nat} {xs:List Ag} {v:Ag} (I:o.op=.extract x i) (J:xs[i]? =some v):Bl P o [(x,.fP xs)] es v es:=
 .pure fun ok H a w _ _ L=>by
  have m:=Kv L;simp only at m;generalize M:a.eval x=u at m;cases m with
  |fP _ vs hl h=>
   obtain⟨hi,q⟩:=G5.1 J;have z:=h i hi;have O:xs.getD i .junk=v:=by simp[List.getD,hi,q]
   have j:i<vs.size:=AB
   have U:vs.getD i undef=vs[i]:=by simp[Array.getD,j]
   rw[O,U]at z;exact⟨vs[i],by simp[execOp,I,M,Instr.extract,j],z⟩
def ais {x:Operand} {t e:TypeId} {xs:List D} (I:P.underlying t=some (.slice e)) (m:o.op=.call { callee:=.builtin .len,args:= #[x],argTypes:= #[t] }):
 Bl P o [(x,.d (.sl xs))] es (.d (.lit (.int .i64 xs.length))) es:=
 .pure fun ok H a w _ _ J=>by
  have j:=Kv J;simp only at j;generalize q:a.eval x=u at j;have z:(underlying t).run P w=.ok (.slice e) w:=by simp[underlying,I]
  refine⟨_,?_,.d _ _ (.lit _)⟩;cases j with
  |d _ _ h=>
   cases h with
   |sl0 ad cap=>simp[execOp,m,resolve,invoke,builtin,Builtin.len_,q,z,goInt]
   |sl _ b off cap size=>simp[execOp,m,resolve,invoke,builtin,Builtin.len_,q,z,goInt]
def afb {x:Operand} {t:TypeId} {s:ByteArray} (m:P.underlying t=some .string) (q:o.op=.call { callee:=.builtin .len,args:= #[x],argTypes:= #[t] }):
 Bl P o [(x,.d (.lit (.string s)))] es (.d (.lit (.int .i64 s.size))) es:=
 .pure fun ok H a w _ _ u=>by
  have j:=(Kv u).lit;simp only at j;have z:(underlying t).run P w=.ok .string w:=aN2
  exact⟨_,by simp[execOp,q,resolve,invoke,builtin,Builtin.len_,j,z,goInt],.d _ _ (.lit _)⟩
def Gj {es:List BN} {H:List Bj} {ok:Nat→Prop} {w:World} (q:∀(k:Nat) (e:BN) (h:Bj),es[k]? =some e→H[k]? =some h→Ez ok w H h e) (hl:H.length=es.length) {k:Nat} {e:BN} (m:es[k]? =some e):
 ∃h,H[k]? =some h∧Ez ok w H h e:=by
 have j:k<H.length:=by rw[hl];exact(G5.1 m).1
 exact⟨H[k],mD,q k e _ m mD⟩
def ael {x:Operand} {t e e':TypeId} {k s:Nat} {xs:List D} (O:es[k]? =some (.arr e' s xs)) (U:P.underlying t=some (.slice e)) (Y:o.op=.call { callee:=.builtin .len,args:= #[x],argTypes:= #[t] }):
 Bl P o [(x,.aO k)] es (.d (.lit (.int .i64 xs.length))) es:=
 .pure fun ok H a w j hl Z=>by
  have m:=Kv Z;simp only at m;generalize he:a.eval x=u at m;have hu:(underlying t).run P w=.ok (.slice e) w:=by simp[underlying,U]
  obtain⟨h,hh,q⟩:=Gj j hl O;refine⟨_,?_,.d _ _ (.lit _)⟩;cases m with
  |aO _ ad n cap s' L=>
   rw[hh]at L;obtain rfl:=D5 L;obtain⟨_,_,ys,⟨_,z⟩,_⟩:=q
   have I:n=xs.length:=by
    rcases z with⟨J,h3⟩|⟨g,M,cur,J,_⟩
    ·simp at J;omega
    simp at J;omega
   subst I;simp[execOp,Y,resolve,invoke,builtin,Builtin.len_,he,hu,goInt]
structure E8 (P:Program) (t:TypeId) (f off:Nat):Prop where
 run:∀(b o:Nat) w,(Instr.fieldAt t (.pointer (some ⟨b,o,none⟩)) f).run P w=.ok (.pointer (some ⟨b,o+off,none⟩)) w
def acV (P:Program) (t:TypeId) (f off:Nat):Bool:=
 match P.underlying t with
 |some (.struct m)=>match m[f]? with
  |some j=>decide (j.offset=off)&&(match P.info? j.type with |some i=>decide (i.size≠0)|none=>false)
  |none=>false
 |_=>false
def ED {P:Program} {t:TypeId} {f off:Nat} (h:acV P t f off=true):E8 P t f off:=by
 unfold acV at h;refine⟨fun b o w=>?_⟩;split at h
 ·rename_i q u;split at h
  ·rename_i z I;simp only[DT,Gi]at h;obtain⟨J,j⟩:=h;split at j
   ·rename_i i hi;have hs:(sizeOf z.type).run P w=.ok i.size w:=by simp[sizeOf,typeInfo,hi]
    have L:i.size≠0:=PO
    have m:(underlying t).run P w=.ok (.struct q) w:=by simp[underlying,u]
    simp[Instr.fieldAt,m,I,Instr.sureAddr,fieldPlace,hs,L,addr_add,J]
   cases j
  cases h
 cases h
def apJ {x:Operand} {t:TypeId} {f off j:Nat} {cs:List D} (I:E8 P t f off) (J:o.op=.fieldAddr t x f):Bl P o [(x,.d (.ref cs j))] es (.d (.ref cs (j+off))) es:=
 .pure fun ok H a w _ _ L=>by
  have m:=Kv L;simp only at m;generalize M:a.eval x=u at m;cases m with
  |d _ _ h=>
   cases h with
   |ref _ _ b p q z O U=>
    refine⟨.pointer (some ⟨b,p+(j+off),none⟩),?_,.d _ _ (.ref cs (j+off) b p q z O U)⟩;simp only[execOp,J,M,FV,I.run,Fb,GY,OD]
def alj {x:Operand} {t:TypeId} {f off k j:Nat} (q:E8 P t f off) (z:o.op=.fieldAddr t x f):Bl P o [(x,.ptr k j)] es (.ptr k (j+off)) es:=
 .pure fun ok H a w _ _ I=>by
  have m:=Kv I;simp only at m;generalize J:a.eval x=u at m;cases m with
  |ptr _ _ b s h=>
   refine⟨.pointer (some ⟨b,j+off,none⟩),?_,.ptr _ _ b s h⟩;simp only[execOp,z,J,FV,q.run,Fb,GY]
def aqX {x:Operand} {t:TypeId} {f off k i j:Nat} (q:E8 P t f off) (z:o.op=.fieldAddr t x f):Bl P o [(x,.mG k i j)] es (.mG k i (j+off)) es:=
 .pure fun ok H a w _ _ I=>by
  have m:=Kv I;simp only at m;generalize J:a.eval x=u at m;cases m with
  |mG _ _ _ b n cap s h=>
   refine⟨.pointer (some ⟨b,i*s+(j+off),none⟩),?_,.mG _ _ _ b n cap s h⟩;simp only[execOp,z,J,FV,q.run,Fb,GY,OD]
def afF {x y:Operand} {t e:TypeId} {k:IntKind} {i:Int} {xs:List D} {I:D} {agg:Bool} {size:Nat} (ht:P.underlying t=some (.slice e)) (hT:ET P e agg size) (h0:0≤i) (hi:xs[i.toNat]? =some I) (hs:I.cells.length=size)
 (ho:o.op=.indexAddr t x y):Bl P o [(x,.d (.sl xs)),(y,.d (.lit (.int k i)))] es (.d (.ref I.cells 0)) es:=
 .pure fun ok H a w _ _ Y=>by
  have J:=(Ej Y).1;have Z:=(Ej Y).2.lit;simp only at J Z;generalize he:a.eval x=u at J;have hu:(underlying t).run P w=.ok (.slice e) w:=aFp
  obtain⟨q,L⟩:=G5.1 hi;cases J with
  |d _ _ h=>
   cases h with
   |sl0 ad cap=>simp at q
   |sl _ b off cap m hcap M O hf hx hc=>
    have hd:xs.getD i.toNat Dp=I:=by simp[List.getD,q,L]
    have U:m=size:=by rw[←O _ q,hd,hs]
    subst U;refine⟨.pointer (some ⟨b,off+i.toNat*m+0,none⟩),?_,.d _ _ (.ref I.cells 0 b (off+i.toNat*m) (fun h=>M AB (by rw[hs]at h;exact h)) ?_ ?_ ?_)⟩
    ·have hlen:0≤i∧i<(xs.length:Int):=⟨h0,AB⟩
     simp only[execOp,ho,he,Z,Instr.indexAt,asIntOf,FV,GY,hu,Fb,Sem.run_ite,hlen,and_self,Jv,hT.size,addr_add,P5]
    ·intro j z;rw[hs]at z;rw[←hd];exact hf _ q j z
    ·intro j z;rw[hs]at z;rw[OD];exact hx _ q j z
    intro j z;rw[hs]at z;rw[OD,←hd];exact hc _ q j z
def ahP {x y:Operand} {t e e':TypeId} {kd:IntKind} {i:Int} {k size:Nat} {xs:List D} {agg:Bool} (Y:es[k]? =some (.arr e' size xs)) (Z:P.underlying t=some (.slice e)) (hT:ET P e agg size) (h0:0≤i) (hi:i.toNat<xs.length)
 (ho:o.op=.indexAddr t x y):Bl P o [(x,.aO k),(y,.d (.lit (.int kd i)))] es (.mG k i.toNat 0) es:=
 .pure fun ok H a w m hl J=>by
  have q:=(Ej J).1;have L:=(Ej J).2.lit;simp only at q L;generalize he:a.eval x=u at q;have hu:(underlying t).run P w=.ok (.slice e) w:=by simp[underlying,Z]
  obtain⟨h,M,z⟩:=Gj m hl Y;cases q with
  |aO _ ad n cap s' O=>
   rw[M]at O;obtain rfl:=D5 O;obtain⟨hs,_,ys,⟨_,I⟩,_⟩:=z;simp only at hs;subst hs;rcases I with⟨j,h3⟩|⟨g,U,cur,j,_⟩
   ·omega
   simp only[ji]at j;obtain⟨rfl,rfl,rfl⟩:=j;refine⟨.pointer (some ⟨g,i.toNat*s'+0,none⟩),?_,.mG _ _ _ _ _ _ _ M⟩;have hlen:0≤i∧i<(xs.length:Int):=⟨h0,AB⟩
   simp only[execOp,ho,he,L,Instr.indexAt,asIntOf,FV,GY,hu,Fb,Sem.run_ite,hlen,and_self,Jv,hT.size,addr_add,JJ,P5]
def ajY {x y:Operand} {t:TypeId} {k:IntKind} {i:Int} {s:ByteArray} {c:UInt8} (u:P.underlying t=some .string) (z:0≤i) (hi:s[i.toNat]? =some c) (I:o.op=.index t x y):
 Bl P o [(x,.d (.lit (.string s))),(y,.d (.lit (.int k i)))] es (.d (.lit (.int .u8 c.toNat))) es:=
 .pure fun ok H a w _ _ j=>by
  have m:=(Ej j).1.lit;have q:=(Ej j).2.lit;simp only at m q;have J:(underlying t).run P w=.ok .string w:=by simp[underlying,u]
  exact⟨_,by simp only[execOp,I,m,q,Instr.index,asIntOf,FV,GY,J,Fb,z,Jv,hi],.d _ _ (.lit _)⟩
def J8 (l:List Ag):List D:=l.map fun | .d x=>x|_=>Dp
def Ag.Bc:Ag→Bool
 | .d _=>true
 |_=>false
def R.toD {ok:Nat→Prop} {w:World} {H:List Bj} {x:Ag} {v:Value} (h:R ok w H x v) (hd:x.Bc=true):Dv ok w ((fun | .d x=>x|_=>Dp) x) v:=by
 cases h with
 |d _ _ h=>exact h
 |_=>simp[Ag.Bc]at hd
def PY (agg:Bool) (cs:List D) (off n:Nat):D:=if agg then .agg ((cs.drop off).take n)else cs.getD off Dp
def aFL {P:Program} {ok:Nat→Prop} {w:World} {t:TypeId} {agg:Bool} {n b p off:Nat} {cs:List D} (L:ET P t agg n) (hn:off+n≤cs.length) (O:agg=false→n=1)
 (U:∀i,i<cs.length→(cs.getD i Dp).leaf=true) (Y:∀j,j<cs.length→(w.cell? ⟨b,p+j,none⟩).isSome=true) (M:∀j,j<cs.length→Dv ok w (cs.getD j Dp) (cellAt w b (p+j))):
 ∃v,(Instr.loadAt t (.pointer (some ⟨b,p+off,none⟩))).run P w=.ok v w∧Dv ok w (PY agg cs off n) v:=by
 have m:∀j,j<cs.length→w.cell? ⟨b,p+j,none⟩=some (cellAt w b (p+j)):=by
  intro j z;have :=Y j z;obtain⟨u,Z⟩:=TL.1 this;simp[cellAt,Z]
 cases agg with
 |false=>
  have :=O rfl;subst this;refine⟨cellAt w b (p+off),?_,M off AB⟩;have J:=m off AB;simp[Instr.loadAt,Instr.sureAddr,loadVar,L.agg,J]
 |true=>
  let vs:Array Value:=((List.range n).map fun j=>cellAt w b (p+(off+j))).toArray
  have q:vs.size=n:=by simp[vs]
  have I:∀j,j<n→vs.getD j undef=cellAt w b (p+(off+j)):=by
   intro j z;simp[vs,Array.getD,z]
  refine⟨.agg vs,?_,?_⟩
  ·simp only[Instr.loadAt,Instr.sureAddr,FV,GY,Fb]
   have h:=aqH (P:=P) w t b (p+off) vs (L.agg w) (by rw[q];exact L.size w) (fun j z=>by
    rw[q]at z;rw[I j z,OD]
    exact m (off+j) AB)
   exact h
  simp only[PY,Jv];have hlen:((cs.drop off).take n).length=n:=Dz
  have J:∀i,i<n→((cs.drop off).take n).getD i Dp=cs.getD (off+i) Dp:=by
   intro i hi;simp[List.getD,Nv hi,QJ]
  refine .agg _ vs (by rw[hlen,q]) (fun i hi=>?_) (fun i hi=>?_)
  ·rw[hlen]at hi;rw[J i hi];exact U _ AB
  rw[hlen]at hi;rw[J i hi,I i hi];exact M _ AB
def aqy {x:Operand} {t:TypeId} {agg:Bool} {n off:Nat} {cs:List D} (q:ET P t agg n) (z:off+n≤cs.length) (I:agg=false→n=1) (J:o.op=.load t x):
 Bl P o [(x,.d (.ref cs off))] es (.d (PY agg cs off n)) es:=
 .pure fun ok H a w _ _ m=>by
  have j:=Kv m;simp only at j;generalize L:a.eval x=u at j;cases j with
  |d _ _ h=>
   cases h with
   |ref _ _ b p M O U Y=>
    obtain⟨v,Z,hd⟩:=aFL q z I O U Y;exact⟨v,by simp only[execOp,J,L,FV,Z,Fb,GY],.d _ _ hd⟩
def wQ (l:List Ag):(J8 l).length=l.length:=by simp[J8]
def aVx {l:List Ag} {i:Nat} (h:i<l.length):(J8 l).getD i Dp=(fun | .d x=>x|_=>Dp) (l.getD i .junk):=by
 simp[J8,List.getD,h]
def aN7 {ok:Nat→Prop} {w:World} {H:List Bj} {h:Bj} {cs:List Ag} (M:Ez ok w H h (.box cs)) (hd:cs.all Ag.Bc=true):
 ∃b,h.v=.pointer (some ⟨b,0,none⟩)∧(∀i,i<(J8 cs).length→((J8 cs).getD i Dp).leaf=true)∧(∀j,j<(J8 cs).length→(w.cell? ⟨b,0+j,none⟩).isSome=true)∧(∀j,j<(J8 cs).length→Dv ok w ((J8 cs).getD j Dp) (cellAt w b (0+j))):=by
 obtain⟨b,vs,T,O,U,Y,z⟩:=M;rw[Ea]at hd
 have m:∀j,j<cs.length→w.cell? ⟨b,0+j,none⟩=some (vs.toList.getD j undef):=by
  intro j q;rw[JJ];have u:j<vs.size:=by simpa using(by omega:j<vs.toList.length)
  simp[World.cell?,U,u,List.getD]
 refine⟨b,O,fun i hi=>?_,fun j q=>?_,fun j q=>?_⟩
 ·rw[wQ]at hi;rw[aVx hi];have I:=(z i hi).1;have J:=hd (cs.getD i .junk) ND;cases L:cs.getD i .junk with
  |d x=>rw[L]at I;exact I
  |_=>rw[L]at J;simp[Ag.Bc]at J
 ·rw[wQ]at q;rw[m j q];rfl
 rw[wQ]at q;rw[aVx q];unfold cellAt;rw[m j q];exact(z j q).2.toD (hd (cs.getD j .junk) aLf)
def asn {x:Operand} {t:TypeId} {agg:Bool} {k n off:Nat} {cs:List Ag} (M:es[k]? =some (.box cs)) (hd:cs.all Ag.Bc=true) (O:ET P t agg n) (U:off+n≤cs.length) (Y:agg=false→n=1) (Z:o.op=.load t x):
 Bl P o [(x,.ptr k off)] es (.d (PY agg (J8 cs) off n)) es:=
 .pure fun ok H a w m hl q=>by
  have j:=Kv q;simp only at j;generalize he:a.eval x=u at j;obtain⟨h,hh,z⟩:=Gj m hl M;obtain⟨b,I,hf,hx,hc⟩:=aN7 z hd;cases j with
  |ptr _ _ b' s J=>
   rw[hh]at J;obtain rfl:=D5 J;simp at I;subst I;obtain⟨v,L,hD⟩:=aFL O (by rw[wQ];exact U) Y hf hx hc;rw[JJ]at L;exact⟨v,by simp only[execOp,Z,he,FV,L,Fb,GY],.d _ _ hD⟩
def aQV {x:Operand} {t:TypeId} {k off:Nat} {cs:List Ag} {v:Ag} (U:es[k]? =some (.box cs)) (Y:cs[off]? =some v) (Z:ET P t false 1) (ho:o.op=.load t x):Bl P o [(x,.ptr k off)] es v es:=
 .pure fun ok H a w q hl I=>by
  have m:=Kv I;simp only at m;generalize he:a.eval x=u at m;obtain⟨h,hh,b,vs,T,L,h2,h3,h4⟩:=Gj q hl U;cases m with
  |ptr _ _ b' s M=>
   rw[hh]at M;obtain rfl:=D5 M;simp at L;subst L;obtain⟨z,J⟩:=G5.1 Y;have O:=(h4 off z).2;have e1:cs.getD off .junk=v:=by simp[List.getD,z,J]
   have j:off<vs.size:=by simpa using(by omega:off<vs.toList.length)
   have e2:vs.toList.getD off undef=vs[off]:=aDV
   rw[e1,e2]at O;refine⟨vs[off],?_,O⟩;have hc:w.cell? ⟨b',off,none⟩=some vs[off]:=by simp[World.cell?,h2,j]
   simp[execOp,ho,he,Instr.loadAt,Instr.sureAddr,loadVar,Z.agg,hc]
end
def DF.change {C:EW} {ok ok':Nat→Prop} {H H':List Bj} {es es':List BN} {w w':World} (m:DF C ok H es w) (B:Nat→Prop)
 (hos:w'.os=w.os) (O:w'.tape=w.tape) (hout:w'.output=w.output) (q:w.heap.size≤w'.heap.size)
 (L:∀b,b<w.heap.size→¬B b→w'.heap[b]? =w.heap[b]?) (hB:∀b,B b→b<w.heap.size→¬ok b∧(C.w0.heap.size≤b∨b∈C.X))
 (hok:∀b,ok b→ok' b) (M:∀b,ok' b→ok b∨(w.heap.size≤b∧b<w'.heap.size)) (z:Names H H') (hlen:H'.length=es'.length)
 (I:∀(k:Nat) (e:BN) (h:Bj),es'[k]? =some e→H'[k]? =some h→
  (es[k]? =some e∧H[k]? =some h∧(e.live=true→∀b,Df h.v=some b→¬B b))∨
  (Ez ok' w' H' h e∧(e.live=true→∀b,Df h.v=some b→¬ok' b∧b<w'.heap.size∧(C.w0.heap.size≤b∨b∈C.X)∧
   ∀(k':Nat) (e':BN) (h':Bj),k'≠k→es'[k']? =some e'→e'.live=true→H'[k']? =some h'→Df h'.v≠some b))):
 DF C ok' H' es' w'∧Eb ok w ok' w':=by
 have hg:Eb ok w ok' w':=fun b j=>⟨hok b j,L b (m.kW b j) (fun u=>(hB b u (m.kW b j)).1 j)⟩
 refine⟨⟨⟨hos.trans m.fr.os,O.trans m.fr.tape,hout.trans m.fr.output,F6 m.fr.size q,fun k hk hx=>?_⟩,fun b j=>hok b (m.yZ b j),?_,?_,m.names.trans z,hlen,?_,?_,?_⟩,hg⟩
 ·have hkw:k<w.heap.size:=Vr hk m.fr.size;rw[L k hkw (fun j=>(hB k j hkw).2.elim (fun h=>AB) hx)];exact m.fr.block k hk hx
 ·intro b j;rcases M b j with h|⟨h,_⟩
  ·exact m.y8 b h
  exact .inr (.inl (F6 m.fr.size h))
 ·intro b j;rcases M b j with h|⟨_,h⟩
  ·exact Vr (m.kW b h) q
  exact h
 ·intro k e h he hh;rcases I k e h he hh with⟨J,h2,h3⟩|⟨J,_⟩
  ·exact(m.ent k e h J h2).mono hg z (fun hl b j=>L b (m.blk k e h b J hl h2 j).2.1 (h3 hl b j))
  exact J
 ·intro k e h b he hl hh j;rcases I k e h he hh with⟨J,h2,h3⟩|⟨_,J⟩
  ·have :=m.blk k e h b J hl h2 j;refine⟨fun u=>?_,Vr this.2.1 q,this.2.2⟩;rcases M b u with h4|⟨h4,_⟩
   ·exact this.1 h4
   omega
  exact⟨(J hl b j).1,(J hl b j).2.1,(J hl b j).2.2.1⟩
 intro k k' e e' h h' b he he' hl U hh hh' j u;apply XG;intro Y;rcases I k e h he hh with⟨J,h2,h3⟩|⟨_,J⟩
 ·rcases I k' e' h' he' hh' with⟨Z,h2',h3'⟩|⟨_,Z⟩
  ·exact Y (m.Fj k k' e e' h h' b J Z hl U h2 h2' j u)
  exact(Z U b u).2.2.2 k e h Y he hl hh j
 exact(J hl b j).2.2.2 k' e' h' (fun e=>Y e.symm) he' U hh' u
def aE2 {α:Type} {l:List α} {i:Nat} {z:α} (h:i<l.length):l.getD i z=l[i]:=by simp[List.getD,h]
def X4 {α:Type} {l:List α} {a x:α} {k:Nat} (h:(l++[a])[k]? =some x):l[k]? =some x∨(k=l.length∧x=a):=by
 by_cases m:k<l.length
 ·rw[Gs m]at h;exact .inl h
 have j:=(G5.1 h).1;simp at j;have :k=l.length:=AB
 subst this;simp at h;exact .inr ⟨rfl,h.symm⟩
def DF.push {C:EW} {ok:Nat→Prop} {H:List Bj} {es:List BN} {w:World} (j:DF C ok H es w) (o:Obj) (h:Bj) (e:BN) (J:∀b,Df h.v=some b→b=w.heap.size)
 (he:Ez ok (w.alloc o) (H++[h]) h e):DF C ok (H++[h]) (es++[e]) (w.alloc o)∧Eb ok w ok (w.alloc o):=by
 refine j.change (fun _=>False) rfl rfl rfl BP (fun b J _=>KC _ _ _ J) (fun _ h=>h.elim) (fun _ h=>h) (fun _ h=>.inl h) (Names.push _ _) (by simp[j.hlen]) ?_;intro k e' h' L q;rcases X4 L with I|⟨I,h2⟩
 ·left;refine⟨I,?_,fun _ _ _ h=>h⟩;have M:k<H.length:=by rw[j.hlen];exact(G5.1 I).1
  rwa [Gs M]at q
 subst h2;have M:k=H.length:=by rw[j.hlen];exact I
 subst M;simp at q;subst q;refine .inr ⟨he,fun _ b O=>?_⟩;obtain rfl:=J b O;refine⟨fun u=>absurd (j.kW _ u) AB,BP,.inl j.fr.size,fun k' U Y Z hk' hl m z=>?_⟩;rcases X4 hk' with u|⟨u,_⟩
 ·have hk2:k'<H.length:=by rw[j.hlen];exact(G5.1 u).1
  rw[Gs hk2]at m;exact absurd (j.blk k' U Y _ u hl m z).2.1 AB
 rw[←j.hlen]at u;exact Z u
def DF.fresh {C:EW} {ok:Nat→Prop} {H:List Bj} {es:List BN} {w:World} (j:DF C ok H es w) (o:Obj):
 DF C (fun b=>ok b∨b=w.heap.size) H es (w.alloc o)∧Eb ok w (fun b=>ok b∨b=w.heap.size) (w.alloc o):=by
 refine j.change (fun _=>False) rfl rfl rfl BP (fun b m _=>KC _ _ _ m) (fun _ h=>h.elim) (fun _ h=>.inl h) (fun b h=>?_) (.refl _) j.hlen ?_
 ·rcases h with h|rfl
  ·exact .inl h
  exact .inr ⟨EG _,BP⟩
 intro k e h q u;exact .inl ⟨q,u,fun _ _ _ h=>h⟩
def DF.drew {C:EW} {ok:Nat→Prop} {H:List Bj} {es:List BN} {w:World} (j:DF C ok H es w):DF C ok H es w.drew∧Eb ok w ok w.drew:=
 j.change (fun _=>False) rfl rfl rfl (EG _) (fun _ _ _=>rfl) (fun _ h=>h.elim) (fun _ h=>h) (fun _ h=>.inl h) (.refl _) j.hlen fun _ _ _ m q=>.inl ⟨m,q,fun _ _ _ h=>h⟩
def Ez.dead {ok:Nat→Prop} {w:World} {H:List Bj} {h:Bj}:Ez ok w H h .dead:=trivial
def R.akg {ok:Nat→Prop} {w:World} {H:List Bj} {x:Ag} {v:Value} (h:R ok w H x v) (hl:x.cells.all Ag.leaf=true):G8 ok w H x.cells v.cells.toList:=by
 rw[Ea]at hl;cases h with
 |d x v h=>
  cases h with
  |agg cs vs hs J M=>
   refine⟨by simp[Ag.cells,D.cells,Value.cells,hs],fun i hi=>?_⟩;simp only[Ag.cells,D.cells,Cm]at hi;have O:(Ag.cells (.d (.agg cs))).getD i .junk=.d (cs.getD i Dp):=by simp[Ag.cells,D.cells,List.getD,hi]
   have u:i<vs.size:=AB
   have L:(Value.cells (.agg vs)).toList.getD i undef=vs.getD i undef:=aaq
   rw[O,L];exact⟨J i hi,.d _ _ (M i hi)⟩
  |lit v=>
   have m:=hl (.d (.lit v)) (by simp[Ag.cells,D.cells]);have e:v.cells= #[v]:=by cases v<;>first|rfl|(simp[Ag.leaf,D.leaf,Value.oneCell']at m)
   refine⟨by simp[Ag.cells,D.cells,e],fun i hi=>?_⟩;simp[Ag.cells,D.cells]at hi;subst hi;rw[e];exact⟨m,.d _ _ (.lit v)⟩
  |sl0 ad cap=>
   refine⟨rfl,fun i hi=>?_⟩;simp[Ag.cells,D.cells]at hi;subst hi;exact⟨rfl,.d _ _ (.sl0 ad cap)⟩
  |sl es b off cap size m q z I U Y=>
   refine⟨rfl,fun i hi=>?_⟩;simp[Ag.cells,D.cells]at hi;subst hi;exact⟨rfl,.d _ _ (.sl es b off cap size m q z I U Y)⟩
  |ref cs off b o m q z I=>
   refine⟨rfl,fun i hi=>?_⟩;simp[Ag.cells,D.cells]at hi;subst hi;exact⟨rfl,.d _ _ (.ref cs off b o m q z I)⟩
  |fn f first cap vs us m q z I=>
   refine⟨rfl,fun i hi=>?_⟩;simp[Ag.cells,D.cells]at hi;subst hi;exact⟨rfl,.d _ _ (.fn f first cap vs us m q z I)⟩
  |P7 t x v m=>
   refine⟨rfl,fun i hi=>?_⟩;simp[Ag.cells,D.cells]at hi;subst hi;exact⟨rfl,.d _ _ (.P7 t x v m)⟩
 |ptr k off b s h=>
  exact⟨rfl,fun i hi=>by simp[Ag.cells]at hi;subst hi;exact⟨rfl,.ptr k off b s h⟩⟩
 |aO k ad n cap s h=>
  exact⟨rfl,fun i hi=>by simp[Ag.cells]at hi;subst hi;exact⟨rfl,.aO k ad n cap s h⟩⟩
 |mG k i off b n cap s h=>
  exact⟨rfl,fun j hi=>by simp[Ag.cells]at hi;subst hi;exact⟨rfl,.mG k i off b n cap s h⟩⟩
 |fn f first cap vs us m q z I=>
  exact⟨rfl,fun i hi=>by simp[Ag.cells]at hi;subst hi;exact⟨rfl,.fn f first cap vs us m q z I⟩⟩
 |mp k v s hl h=>
  have e:v.cells= #[v]:=by cases v<;>first|rfl|(simp[Value.oneCell']at hl)
  exact⟨by simp[Ag.cells,e],fun j hi=>by simp[Ag.cells]at hi;subst hi;rw[e];exact⟨rfl,.mp k v s hl h⟩⟩
 |clip xs ad h=>exact⟨rfl,fun i hi=>by simp[Ag.cells]at hi;subst hi;exact⟨rfl,.clip xs ad h⟩⟩
 |xK k ad n cap s h=>exact⟨rfl,fun i hi=>by simp[Ag.cells]at hi;subst hi;exact⟨rfl,.xK k ad n cap s h⟩⟩
 |fP xs vs m q=>have :=hl (.fP xs) (by simp[Ag.cells]);simp[Ag.leaf]at this
 |ag xs vs m J q=>
  refine⟨by simp[Ag.cells,Value.cells,m],fun i hi=>?_⟩;have u:i<vs.size:=by rw[m];exact hi
  have L:(Value.cells (.agg vs)).toList.getD i undef=vs.getD i undef:=aaq
  rw[L];exact⟨J i hi,q i hi⟩
 |junk v=>have :=hl .junk (by simp[Ag.cells]);simp[Ag.leaf]at this
section
variable {P : Program} {o : Oper} {es : List BN}
def aC1 (w:World):∀b,Df (Bj.v ⟨.pointer (some ⟨w.heap.size,0,none⟩),0⟩)=some b→b=w.heap.size:=fun b j=>by simpa[Df]using j.symm
def Bl.eff {ns:List (Operand×Ag)} {x:Ag} {es':List BN}
 (h:∀(C:EW) (ok:Nat→Prop) (H:List Bj) (a:Act) (w:World),DF C ok H es w→(∀n∈ns,R ok w H n.2 (a.eval n.1))→
  ∃v w' ok' H',((execOp a.eval o).run P w=.ok (.value v) w'∨(v=undef∧(execOp a.eval o).run P w=.ok .skip w'))∧Eb ok w ok' w'∧Names H H'∧DF C ok' H' es' w'∧R ok' w' H' x v):Bl P o ns es x es':=by
 intro C ok H a w Q I J;obtain⟨v,w',ok',H',j,m,q,u,z⟩:=h C ok H a w I J;unfold Oper.wp;rcases j with j|⟨rfl,j⟩
 ·rw[j];exact⟨v,ok',H',rfl,m,q,u,z⟩
 rw[j];exact⟨undef,ok',H',rfl,m,q,u,z⟩
def asU {t:TypeId} {x:Operand} {v:Ag} (hl:v.cells.all Ag.leaf=true) (u:o.op=.box t x):Bl P o [(x,v)] es (.ptr es.length 0) (es++[.box v.cells]):=
 .eff fun C ok H a w m z=>by
  have q:=Kv z;simp only at q
  have j:Ez ok (w.alloc (.cells (a.eval x).cells t)) (H++[⟨.pointer (some ⟨w.heap.size,0,none⟩),0⟩]) ⟨.pointer (some ⟨w.heap.size,0,none⟩),0⟩ (.box v.cells):=
   ⟨w.heap.size,(a.eval x).cells,t,rfl,Y1 w _,(q.akg hl).mono (fun b j=>⟨j,KC _ _ _ (m.kW b j)⟩) (Names.push _ _)⟩
  obtain⟨I,J⟩:=m.push (.cells (a.eval x).cells t) ⟨.pointer (some ⟨w.heap.size,0,none⟩),0⟩ _ (aC1 w) j;refine⟨_,_,ok,_,.inl ?_,J,Names.push _ _,I,.ptr _ _ w.heap.size 0 aAx⟩;simp[execOp,u,Instr.box,newVar,newRow]
def Oo :Value→D
 | .slice none 0 0=>.sl []
 |v=>.lit v
def kE {ok:Nat→Prop} {w:World} (v:Value):Dv ok w (Oo v) v:=by
 unfold Oo;split
 ·exact .sl0 none 0
 exact .lit v
def yX {v:Value} (h:v.oneCell'=true):(Oo v).leaf=true:=by
 unfold Oo;split
 ·rfl
 exact h
def Fa (z:Value):List Ag:=z.cells.toList.map fun v=>.d (Oo v)
def asZ {t:TypeId} {z:Value} (q:(P.info? t).bind (·.zero)=some z) (hl:z.cells.all (·.oneCell')=true) (u:o.op=.alloc t):Bl P o [] es (.ptr es.length 0) (es++[.box (Fa z)]):=
 .eff fun C ok H a w m U=>by
  have I:Ez ok (w.alloc (.cells z.cells t)) (H++[⟨.pointer (some ⟨w.heap.size,0,none⟩),0⟩]) ⟨.pointer (some ⟨w.heap.size,0,none⟩),0⟩ (.box (Fa z)):=by
   refine⟨w.heap.size,z.cells,t,rfl,Y1 w _,by simp[Fa],fun i hi=>?_⟩;simp only[Fa,Cm,TB]at hi;have J:(Fa z).getD i .junk=.d (Oo z.cells[i]):=by simp[Fa,List.getD,hi]
   have L:z.cells.toList.getD i undef=z.cells[i]:=ND
   rw[J,L];exact⟨yX ((Qc.1 hl) _ BP),.d _ _ (kE _)⟩
  obtain⟨M,O⟩:=m.push (.cells z.cells t) ⟨.pointer (some ⟨w.heap.size,0,none⟩),0⟩ _ (aC1 w) I;refine⟨_,_,ok,_,.inl ?_,O,Names.push _ _,M,.ptr _ _ w.heap.size 0 aAx⟩;obtain⟨i,hi,j⟩:=jR.1 q;simp[execOp,u,Instr.alloc,zeroValue,typeInfo,hi,j,newVar,newRow]
def NC {l:List BN} {k j:Nat} {a x:BN} (m:k<l.length) (h:(l.set k a)[j]? =some x):(j=k∧x=a)∨(j≠k∧l[j]? =some x):=by
 by_cases e:k=j
 ·subst e;simp[m]at h;exact .inl ⟨rfl,h.symm⟩
 rw[Xp e]at h;exact .inr ⟨fun h'=>e h'.symm,h⟩
def DF.upd {C:EW} {ok:Nat→Prop} {H:List Bj} {w w':World} (L:DF C ok H es w) {k:Nat} {M e:BN} {h:Bj} {b:Nat} (hk:es[k]? =some M) (z:M.live=true) (hh:H[k]? =some h) (hb:Df h.v=some b)
 (hos:w'.os=w.os) (I:w'.tape=w.tape) (O:w'.output=w.output) (hsize:w'.heap.size=w.heap.size)
 (u:∀c,c≠b→w'.heap[c]? =w.heap[c]?) (he:Eb ok w ok w'→Ez ok w' H h e):DF C ok H (es.set k e) w'∧Eb ok w ok w':=by
 have U:=L.blk k M h b hk z hh hb;have hg:Eb ok w ok w':=fun c m=>⟨m,u c (fun e=>U.1 (e▸m))⟩
 refine L.change (fun c=>c=b) hos I O AB (fun c _ m=>u c m) (fun c m _=>by subst m;exact⟨U.1,U.2.2⟩) (fun _ h=>h) (fun _ h=>.inl h) (.refl _) (by simp[L.hlen]) ?_;intro j e' h' hj q;have Y:k<es.length:=(G5.1 hk).1;rcases NC Y hj with⟨rfl,rfl⟩|⟨J,Z⟩
 ·rw[hh]at q;obtain rfl:=D5 q;refine .inr ⟨he hg,fun _ c m=>?_⟩;rw[hb]at m;obtain rfl:=D5 m;refine⟨U.1,AB,U.2.2,fun k' e'' h'' J hk' hl' aGr aGs=>J ?_⟩;rcases NC Y hk' with⟨rfl,_⟩|⟨_,hk''⟩
  ·rfl
  exact L.Fj k' j e'' M h'' h b hk'' hk hl' z aGr hh aGs hb
 refine .inl ⟨Z,q,fun hl c m hcb=>J ?_⟩;subst hcb;exact L.Fj j k e' M h' h c Z hk hl z q hh m hb
def aN4 (w:World) (g:Nat) (cs:Array Value) (k:Nat) (h:k≠g):(w.setRow g cs).heap[k]? =w.heap[k]? :=setRow_other w g k cs h
def setAt {α:Type} (cs:List α) (off:Nat) (ys:List α):List α:=cs.take off++ys++cs.drop (off+ys.length)
def RU {α:Type} {cs ys:List α} {off:Nat} (h:off+ys.length≤cs.length):(setAt cs off ys).length=cs.length:=by simp[setAt];omega
def Xa {α:Type} {cs ys:List α} {off:Nat} (h:off+ys.length≤cs.length) (i:Nat) (z:α):(setAt cs off ys).getD i z=if off≤i∧i<off+ys.length then ys.getD (i-off) z else cs.getD i z:=by
 unfold setAt;have j:(cs.take off).length=off:=Dz
 by_cases hi:i<off
 ·rw[DL AB];simp only[List.getD];rw[Ht,Gs AB,Nv hi]
 by_cases m:i<off+ys.length
 ·rw[D9 AB];simp only[List.getD];rw[Ht,Jr AB,j,Gs AB]
 rw[DL AB];simp only[List.getD];rw[Jr Dz,QJ];congr 2;simp;omega
def aam {t:TypeId} {x y:Operand} {k off n:Nat} {cs:List Ag} {v:Ag} (hk:es[k]? =some (.box cs)) (hl:v.cells.all Ag.leaf=true) (hs:∀w,(sizeOf t).run P w=.ok n w) (hn:v.cells.length=n) (hle:off+n≤cs.length) (ho:o.op=.store t x y):
 Bl P o [(x,.ptr k off),(y,v)] es .junk (es.set k (.box (setAt cs off v.cells))):=
 .eff fun C ok H a w O z=>by
  have U:=(Ej z).1;have h2:=(Ej z).2;simp only at U h2;generalize he:a.eval x=u at U;obtain⟨h,hh,Y⟩:=Gj O.ent O.hlen hk;obtain⟨b,vs,T,hb,m,I,J⟩:=Y;have j:=h2.akg hl;cases U with
  |ptr _ _ L s hH=>
   rw[hh]at hH;obtain rfl:=D5 hH;simp at hb;subst hb;have q:(a.eval y).cells.toList.length=n:=by rw[j.1,hn]
   have aHg:vs.size=cs.length:=Qr
   have Z:(a.eval y).cells.size=n:=PL
   have hst:=aMk (P:=P) L off T (a.eval y).cells.toList 0 vs w m (by rw[q];omega) (fun u hu=>by
    obtain⟨i,hi,rfl⟩:=Ia hu;have M:=j.2 i (by rw[←j.1];exact hi);have :=M.2.leaf M.1
    rwa [aE2 hi]at this)
   simp only[P5]at hst;have hlt:L<w.heap.size:=(GZ.1 m).1
   obtain⟨h3,h4⟩:=O.upd (e:=.box (setAt cs off v.cells)) (w':=w.setRow L (vs.toList.take off++(a.eval y).cells.toList++vs.toList.drop (off+(a.eval y).cells.toList.length)).toArray) hk rfl hh rfl rfl rfl rfl aNn (fun c hc=>aN4 _ _ _ _ hc) (fun hg=>by
    refine⟨L,_,T,rfl,xY w L vs _ T (0,0) m,?_,fun i hi=>?_⟩
    ·have e1:(vs.toList.take off++(a.eval y).cells.toList++vs.toList.drop (off+(a.eval y).cells.toList.length))=setAt vs.toList off (a.eval y).cells.toList:=rfl;rw[e1,aAl,RU (by have :=vs.length_toList;omega),RU AB];simpa using I
    have e1:(vs.toList.take off++(a.eval y).cells.toList++vs.toList.drop (off+(a.eval y).cells.toList.length))=setAt vs.toList off (a.eval y).cells.toList:=rfl;rw[RU AB]at hi;rw[e1,aAl,Xa (by have :=vs.length_toList;omega),Xa AB,q,hn];split
    ·have M:=j.2 (i-off) AB;exact⟨M.1,M.2.mono hg (.refl _)⟩
    exact⟨(J i hi).1,(J i hi).2.mono hg (.refl _)⟩)
   refine⟨undef,_,ok,H,.inr ⟨rfl,?_⟩,h4,.refl _,h3,.junk _⟩;simp only[execOp,ho,he,Instr.storeAt,Instr.sureAddr,storeVar,FV,GY,Fb,hs,Z,ne_eq,not_true_eq_false,KN,hst]
end
def WM (x:D) (es:List D):flat (x::es)=x.cells.map .d++flat es:=TV
def kZ (xs ys:List D):flat (xs++ys)=flat xs++flat ys:=TV
def RY {size:Nat}:∀{es:List D},(∀x∈es,x.cells.length=size)→(flat es).length=es.length*size
 | [],_=>TV
 |x::es,h=>by
  rw[WM,EP,Cm,h x BP,RY (fun y j=>h y (Gf _ j)),GI,Un,QU]
def flat_get {size:Nat}:∀{es:List D},(∀x∈es,x.cells.length=size)→∀i j,i<es.length→j<size→(flat es).getD (i*size+j) .junk=.d ((es.getD i Dp).cells.getD j Dp)
 | [],_,i,j,hi,_=>OX
 |x::es,h,0,j,_,q=>by
  have m:=h x BP;rw[WM,Nat.zero_mul,JJ];simp only[List.getD];rw[Gs (by simp[m,q])];have u:j<x.cells.length:=AB
  simp[u]
 |x::es,h,i+1,j,hi,q=>by
  have m:=h x BP;have z:=flat_get (fun y I=>h y (Gf _ I)) i j GR q;rw[WM];simp only[List.getD]at z ⊢;rw[Jr (by simp[m,Un];omega)];have e:(i+1)*size+j-(x.cells.map Ag.d).length=i*size+j:=by simp[m,Un];omega
  rw[e,z];simp
section
variable {P : Program} {o : Oper} {es : List BN}
structure Wy (w:World) (v:Value) (m size:Nat) (news:List Value):Prop where
 len:news.length=m*size
 one:∀u∈news,u.oneCell'=true
 at_:(∃ad c,v=.slice (some ad) m c∧∀(j:Nat) (u:Value),news[j]? =some u→w.cell? (ad.add j)=some u)∨(∃c,v=.slice none 0 c∧m=0)
def ZY {ok:Nat→Prop} {w:World} (H:List Bj) {ys:List D} {v:Value} {size:Nat} (h:Dv ok w (.sl ys) v) (hs:∀x∈ys,x.cells.length=size):
 ∃q,Wy w v ys.length size q∧G8 ok w H (flat ys) q:=by
 cases h with
 |sl0 ad cap=>
  refine⟨[],⟨BP,BP,?_⟩,TV,fun i hi=>aI0⟩;cases ad with
  |none=>exact .inr ⟨cap,rfl,rfl⟩
  |some ad=>exact .inl ⟨ad,cap,rfl,fun j u h=>IU⟩
 |sl _ b off cap m hcap hok hs' hf hx hc=>
  by_cases hy:ys=[]
  ·subst hy;refine⟨[],⟨BP,BP,.inl ⟨⟨b,off,none⟩,cap,rfl,fun j u h=>IU⟩⟩,TV,fun i hi=>aI0⟩
  have I:0<ys.length:=jq.2 hy;have hsz:m=size:=by rw[←hs' 0 I];exact hs _ (by simp[List.getD,I])
  subst hsz;have hl:=RY hs
  have key:∀k,k<ys.length*m→∃i j,k=i*m+j∧i<ys.length∧j<m:=by
   intro k z
   have hp:0<m:=by
    rcases Yp m with h0|h0
    ·rw[h0,Nat.mul_zero]at z;omega
    exact h0
   exact⟨k/m,k % m,by rw[Uf];exact(aEk k m).symm,nN (by rwa [Uf]at z),mW _ hp⟩
  let q:List Value:=(List.range (ys.length*m)).map fun k=>cellAt w b (off+k)
  have J:q.length=ys.length*m:=by simp[q]
  have M:∀k,k<ys.length*m→q.getD k undef=cellAt w b (off+k):=by
   intro k z;simp[q,List.getD,z]
  have L:G8 ok w H (flat ys) q:=by
   refine⟨by rw[J,hl],fun k z=>?_⟩;rw[hl]at z;obtain⟨i,j,rfl,hi,O⟩:=key k z;rw[flat_get hs i j hi O,M _ z];exact⟨hf i hi j O,.d _ _ (hc i hi j O)⟩
  refine⟨q,⟨J,fun u hu=>?_,.inl ⟨⟨b,off,none⟩,cap,rfl,fun k u z=>?_⟩⟩,L⟩
  ·obtain⟨k,z,rfl⟩:=Ia hu;have h5:=L.2 k (by rw[←L.1];exact z);have :=h5.2.leaf h5.1
   rwa [aE2 z]at this
  obtain⟨U,rfl⟩:=G5.1 z;rw[addr_add];have Y:k<ys.length*m:=by rw[←J];exact U
  obtain⟨i,j,e,hi,O⟩:=key k Y;have Z:=hx i hi j O;rw[←e]at Z;obtain⟨u',hu'⟩:=TL.1 Z;have :=M k Y;rw[aE2 U]at this;rw[this];simp[cellAt,hu']
structure GN (P:Program) (t e:TypeId) (size bytes:Nat):Prop where
 und:P.underlying t=some (.slice e)
 info:∃i z,P.info? e=some i∧i.zero=some z∧i.size=size∧i.bytes=bytes∧z.cells.size=size
 pos:0<size
def aUT (P:Program) (t e size j:Nat):Bool:=
 (match P.underlying t with |some (.slice e')=>decide (e'=e)|_=>false)&&(match P.info? e with |some i=>decide (i.size=size)&&decide (i.bytes=j)&&(match i.zero with |some z=>decide (z.cells.size=size)|none=>false)|none=>false)&&decide (0<size)
def LX {P:Program} {t e size j:Nat} (h:aUT P t e size j=true):GN P t e size j:=by
 unfold aUT at h;simp only[DT,Gi]at h;obtain⟨⟨m,q⟩,I⟩:=h;refine⟨?_,?_,I⟩
 ·split at m
  ·rename_i e' J;rw[J];simp at m;rw[m]
  cases m
 split at q
 ·rename_i i hi;simp only[DT,Gi]at q;obtain⟨⟨L,M⟩,u⟩:=q;split at u
  ·rename_i z O;exact⟨i,z,hi,O,L,M,MS⟩
  cases u
 cases q
def afA {w:World} {t e:TypeId} {ty:TypeId} {size O:Nat} (hE:GN P t e size O) {v:Value} {n:Nat} {xs:List Value} (L:w.ownsRow 0 e size v n xs) {x:Value} {m:Nat} {I:List Value} (q:Wy w x m size I)
 (hb:(n+m)*O≤140737488355328) (hn:n+m≤maxLen):
 ∃v' w',(Builtin.append_ #[t,t] ty #[v,x]).run P w=.ok v' w'∧w'.ownsRow 0 e size v' (n+m) (xs++I)∧w.grownBy w' v.ownBlock∧(∀g,Df v'=some g→Df v=some g∨w.heap.size≤g):=by
 obtain⟨i,z,hi,hz,hs,Z,hzs⟩:=hE.info;rcases q.at_ with⟨ad,c,rfl,J⟩|⟨c,rfl,rfl⟩
 ·obtain⟨v',w',hr,ho',hg,hnil⟩:=run_append_own (P:=P) w 0 t ty e i z size O hE.und hi hz hs Z hzs hE.pos v n xs L ad m c I q.len J q.one hn hb (El _);refine⟨v',w',hr,ho',hg,fun g U=>?_⟩;rcases L.2 with⟨rfl,rfl⟩|⟨g0,cap,cur,rfl,hbg,hg0,hnc,hcm,hcs,htake⟩
  ·have hx:xs=[]:=H9 (by simpa using L.1);subst hx;obtain⟨v2,w2,M,ho2,_,_⟩:=run_append_own (P:=P) w w.heap.size t ty e i z size O hE.und hi hz hs Z hzs hE.pos _ 0 [] (Rep w w.heap.size e size) ad m c I q.len J q.one hn hb (EG _);rw[hr]at M;simp only[Result.ok.injEq]at M;obtain⟨rfl,rfl⟩:=M;rcases ho2.2 with⟨rfl,_⟩|⟨g',_,_,rfl,hle,_⟩
   ·simp[Df]at U
   simp[Df]at U;subst U;exact .inr hle
  by_cases Y:n+m≤cap
  ·have hfit:n*i.size+I.length≤cur.size:=by rw[q.len,hcs,hs,←Yl];exact Jw _ Y
   have M:=run_append_room (P:=P) w t ty e i hE.und hi g0 n cap cur hg0 ad m c I (by rw[hs];exact q.len) J q.one Y hfit;rw[hr]at M;simp only[Result.ok.injEq]at M;obtain⟨rfl,rfl⟩:=M;exact .inl U
  have holds:∀(j:Nat) (u:Value),xs[j]? =some u→w.cell? ((⟨g0,0,none⟩:Addr).add j)=some u:=L.cells (g:=g0) rfl;have M:=run_append_grow (P:=P) w t ty e i z hE.und hi hz ⟨g0,0,none⟩ n cap xs (by rw[hs];exact L.1) holds ad m c I (by rw[hs];exact q.len) J AB (by unfold maxLen at hn;omega) (growslice_fits AB (by rw[Z];exact hb));rw[hr]at M;simp only[Result.ok.injEq]at M;obtain⟨rfl,rfl⟩:=M;simp[Df]at U;subst U;exact .inr (EG _)
 have hnews:I=[]:=H9 (by simpa using q.len);subst hnews;refine⟨v,w,?_,tZ,⟨rfl,rfl,rfl,EG _,fun _ _ _=>rfl⟩,fun g hg=>.inl hg⟩;rcases L.2 with⟨rfl,rfl⟩|⟨g,cap,cur,rfl,_,_,hnc,_⟩
 ·simp[Builtin.append_,aCq hE.und,sizeOf,typeInfo,hi,Builtin.lenOf,Builtin.firstCells]
 simp[Builtin.append_,aCq hE.und,sizeOf,typeInfo,hi,Builtin.lenOf,Builtin.firstCells,hnc,storeCells]
def aK9 {w:World} {t e:TypeId} {ty:TypeId} {size I:Nat} (hE:GN P t e size I) {v:Value} {n:Nat} {xs:List Value} (u:nO w e size v n xs) {x:Value} {m:Nat} {q:List Value} (j:Wy w x m size q)
 (hb:(n+m)*I≤140737488355328) (hn:n+m≤maxLen):
 ∃v' w',(Builtin.append_ #[t,t] ty #[v,x]).run P w=.ok v' w'∧nO w' e size v' (n+m) (xs++q)∧w.grownBy w' v.ownBlock∧(∀g,Df v'=some g→Df v=some g∨w.heap.size≤g):=by
 rcases u.2 with h|⟨g,cap,U,rfl,h0,hg0,hnc,hcm,hcs,Y⟩
 ·obtain⟨v',w',h1,h2,Z,h4⟩:=afA (ty:=ty) hE ⟨u.1,.inl h⟩ j hb hn;exact⟨v',w',h1,.of h2,Z,h4⟩
 obtain⟨i,z,hi,hz,hs,hby,hzs⟩:=hE.info;have hlen:(xs++q).length=(n+m)*size:=by rw[EP,u.1,j.len,Yl]
 rcases j.at_ with⟨ad,c,rfl,L⟩|⟨c,rfl,rfl⟩
 ·by_cases J:n+m≤cap
  ·have O:n*i.size+q.length≤U.size:=by
    rw[j.len,hs,←Yl];exact F6 (Jw _ J) hcs
   have hr:=run_append_room (P:=P) w t ty e i hE.und hi g n cap U hg0 ad m c q (by rw[hs];exact j.len) L j.one J O;rw[hs]at hr O;refine⟨_,_,hr,⟨hlen,.inr ⟨g,cap,_,rfl,El _,xY w g U _ e _ hg0,J,hcm,?_,?_⟩⟩,⟨rfl,rfl,rfl,BP,fun k _ hk=>setRow_other w g k _ (fun e=>hk (by simp[Value.ownBlock,e]))⟩,fun g' M=>.inl M⟩
   ·simp only[l9,EP,Fr,LP,TB];omega
   rw[Y,←hlen];exact aOf
  obtain⟨v',w',h1,h2,Z⟩:=run_append_arg_grows (P:=P) w t ty e i z size I hE.und hi hz hs hby hzs hE.pos ⟨g,0,none⟩ n cap xs u.1 (u.cells (g:=g) rfl) ad m c q j.len L AB hn hb;refine⟨v',w',h1,.of h2,⟨Z.os,Z.tape,Z.output,Z.size,fun k hk _=>Z.block k hk BP⟩,fun g' M=>.inr ?_⟩;rcases h2.2 with⟨rfl,_⟩|⟨g2,_,_,rfl,hle2,_⟩
  ·simp[Df]at M
  simp[Df]at M;subst M;exact hle2
 have hnews:q=[]:=H9 (by simpa using j.len);subst hnews;refine⟨.slice (some ⟨g,0,none⟩) n cap,w,?_,MS,⟨rfl,rfl,rfl,EG _,fun _ _ _=>rfl⟩,fun g hg=>.inl hg⟩;simp[Builtin.append_,aCq hE.und,sizeOf,typeInfo,hi,Builtin.lenOf,Builtin.firstCells,hnc,storeCells]
def DF.turn {C:EW} {ok:Nat→Prop} {H:List Bj} {w w':World} (m:DF C ok H es w) {k:Nat} {e0 e:BN} {h h':Bj} (hk:es[k]? =some e0) (M:e0.live=true) (hh:H[k]? =some h)
 (hos:w'.os=w.os) (O:w'.tape=w.tape) (hout:w'.output=w.output) (U:w.heap.size≤w'.heap.size)
 (J:∀c,c<w.heap.size→Df h.v≠some c→w'.heap[c]? =w.heap[c]?) (hb':∀g,Df h'.v=some g→g<w'.heap.size∧(Df h.v=some g∨w.heap.size≤g))
 (he:Eb ok w ok w'→Ez ok w' (H++[h']) h' e):DF C ok (H++[h']) (es.set k .dead++[e]) w'∧Eb ok w ok w':=by
 have h0:=fun b hb=>m.blk k e0 h b hk M hh hb;have hkl:k<es.length:=(G5.1 hk).1;have hg:Eb ok w ok w':=fun c I=>⟨I,J c (m.kW c I) (fun e=>(h0 c e).1 I)⟩
 refine m.change (fun c=>Df h.v=some c) hos O hout U J (fun c I _=>⟨(h0 c I).1,(h0 c I).2.2⟩) (fun _ h=>h) (fun _ h=>.inl h) (Names.push _ _) (by simp[m.hlen]) ?_;intro j e' hj' hj u;rcases X4 hj with h1|⟨h1,h2⟩
 ·have hjl:j<H.length:=by rw[m.hlen];simpa using(G5.1 h1).1
  rw[Gs hjl]at u;rcases NC hkl h1 with⟨rfl,rfl⟩|⟨Y,h3⟩
  ·exact .inr ⟨trivial,fun h=>Gh⟩
  refine .inl ⟨h3,u,fun hl c I hcb=>Y ?_⟩;exact m.Fj j k e' e0 hj' h c h3 hk hl M u hh I hcb
 subst h2;have hk2:j=H.length:=by rw[m.hlen];simpa using h1
 subst hk2;simp at u;subst u;refine .inr ⟨he hg,fun _ c I=>?_⟩;obtain⟨h3,q⟩:=hb' c I;refine⟨fun hok=>?_,h3,?_,fun k' e'' h'' Y hk' Z z L=>?_⟩
 ·rcases q with q|q
  ·exact(h0 c q).1 hok
  have :=m.kW c hok;omega
 ·rcases q with q|q
  ·exact(h0 c q).2.2
  exact .inl (F6 m.fr.size q)
 rcases X4 hk' with h5|⟨h5,_⟩
 ·have hkl':k'<H.length:=by rw[m.hlen];simpa using(G5.1 h5).1
  rw[Gs hkl']at z;rcases NC hkl h5 with⟨rfl,rfl⟩|⟨hne',h6⟩
  ·cases Z
  rcases q with q|q
  ·exact hne' (m.Fj k' k e'' e0 h'' h c h6 hk Z M z hh L q)
  have :=(m.blk k' e'' h'' c h6 Z z L).2.1;omega
 simp at h5;exact Y (by rw[h5,m.hlen])
def zK {w:World} {e size n:Nat} {v:Value} {xs:List Value} (h:nO w e size v n xs) {g:Nat} (j:Df v=some g):g<w.heap.size:=by
 rcases h.2 with⟨rfl,_⟩|⟨q,_,_,rfl,_,m,_⟩
 ·simp[Df]at j
 simp[Df]at j;subst j;exact(GZ.1 m).1
def aNZ {w:World} {e size n:Nat} {v:Value} {xs:List Value} (h:nO w e size v n xs):v.ownBlock=Df v:=by
 rcases h.2 with⟨rfl,_⟩|⟨j,_,_,rfl,_⟩<;>rfl
def QE {ok:Nat→Prop} {w:World} {H:List Bj} {k:Nat} {v:Value} {h:Bj} (m:R ok w H (.aO k) v) (q:H[k]? =some h):v=h.v:=by
 cases m with
 |aO _ ad n cap s j=>rw[q]at j;rw[D5 j]
def ajM {C:EW} {ok:Nat→Prop} {H:List Bj} {w:World} (Z:DF C ok H es w) {t ty e:TypeId} {size m k:Nat} {xs ys:List D} (hE:GN P t e size m) (hk:es[k]? =some (.arr e size xs))
 {v x:Value} (hv:R ok w H (.aO k) v) {j:List Value} (J:Wy w x ys.length size j) (z:G8 ok w H (flat ys) j) (hys:∀y∈ys,y.cells.length=size) (hb:(xs.length+ys.length)*m≤140737488355328) (hn:xs.length+ys.length≤maxLen):
 ∃v' w' H',(Builtin.append_ #[t,t] ty #[v,x]).run P w=.ok v' w'∧Eb ok w ok w'∧Names H H'∧DF C ok H' (es.set k .dead++[.arr e size (xs++ys)]) w'∧R ok w' H' (.aO es.length) v':=by
 obtain⟨h,hh,hok⟩:=Gj Z.ent Z.hlen hk;obtain rfl:=QE hv hh;obtain⟨h1,h2,E5,u,hrs⟩:=hok;obtain⟨v',w',hr,I,L,M⟩:=aK9 (P:=P) (ty:=ty) hE u J hb hn
 obtain⟨h3,h4⟩:=Z.turn (h':=⟨v',size⟩) (e:=.arr e size (xs++ys)) hk rfl hh L.os L.tape L.output L.size (fun c hc hne=>L.block c hc (by rw[aNZ u];exact fun e=>hne e.symm)) (fun g O=>⟨zK I O,M g O⟩) (fun U=>by
  refine⟨rfl,fun y hy=>?_,E5++j,Qr,?_⟩
  ·rcases Gw.1 hy with h|h
   ·exact h2 y h
   exact hys y h
  have Y:=hrs.mono U (Names.push H [⟨v',size⟩]);have a2:=z.mono U (Names.push H [⟨v',size⟩]);rw[kZ];refine⟨by rw[EP,EP,Y.1,a2.1],fun i hi=>?_⟩;by_cases q:i<(flat xs).length
  ·have e1:(flat xs++flat ys).getD i .junk=(flat xs).getD i .junk:=by simp[List.getD,Gs q]
   have e2:(E5++j).getD i undef=E5.getD i undef:=by simp[List.getD,Gs (by rw[Y.1];exact q:i<E5.length)]
   rw[e1,e2];exact Y.2 i q
  have hi3:i-(flat xs).length<(flat ys).length:=aQ7
  have e1:(flat xs++flat ys).getD i .junk=(flat ys).getD (i-(flat xs).length) .junk:=by simp[List.getD,Jr (Um q)]
  have e2:(E5++j).getD i undef=j.getD (i-(flat xs).length) undef:=by simp[List.getD,Jr (by rw[Y.1];omega:E5.length≤i),Y.1]
  rw[e1,e2];exact a2.2 _ hi3)
 refine⟨v',w',_,hr,h4,Names.push _ _,h3,?_⟩;have hH:(H++[(⟨v',size⟩:Bj)])[es.length]? =some ⟨v',size⟩:=by rw[←Z.hlen];simp
 rcases I.2 with⟨rfl,_⟩|⟨g',c',_,rfl,_⟩
 ·exact .aO _ _ _ _ size hH
 exact .aO _ _ _ _ size hH
def agc {s x:Operand} {t e:TypeId} {size j k:Nat} {xs ys:List D} (hE:GN P t e size j) (O:es[k]? =some (.arr e size xs)) (m:∀y∈ys,y.cells.length=size)
 (U:(xs.length+ys.length)*j≤140737488355328) (Y:xs.length+ys.length≤maxLen) (Z:o.op=.call { callee:=.builtin .append,args:= #[s,x],argTypes:= #[t,t] }):
 Bl P o [(s,.aO k),(x,.d (.sl ys))] es (.aO es.length) (es.set k .dead++[.arr e size (xs++ys)]):=
 .eff fun C ok H a w hm q=>by
  have J:=(Ej q).1;have L:=(Ej q).2;simp only at J L;have z:Dv ok w (.sl ys) (a.eval x):=by cases L with |d _ _ h=>exact h
  obtain⟨M,u,I⟩:=ZY H z m;obtain⟨v',w',H',hr,r1,r2,r3,r4⟩:=ajM (ty:=o.type) hm hE O J u I m U Y;refine⟨v',w',ok,H',.inl ?_,r1,r2,r3,r4⟩;simp[execOp,Z,resolve,invoke,builtin,hr]
def aIP {C:EW} {ok:Nat→Prop} {H:List Bj} {w:World} (m:DF C ok H es w) (e:TypeId) (size:Nat):
 DF C ok (H++[⟨.slice none 0 0,size⟩]) (es++[.arr e size []]) w∧R ok w (H++[⟨.slice none 0 0,size⟩]) (.aO es.length) (.slice none 0 0):=by
 obtain⟨h,_⟩:=m.change (ok':=ok) (w':=w) (H':=H++[⟨.slice none 0 0,size⟩]) (es':=es++[.arr e size []]) (fun _=>False) rfl rfl rfl (EG _) (fun _ _ _=>rfl) (fun _ h=>h.elim) (fun _ h=>h) (fun _ h=>.inl h) (Names.push _ _) (by simp[m.hlen]) (by
  intro k e' h' u j;rcases X4 u with q|⟨q,I⟩
  ·have z:k<H.length:=by rw[m.hlen];exact(G5.1 q).1
   rw[Gs z]at j;exact .inl ⟨q,j,fun _ _ _ h=>h⟩
  subst I;have z:k=H.length:=by rw[m.hlen];exact q
  subst z;simp at j;subst j
  exact .inr ⟨⟨rfl,BP,[],⟨BP,.inl ⟨rfl,rfl⟩⟩,TV,fun i hi=>aI0⟩,fun _ b J=>by simp[Df]at J⟩)
 exact⟨h,.aO _ _ _ _ size aAx⟩
def C9 (e:TypeId) (size:Nat) (j:o.op=.assign (.const (.slice none 0 0))):Bl P o [] es (.aO es.length) (es++[.arr e size []]):=
 .eff fun C ok H a w m _=>by
  obtain⟨q,u⟩:=aIP m e size;exact⟨.slice none 0 0,w,ok,_,.inl aIF,.refl _ _,Names.push _ _,q,u⟩
def atP (j:o.op=.assign (.const (.slice none 0 0))):Bl P o [] es (.d (.sl [])) es:=
 .pure fun _ _ a w _ _ _=>⟨.slice none 0 0,aIF,.d _ _ (.sl0 none 0)⟩
def aea (j:o.op=.move (.const (.slice none 0 0))):Bl P o [] es (.d (.sl [])) es:=
 .pure fun _ _ a w _ _ _=>⟨.slice none 0 0,aIF,.d _ _ (.sl0 none 0)⟩
end
def aWh (off:Nat):∀(vs:List Value) (i:Nat) (cells:Array Value),off+i+vs.length≤cells.size→
 ((vs.zipIdx i).foldl (fun cs (p:Value×Nat)=>cs.setIfInBounds (off+p.2) p.1) cells).toList=setAt cells.toList (off+i) vs
 | [],i,cells,h=>by simp[setAt]
 |v::vs,i,cells,h=>by
  simp only[GI]at h;rw[List.zipIdx_cons,FZ];rw[aWh off vs (i+1) _ Dz];simp only[aJ6];have j:off+i<cells.toList.length:=Dz
  unfold setAt;rw[aQ1,D9 j];have m:(cells.toList.take (off+i)).length=off+i:=Dz
  have q:(List.take (off+i) cells.toList++v::List.drop (off+i+1) cells.toList).take (off+(i+1))=cells.toList.take (off+i)++[v]:=by
   rw[aL4,m,Ql AB];have :off+(i+1)-(off+i)=1:=AB
   rw[this];simp
  have u:(List.take (off+i) cells.toList++v::List.drop (off+i+1) cells.toList).drop (off+(i+1)+vs.length)=cells.toList.drop (off+i+(vs.length+1)):=by
   rw[List.drop_append,m,aEH AB];have :off+(i+1)+vs.length-(off+i)=vs.length+1:=AB
   rw[this];simp[aOq];congr 1;omega
  rw[q,u];simp
def O1 :List (Nat×Operand)→List Ag→List (Operand×Ag)
 |(_,x)::j,v::vs=>(x,v)::O1 j vs
 |_,_=>[]
def Na (place:Nat→Option (Nat×Nat)) (n:Nat):List (Nat×Operand)→List Ag→Bool
 |(i,_)::j,v::vs=>(match place i with |some (off,s)=>decide (v.cells.length=s)&&decide (off+s≤n)&&v.cells.all Ag.leaf|none=>false)&&Na place n j vs
 | [],[]=>true
 |_,_=>false
def KA (place:Nat→Option (Nat×Nat)):List Ag→List (Nat×Operand)→List Ag→List Ag
 |cs,(i,_)::j,v::vs=>KA place (setAt cs ((place i).getD (0,0)).1 v.cells) j vs
 |cs,_,_=>cs
def G8.setAt {ok:Nat→Prop} {w:World} {H:List Bj} {cs ys:List Ag} {vs us:List Value} {off:Nat} (h:G8 ok w H cs vs) (k:G8 ok w H ys us) (j:off+ys.length≤cs.length):G8 ok w H (setAt cs off ys) (setAt vs off us):=by
 refine⟨by rw[RU (by rw[h.1,k.1];exact j),RU j,h.1],fun i hi=>?_⟩;rw[RU j]at hi;rw[Xa j,Xa (by rw[h.1,k.1];exact j),k.1];split
 ·exact k.2 _ AB
 exact h.2 i hi
def zY {ok:Nat→Prop} {w:World} {H:List Bj} {place:Nat→Option (Nat×Nat)} {a:Act}:∀(m:List (Nat×Operand)) (vs:List Ag) (cs:List Ag) (cells:Array Value),G8 ok w H cs cells.toList→Na place cs.length m vs=true→
 (∀n∈O1 m vs,R ok w H n.2 (a.eval n.1))→∃j,Instr.fill place cells (m.map fun p=>(p.1,a.eval p.2))=some j∧G8 ok w H (KA place cs m vs) j.toList
 | [],[],cs,cells,I,_,_=>⟨cells,rfl,I⟩
 | [],_::_,_,_,_,h,_=>by simp[Na]at h
 |_::_,[],_,_,_,h,_=>by simp[Na]at h
 |(i,x)::m,v::vs,cs,cells,I,h,M=>by
  simp only[Na,DT]at h;obtain⟨q,Y⟩:=h;cases J:place i with
  |none=>rw[J]at q;cases q
  |some os=>
   obtain⟨off,s⟩:=os;rw[J]at q;simp only[DT,Gi]at q;obtain⟨⟨h3,h4⟩,Z⟩:=q;have O:G8 ok w H v.cells (a.eval x).cells.toList:=(M (x,v) (by simp[O1])).akg Z;have hsz:(a.eval x).cells.size=s:=by have :=O.1;simp at this;omega
   have U:cells.size=cs.length:=by simpa using I.1
   have u:((a.eval x).cells.zipIdx.foldl (fun cs (p:Value×Nat)=>cs.setIfInBounds (off+p.2) p.1) cells).toList=setAt cells.toList off (a.eval x).cells.toList:=by
    rw[←Array.foldl_toList,Array.toList_zipIdx];exact aWh off (a.eval x).cells.toList 0 cells Dz
   have z:=I.setAt O (off:=off) AB;rw[←u]at z;obtain⟨j,hc,hR⟩:=zY m vs (setAt cs off v.cells) _ z (by rw[RU AB];exact Y) (fun n L=>M n (by simp[O1,L]));refine⟨j,?_,?_⟩
   ·simp only[LC,Instr.fill,J];rw[DL Dz];exact hc
   simp only[KA,J,Nr];exact hR
def RF (z:Value) (n:Nat):List Ag:=(List.range n).map fun k=>(Fa z).getD (k % z.cells.size) .junk
def aok {ok:Nat→Prop} {w:World} {H:List Bj} {z:Value} {n:Nat} (hl:z.cells.all (·.oneCell')=true) (q:0<z.cells.size):G8 ok w H (RF z n) (((Array.range n).map (z.cells[· % z.cells.size]!)).toList):=by
 refine⟨by simp[RF],fun i hi=>?_⟩;have j:i<n:=by simpa[RF]using hi
 have m:i % z.cells.size<z.cells.size:=mW _ q;have u:(RF z n).getD i .junk=.d (Oo z.cells[i % z.cells.size]):=by simp[RF,Fa,List.getD,j,m]
 have I:(((Array.range n).map (z.cells[· % z.cells.size]!)).toList).getD i undef=z.cells[i % z.cells.size]:=by simp[List.getD,j,m]
 rw[u,I];exact⟨yX ((Qc.1 hl) _ BP),.d _ _ (kE _)⟩
def aMj {ok:Nat→Prop} {w:World} {H:List Bj} {z:Value} (hl:z.cells.all (·.oneCell')=true):G8 ok w H (Fa z) z.cells.toList:=by
 refine⟨by simp[Fa],fun i hi=>?_⟩;simp only[Fa,Cm,TB]at hi;have j:(Fa z).getD i .junk=.d (Oo z.cells[i]):=by simp[Fa,List.getD,hi]
 have m:z.cells.toList.getD i undef=z.cells[i]:=ND
 rw[j,m];exact⟨yX ((Qc.1 hl) _ BP),.d _ _ (kE _)⟩
def aPs {P:Program} {w:World}:∀(l:List Field),(∀f∈l,(P.info? f.type).isSome=true)→
 (l.mapM fun f=>(do pure (f.offset,←sizeOf f.type):Sem (Nat×Nat))).run P w=.ok (l.map fun f=>(f.offset,P.cellsOf f.type)) w
 | [],_=>rfl
 |f::l,h=>by
  obtain⟨i,hi⟩:=TL.1 (h f BP);have j:=aPs (P:=P) (w:=w) l (fun g m=>h g (by simp[m]));have hs:(sizeOf f.type).run P w=.ok i.size w:=by simp[sizeOf,typeInfo,hi]
  have q:P.cellsOf f.type=i.size:=by simp[Program.cellsOf,hi]
  simp only[List.mapM_cons,FV,hs,Fb,GY,j,LC,q]
structure JD (P:Program) (t:TypeId) (places:List (Nat×Nat)) (z:Value):Prop where
 fields:∃fs,P.underlying t=some (.struct fs)∧(∀f∈fs.toList,(P.info? f.type).isSome=true)∧(fs.toList.map fun f=>(f.offset,P.cellsOf f.type))=places
 zero:(P.info? t).bind (·.zero)=some z
 one:z.cells.all (·.oneCell')=true
def ac5 (P:Program) (t:TypeId) (j:List (Nat×Nat)):Bool:=
 match P.underlying t with
 |some (.struct m)=>m.toList.all (fun f=>(P.info? f.type).isSome)&&decide ((m.toList.map fun f=>(f.offset,P.cellsOf f.type))=j)
 |_=>false
def MP {P:Program} {t:TypeId} {j:List (Nat×Nat)} {z:Value} (h:ac5 P t j=true) (m:(P.info? t).bind (·.zero)=some z) (q:z.cells.all (·.oneCell')=true):JD P t j z:=by
 unfold ac5 at h;split at h
 ·rename_i u I;simp only[DT,Ea,Gi]at h;exact⟨⟨u,I,h.1,h.2⟩,m,q⟩
 cases h
section
variable {P : Program} {o : Oper} {es : List BN}
def aHu {t:TypeId} {z:Value} (m:(P.info? t).bind (·.zero)=some z) (w:World):(zeroValue t).run P w=.ok z w:=by
 obtain⟨i,hi,j⟩:=jR.1 m;simp[zeroValue,typeInfo,hi,j]
def aUn {l:List Ag} (h:l.all Ag.Bc=true):l=(J8 l).map .d:=by
 rw[Ea]at h;unfold J8;rw[zU]
 conv=>lhs;rw[←List.map_id l]
 refine aAw fun x j=>?_;have :=h x j;cases x<;>first|rfl|(simp[Ag.Bc]at this)
def asR {t:TypeId} {m:Array (Nat×Operand)} {j:List (Nat×Nat)} {z:Value} (Z:JD P t j z) (vs:List Ag) (hp:Na (fun(i:Nat)=>j[i]?) (Fa z).length m.toList vs=true) (ho:o.op=.build t m):
 Bl P o (O1 m.toList vs) es (.ag (KA (fun(i:Nat)=>j[i]?) (Fa z) m.toList vs)) es:=
 .pure fun ok H a w _ _ hn=>by
  obtain⟨⟨U,hu,hf,I⟩,hz,h1⟩:=Z;have J:=aHu (P:=P) hz w;have L:(underlying t).run P w=.ok (.struct U) w:=aCB
  have hm:(U.mapM fun f=>(do pure (f.offset,←sizeOf f.type):Sem (Nat×Nat))).run P w=.ok j.toArray w:=by
   rw[aOy];rw[yg,aPs _ hf,I];rfl
  obtain⟨q,hc,u⟩:=zY (place:=fun(i:Nat)=>j[i]?) m.toList vs (Fa z) z.cells (aMj (ok:=ok) (w:=w) (H:=H) h1) hp hn;refine⟨.agg q,?_,.ag _ _ (by simpa using u.1) (fun i hi=>(u.2 i hi).1) (fun i hi=>?_)⟩
  rotate_left
  ·have Y:=(u.2 i hi).2;have M:i<q.size:=by have :=u.1;simp at this;omega
   have O:q.toList.getD i undef=q.getD i undef:=by simp[List.getD,Array.getD,M]
   rw[O]at Y;exact Y
  have e:(m.map fun(i,x)=>(i,a.eval x)).toList=m.toList.map fun p=>(p.1,a.eval p.2):=BP
  have O:(fun(i:Nat)=>j.toArray[i]?)=(fun(i:Nat)=>j[i]?):=by funext i;simp
  simp only[execOp,ho,Instr.build,FV,J,L,hm,Fb];rw[e,O,hc];rfl
def amW {t:TypeId} {m:Array (Nat×Operand)} {j:List (Nat×Nat)} {z:Value} (hS:JD P t j z) (vs:List Ag) (hp:Na (fun(i:Nat)=>j[i]?) (Fa z).length m.toList vs=true)
 (hd:(KA (fun(i:Nat)=>j[i]?) (Fa z) m.toList vs).all Ag.Bc=true) (ho:o.op=.build t m):
 Bl P o (O1 m.toList vs) es (.d (.agg (J8 (KA (fun(i:Nat)=>j[i]?) (Fa z) m.toList vs)))) es:=
 .pure fun ok H a w _ _ hn=>by
  obtain⟨⟨Z,hu,hf,u⟩,hz,h1⟩:=hS;have I:=aHu (P:=P) hz w;have J:(underlying t).run P w=.ok (.struct Z) w:=aCB
  have hm:(Z.mapM fun f=>(do pure (f.offset,←sizeOf f.type):Sem (Nat×Nat))).run P w=.ok j.toArray w:=by
   rw[aOy];rw[yg,aPs _ hf,u];rfl
  obtain⟨q,hc,L⟩:=zY (place:=fun(i:Nat)=>j[i]?) m.toList vs (Fa z) z.cells (aMj (ok:=ok) (w:=w) (H:=H) h1) hp hn;refine⟨.agg q,?_,.d _ _ ?_⟩
  ·have e:(m.map fun(i,x)=>(i,a.eval x)).toList=m.toList.map fun p=>(p.1,a.eval p.2):=BP
   have e2:(fun(i:Nat)=>j.toArray[i]?)=(fun(i:Nat)=>j[i]?):=by funext i;simp
   simp only[execOp,ho,Instr.build,FV,I,J,hm,Fb];rw[e,e2,hc];rfl
  rw[aUn hd]at L;generalize J8 (KA (fun(i:Nat)=>j[i]?) (Fa z) m.toList vs)=xs at L ⊢;obtain⟨h2,M⟩:=L;simp only[Cm]at h2 M
  have hg:∀i,i<xs.length→(xs.map Ag.d).getD i .junk=.d (xs.getD i Dp):=by
   intro i hi;simp[List.getD,hi]
  have O:q.size=xs.length:=nS
  refine .agg xs q O ?_ ?_<;>intro i hi
  ·have :=(M i hi).1;rw[hg i hi]at this;exact this
  have U:=(M i hi).2;rw[hg i hi]at U;have Y:i<q.size:=AB
  have e:q.toList.getD i undef=q.getD i undef:=by simp[List.getD,Array.getD,Y]
  rw[e]at U;cases U with |d _ _ h=>exact h
def amU {ok:Nat→Prop} {w:World} {H:List Bj} {ys:List D} {size b:Nat} {cells:Array Value} {e:TypeId} {fr:Nat×Nat} (q:∀y∈ys,y.cells.length=size) (M:w.heap[b]? =some (.cells cells e fr)) (u:ok b) (z:G8 ok w H (flat ys) cells.toList):
 Dv ok w (.sl ys) (.slice (some ⟨b,0,none⟩) ys.length ys.length):=by
 have hl:=RY q;have I:cells.size=ys.length*size:=by have :=z.1;simp at this;omega
 have O:∀i,i<ys.length→ys.getD i Dp∈ys:=fun i hi=>ND
 have J:∀i j,i<ys.length→j<size→i*size+j<ys.length*size:=by
  intro i j hi m
  calc i*size+j<i*size+size:=AB
   _=(i+1)*size:=by rw[Un]
   _≤ys.length*size:=Jw _ hi
 have L:∀i j,i<ys.length→j<size→w.cell? ⟨b,0+(i*size+j),none⟩=some (cells.toList.getD (i*size+j) undef):=by
  intro i j hi m;have :=J i j hi m;rw[JJ];simp[World.cell?,M,I,this,List.getD]
 refine .sl ys b 0 ys.length size (EG _) (fun _ _=>u) (fun i hi=>q _ (O i hi)) (fun i hi j m=>?_) (fun i hi j m=>?_) (fun i hi j m=>?_)
 ·have :=(z.2 (i*size+j) (by rw[hl];exact J i j hi m)).1;rw[flat_get q i j hi m]at this;exact this
 ·rw[L i j hi m];rfl
 have :=(z.2 (i*size+j) (by rw[hl];exact J i j hi m)).2;rw[flat_get q i j hi m]at this;unfold cellAt;rw[L i j hi m];cases this with |d _ _ h=>exact h
def aaj {t e:TypeId} {size q len:Nat} {z:Value} (hE:GN P t e size q) (hz:(P.info? e).bind (·.zero)=some z) (h1:z.cells.all (·.oneCell')=true) (U:z.cells.size=size) (hlen:len*size≤16777216) {j:Array (Nat×Operand)} {vs:List Ag}
 (hp:Na (fun i=>some (i*size,size)) (len*size) j.toList vs=true) {ok:Nat→Prop} {w:World} {H:List Bj} {a:Act} (hn:∀n∈O1 j.toList vs,R ok w H n.2 (a.eval n.1)):
 ∃cells,(Instr.buildSlice t len (j.map fun(i,x)=>(i,a.eval x))).run P w=.ok (.slice (some ⟨w.heap.size,0,none⟩) len len) (w.alloc (.cells cells e))∧G8 ok w H (KA (fun i=>some (i*size,size)) (RF z (len*size)) j.toList vs) cells.toList:=by
 obtain⟨i,z',hi,_,hs,_,_⟩:=hE.info;have Y:=aHu (P:=P) hz w;have u:(sizeOf e).run P w=.ok size w:=aLa
 have I:(underlying t).run P w=.ok (.slice e) w:=aOK
 have e0:(j.map fun(i,x)=>(i,a.eval x)).toList=j.toList.map fun p=>(p.1,a.eval p.2):=BP
 have Z:(RF z (len*size)).length=len*size:=by simp[RF]
 have J:0<z.cells.size:=by rw[U];exact hE.pos
 obtain⟨m,hc,hR⟩:=zY (place:=fun i=>some (i*size,size)) j.toList vs (RF z (len*size)) _ (aok (ok:=ok) (w:=w) (H:=H) (n:=len*size) h1 J) (by rw[Z];exact hp) hn;refine⟨m,?_,hR⟩;have L:¬(len*size>2^24):=AB
 by_cases M:len*size=0
 ·have hr0:(Array.range (len*size)).map (fun k=>(z.cells[k % z.cells.size]! :Value))= #[]:=by rw[M];simp
  rw[hr0]at hc;have O:(Array.range (len*size)).map (fun k=>((#[]:Array Value)[k % (#[]:Array Value).size]! :Value))= #[]:=by rw[M];simp
  simp only[Instr.buildSlice,FV,I,Fb,u,L,KN,Sem.run_ite,M,Jv,GY];simp only[M]at O;rw[O,e0,hc];rfl
 simp only[Instr.buildSlice,FV,I,Fb,u,L,KN,Sem.run_ite,M,Y,GY];rw[e0,hc];rfl
def abg {t e:TypeId} {size m len:Nat} {z:Value} (hE:GN P t e size m) (M:(P.info? e).bind (·.zero)=some z) (O:z.cells.all (·.oneCell')=true) (I:z.cells.size=size) (hlen:len*size≤16777216) {j:Array (Nat×Operand)} (vs:List Ag) (ys:List D)
 (U:Na (fun i=>some (i*size,size)) (len*size) j.toList vs=true) (J:KA (fun i=>some (i*size,size)) (RF z (len*size)) j.toList vs=flat ys) (hl:ys.length=len) (q:ys.all (fun y=>decide (y.cells.length=size))=true) (Y:o.op=.buildSlice t len j):
 Bl P o (O1 j.toList vs) es (.d (.sl ys)) es:=
 .eff fun C ok H a w Z hn=>by
  obtain⟨cells,hr,u⟩:=aaj hE M O I hlen U hn;rw[J]at u;obtain⟨h2,L⟩:=Z.fresh (.cells cells e);refine⟨.slice (some ⟨w.heap.size,0,none⟩) len len,_,_,H,.inl ?_,L,.refl _,h2,.d _ _ ?_⟩
  ·simp only[execOp,Y,FV,hr,Fb,GY]
  rw[←hl];exact amU (H:=H) (fun y J=>by rw[Ea]at q;simpa using q y J) (Y1 w _) (.inr rfl) (u.mono L (.refl _))
def aJ4 {t e:TypeId} {size m len:Nat} {z:Value} (hE:GN P t e size m) (hz:(P.info? e).bind (·.zero)=some z) (h1:z.cells.all (·.oneCell')=true) (O:z.cells.size=size) (hlen:len*size≤16777216) {j:Array (Nat×Operand)} (vs:List Ag) (ys:List D)
 (hp:Na (fun i=>some (i*size,size)) (len*size) j.toList vs=true) (U:KA (fun i=>some (i*size,size)) (RF z (len*size)) j.toList vs=flat ys) (hl:ys.length=len) (u:ys.all (fun y=>decide (y.cells.length=size))=true) (ho:o.op=.buildSlice t len j):
 Bl P o (O1 j.toList vs) es (.aO es.length) (es++[.arr e size ys]):=
 .eff fun C ok H a w Y hn=>by
  obtain⟨cells,hr,q⟩:=aaj hE hz h1 O hlen hp hn;rw[U]at q;have I:∀y∈ys,y.cells.length=size:=fun y U=>by rw[Ea]at u;simpa using u y U
  have hfl:=RY I;have J:cells.size=ys.length*size:=by have :=q.1;simp at this;omega
  have L:=hE.pos
  have Z:ys.length≤16777216:=by
   have :ys.length*1≤ys.length*size:=Nat.mul_le_mul_left _ L;rw[hl]at this ⊢;omega
  obtain⟨h2,h3⟩:=Y.push (.cells cells e) ⟨.slice (some ⟨w.heap.size,0,none⟩) len len,size⟩ (.arr e size ys) (fun b M=>by simpa[Df]using M.symm) (by
   refine⟨rfl,I,cells.toList,⟨UZ,.inr ⟨w.heap.size,len,cells,by rw[hl],El _,Y1 w _,AB,aFl,ZW (by rw[J,hl]),?_⟩⟩,?_⟩
   ·rw[Ql Dz]
   exact q.mono (fun b M=>⟨M,KC _ _ _ (Y.kW b M)⟩) (Names.push _ _))
  refine⟨.slice (some ⟨w.heap.size,0,none⟩) len len,_,ok,_,.inl ?_,h3,Names.push _ _,h2,.aO _ _ _ _ size (by rw[←Y.hlen];simp)⟩;simp only[execOp,ho,FV,hr,Fb,GY]
end
section
variable {P : Program} {ops : Array Oper} {Q : Exit → Act → World → Prop} {φ : Nat → Value → World → Prop} {W : World} {a0 : Act} {i : Nat}
variable {d : Option Tmp} {t : TypeId} {p : String} {af : Array Edge} {g : Option (Nat × Bool)}
def Enters (P:Program) (f:FuncId):Prop:=∀args w,(callFunc f args).run P w=.ok (.enter f args) w
def enters_of {f:FuncId} {fn:Func} {c:Code} (m:P.funcs[f]? =some fn) (j:(fn.name== "runtime.NumGoroutine")=false) (q:fn.body=some c):Enters P f:=by
 intro args w;have u:fn.name≠ "runtime.NumGoroutine" :=PO
 simp[callFunc,m,u,q]
def Dn (P:Program) (f:FuncId):Bool:=match P.funcs[f]? with
 |some fn=> !(fn.name== "runtime.NumGoroutine")&&fn.body.isSome
 |none=>false
def Ty {f:FuncId} (h:Dn P f=true):Enters P f:=by
 unfold Dn at h;cases j:P.funcs[f]? with
 |none=>rw[j]at h;cases h
 |some fn=>
  rw[j]at h;simp only[DT,Rn]at h;obtain⟨c,m⟩:=TL.1 h.2;exact enters_of j h.1 m
def yM {o:Oper} {a:Act} {f:FuncId} {ats:Array TypeId} {aHp:Array Operand} (j:o.op=.call { callee:=.value (.func f),args:=aHp,argTypes:=ats }):execOp a.eval o=callFunc f (aHp.map a.eval):=by
 have m:a.eval (.func f)=.func (.func f) #[] #[]:=rfl;unfold execOp;simp[j,resolve,Deferred.ofValue,invoke,m]
end
inductive Dx where
 |ent (k:Nat)
 |nil (size:Nat)
def Dx.hd (H:List Bj):Dx→Bj
 | .ent k=>H.getD k ⟨undef,0⟩
 | .nil s=>⟨.slice none 0 0,s⟩
def Ag.VU (srcs:List Dx) (n:Nat):Ag→Ag
 | .d x=>.d x
 | .ptr k off=>match srcs[k]? with |some (.ent j)=>.ptr j off|some (.nil _)=>.junk|none=>.ptr (n+(k-srcs.length)) off
 | .aO k=>match srcs[k]? with |some (.ent j)=>.aO j|some (.nil _)=>.junk|none=>.aO (n+(k-srcs.length))
 | .mG k i off=>match srcs[k]? with |some (.ent j)=>.mG j i off|some (.nil _)=>.junk|none=>.mG (n+(k-srcs.length)) i off
 | .mp k=>match srcs[k]? with |some (.ent j)=>.mp j|some (.nil _)=>.junk|none=>.mp (n+(k-srcs.length))
 | .xK k=>match srcs[k]? with |some (.ent j)=>.xK j|some (.nil _)=>.junk|none=>.xK (n+(k-srcs.length))
 | .clip xs=>.clip xs
 |_=>.junk
def Ag.up (srcs:List Dx) (n:Nat):Ag→Ag
 | .fP xs=>.fP (xs.map (Ag.VU srcs n))
 | .fn f fi ca=>.fn f (fi.map (Ag.VU srcs n)) (ca.map (Ag.VU srcs n))
 |x=>x.VU srcs n
def aML (srcs:List Dx):Ag→Ag→Prop
 | .d x,y=>y=.d x
 | .ptr k off,y=>∃i,y=.ptr i off∧srcs[i]? =some (.ent k)
 | .mp k,y=>∃i,y=.mp i∧srcs[i]? =some (.ent k)
 |_,_=>False
def wK (srcs:List Dx):List Ag→List Ag→Prop
 |x::xs,y::ys=>aML srcs x y∧wK srcs xs ys
 | [],[]=>True
 |_,_=>False
def qF {srcs:List Dx}:∀{xs ys:List Ag},wK srcs xs ys→xs.length=ys.length
 | [],[],_=>rfl
 |_::xs,_::ys,h=>by simp[qF h.2]
 | [],_::_,h=>h.elim
 |_::_,[],h=>h.elim
def aLF {srcs:List Dx}:∀{xs ys:List Ag},wK srcs xs ys→∀i,i<ys.length→aML srcs (xs.getD i .junk) (ys.getD i .junk)
 | [],[],_,i,hi=>OX
 |_::xs,_::ys,h,0,_=>by simpa using h.1
 |_::xs,_::ys,h,i+1,hi=>by simpa using aLF h.2 i GR
 | [],_::_,h,_,_=>h.elim
 |_::_,[],h,_,_=>h.elim
def aR0 (srcs:List Dx):Ag→Ag→Prop
 | .fn f fi ca,y=>∃j m,y=.fn f j m∧wK srcs fi j∧wK srcs ca m
 | .d x,y=>y=.d x∨(∃i s,x=.lit (.slice none 0 0)∧y=.aO i∧srcs[i]? =some (.nil s))∨(x=.lit (.slice none 0 0)∧y=.d (.sl []))
 | .aO k,y=>∃i,y=.aO i∧srcs[i]? =some (.ent k)
 | .ptr k off,y=>∃i,y=.ptr i off∧srcs[i]? =some (.ent k)
 | .mp k,y=>∃i,y=.mp i∧srcs[i]? =some (.ent k)
 |_,_=>False
def BN.closed:BN→Bool
 | .box cs=>cs.all Ag.Bc
 | .loop .. =>false
 |_=>true
def Ez.any {ok:Nat→Prop} {w:World} {H H2:List Bj} {h:Bj} {e:BN} (m:Ez ok w H h e) (z:e.closed=true):Ez ok w H2 h e:=by
 cases e with
 |dead=>trivial
 |box cs=>
  obtain⟨b,vs,T,I,J,L,u⟩:=m;refine⟨b,vs,T,I,J,L,fun i hi=>⟨(u i hi).1,?_⟩⟩;have q:=(u i hi).2;simp only[BN.closed,Ea]at z;have j:=z (cs.getD i .junk) ND;cases O:cs.getD i .junk with
  |d x=>rw[O]at q;cases q with |d _ _ h=>exact .d _ _ h
  |_=>rw[O]at j;simp[Ag.Bc]at j
 |arr e s es=>
  obtain⟨I,J,xs,L,u,q⟩:=m;refine⟨I,J,xs,L,u,fun i hi=>⟨(q i hi).1,?_⟩⟩;have j:=(q i hi).2;have M:(flat es).getD i .junk∈flat es:=ND
  unfold flat at M ⊢;simp only[TD,FH]at M;obtain⟨x,_,y,_,U⟩:=M;unfold flat at j;rw[←U]at j ⊢;cases j with |d _ _ h=>exact .d _ _ h
 |map es=>exact m
 |gV es=>exact m
 |iter es vis=>exact m
 |loop=>cases z
def BN.up (srcs:List Dx) (n:Nat):BN→BN
 | .box cs=>.box (cs.map (Ag.VU srcs n))
 |e=>e
def Ag.arZ (srcs:List Dx):Ag→Bool
 | .d _=>true
 | .mp k=>match srcs[k]? with |some (.ent _)=>true|_=>false
 | .ptr k _=>match srcs[k]? with |some (.ent _)=>true|_=>false
 |_=>false
def BN.ane (srcs:List Dx):BN→Bool
 | .box cs=>cs.all (Ag.arZ srcs)
 | .loop .. =>false
 |_=>true
def BN.aoW (srcs:List Dx) (n:Nat):BN→Bool
 | .box cs=>cs.all fun x=>x.Bc||(x.VU srcs n).leaf
 | .loop .. =>false
 |_=>true
def BN.aeu (srcs:List Dx) (n:Nat) (e:BN):(e.up srcs n).live=e.live:=by cases e<;>rfl
def adC {srcs:List Dx} {n:Nat} {x:Ag} (h:x.Bc=true):x.VU srcs n=x:=by cases x<;>first|rfl|cases h
def BN.azh {srcs:List Dx} {n:Nat} {e:BN} (h:e.closed=true):e.up srcs n=e:=by
 cases e with
 |box cs=>
  simp only[BN.closed,Ea]at h;show BN.box (cs.map (Ag.VU srcs n))=BN.box cs
  rw[show cs.map (Ag.VU srcs n)=cs from by
   conv=>rhs;rw[←List.map_id cs]
   exact aAw fun x j=>adC (h x j)]
 |_=>rfl
def aaV {srcs:List Dx} {n:Nat}:∀{E:List BN},E.all BN.closed=true→E.map (BN.up srcs n)=E
 | [],_=>rfl
 |e::E,h=>by
  simp only[rC,DT]at h;rw[LC,BN.azh h.1,aaV h.2]
def ah2 {srcs:List Dx} {n:Nat} {e:BN} (h:e.closed=true):e.aoW srcs n=true:=by
 cases e with
 |box cs=>
  simp only[BN.closed,BN.aoW,Ea]at h ⊢;intro x j;rw[h x j];rfl
 |loop=>cases h
 |_=>rfl
def Ez.down {ok:Nat→Prop} {w:World} {H Hc:List Bj} {h:Bj} {srcs:List Dx} {n:Nat} {e:BN} (J:∀(j:Nat) (s:Dx),srcs[j]? =some s→Hc[j]? =some (Dx.hd H s)) (hd:e.ane srcs=true) (u:Ez ok w H h (e.up srcs n)):Ez ok w Hc h e:=by
 cases e with
 |dead=>trivial
 |arr=>exact u.any rfl
 |map=>exact u
 |gV=>exact u
 |iter=>exact u
 |loop=>cases hd
 |box cs=>
  obtain⟨b,vs,T,L,M,O,U⟩:=u;refine⟨b,vs,T,L,M,by rw[O,Cm],fun i hi=>?_⟩;obtain⟨z,q⟩:=U i aNY;rw[V5 _ _ _ hi]at q z;simp only[BN.ane,Ea]at hd;have m:=hd (cs.getD i .junk) ND;generalize cs.getD i .junk=x at q m z ⊢;generalize vs.toList.getD i undef=v at q ⊢;cases x with
  |d x=>exact⟨z,by cases q with |d _ _ h=>exact .d _ _ h⟩
  |mp k=>
   refine⟨rfl,?_⟩;simp only[Ag.arZ]at m;simp only[Ag.VU]at q;cases hs:srcs[k]? with
   |none=>rw[hs]at m;cases m
   |some s=>
    cases s with
    |nil _=>rw[hs]at m;cases m
    |ent j=>
     rw[hs]at q;cases q with
     |mp _ _ s hl I=>
      refine .mp k _ s hl ?_;rw[J k _ hs];simp[Dx.hd,List.getD,I]
  |ptr k off=>
   refine⟨rfl,?_⟩;simp only[Ag.arZ]at m;simp only[Ag.VU]at q;cases hs:srcs[k]? with
   |none=>rw[hs]at m;cases m
   |some s=>
    cases s with
    |nil _=>rw[hs]at m;cases m
    |ent j=>
     rw[hs]at q;cases q with
     |ptr _ _ b s I=>
      refine .ptr k off b s ?_;rw[J k _ hs];simp[Dx.hd,List.getD,I]
  |_=>simp[Ag.arZ]at m
def MQ (srcs:List Dx) (es E':List BN):List BN:=
 (es.zipIdx.map fun(e,j)=>match srcs.findIdx? (fun s=>match s with | .ent k=>k==j| .nil _=>false)with |some i=>(E'.getD i .dead).up srcs es.length|none=>e)++(E'.drop srcs.length).map (BN.up srcs es.length)
def RN (srcs:List Dx) (es E E':List BN):Bool:=
 decide (srcs.length=E.length)&&decide (srcs.length≤E'.length)&&E.all (BN.ane srcs)&&E'.all (BN.aoW srcs es.length)&&
 decide ((srcs.filterMap fun s=>match s with | .ent k=>some k| .nil _=>none).Nodup)&&
 ((srcs.zip E').all fun p=>match p.1 with | .ent _=>true| .nil _=> !p.2.live)&&(srcs.all fun s=>match s with | .ent k=>decide (k<es.length)&&(es.getD k .dead).live| .nil _=>true)
def qW (srcs:List Dx) (es:List BN):List BN→Prop
 |E=>∀(i:Nat) (s:Dx),srcs[i]? =some s→match s with | .ent k=>(E[i]?).map (BN.up srcs es.length)=es[k]? | .nil sz=>∃e,E[i]? =some (.arr e sz [])
def Uo {ok:Nat→Prop} {w:World} {H Hc H':List Bj} {srcs:List Dx} {x:Ag} {v:Value} (M:Hc=srcs.map (Dx.hd H)) (z:∀(i k:Nat),srcs[i]? =some (.ent k)→k<H.length) (O:Names Hc H') (h:R ok w H' x v):R ok w (H++H'.drop srcs.length) (x.VU srcs H.length) v:=by
 have key:∀(k:Nat) (hd:Bj),H'[k]? =some hd→(∀(j:Nat),srcs[k]? =some (.ent j)→(H++H'.drop srcs.length)[j]? =some hd)∧(srcs[k]? =none→(H++H'.drop srcs.length)[H.length+(k-srcs.length)]? =some hd):=by
  intro k hd J;refine⟨fun j L=>?_,fun I=>?_⟩
  ·have u:=z k j L;have q:Hc[k]? =some (H.getD j ⟨undef,0⟩):=by rw[M,JO,L];rfl
   have m:=O _ _ q;rw[J]at m;rw[Gs u];simp[List.getD,u]at m;simp[u,m]
  have U:srcs.length≤k:=Qr
  rw[Jr AB,QJ];have :srcs.length+(H.length+(k-srcs.length)-H.length)=k:=AB
  rw[this,J]
 cases h with
 |d x v h=>exact .d x v h
 |ptr k off b s h=>
  obtain⟨q,m⟩:=key k _ h;simp only[Ag.VU];split<;>rename_i hs
  ·exact .ptr _ off b s (q _ hs)
  ·exact .junk _
  exact .ptr _ off b s (m hs)
 |aO k ad n cap s h=>
  obtain⟨q,m⟩:=key k _ h;simp only[Ag.VU];split<;>rename_i hs
  ·exact .aO _ ad n cap s (q _ hs)
  ·exact .junk _
  exact .aO _ ad n cap s (m hs)
 |mG k i off b n cap s h=>
  obtain⟨q,m⟩:=key k _ h;simp only[Ag.VU];split<;>rename_i hs
  ·exact .mG _ i off b n cap s (q _ hs)
  ·exact .junk _
  exact .mG _ i off b n cap s (m hs)
 |mp k v s hl h=>
  obtain⟨q,m⟩:=key k _ h;simp only[Ag.VU];split<;>rename_i hs
  ·exact .mp _ v s hl (q _ hs)
  ·exact .junk _
  exact .mp _ v s hl (m hs)
 |clip xs ad h=>exact .clip xs ad h
 |xK k ad n cap s h=>
  obtain⟨q,m⟩:=key k _ h;simp only[Ag.VU];split<;>rename_i hs
  ·exact .xK _ ad n cap s (q _ hs)
  ·exact .junk _
  exact .xK _ ad n cap s (m hs)
 |fn f first cap vs us hl Y h h'=>exact .junk _
 |fP xs vs hl h=>exact .junk _
 |ag xs vs hl Z h=>exact .junk _
 |junk v=>exact .junk _
def aTv {ok:Nat→Prop} {w:World} {H Hc H':List Bj} {srcs:List Dx} {x:Ag} {v:Value} (m:Hc=srcs.map (Dx.hd H)) (j:∀(i k:Nat),srcs[i]? =some (.ent k)→k<H.length) (q:Names Hc H') (h:R ok w H' x v):R ok w (H++H'.drop srcs.length) (x.up srcs H.length) v:=by
 cases h with
 |fP xs vs hl h=>exact .fP _ vs Zq (fun i hi=>aS7)
 |ag xs vs hl z h=>exact .junk _
 |d x v h=>exact Uo m j q (.d x v h)
 |ptr k off b s h=>exact Uo m j q (.ptr k off b s h)
 |aO k ad n cap s h=>exact Uo m j q (.aO k ad n cap s h)
 |mG k i off b n cap s h=>exact Uo m j q (.mG k i off b n cap s h)
 |mp k v s hl h=>exact Uo m j q (.mp k v s hl h)
 |clip xs ad h=>exact Uo m j q (.clip xs ad h)
 |xK k ad n cap s h=>exact Uo m j q (.xK k ad n cap s h)
 |fn f first cap vs us hl u h h'=>exact .fn f _ _ vs us Zq (by simp[u]) (fun i hi=>aS7) (fun i hi=>by rw[Cm]at hi;rw[V5 _ _ _ hi];exact Uo m j q (h' i hi))
 |junk v=>exact .junk _
def Ez.upw {ok:Nat→Prop} {w:World} {H Hc H':List Bj} {h:Bj} {srcs:List Dx} {n:Nat} {e:BN} (z:Hc=srcs.map (Dx.hd H)) (q:∀(i k:Nat),srcs[i]? =some (.ent k)→k<H.length) (I:Names Hc H') (hl:H.length=n) (u:e.aoW srcs n=true) (j:Ez ok w H' h e):
 Ez ok w (H++H'.drop srcs.length) h (e.up srcs n):=by
 cases e with
 |dead=>trivial
 |arr=>exact j.any rfl
 |map=>exact j
 |gV=>exact j
 |iter=>exact j
 |loop=>cases u
 |box cs=>
  obtain⟨b,vs,T,J,L,M,O⟩:=j;refine⟨b,vs,T,J,L,by rw[M,Cm],fun i hi=>?_⟩;rw[Cm]at hi;obtain⟨U,Y⟩:=O i hi;simp only[BN.aoW,Ea]at u;have m:=u (cs.getD i .junk) ND;rw[V5 _ _ _ hi];refine⟨?_,by have :=Uo z q I Y;rwa [hl]at this⟩;rcases Bool.or_eq_true_iff.1 m with m|m
  ·rw[adC m];exact U
  exact m
def FX :List Operand→List Ag→List (Operand×Ag)
 |x::xs,v::vs=>(x,v)::FX xs vs
 |_,_=>[]
def NV (srcs:List Dx):List Ag→List Ag→Prop
 |x::xs,y::ys=>aR0 srcs x y∧NV srcs xs ys
 | [],[]=>True
 |_,_=>False
def aTW {srcs:List Dx}:∀{xs ys:List Ag},NV srcs xs ys→xs.length=ys.length
 | [],[],_=>rfl
 |_::xs,_::ys,h=>by simp[aTW h.2]
 | [],_::_,h=>h.elim
 |_::_,[],h=>h.elim
def aqD {srcs:List Dx} {ops:List Operand}:∀{xs ys:List Ag},ops.length=xs.length→NV srcs xs ys→∀i,i<ys.length→∃o x,ops[i]? =some o∧(o,x)∈FX ops xs∧aR0 srcs x (ys.getD i .junk):=by
 induction ops with
 |nil=>
  intro xs ys hl h i hi;cases xs with
  |nil=>cases ys with |nil=>simp at hi|cons _ _=>exact h.elim
  |cons _ _=>simp at hl
 |cons o ops j=>
  intro xs ys hl h i hi;cases xs with
  |nil=>simp at hl
  |cons x xs=>
   cases ys with
   |nil=>exact h.elim
   |cons y ys=>
    cases i with
    |zero=>exact⟨o,x,rfl,by simp[FX],h.1⟩
    |succ i=>
     obtain⟨m,q,u,z,I⟩:=j NP h.2 i GR;exact⟨m,q,MS,by simp[FX,z],Qr⟩
def anv {srcs:List Dx} {H:List Bj} {b:Nat}:b∈(srcs.filterMap fun s=>match s with | .ent k=>Df (H.getD k ⟨undef,0⟩).v| .nil _=>none)↔∃k,.ent k∈srcs∧Df (H.getD k ⟨undef,0⟩).v=some b:=by
 rw[TK];constructor
 ·rintro⟨s,hs,h⟩;cases s with
  |ent k=>exact⟨k,hs,h⟩
  |nil _=>cases h
 rintro⟨k,hs,h⟩;exact⟨_,hs,h⟩
section
variable {P : Program} {o : Oper} {es : List BN}
def aQJ :∀{srcs:List Dx},(srcs.filterMap fun s=>match s with | .ent k=>some k| .nil _=>none).Nodup→∀(i j k:Nat),srcs[i]? =some (.ent k)→srcs[j]? =some (.ent k)→i=j
 | [],_,i,j,k,h,_=>IU
 |s::srcs,q,i,j,k,hi,u=>by
  have m:∀(n:Nat),srcs[n]? =some (.ent k)→k∈srcs.filterMap fun s=>match s with | .ent k=>some k| .nil _=>none:=fun n h=>by
   rw[TK];exact⟨_,XE h,rfl⟩
  have z:(srcs.filterMap fun s=>match s with | .ent k=>some k| .nil _=>none).Nodup:=by
   cases s with
   |ent k'=>simp only[QD]at q;exact(MJ.1 q).2
   |nil _=>simpa only[QD]using q
  match i,j with
  |0,0=>rfl
  |0,j+1=>
   simp at hi u;subst hi;simp only[QD]at q;exact absurd (m j u) (MJ.1 q).1
  |i+1,0=>
   simp at hi u;subst u;simp only[QD]at q;exact absurd (m i hi) (MJ.1 q).1
  |i+1,j+1=>rw[aQJ z i j k GR MS]
def acY {f:FuncId} {C:EW} {ok:Nat→Prop} {H:List Bj} {w:World} (Y:DF C ok H es w) (srcs:List Dx) {eG fZ:List Ag} {E E':List BN} {res:Ag} (hr:Ah P f fZ E res E')
 (hb:RN srcs es E E'=true) (hE:qW srcs es E) (ha:NV srcs eG fZ) {ops:List Operand} (hl:ops.length=eG.length) {a:Act} (hn:∀n∈FX ops eG,R ok w H n.2 (a.eval n.1)):
 Calls P f (ops.map a.eval).toArray w fun e w'=>∃v ok' H',e=.returned v∧Eb ok w ok' w'∧Names H H'∧DF C ok' H' (MQ srcs es E') w'∧R ok' w' H' (res.up srcs es.length) v:=by
 unfold RN at hb;simp only[DT,Gi,Ea]at hb;obtain⟨⟨⟨⟨⟨⟨hb1,hb2⟩,hb3⟩,hb4⟩,hb5⟩,hb6⟩,hb7⟩:=hb;have hidx:=aQJ hb5
 let Hc:=srcs.map (Dx.hd H)
 let X:=srcs.filterMap fun s=>match s with | .ent k=>Df (H.getD k ⟨undef,0⟩).v| .nil _=>none
 have hX:∀b,b∈X↔∃k,.ent k∈srcs∧Df (H.getD k ⟨undef,0⟩).v=some b:=fun b=>anv
 have O:∀(i k:Nat),srcs[i]? =some (.ent k)→k<es.length∧(es.getD k .dead).live=true:=by
  intro i k hi;have :=hb7 _ (XE hi);simpa using this
 have hlt:∀(i k:Nat),srcs[i]? =some (.ent k)→k<H.length:=fun i k hi=>by rw[Y.hlen];exact(O i k hi).1
 have hHk:∀(k:Nat),k<H.length→H[k]? =some (H.getD k ⟨undef,0⟩):=fun k hk=>by simp[List.getD,hk]
 have aoX:∀(k:Nat),k<es.length→es[k]? =some (es.getD k .dead):=fun k hk=>by simp[List.getD,hk]
 have J:∀b,b∈X→∃(i k:Nat),srcs[i]? =some (.ent k)∧Df (H.getD k ⟨undef,0⟩).v=some b∧¬ok b∧b<w.heap.size∧(C.w0.heap.size≤b∨b∈C.X):=by
  intro b hb;obtain⟨k,hk,hbk⟩:=(hX b).1 hb;obtain⟨i,hi,L⟩:=Ia hk;have hi':srcs[i]? =some (.ent k):=by simp[hi,L]
  have :=Y.blk k _ _ b (aoX k (O i k hi').1) (O i k hi').2 (hHk k (hlt i k hi')) hbk;exact⟨i,k,hi',hbk,this⟩
 have hmc:DF ⟨w,ok,X,Hc⟩ ok Hc E w:=by
  refine⟨.refl _ _,fun _ h=>h,fun _ h=>.inl h,Y.kW,.refl _,by simp[Hc,hb1],?_,?_,?_⟩
  ·intro i e h L z;have hi:i<srcs.length:=aP4
   have hcl:e.ane srcs=true:=hb3 e (XE L);have aGt:∀(j:Nat) (s:Dx),srcs[j]? =some s→Hc[j]? =some (Dx.hd H s):=fun j s hs=>by simp[Hc,hs]
   have hs:srcs[i]? =some srcs[i]:=Qy
   have hd:=hE i _ hs;simp only[Hc,JO,hs,Ic,MK]at z;cases hsi:srcs[i]with
   |ent k=>
    rw[hsi]at hd z hs;simp only[Dx.hd]at z;subst z;simp only at hd;rw[L,Ic]at hd;exact Ez.down aGt hcl (Y.ent k _ _ hd.symm (hHk k (hlt i k hs)))
   |nil sz=>
    rw[hsi]at hd z;simp only[Dx.hd]at z;subst z;obtain⟨e',he'⟩:=hd;rw[L]at he';obtain rfl:=D5 he';exact⟨rfl,BP,[],⟨BP,.inl ⟨rfl,rfl⟩⟩,TV,fun i hi=>aI0⟩
  ·intro i e h b L I z q;have hi:i<srcs.length:=aP4
   have hs:srcs[i]? =some srcs[i]:=Qy
   simp only[Hc,JO,hs,Ic,MK]at z;cases hsi:srcs[i]with
   |ent k=>
    rw[hsi]at z hs;simp only[Dx.hd]at z;subst z;have hbX:b∈X:=(hX b).2 ⟨k,XE hs,q⟩;obtain⟨_,_,_,_,M,U,_⟩:=J b hbX;exact⟨M,U,.inr hbX⟩
   |nil sz=>
    rw[hsi]at z;simp only[Dx.hd]at z;subst z;simp[Df]at q
  intro i j e e' h h' b L he' I Z z hh' q alZ;have hi:i<srcs.length:=aP4
  have hj:j<srcs.length:=by rw[hb1];exact(G5.1 he').1
  have hs:srcs[i]? =some srcs[i]:=Qy
  have hs':srcs[j]? =some srcs[j]:=by simp[hj]
  simp only[Hc,JO,hs,Ic,MK]at z;simp only[Hc,JO,hs',Ic,MK]at hh';cases hsi:srcs[i]with
  |nil sz=>rw[hsi]at z;simp only[Dx.hd]at z;subst z;simp[Df]at q
  |ent k=>
   cases hsj:srcs[j]with
   |nil sz=>rw[hsj]at hh';simp only[Dx.hd]at hh';subst hh';simp[Df]at alZ
   |ent k'=>
    rw[hsi]at z hs;rw[hsj]at hh' hs';simp only[Dx.hd]at z hh';subst z;subst hh';have hkk:=Y.Fj k k' _ _ _ _ b (aoX k (O i k hs).1) (aoX k' (O j k' hs').1) (O i k hs).2 (O j k' hs').2 (hHk k (hlt i k hs)) (hHk k' (hlt j k' hs')) q alZ;subst hkk;exact hidx i j k hs hs'
 have hargs:∀i,i<fZ.length→R ok w Hc (fZ.getD i .junk) ((ops.map a.eval).toArray.getD i undef):=by
  intro i hi;obtain⟨op,x,ho,hmem,harg⟩:=aqD hl ha i hi;have hR:=hn _ hmem
  have e:(ops.map a.eval).toArray.getD i undef=a.eval op:=by
   obtain⟨M,U⟩:=G5.1 ho;simp[Array.getD,M,U]
  rw[e];simp only at hR;generalize fZ.getD i .junk=y at harg ⊢;generalize a.eval op=u at hR ⊢;have hHc:∀(j:Nat) (s:Dx),srcs[j]? =some s→Hc[j]? =some (Dx.hd H s):=fun j s hs=>by simp[Hc,hs]
  cases x with
  |d x=>
   rcases harg with rfl|⟨j,s,rfl,rfl,hs⟩|⟨rfl,rfl⟩
   ·cases hR with |d _ _ h=>exact .d _ _ h
   ·have :=hR.lit;rw[this];exact .aO j none 0 0 s (hHc j _ hs)
   have :=hR.lit;rw[this];exact .d _ _ (.sl0 none 0)
  |aO k=>
   obtain⟨j,rfl,hs⟩:=harg;cases hR with
   |aO _ ad n cap s hH=>
    refine .aO j ad n cap s ?_;rw[hHc j _ hs];simp[Dx.hd,List.getD,hH]
  |ptr k off=>
   obtain⟨j,rfl,hs⟩:=harg;cases hR with
   |ptr _ _ b s hH=>
    refine .ptr j off b s ?_;rw[hHc j _ hs];simp[Dx.hd,List.getD,hH]
  |mp k=>
   obtain⟨j,rfl,hs⟩:=harg;cases hR with
   |mp _ _ s hl hH=>
    refine .mp j _ s hl ?_;rw[hHc j _ hs];simp[Dx.hd,List.getD,hH]
  |fn f fi ca=>
   obtain⟨fi',ca',rfl,M,U⟩:=harg
   have one:∀(x y:Ag) (v:Value),aML srcs x y→R ok w H x v→R ok w Hc y v:=by
    intro x y v hxy hx;cases x with
    |d x=>obtain rfl:=hxy;cases hx with |d _ _ h=>exact .d _ _ h
    |mp k=>
     obtain⟨j,rfl,hs⟩:=hxy;cases hx with
     |mp _ _ s hl hH=>
      refine .mp j _ s hl ?_;rw[hHc j _ hs];simp[Dx.hd,List.getD,hH]
    |ptr k off=>
     obtain⟨j,rfl,hs⟩:=hxy;cases hx with
     |ptr _ _ b s hH=>
      refine .ptr j off b s ?_;rw[hHc j _ hs];simp[Dx.hd,List.getD,hH]
    |_=>exact hxy.elim
   cases hR with
   |fn _ _ _ vs us hl1 hl2 h3 h4=>
    refine .fn f fi' ca' vs us (by rw[hl1,qF M]) (by rw[hl2,qF U]) (fun i hi=>?_) (fun i hi=>?_)
    ·exact one _ _ _ (aLF M i hi) (h3 i (by rw[qF M];exact hi))
    exact one _ _ _ (aLF U i hi) (h4 i (by rw[qF U];exact hi))
  |_=>exact harg.elim
 refine(hr ok X Hc w _ hmc (by simp[hl,aTW ha]) hargs).mono ?_;rintro e w' ⟨v,ok',H',rfl,m,hR⟩;have hgr:Eb ok w ok' w':=fun b hb=>⟨m.yZ b hb,m.fr.block b (Y.kW b hb) (fun hbX=>by obtain⟨_,_,_,_,M,_⟩:=J b hbX;exact M hb)⟩
 have aHf:srcs.length≤H'.length:=by rw[m.hlen];exact hb2
 refine⟨v,ok',H++H'.drop srcs.length,rfl,hgr,Names.push _ _,?_,by have :=aTv rfl hlt m.names hR;rwa [Y.hlen]at this⟩
 let idx:Nat→Option Nat:=fun j=>srcs.findIdx? (fun s=>match s with | .ent k=>k==j| .nil _=>false)
 have aFu:∀(j i:Nat),idx j=some i→srcs[i]? =some (.ent j):=by
  intro j i h;simp only[idx,acX]at h;obtain⟨M,U,_⟩:=h;have :srcs[i]? =some srcs[i]:=by simp[M]
  cases hs:srcs[i]with
  |ent k=>rw[hs]at U this;simp at U;rw[this,U]
  |nil _=>rw[hs]at U;simp at U
 have aFv:∀(j:Nat),idx j=none→∀(i:Nat),srcs[i]? ≠some (.ent j):=by
  intro j h i hi;simp only[idx,List.findIdx?_eq_none_iff]at h;have :=h _ (XE hi);simp at this
 have hlow:∀(j:Nat),j<es.length→(MQ srcs es E')[j]? =some (match idx j with |some i=>(E'.getD i .dead).up srcs es.length|none=>es.getD j .dead):=by
  intro j hj;unfold MQ;rw[Gs (by simpa using hj)];simp only[JO,List.getElem?_zipIdx,aoX j hj,Ic,JJ];rfl
 have aEh:(MQ srcs es E').length=es.length+(E'.length-srcs.length):=by simp[MQ]
 have hhigh:∀(j:Nat),es.length≤j→(MQ srcs es E')[j]? =(E'[srcs.length+(j-es.length)]?).map (BN.up srcs es.length):=by
  intro j hj;unfold MQ;rw[Jr (by simpa using hj),JO,QJ];simp
 have aFw:∀(j:Nat),j<es.length→(H++H'.drop srcs.length)[j]? =H[j]? :=fun j hj=>Gs (by rw[Y.hlen];exact hj)
 have aEi:∀(j:Nat),es.length≤j→(H++H'.drop srcs.length)[j]? =H'[srcs.length+(j-es.length)]? :=by
  intro j hj;rw[Jr (by rw[Y.hlen];exact hj),QJ,Y.hlen]
 have hcls:∀(j:Nat) (e:BN) (h:Bj),(MQ srcs es E')[j]? =some e→e.live=true∨True→(H++H'.drop srcs.length)[j]? =some h→
  (∃(i:Nat) (e0:BN),e=e0.up srcs es.length∧E'[i]? =some e0∧H'[i]? =some h∧((j<es.length∧srcs[i]? =some (.ent j))∨(es.length≤j∧i=srcs.length+(j-es.length))))∨(j<es.length∧es[j]? =some e∧H[j]? =some h∧∀(i:Nat),srcs[i]? ≠some (.ent j)):=by
  intro j e h L _ z;by_cases hj:j<es.length
  ·rw[hlow j hj]at L;rw[aFw j hj]at z;cases hi:idx j with
   |none=>
    rw[hi]at L;simp only[MK]at L;exact .inr ⟨hj,by rw[aoX j hj,L],z,aFv j hi⟩
   |some i=>
    rw[hi]at L;simp only[MK]at L;have hs:=aFu j i hi;have hil:i<srcs.length:=(G5.1 hs).1;have hiE:i<E'.length:=AB
    refine .inl ⟨i,_,L.symm,by simp[List.getD,hiE],?_,.inl ⟨hj,hs⟩⟩;refine m.names i h ?_;simp only[Hc,JO,hs,Ic,Dx.hd];simp[List.getD,z]
  rw[hhigh j AB]at L;rw[aEi j AB]at z;rw[VL]at L;obtain⟨e0,L,rfl⟩:=L;exact .inl ⟨_,_,rfl,L,z,.inr ⟨AB,rfl⟩⟩
 have hold:∀(j:Nat) (e:BN) (h:Bj) (b:Nat),es[j]? =some e→H[j]? =some h→(∀(i:Nat),srcs[i]? ≠some (.ent j))→e.live=true→Df h.v=some b→b<w.heap.size∧b∉X∧¬ok b∧(C.w0.heap.size≤b∨b∈C.X):=by
  intro j e h b L z hno I q;have M:=Y.blk j e h b L I z q;refine⟨M.2.1,fun hbX=>?_,M.1,M.2.2⟩;obtain⟨i,k,hs,hbk,_⟩:=J b hbX;have :=Y.Fj j k e _ h _ b L (aoX k (O i k hs).1) I (O i k hs).2 z (hHk k (hlt i k hs)) q hbk;subst this;exact hno i hs
 have aoY:∀(i:Nat) (e:BN) (h:Bj) (b:Nat),E'[i]? =some e→H'[i]? =some h→e.live=true→Df h.v=some b→¬ok' b∧b<w'.heap.size∧(w.heap.size≤b∨b∈X):=fun i e h b L z I q=>m.blk i e h b L I z q;refine⟨⟨m.fr.os.trans Y.fr.os,m.fr.tape.trans Y.fr.tape,m.fr.output.trans Y.fr.output,F6 Y.fr.size m.fr.size,fun k hk hx=>?_⟩,fun b hb=>m.yZ b (Y.yZ b hb),?_,m.kW,Y.names.trans (Names.push _ _),?_,?_,?_,?_⟩
 ·have hkw:k<w.heap.size:=Vr hk Y.fr.size
  rw[m.fr.block k hkw (fun hkX=>by
   obtain⟨_,_,_,_,_,_,h⟩:=J k hkX;rcases h with h|h
   ·omega
   exact hx h)]
  exact Y.fr.block k hk hx
 ·intro b hb;rcases m.y8 b hb with h|h|h
  ·exact Y.y8 b h
  ·exact .inr (.inl (F6 Y.fr.size h))
  obtain⟨_,_,_,_,_,_,h⟩:=J b h;exact .inr h
 ·rw[aEh,EP,LP,Y.hlen,m.hlen]
 ·intro j e h L z;rcases hcls j e h L (.inr trivial) z with⟨i,e0,rfl,M,U,_⟩|⟨_,M,U,h3⟩
  ·exact Ez.upw rfl hlt m.names Y.hlen (hb4 e0 (XE M)) (m.ent i e0 h M U)
  refine(Y.ent j e h M U).mono hgr (Names.push _ _) (fun I b q=>?_);have h4:=hold j e h b M U h3 I q;exact m.fr.block b h4.1 h4.2.1
 ·intro j e h b L I z q;rcases hcls j e h L (.inr trivial) z with⟨i,e0,rfl,M,U,_⟩|⟨_,M,U,h3⟩
  ·have h4:=aoY i e0 h b M U aPy q;refine⟨h4.1,h4.2.1,?_⟩;rcases h4.2.2 with h5|h5
   ·exact .inl (F6 Y.fr.size h5)
   obtain⟨_,_,_,_,_,_,h⟩:=J b h5;exact h
  have h4:=hold j e h b M U h3 I q;refine⟨fun hok'=>?_,Vr h4.1 m.fr.size,h4.2.2.2⟩;rcases m.y8 b hok' with h5|h5|h5
  ·exact h4.2.2.1 h5
  ·have :w.heap.size≤b:=h5;omega
  exact h4.2.1 h5
 intro j j' e e' h h' b L he' I Z z hh' q alZ;rcases hcls j e h L (.inr trivial) z with⟨i,e0,rfl,M,U,h3⟩|⟨_,M,U,h3⟩
 ·rcases hcls j' e' h' he' (.inr trivial) hh' with⟨i',e0',rfl,h1',h2',h3'⟩|⟨_,h1',h2',h3'⟩
  ·have hii:=m.Fj i i' e0 e0' h h' b M h1' aPy (by rw[BN.aeu]at Z;exact Z) U h2' q alZ;subst hii;rcases h3 with⟨_,h4⟩|⟨h4,h5⟩
   ·rcases h3' with⟨_,h4'⟩|⟨h4',h5'⟩
    ·rw[h4]at h4';simpa using h4'
    have :=(G5.1 h4).1;omega
   rcases h3' with⟨_,h4'⟩|⟨h4',h5'⟩
   ·have :=(G5.1 h4').1;omega
   omega
  have h4:=hold j' e' h' b h1' h2' h3' Z alZ;rcases(aoY i e0 h b M U aPy q).2.2 with h5|h5
  ·omega
  exact absurd h5 h4.2.1
 rcases hcls j' e' h' he' (.inr trivial) hh' with⟨i',e0',rfl,h1',h2',h3'⟩|⟨_,h1',h2',h3'⟩
 ·have h4:=hold j e h b M U h3 I q;rcases(aoY i' e0' h' b h1' h2' (by rw[BN.aeu]at Z;exact Z) alZ).2.2 with h5|h5
  ·omega
  exact absurd h5 h4.2.1
 exact Y.Fj j j' e e' h h' b M h1' I Z U h2' q alZ
def aR1 {f:FuncId} {ops:Array Operand} {ats:Array TypeId} (srcs:List Dx) {eG fZ:List Ag} {E E':List BN} {j:Ag} (m:Ah P f fZ E j E') (q:Dn P f=true) (u:RN srcs es E E'=true) (hE:qW srcs es E) (ha:NV srcs eG fZ) (hl:ops.toList.length=eG.length)
 (z:o.op=.call { callee:=.value (.func f),args:=ops,argTypes:=ats }):Bl P o (FX ops.toList eG) es (j.up srcs es.length) (MQ srcs es E'):=by
 intro C ok H a w Q I J;unfold Oper.wp;rw[yM z,Ty q,Za];have e:ops.map a.eval=(ops.toList.map a.eval).toArray:=zq
 rw[e];refine(acY I srcs m u hE ha hl J).mono ?_;rintro e w' ⟨v,ok',H',rfl,L,M,O,U⟩;exact⟨v,ok',H',rfl,L,M,O,U⟩
end
def Ac (n:Int):D:=.lit (.int .i64 n)
def DI (n:Int):D:=.lit (.int .u8 n)
def EY (b:Bool):D:=.lit (.bool b)
def Cx (s:ByteArray):D:=.lit (.string s)
def BQ {α:Type} (e:α→D) (l:List α):D:=.sl (l.map e)
def BJ (x:D):List Ag:=x.cells.map .d
def Ai {α:Type} (l:List α) (i:Int):Option α:=if 0≤i then l[i.toNat]? else none
def Ci {α:Type} (j:Nat) (l m:List α):Option (List α):=if(l.length+m.length)*j≤140737488355328 then some (l++m)else none
def Hl (s:ByteArray) (i:Int):Option Int:=if 0≤i then(s[i.toNat]?).map fun c=>(c.toNat:Int)else none
def I5 {α:Type} (l:List α) (lo hi:Int):Option (List α):=if 0≤lo∧lo≤hi∧hi≤l.length then some ((l.drop lo.toNat).take (hi.toNat-lo.toNat))else none
def Nk (s:ByteArray) (lo hi:Int):Option ByteArray:=if 0≤lo∧lo≤hi∧hi≤s.size then some (s.extract lo.toNat hi.toNat)else none
def JV {α:Type} (j:Nat) (z:α) (n c:Int):Option (List α):=if 0≤n∧n≤c∧(j:Int)*c≤140737488355328 then some (List.replicate n.toNat z)else none
def Fz {α:Type} {l:List α} {i:Int} {x:α} (h:Ai l i=some x):0≤i∧l[i.toNat]? =some x:=by
 unfold Ai at h;split at h
 ·exact⟨‹_›,h⟩
 cases h
def ako {α β:Type} {l:List α} {i:Nat} {x:α} (f:α→β) (h:l[i]? =some x):(l.map f)[i]? =some (f x):=by simp[h]
def SY {α:Type} {b:Bool} {x y z:α} (j:b=true) (h:(bif b then x else y)=z):x=z:=by subst j;exact h
def SK {α:Type} {b:Bool} {x y z:α} (j:b=false) (h:(bif b then x else y)=z):y=z:=by subst j;exact h
def Dh {α β:Type} {x:Option α} {f:α→Option β} {z:β} (h:x.bind f=some z):∃a,x=some a∧f a=some z:=jR.1 h
def Aj :Nat:=9223372036854775808
section
variable {P : Program} {o : Oper} {es : List BN} {α : Type}
def BK {x:Operand} {t e:TypeId} (enc:α→D) (l:List α) (j:P.underlying t=some (.slice e)) (m:o.op=.call { callee:=.builtin .len,args:= #[x],argTypes:= #[t] }):
 Bl P o [(x,.d (BQ enc l))] es (.d (Ac l.length)) es:=by
 have :=ais (es:=es) (xs:=l.map enc) j m;rw[Cm]at this;exact this
def JU {x:Operand} {t e e':TypeId} {k s:Nat} (enc:α→D) (l:List α) (j:es[k]? =some (.arr e' s (l.map enc))) (m:P.underlying t=some (.slice e)) (q:o.op=.call { callee:=.builtin .len,args:= #[x],argTypes:= #[t] }):
 Bl P o [(x,.aO k)] es (.d (Ac l.length)) es:=by
 have :=ael j m q;rw[Cm]at this;exact this
def asr {x:Operand} {t:TypeId} (s:ByteArray) (j:P.underlying t=some .string) (m:o.op=.call { callee:=.builtin .len,args:= #[x],argTypes:= #[t] }):
 Bl P o [(x,.d (Cx s))] es (.d (Ac s.size)) es:=afb j m
def nG {x y:Operand} {t e:TypeId} {k:IntKind} {i:Int} {agg:Bool} {size:Nat} (enc:α→D) {l:List α} {a:α} (h:Ai l i=some a) (j:P.underlying t=some (.slice e)) (m:ET P e agg size) (hs:(enc a).cells.length=size) (q:o.op=.indexAddr t x y):
 Bl P o [(x,.d (BQ enc l)),(y,.d (.lit (.int k i)))] es (.d (.ref (enc a).cells 0)) es:=
 afF j m (Fz h).1 (ako enc (Fz h).2) hs q
def Gt {x y:Operand} {t e e':TypeId} {kd:IntKind} {i:Int} {k size:Nat} {agg:Bool} (enc:α→D) {l:List α} {a:α} (h:Ai l i=some a) (j:es[k]? =some (.arr e' size (l.map enc))) (m:P.underlying t=some (.slice e)) (q:ET P e agg size) (u:o.op=.indexAddr t x y):
 Bl P o [(x,.aO k),(y,.d (.lit (.int kd i)))] es (.mG k i.toNat 0) es:=
 ahP j m q (Fz h).1 (by have :=(G5.1 (Fz h).2).1;simpa using this) u
def afM {s:ByteArray} {i n:Int} (h:Hl s i=some n):∃c,0≤i∧s[i.toNat]? =some c∧n=c.toNat:=by
 unfold Hl at h;split at h
 ·rename_i j;rw[VL]at h;obtain⟨c,m,q⟩:=h;exact⟨c,j,m,q.symm⟩
 cases h
def JB {x y:Operand} {t:TypeId} {k:IntKind} {i n:Int} {s:ByteArray} (h:Hl s i=some n) (j:P.underlying t=some .string) (m:o.op=.index t x y):
 Bl P o [(x,.d (Cx s)),(y,.d (.lit (.int k i)))] es (.d (DI n)) es:=by
 obtain⟨c,q,u,rfl⟩:=afM h;exact ajY j q u m
def qg {b:Nat} {l m r:List α} (h:Ci b l m=some r):r=l++m∧(l.length+m.length)*b≤140737488355328:=by
 unfold Ci at h;split at h
 ·exact⟨(D5 h).symm, ‹_›⟩
 cases h
def aFx {n b:Nat} (j:0<b) (h:n*b≤140737488355328):n≤maxLen:=by
 have :n*1≤n*b:=Nat.mul_le_mul_left _ j;unfold maxLen;omega
def Dc {s x:Operand} {t e:TypeId} {size j k:Nat} (enc:α→D) {l m r:List α} (h:Ci j l m=some r) (hE:GN P t e size j) (u:es[k]? =some (.arr e size (l.map enc))) (z:∀a,(enc a).cells.length=size) (I:0<j)
 (J:o.op=.call { callee:=.builtin .append,args:= #[s,x],argTypes:= #[t,t] }):
 Bl P o [(s,.aO k),(x,.d (BQ enc m))] es (.aO es.length) (es.set k .dead++[.arr e size (r.map enc)]):=by
 obtain⟨rfl,q⟩:=qg h;have :=agc (ys:=m.map enc) hE u (fun y L=>by obtain⟨a,_,rfl⟩:=FH.1 L;exact z a) PL (by simpa using aFx I q) J;rw[←JM]at this;exact this
def afE {s r:ByteArray} {lo hi:Int} (h:Nk s lo hi=some r):(0≤lo∧lo≤hi∧hi≤s.size)∧r=s.extract lo.toNat hi.toNat:=by
 unfold Nk at h;split at h
 ·exact⟨‹_›,(D5 h).symm⟩
 cases h
def nY (x:Option Operand) (n:Int):List (Operand×Ag):=match x with |some y=>[(y,.d (Ac n))]|none=>[]
def gq {t:TypeId} {x:Operand} {lo hi:Option Operand} {l h:Int} {s r:ByteArray} (hr:Nk s l h=some r) (hl:lo=none→l=0) (Y:hi=none→h=s.size) (ht:P.underlying t=some .string) (I:o.op=.slice t x lo hi none):
 Bl P o ((x,.d (Cx s))::(nY lo l++nY hi h)) es (.d (Cx r)) es:=
 .pure fun ok H a w _ _ L=>by
  obtain⟨⟨M,h1,h2⟩,rfl⟩:=afE hr;have m:=(L (x,.d (Cx s)) BP).lit;simp only at m;have J:(underlying t).run P w=.ok .string w:=aFp
  refine⟨.string (s.extract l.toNat h.toNat),?_,.d _ _ (.lit _)⟩;have q:∀y,lo=some y→a.eval y=.int .i64 l:=fun y e=>(L (y,.d (Ac l)) aDI).lit;have u:∀y,hi=some y→a.eval y=.int .i64 h:=fun y e=>(L (y,.d (Ac h)) aDI).lit;have Z:((0:Int)≤h∧h≤(s.size:Int)):=⟨AB,h2⟩
  have e2:((0:Int)≤l∧l≤(h.toNat:Int)):=⟨M,AB⟩
  cases lo with
  |none=>
   have O:=hl rfl;subst O;cases hi with
   |none=>
    have j:=Y rfl;subst j;simp[execOp,I,m,Instr.sliceAt,Instr.slice,J,Instr.sliceBounds]
   |some y=>
    simp[execOp,I,m,Instr.sliceAt,Instr.slice,J,Instr.sliceBounds,Instr.sliceBound,u y rfl,asIntOf,Z]
  |some z=>
   cases hi with
   |none=>
    have j:=Y rfl;subst j;have U:((0:Int)≤l∧l≤(s.size:Int)):=⟨M,AB⟩
    simp[execOp,I,m,Instr.sliceAt,Instr.slice,J,Instr.sliceBounds,Instr.sliceBound,q z rfl,asIntOf,U]
   |some y=>
    simp[execOp,I,m,Instr.sliceAt,Instr.slice,J,Instr.sliceBounds,Instr.sliceBound,q z rfl,u y rfl,asIntOf,Z];intro hc;have :=hc M;omega
def aSQ {l r:List α} {lo hi:Int} (h:I5 l lo hi=some r):(0≤lo∧lo≤hi∧hi≤l.length)∧r=(l.drop lo.toNat).take (hi.toNat-lo.toNat):=by
 unfold I5 at h;split at h
 ·exact⟨‹_›,(D5 h).symm⟩
 cases h
def aWi {ok:Nat→Prop} {w:World} {xs:List D} {ad:Option Addr} {cap size l h:Nat} (U:Dv ok w (.sl xs) (.slice ad xs.length cap)) (hs:∀x∈xs,x.cells.length=size) (Y:l≤h) (Z:h≤xs.length):
 Dv ok w (.sl ((xs.drop l).take (h-l))) (.slice (if cap=l then ad else ad.map (·.add (l*size))) (h-l) (cap-l)):=by
 have hlen:((xs.drop l).take (h-l)).length=h-l:=Dz
 by_cases hz:h-l=0
 ·have :(xs.drop l).take (h-l)=[]:=by rw[hz];rfl
  rw[this,hz];exact .sl0 _ _
 have u:0<xs.length:=AB
 generalize hn:xs.length=n at U;cases U with
 |sl0=>simp at u
 |sl _ b off _ m hcap J z hf hx hc=>
  have L:m=size:=by
   rw[←z 0 u];exact hs _ (by simp[List.getD,u])
  subst L;have M:cap≠l:=AB
  rw[DL M];simp only[Ic,addr_add]
  have O:∀i,i<h-l→((xs.drop l).take (h-l)).getD i Dp=xs.getD (l+i) Dp:=by
   intro i hi;simp[List.getD,Nv hi,QJ]
  have q:∀i j,off+l*m+(i*m+j)=off+((l+i)*m+j):=by
   intro i j;rw[Yl];omega
  have :=Dv.sl ((xs.drop l).take (h-l)) b (off+l*m) (cap-l) m (ok:=ok) (w:=w) (by rw[hlen];omega) (fun Y Z=>J (by rw[hlen]at Y;omega) Z) (fun i hi=>by rw[hlen]at hi;rw[O i hi];exact z _ AB)
   (fun i hi j I=>by rw[hlen]at hi;rw[O i hi];exact hf _ AB j I) (fun i hi j I=>by rw[hlen]at hi;rw[q];exact hx _ AB j I)
   (fun i hi j I=>by rw[hlen]at hi;rw[O i hi,q];exact hc _ AB j I)
  rw[hlen]at this;exact this
def Tn {t e:TypeId} {agg:Bool} {size:Nat} {x:Operand} {lo hi:Option Operand} {l h:Int} (enc:α→D) {xs r:List α} (hr:I5 xs l h=some r) (hl:lo=none→l=0) (hh:hi=none→h=xs.length) (ht:P.underlying t=some (.slice e)) (M:ET P e agg size)
 (hc:∀a,(enc a).cells.length=size) (O:o.op=.slice t x lo hi none):Bl P o ((x,.d (BQ enc xs))::(nY lo l++nY hi h)) es (.d (BQ enc r)) es:=
 .pure fun ok H a w _ _ Z=>by
  obtain⟨⟨h0,h1,h2⟩,rfl⟩:=aSQ hr;have hx:=Z (x,.d (BQ enc xs)) BP;simp only at hx;generalize U:a.eval x=v at hx;have Y:(underlying t).run P w=.ok (.slice e) w:=aFp
  have J:∀y,lo=some y→a.eval y=.int .i64 l:=fun y e=>(Z (y,.d (Ac l)) aDI).lit;have L:∀y,hi=some y→a.eval y=.int .i64 h:=fun y e=>(Z (y,.d (Ac h)) aDI).lit;have q:Dv ok w (.sl (xs.map enc)) v:=by cases hx with |d _ _ h=>exact h
  have u:∃ad cap,v=.slice ad (xs.map enc).length cap∧(xs.map enc).length≤cap:=by
   generalize hys:xs.map enc=ys at q;cases q with
   |sl0 ad cap=>exact⟨ad,cap,rfl,El _⟩
   |sl _ b off cap size j=>exact⟨_,cap,rfl,j⟩
  obtain⟨ad,cap,rfl,j⟩:=u;have m:=aWi (l:=l.toNat) (h:=h.toNat) q (size:=size) (fun y hy=>aM7) AB Dz;rw[←ZR,←Yd]at m;rw[Cm]at j;refine⟨_,?_,.d _ _ m⟩;have e1:((0:Int)≤h∧h≤(cap:Int)):=⟨AB,AB⟩
  cases lo with
  |none=>
   have hl0:=hl rfl;subst hl0;cases hi with
   |none=>
    have I:=hh rfl;subst I;simp[execOp,O,U,Instr.sliceAt,Instr.slice,Y,Instr.sliceBounds,M.size]
   |some y=>
    simp[execOp,O,U,Instr.sliceAt,Instr.slice,Y,Instr.sliceBounds,Instr.sliceBound,L y rfl,asIntOf,e1,M.size]
  |some z=>
   cases hi with
   |none=>
    have I:=hh rfl;subst I;have e2':((0:Int)≤l∧l≤(xs.length:Int)):=⟨h0,AB⟩
    simp[execOp,O,U,Instr.sliceAt,Instr.slice,Y,Instr.sliceBounds,Instr.sliceBound,J z rfl,asIntOf,e2',M.size]
   |some y=>
    simp[execOp,O,U,Instr.sliceAt,Instr.slice,Y,Instr.sliceBounds,Instr.sliceBound,J z rfl,L y rfl,asIntOf,e1,M.size];intro hc';have :=hc' h0;omega
def jG (P:Program) (t:TypeId) (f off:Nat) (agg:Bool) (n:Nat):Bool:=
 match P.underlying t with
 |some (.struct m)=>match m[f]? with
  |some j=>decide (j.offset=off)&&aJp P j.type agg n
  |none=>false
 |_=>false
def aqY {x:Operand} {t:TypeId} {f off n:Nat} {agg:Bool} {cs:List D} (m:jG P t f off agg n=true) (hn:off+n≤cs.length) (Z:agg=false→n=1) (M:o.op=.field t x f):Bl P o [(x,.d (.agg cs))] es (.d (PY agg cs off n)) es:=
 .pure fun ok H a w _ _ I=>by
  have J:=Kv I;simp only at J;generalize O:a.eval x=v at J;unfold jG at m;split at m
  ·rename_i fs hu;split at m
   ·rename_i j U;simp only[DT,Gi]at m;obtain⟨rfl,q⟩:=m;have q:=GL q;have u:(underlying t).run P w=.ok (.struct fs) w:=aCB
    cases J with
    |d _ _ h=>
     cases h with
     |agg _ vs hl L Y=>
      cases agg with
      |false=>
       have :=Z rfl;subst this;have z:j.offset<vs.size:=AB
       refine⟨vs[j.offset],?_,?_⟩
       ·simp[execOp,M,O,Instr.field,u,U,asAgg,part,q.agg,z]
       have :=Y j.offset AB;simp[Array.getD,z]at this;exact .d _ _ this
      |true=>
       refine⟨.agg (vs.extract j.offset (j.offset+n)),?_,?_⟩
       ·simp[execOp,M,O,Instr.field,u,U,asAgg,part,q.agg,q.size]
       simp only[PY,Jv];have hlen:((cs.drop j.offset).take n).length=n:=Dz
       have hg:∀i,i<n→((cs.drop j.offset).take n).getD i Dp=cs.getD (j.offset+i) Dp:=by
        intro i hi;simp[List.getD,Nv hi,QJ]
       refine .d _ _ (.agg _ _ (by rw[hlen];simp;omega) ?_ ?_)<;>intro i hi<;>rw[hlen]at hi<;>rw[hg i hi]
       ·exact L _ AB
       have :=Y (j.offset+i) AB
       have e:(vs.extract j.offset (j.offset+n)).getD i undef=vs.getD (j.offset+i) undef:=by
        have h3:j.offset+i<vs.size:=AB
        have h4:i<(vs.extract j.offset (j.offset+n)).size:=Dz
        have h5:i<min (j.offset+n) vs.size-j.offset:=AB
        simp[Array.getD,h3,h5]
       rw[e];exact this
   cases m
  cases m
def Ag.flat:Ag→Bool
 | .d (.lit _)=>true
 | .fP xs=>xs.all fun x=>match x with | .d (.lit _)=>true|_=>false
 |_=>false
def aTr (es:List BN):Ag→Ag→Prop
 | .d x,y=>y=.d x
 | .aO k,y=>∃e s xs,es[k]? =some (.arr e s xs)∧y=.d (.sl xs)
 |_,_=>False
def dZ (es:List BN):List Ag→List Ag→Prop
 |x::xs,y::ys=>aTr es x y∧dZ es xs ys
 | [],[]=>True
 |_,_=>False
def aP9 :∀{xs ys:List Ag},dZ es xs ys→xs.length=ys.length
 | [],[],_=>rfl
 |_::xs,_::ys,h=>by simp[aP9 h.2]
 | [],_::_,h=>h.elim
 |_::_,[],h=>h.elim
def aTJ {ops:List Operand}:∀{xs ys:List Ag},ops.length=xs.length→dZ es xs ys→∀i,i<ys.length→∃o x,ops[i]? =some o∧(o,x)∈FX ops xs∧aTr es x (ys.getD i .junk):=by
 induction ops with
 |nil=>
  intro xs ys hl h i hi;cases xs with
  |nil=>cases ys with |nil=>simp at hi|cons _ _=>exact h.elim
  |cons _ _=>simp at hl
 |cons o ops j=>
  intro xs ys hl h i hi;cases xs with
  |nil=>simp at hl
  |cons x xs=>
   cases ys with
   |nil=>exact h.elim
   |cons y ys=>
    cases i with
    |zero=>exact⟨o,x,rfl,by simp[FX],h.1⟩
    |succ i=>
     obtain⟨m,q,u,z,I⟩:=j NP h.2 i GR;exact⟨m,q,MS,by simp[FX,z],Qr⟩
def fH {ok ok':Nat→Prop} {w:World} {H:List Bj} {h:Bj} {e s:Nat} {xs:List D} (he:Ez ok w H h (.arr e s xs)) (u:∀b,ok b→ok' b) (M:∀b,Df h.v=some b→ok' b):Dv ok' w (.sl xs) h.v:=by
 obtain⟨h1,J,ys,⟨h3,h4⟩,h5⟩:=he;rcases h4 with⟨L,h7⟩|⟨g,cap,q,L,h7,h8,h9,h10,O,U⟩
 ·rw[H9 h7,L];exact .sl0 none 0
 rw[L];have z:=M g (by rw[L];rfl);have I:=RY J
 have Y:∀i j,i<xs.length→j<s→i*s+j<xs.length*s:=by
  intro i j hi m
  calc i*s+j<i*s+s:=AB
   _=(i+1)*s:=by rw[Un]
   _≤xs.length*s:=Jw _ hi
 have hcur:xs.length*s≤q.size:=by
  exact F6 (Jw _ h9) O
 have hc:∀i j,i<xs.length→j<s→w.cell? ⟨g,0+(i*s+j),none⟩=some (ys.getD (i*s+j) undef):=by
  intro i j hi m;have Z:=Y i j hi m;rw[JJ]
  have e1:ys.getD (i*s+j) undef=q[i*s+j]' AB:=by
   rw[←U];simp[List.getD,Nv Z,show i*s+j<q.size by omega]
  rw[e1];simp[World.cell?,h8,show i*s+j<q.size by omega]
 have hg:∀i,i<xs.length→xs.getD i Dp∈xs:=fun i hi=>ND
 refine .sl xs g 0 cap s h9 (fun _ _=>z) (fun i hi=>J _ (hg i hi)) (fun i hi j m=>?_) (fun i hi j m=>?_) (fun i hi j m=>?_)
 ·have :=(h5.2 (i*s+j) (by rw[I];exact Y i j hi m)).1;rw[flat_get J i j hi m]at this;exact this
 ·rw[hc i j hi m];rfl
 have :=(h5.2 (i*s+j) (by rw[I];exact Y i j hi m)).2;rw[flat_get J i j hi m]at this;unfold cellAt;rw[hc i j hi m];cases this with |d _ _ h=>exact h.mono (fun b M=>⟨u b M,rfl⟩)
def aT {f:FuncId} {ops:Array Operand} {ats:Array TypeId} {eG fZ:List Ag} {z:Ag} (hr:Ah P f fZ [] z []) (hf:Dn P f=true) (q:z.flat=true) (ha:dZ es eG fZ) (hl:ops.toList.length=eG.length)
 (ho:o.op=.call { callee:=.value (.func f),args:=ops,argTypes:=ats }):Bl P o (FX ops.toList eG) es z es:=by
 intro C ok H a w Q I hn;unfold Oper.wp;rw[yM ho,Ty hf,Za];have e:ops.map a.eval=(ops.toList.map a.eval).toArray:=zq
 rw[e]
 let J:Nat→Prop:=fun b=>b<w.heap.size
 have hmc:DF ⟨w,J,[],[]⟩ J [] [] w:=
  ⟨.refl _ _,fun _ h=>h,fun _ h=>.inl h,fun _ h=>h,.refl _,rfl,fun k e h L _=>by simp at L,fun k e h b L=>by simp at L,fun k k' e e' h h' b L=>by simp at L⟩
 refine(hr J [] [] w _ hmc (by simp[hl,aP9 ha]) (fun i hi=>?_)).mono ?_
 ·obtain⟨op,x,ho',U,j⟩:=aTJ hl ha i hi;have O:=hn _ U
  have e:(ops.toList.map a.eval).toArray.getD i undef=a.eval op:=by
   obtain⟨h1,h2⟩:=G5.1 ho';have Y:i<ops.size:=by simpa using h1
   have Z:ops[i]=op:=nS
   simp[Array.getD,Y,Z]
  rw[e];simp only at O;generalize fZ.getD i .junk=y at j;generalize a.eval op=u at O;cases x with
  |d x=>
   obtain rfl:=j;cases O with |d _ _ h=>exact .d _ _ (h.mono (fun b M=>⟨I.kW b M,rfl⟩))
  |aO k=>
   obtain⟨e',s,xs,hk,rfl⟩:=j;obtain⟨h,hh,hok⟩:=Gj I.ent I.hlen hk;obtain rfl:=QE O hh;exact .d _ _ (fH hok (fun b M=>I.kW b M) (fun b M=>(I.blk k _ h b hk rfl hh M).2.1))
  |_=>exact j.elim
 rintro e w' ⟨v,ok',H',rfl,m,O⟩;have hblk:∀b,b<w.heap.size→¬False→w'.heap[b]? =w.heap[b]? :=fun b M _=>m.fr.block b M BP;obtain⟨h1,h2⟩:=I.change (ok':=ok) (H':=H) (es':=es) (w':=w') (fun _=>False) m.fr.os m.fr.tape m.fr.output m.fr.size hblk (fun _ h=>h.elim) (fun _ h=>h) (fun _ h=>.inl h) (.refl _) I.hlen (fun k e h L hh=>.inl ⟨L,hh,fun _ _ _ h=>h⟩);refine⟨v,ok,H,rfl,h2,.refl _,h1,?_⟩;cases O with
 |d x v h=>
  cases x with
  |lit u=>cases h;exact .d _ _ (.lit _)
  |_=>simp[Ag.flat]at q
 |fP xs vs hl' h=>
  refine .fP xs vs hl' (fun i hi=>?_);simp only[Ag.flat,Ea]at q;have Y:=q (xs.getD i .junk) ND;have Z:=h i hi;generalize xs.getD i .junk=x at Y Z;generalize vs.getD i undef=u at Z;cases Z with
  |d y _ h5=>
   cases y with
   |lit u=>cases h5;exact .d _ _ (.lit _)
   |_=>simp at Y
  |_=>simp at Y
 |_=>simp[Ag.flat]at q
end
def Ag.thaw (k:Nat) (xs:List D):Ag→Ag
 | .aO j=>if j=k then .d (.sl xs)else .aO j
 | .mG j i off=>if j=k then .junk else .mG j i off
 |x=>x
def BI.thaw (σ:BI) (k:Nat) (xs:List D):BI:=⟨σ.slots.map (Ag.thaw k xs),σ.ents.set k .dead,σ.base⟩
def Jp {σ:BI} (k:Nat) {e s:Nat} {xs:List D} (hk:σ.ents[k]? =some (.arr e s xs)):∀C ok H a w,Holds C ok H σ a w→∃ok',Holds C ok' H (σ.thaw k xs) a w:=by
 intro C ok H a w q;obtain⟨hd,M,hok⟩:=Gj q.mem.ent q.mem.hlen hk;have z:k<σ.ents.length:=(G5.1 hk).1
 let ok':Nat→Prop:=fun b=>ok b∨Df hd.v=some b
 have L:=fun b m=>q.mem.blk k _ hd b hk rfl M m;have hg:Eb ok w ok' w:=fun b m=>⟨.inl m,rfl⟩
 refine⟨ok',⟨q.mem.fr,fun b m=>.inl (q.mem.yZ b m),?_,?_,q.mem.names,by simp[BI.thaw,q.mem.hlen],?_,?_,?_⟩,by simp[BI.thaw,q.size],q.defers.mono hg,q.base,?_⟩
 ·rintro b (m|m)
  ·exact q.mem.y8 b m
  exact .inr (L b m).2.2
 ·rintro b (m|m)
  ·exact q.mem.kW b m
  exact(L b m).2.1
 ·intro j e' h' he I;rcases NC z he with⟨rfl,rfl⟩|⟨_,J⟩
  ·trivial
  exact(q.mem.ent j e' h' J I).mono hg (.refl _) (fun _ _ _=>rfl)
 ·intro j e' h' b he hl I m;rcases NC z he with⟨rfl,rfl⟩|⟨hne,J⟩
  ·cases hl
  have h3:=q.mem.blk j e' h' b J hl I m;refine⟨fun u=>?_,h3.2⟩;rcases u with u|u
  ·exact h3.1 u
  exact hne (q.mem.Fj j k e' _ h' hd b J hk hl rfl I M m u)
 ·intro i j e1 e2 h1 h2 b he1 he2 U Y hh1 hh2 hb1 hb2;rcases NC z he1 with⟨rfl,rfl⟩|⟨_,Z⟩
  ·cases U
  rcases NC z he2 with⟨rfl,rfl⟩|⟨_,asG⟩
  ·cases Y
  exact q.mem.Fj i j e1 e2 h1 h2 b Z asG U Y hh1 hh2 hb1 hb2
 intro t ht;simp only[BI.thaw,Cm]at ht
 have e1:(σ.thaw k xs).slots.getD t .junk=(σ.slots.getD t .junk).thaw k xs:=by
  simp only[BI.thaw];exact V5 _ _ _ ht
 rw[e1];have O:=(q.slot t ht).mono hg (Names.refl H);generalize σ.slots.getD t .junk=x at O ⊢;generalize a.tmps.getD t undef=v at O ⊢;cases x with
 |aO j=>
  simp only[Ag.thaw];split
  ·rename_i hj;subst hj;obtain rfl:=QE O M;exact .d _ _ (fH hok (fun b m=>.inl m) (fun b m=>.inr m))
  exact O
 |mG j i off=>
  simp only[Ag.thaw];split
  ·exact .junk _
  exact O
 |_=>exact O
def AO.thaw {P:Program} {c:Code} {σ:BI} {Q:Exit→BI→Prop} (k:Nat) {e s:Nat} {xs:List D} (m:σ.ents[k]? =some (.arr e s xs)) (h:AO P c (σ.thaw k xs) Q):AO P c σ Q:=by
 refine⟨fun ro q C ok H a w u=>?_⟩;obtain⟨ok',j⟩:=Jp k m C ok H a w u;exact h.run ro q C ok' H a w j
def Ah.view {P:Program} {f:FuncId} {args:List Ag} {e s:Nat} {xs:List D} (h:Ah P f args [] (.aO 0) [.arr e s xs]):Ah P f args [] (.d (.sl xs)) []:=by
 intro ok X H w m J hs ha;refine(h ok X H w m J hs ha).mono ?_;rintro e' w' ⟨v,ok',H',rfl,j,L⟩;have M:H=[]:=H9 J.hlen;have hl:H'.length=1:=j.hlen
 match H',hl with
 | [hd],_=>
   obtain rfl:=QE L (h:=hd) rfl;have z:=j.ent 0 _ hd rfl rfl;have u:=fun b u=>j.blk 0 _ hd b rfl rfl rfl u
   let I:Nat→Prop:=fun b=>ok' b∨Df hd.v=some b
   refine⟨hd.v,I,[],rfl,⟨j.fr,fun b h=>.inl (j.yZ b h),?_,?_,by intro k v O;subst M;simp at O,rfl,fun k e h q=>V3,fun k e h b q=>V3,fun k k' e e' h h' b q=>V3⟩,.d _ _ (fH z (fun b h=>.inl h) (fun b h=>.inr h))⟩
   ·rintro b (h|h)
    ·exact j.y8 b h
    exact .inr (u b h).2.2
   rintro b (h|h)
   ·exact j.kW b h
   exact(u b h).2.1
def ar9 (es E':List BN) (j:E'.all BN.closed=true):MQ [] es E'=es++E':=by
 unfold MQ;simp only[List.findIdx?_nil,NK,oJ];rw[aaV j];congr 1;apply bU;intro i;simp only[JO,List.getElem?_zipIdx];cases es[i]? <;>rfl
def aRZ {P:Program} {o:Oper} {es:List BN} {f:FuncId} {ops:Array Operand} {ats:Array TypeId} {eG fZ:List Ag} {j res':Ag} {E':List BN} (u:Ah P f fZ [] j E') (z:Dn P f=true) (m:E'.all BN.closed=true)
 (ha:NV [] eG fZ) (hl:ops.toList.length=eG.length) (I:j.up [] es.length=res') (J:o.op=.call { callee:=.value (.func f),args:=ops,argTypes:=ats }):Bl P o (FX ops.toList eG) es res' (es++E'):=by
 have :=aR1 (es:=es) [] u z (by
  have q:E'.all (BN.aoW [] es.length)=true:=by
   rw[Ea]at m ⊢;exact fun e L=>ah2 (m e L)
  simp[RN,q]) (fun i s h=>IU) ha hl J
 rw[ar9 _ _ m,I]at this;exact this
def aWj {P:Program} {o:Oper} {es:List BN} {f:FuncId} {ops:Array Operand} {ats:Array TypeId} {eG fZ:List Ag} {j res':Ag} (m:Ah P f fZ [] j []) (q:Dn P f=true)
 (ha:NV [] eG fZ) (hl:ops.toList.length=eG.length) (u:j.up [] es.length=res') (z:o.op=.call { callee:=.value (.func f),args:=ops,argTypes:=ats }):Bl P o (FX ops.toList eG) es res' es:=by
 have :=aRZ (es:=es) m q rfl ha hl u z;rw[PS]at this;exact this
section
variable {P : Program} {σ : BI} {Q : Exit → BI → Prop}
def aIw (P:Program) (σ:BI):ResultVar→Ag→Prop
 | .tmp t,x=>x=σ.slots.getD t .junk
 | .cell t T,x=>∃k cs agg n,σ.slots.getD t .junk=.ptr k 0∧σ.ents[k]? =some (.box cs)∧cs.all Ag.Bc=true∧ET P T agg n∧n≤cs.length∧(agg=false→n=1)∧x=.d (PY agg (J8 cs) 0 n)
def MN {P:Program} {σ:BI} {t:Tmp} {x:Ag} (h:x=σ.slots.getD t .junk):aIw P σ (.tmp t) x:=h
def YV (P:Program) (σ:BI):List ResultVar→List Ag→Prop
 |r::rs,x::xs=>aIw P σ r x∧YV P σ rs xs
 | [],[]=>True
 |_,_=>False
def jm :List Ag→Ag
 | [x]=>x
 |xs=>.fP xs
def acu (P:Program) (fn:Func) (j:Ag) (E':List BN):Exit→BI→Prop
 | .ret,σ=>∃xs π,YV P σ fn.results.toList xs∧Ue σ.base σ.ents π=true∧j=(jm xs).back π∧E'=SX σ.ents π
 | .normal,σ=>∃xs π,YV P σ fn.results.toList xs∧Ue σ.base σ.ents π=true∧j=(jm xs).back π∧E'=SX σ.ents π
 |_,_=>False
def aNJ (tmps:Array Value):ResultVar→Sem Value
 | .tmp t=>pure (tmps.getD t undef)
 | .cell t T=>do loadVar T (←asAddr (tmps.getD t undef))
def alK {C:EW} {ok:Nat→Prop} {H:List Bj} {a:Act} {w:World} (h:Holds C ok H σ a w) {r:ResultVar} {x:Ag} (j:aIw P σ r x):
 ∃v,(aNJ a.tmps r).run P w=.ok v w∧R ok w H x v:=by
 cases r with
 |tmp t=>
  obtain rfl:=j;exact⟨_,rfl,h.awU t⟩
 |cell t T=>
  obtain⟨k,cs,agg,n,hs,J,hd,L,hn,M,rfl⟩:=j;have q:=hs▸h.awU t;obtain⟨O,U,m⟩:=Gj h.mem.ent h.mem.hlen J;obtain⟨b,z,Y,Z,hc⟩:=aN7 m hd;generalize hu:a.tmps.getD t undef=u at q;cases q with
  |ptr _ _ b' s I=>
   rw[U]at I;obtain rfl:=D5 I;simp at z;subst z;show ∃v,((do loadVar T (←asAddr (a.tmps.getD t undef)):Sem Value)).run P w=.ok v w∧_;rw[hu];obtain⟨v,j,hD⟩:=aFL L (off:=0) (by rw[wQ];omega) M Y Z hc;refine⟨v,?_,.d _ _ hD⟩;simp only[Instr.loadAt,Instr.sureAddr,FV,GY,Fb,JJ]at j;simp only[asAddr,FV,GY,Fb];exact j
def ab7 {C:EW} {ok:Nat→Prop} {H:List Bj} {a:Act} {w:World} (h:Holds C ok H σ a w):∀(rs:List ResultVar) (xs:List Ag),YV P σ rs xs→
 ∃vs:List Value,(rs.mapM (aNJ a.tmps)).run P w=.ok vs w∧vs.length=xs.length∧∀i,i<xs.length→R ok w H (xs.getD i .junk) (vs.getD i undef)
 | [],[],_=>⟨[],rfl,rfl,fun i hi=>OX⟩
 | [],_::_,h'=>h'.elim
 |_::_,[],h'=>h'.elim
 |r::rs,x::xs,h'=>by
  obtain⟨v,q,u⟩:=alK (P:=P) h h'.1;obtain⟨vs,j,hl,m⟩:=ab7 h rs xs h'.2;refine⟨v::vs,?_,Zq,fun i hi=>?_⟩
  ·simp only[List.mapM_cons,FV,q,j,Fb,GY]
  cases i with
  |zero=>exact u
  |succ i=>simpa using m i GR
def aer {C:EW} {ok:Nat→Prop} {H:List Bj} {a:Act} {w:World} (h:Holds C ok H σ a w) {fn:Func} {xs:List Ag} (z:YV P σ fn.results.toList xs):
 ∃v,(results fn a.tmps).run P w=.ok v w∧R ok w H (jm xs) v:=by
 obtain⟨vs,q,hl,j⟩:=ab7 (P:=P) h _ _ z
 have I:(results fn a.tmps).run P w=.ok (if h:vs.toArray.size=1 then vs.toArray[0]else .tuple vs.toArray) w:=by
  have e:results fn a.tmps=(do let vs ←fn.results.mapM (aNJ a.tmps);pure (if h:vs.size=1 then vs[0]else .tuple vs)):=rfl;rw[e,aOy];simp only[FV,yg,q,Fb,GY]
 refine⟨_,I,?_⟩
 match xs,hl,j with
 | [x],hl,j=>
   have m:vs.toArray.size=1:=NP
   rw[dif_pos m];have :=j 0 BP
   have e:vs.getD 0 undef=vs.toArray[0]:=by
    have :0<vs.length:=Zq
    simp[List.getD,this]
   rw[e]at this;exact this
 | [],hl,j=>
   have m:¬vs.toArray.size=1:=by simp at hl;simp[hl]
   rw[dif_neg m];exact .fP [] _ NP (fun i hi=>OX)
 |x::y::xs,hl,j=>
  have m:¬vs.toArray.size=1:=by simp at hl;simp[hl]
  rw[dif_neg m];refine .fP _ _ NP (fun i hi=>?_);have :=j i hi;have u:i<vs.length:=AB
  have e:vs.toArray.getD i undef=vs.getD i undef:=by simp[Array.getD,List.getD,u]
  rw[e];exact this
def ark {w:World} {D:Nat} {x:Option (List Deferred)} (h:w.heap[D]? =some (.deferred x)) (o:Nat):w.cell? ⟨D,o,none⟩=none:=by
 unfold World.cell?;rw[h]
def Holds.take {C:EW} {ok:Nat→Prop} {H:List Bj} {σ:BI} {a:Act} {w:World} (hC:∀b,C.ok0 b→b<C.w0.heap.size) (h:Holds C ok H σ a w) {D:Nat} {Ds:List Nat} (hd:∀d∈Ds,ok d∧C.w0.heap.size≤d∧w.heap[d]? =some (.deferred (some [])))
 (hD:ok D∧C.w0.heap.size≤D∧w.heap[D]? =some (.deferred (some []))) (I:(D::Ds).Nodup):
 ∃ok',Holds C ok' H σ { a with defers:=Ds.map fun D=>{ target:=.collected D,args:= #[] } } (w.putObj D (.deferred none))∧∀d∈Ds,ok' d∧C.w0.heap.size≤d∧(w.putObj D (.deferred none)).heap[d]? =some (.deferred (some [])):=by
 obtain⟨h1,h2,Z⟩:=hD;have m:∀b,b≠D→(w.putObj D (.deferred none)).heap[b]? =w.heap[b]? :=fun b j=>Yf j;have J:∀b o,ok b→(w.cell? ⟨b,o,none⟩).isSome=true→ok b∧b≠D:=fun b o j L=>⟨j,fun e=>by subst e;rw[ark Z]at L;cases L⟩
 have hg:Eb (fun b=>ok b∧b≠D) w (fun b=>ok b∧b≠D) (w.putObj D (.deferred none)):=fun b j=>⟨j,m b j.2⟩
 have U:∀(k:Nat) (e:BN) (hd:Bj) (b:Nat),σ.ents[k]? =some e→e.live=true→H[k]? =some hd→Df hd.v=some b→b≠D:=fun k e hd b u hl z j Y=>(h.mem.blk k e hd b u hl z j).1 (Y▸h1)
 have M:∀d∈Ds,(ok d∧d≠D)∧C.w0.heap.size≤d∧(w.putObj D (.deferred none)).heap[d]? =some (.deferred (some [])):=fun d q=>by
  have O:d≠D:=fun e=>(MJ.1 I).1 (e▸q);exact⟨⟨(hd d q).1,O⟩,(hd d q).2.1,by rw[m d O];exact(hd d q).2.2⟩
 refine⟨fun b=>ok b∧b≠D,⟨⟨⟨h.mem.fr.os,h.mem.fr.tape,h.mem.fr.output,by simpa[World.putObj]using h.mem.fr.size,fun k hk hX=>by rw[m k AB];exact h.mem.fr.block k hk hX⟩,fun b j=>⟨h.mem.yZ b j,fun e=>by have :=hC b j;omega⟩,fun b j=>h.mem.y8 b j.1,fun b j=>by simpa[World.putObj]using h.mem.kW b j.1,h.mem.names,h.mem.hlen,?_,?_,?_⟩,h.size,⟨Ds,rfl,(MJ.1 I).2,M⟩,h.base,fun t ht=>((h.slot t ht).shrink J).mono hg (.refl _)⟩,M⟩
 ·intro k e hd u z;exact((h.mem.ent k e hd u z).shrink J (fun b ms c j L=>⟨j,fun e=>by subst e;rw[Z]at L;cases L⟩)).mono hg (.refl _) fun hl b j=>m b (U k e hd b u hl z j)
 ·intro k e hd b u hl z j;obtain⟨h4,h5,h6⟩:=h.mem.blk k e hd b u hl z j;exact⟨fun hx=>h4 hx.1,by simpa[World.putObj]using h5,h6⟩
 exact h.mem.Fj
def aII {fn:Func} {Rr:Ending→World→Prop} {C:EW} (q:∀b,C.ok0 b→b<C.w0.heap.size) {H:List Bj} {σ:BI}
 (u:∀ok a w,Holds C ok H σ a w→∃v,(results fn a.tmps).run P w=.ok v w∧Rr (.returned v) w):∀(Ds:List Nat) {ok:Nat→Prop} {a:Act} {w:World},Holds C ok H σ a w→(∀d∈Ds,ok d∧C.w0.heap.size≤d∧w.heap[d]? =some (.deferred (some [])))→Ds.Nodup→
  LeavesInM (J5 none) 0 P fn a.tmps Rr (Ds.map fun D=>{ target:=.collected D,args:= #[] }) .returning w
 | [],ok,a,w,h,_,_=>u ok a w h
 |D::Ds,ok,a,w,h,hd,z=>by
  obtain⟨ok',h',j⟩:=h.take q (fun d m=>hd d (Gf _ m)) (hd D (FY ..)) z;have I:=aII q u Ds h' j (MJ.1 z).2;exact⟨BP,.inl ⟨D,_,rfl,run_takeDeferred (hd D (FY ..)).2.2,I⟩⟩
def Ah.aI {f:FuncId} {fn:Func} {c:Code} {args:List Ag} {E E':List BN} {q:Ag} (hf:P.funcs[f]? =some fn) (hb:fn.body=some c)
 (h:AO P c (.enter args fn.ntmps E) (acu P fn q E')):Ah P f args E q E':=by
 intro ok X H w j I hs ha;refine(aGL (ro:=none) (n:=0)).1 (aNu hf hb trivial (UW (h.run none (.inl rfl) ⟨w,ok,X,H⟩ ok H _ w ?_) ?_) rfl)
 ·refine⟨I,?_,.nil _ _ _,I.hlen,fun t ht=>?_⟩
  ·simp[BI.enter,hs]
  simp only[BI.enter];by_cases e:t<args.length
  ·have J:(args++List.replicate (fn.ntmps-args.length) Ag.junk).getD t .junk=args.getD t .junk:=aK8
   have e2:(j++Array.replicate (fn.ntmps-j.size) undef).getD t undef=j.getD t undef:=by
    simp[Hd,YW (show t<j.size by omega)]
   rw[J,e2];exact ha t e
  have J:(args++List.replicate (fn.ntmps-args.length) Ag.junk).getD t .junk=.junk:=by
   simp only[List.getD,Jr (Um e),aMX];split<;>rfl
  rw[J];exact .junk _
 rintro e a' w' ⟨ok',H',σ',h1,L⟩;obtain⟨Ds,M,O,U⟩:=h1.defers
 have key:∀(x:List Ag) (π:List (Nat×Bool)),YV P σ' fn.results.toList x→Ue σ'.base σ'.ents π=true→q=(jm x).back π→E'=SX σ'.ents π→
  LeavesInM (J5 none) 0 P fn a'.tmps (fun e w'=>∃v ok' H',e=.returned v∧DF ⟨w,ok,X,H⟩ ok' H' E' w'∧R ok' w' H' q v) a'.defers .returning w':=by
  rintro x π z m rfl rfl;rw[M];refine aII (P:=P) (C:=⟨w,ok,X,H⟩) I.kW (fun Y a2 w2 u=>?_) Ds h1 U O;obtain⟨v,hv,hR⟩:=aer (P:=P) u z;exact⟨v,hv,v,Y,_,rfl,u.mem.norm π (u.base▸m),hR.back π⟩
 cases e with
 |ret=>obtain⟨x,π,z,m,u,Z⟩:=L;exact key x π z m u Z
 |normal=>obtain⟨x,π,z,m,u,Z⟩:=L;exact key x π z m u Z
 |_=>exact L.elim
def AY {x y:Code} (j:AO P x σ (Lc (fun s=>AO P y s Q) Q)):AO P (.seq x y) σ Q:=AO.seq _ j (fun _ h=>h)
def Ch {x y:Code} (K:BI→Prop) (j:∀s,K s→AO P y s Q) (m:(∀s,K s→AO P y s Q)→AO P x σ (Lc (fun s=>AO P y s Q) Q)):AO P (.seq x y) σ Q:=AO.seq _ (m j) (fun _ h=>h)
def VF {c:Operand} {x y:Code} (j:σ.get c=.d (.lit (.bool true))) (h:AO P x σ Q):AO P (.cond c x y) σ Q:=AO.cond true j (fun _=>h) (fun h=>Gh)
def QM {c:Operand} {x y:Code} (j:σ.get c=.d (.lit (.bool false))) (h:AO P y σ Q):AO P (.cond c x y) σ Q:=AO.cond false j (fun h=>Gh) (fun _=>h)
def Ew {id:Nat} {ops:Array Oper} {y:Code} {σ':BI} {rs:List Ag} {ess:List (List BN)} {bs:List Bool} (q:P.follows .mixedOrders=true) (j:(Wh ops&&XM ops&&VE ops σ.slots.length&&WG ops)=true) (m:Z7 ops bs=true)
 (h:FB P ops ops.toList σ rs ess bs σ') (u:AO P y σ' Q):AO P (.seq (.region id ops true) y) σ Q:=
 AO.seq (fun s=>s=σ') (.draw q j m h rfl) (fun _ e=>e▸u)
end
section
variable {P : Program} {o : Oper} {es : List BN}
def ahv {x:Operand} {t:TypeId} {agg:Bool} {n off:Nat} {cs:List D} {y:D} (j:y=PY agg cs off n) (m:ET P t agg n) (q:off+n≤cs.length) (u:agg=false→n=1) (z:o.op=.load t x):Bl P o [(x,.d (.ref cs off))] es (.d y) es:=j▸aqy m q u z
def alU {x:Operand} {t:TypeId} {agg:Bool} {k n off:Nat} {cs:List Ag} {y:D} (j:y=PY agg (J8 cs) off n) (m:es[k]? =some (.box cs)) (hd:cs.all Ag.Bc=true) (q:ET P t agg n) (u:off+n≤cs.length) (z:agg=false→n=1) (I:o.op=.load t x):
 Bl P o [(x,.ptr k off)] es (.d y) es:=j▸asn m hd q u z I
def aju {x:Operand} {t:TypeId} {f off n:Nat} {agg:Bool} {cs:List D} {y:D} (j:y=PY agg cs off n) (m:jG P t f off agg n=true) (q:off+n≤cs.length) (u:agg=false→n=1) (z:o.op=.field t x f):Bl P o [(x,.d (.agg cs))] es (.d y) es:=j▸aqY m q u z
def apk {t:TypeId} {m:Array (Nat×Operand)} {j:List (Nat×Nat)} {z:Value} {y:D} (q:JD P t j z) (vs:List Ag) (u:o.op=.build t m) (I:y=.agg (J8 (KA (fun(i:Nat)=>j[i]?) (Fa z) m.toList vs))) (J:Na (fun(i:Nat)=>j[i]?) (Fa z).length m.toList vs=true)
 (hd:(KA (fun(i:Nat)=>j[i]?) (Fa z) m.toList vs).all Ag.Bc=true):Bl P o (O1 m.toList vs) es (.d y) es:=I▸amW q vs J hd u
def aq4 {s t:TypeId} {x:Operand} {j k:IntKind} {n:Int} (hs:P.underlying s=some (.int j)) (m:P.underlying t=some (.int k)) (q:o.op=.convert s t x):Bl P o [(x,.d (.lit (.int j n)))] es (.d (.lit (.int k (k.wrap n)))) es:=
 aVo q fun w=>by simp[convert,underlying,hs,m,Conv.intToInt]
def aos {s t:TypeId} {x:Operand} {u:ByteArray} (hs:P.underlying s=some .string) (j:P.underlying t=some .string) (m:o.op=.convert s t x):Bl P o [(x,.d (Cx u))] es (.d (Cx u)) es:=
 aVo m fun w=>by simp[convert,underlying,hs,j]
def aoa {t t':TypeId} {x y:Operand} {a b:Bool} (j:P.underlying t=some .bool) (m:o.op=.binOp .eql t x y t'):Bl P o [(x,.d (EY a)),(y,.d (EY b))] es (.d (EY (a==b))) es:=
 GV (u:=.bool a) (v:=.bool b) (r:=.bool (a==b)) m (fun w=>by
  show((do pure (.bool (←Op.equal t (.bool a) (.bool b))):Sem Value)).run P w=_
  simp only[FV,run_equal_bool w t a b j,Fb,GY]) ⟨rfl,rfl⟩
def asH {t t':TypeId} {x y:Operand} {a b:Bool} (j:P.underlying t=some .bool) (m:o.op=.binOp .neq t x y t'):Bl P o [(x,.d (EY a)),(y,.d (EY b))] es (.d (EY (!(a==b)))) es:=
 GV (u:=.bool a) (v:=.bool b) (r:=.bool (!(a==b))) m (fun w=>by
  show((do pure (.bool (!(←Op.equal t (.bool a) (.bool b)))):Sem Value)).run P w=_
  simp only[FV,run_equal_bool w t a b j,Fb,GY]) ⟨rfl,rfl⟩
end
def bD {A Rr:Type} (body:(A→Option Rr)→A→Option Rr):Nat→A→Option Rr
 |0,_=>none
 |n+1,a=>body (bD body n) a
def DZ {P:Program} {σ:BI} {Q:Exit→BI→Prop} {m:Code} {A Rr:Type} (S:A→BI) (body:(A→Option Rr)→A→Option Rr) (r:Rr) (a0:A) (hs:Bz σ (S a0)) (h:Go.Proofs.YtldfpencimjjlaaGreat.bD body Aj a0=some r)
 (round:∀(J:BI→Prop) (k:A→Option Rr),(∀σ' a,Bz σ' (S a)→k a=some r→J σ')→∀a,body k a=some r→AO P m (S a) (Lc J Q)):AO P (.loop m) σ Q:=by
 refine AO.loop (fun n s=>∃a,Bz s (S a)∧Go.Proofs.YtldfpencimjjlaaGreat.bD body n a=some r) Aj ⟨a0,hs,h⟩ ?_;rintro n s ⟨a,j,q⟩;refine CZ j ?_;cases n with
 |zero=>cases q
 |succ n=>exact round _ (Go.Proofs.YtldfpencimjjlaaGreat.bD body n) (fun σ' a u z=>⟨n,Yb n,a,u,z⟩) a q
def aU {A B Rr:Type} (body:(A→B→Option Rr)→A→B→Option Rr):Nat→A→B→Option Rr
 |0,_,_=>none
 |n+1,a,b=>body (aU body n) a b
def DR {P:Program} {σ:BI} {Q:Exit→BI→Prop} {q:Code} {A B Rr:Type} (S:A→B→BI) (body:(A→B→Option Rr)→A→B→Option Rr) (r:Rr) (a0:A) (m:B) (hs:Bz σ (S a0 m)) (h:Go.Proofs.YtldfpencimjjlaaGreat.aU body Aj a0 m=some r)
 (round:∀(J:BI→Prop) (k:A→B→Option Rr),(∀σ' a b,Bz σ' (S a b)→k a b=some r→J σ')→∀a b,body k a b=some r→AO P q (S a b) (Lc J Q)):AO P (.loop q) σ Q:=by
 refine AO.loop (fun n s=>∃a b,Bz s (S a b)∧Go.Proofs.YtldfpencimjjlaaGreat.aU body n a b=some r) Aj ⟨a0,m,hs,h⟩ ?_;rintro n s ⟨a,b,j,u⟩;refine CZ j ?_;cases n with
 |zero=>cases u
 |succ n=>exact round _ (Go.Proofs.YtldfpencimjjlaaGreat.aU body n) (fun σ' a b z I=>⟨n,Yb n,a,b,z,I⟩) a b u
def jM {A B C Rr:Type} (body:(A→B→C→Option Rr)→A→B→C→Option Rr):Nat→A→B→C→Option Rr
 |0,_,_,_=>none
 |n+1,a,b,c=>body (jM body n) a b c
def RZ {P:Program} {σ:BI} {Q:Exit→BI→Prop} {u:Code} {A B C Rr:Type} (S:A→B→C→BI) (body:(A→B→C→Option Rr)→A→B→C→Option Rr) (r:Rr) (a0:A) (m:B) (q:C) (hs:Bz σ (S a0 m q)) (h:Go.Proofs.YtldfpencimjjlaaGreat.jM body Aj a0 m q=some r)
 (round:∀(J:BI→Prop) (k:A→B→C→Option Rr),(∀σ' a b c,Bz σ' (S a b c)→k a b c=some r→J σ')→∀a b c,body k a b c=some r→AO P u (S a b c) (Lc J Q)):AO P (.loop u) σ Q:=by
 refine AO.loop (fun n s=>∃a b c,Bz s (S a b c)∧Go.Proofs.YtldfpencimjjlaaGreat.jM body n a b c=some r) Aj ⟨a0,m,q,hs,h⟩ ?_;rintro n s ⟨a,b,c,j,z⟩;refine CZ j ?_;cases n with
 |zero=>cases z
 |succ n=>exact round _ (Go.Proofs.YtldfpencimjjlaaGreat.jM body n) (fun σ' a b c I L=>⟨n,Yb n,a,b,c,I,L⟩) a b c z
def UL {A B C D Rr:Type} (body:(A→B→C→D→Option Rr)→A→B→C→D→Option Rr):Nat→A→B→C→D→Option Rr
 |0,_,_,_,_=>none
 |n+1,a,b,c,d=>body (UL body n) a b c d
def AO.UL {P:Program} {σ:BI} {Q:Exit→BI→Prop} {z:Code} {A B C D Rr:Type} (S:A→B→C→D→BI) (body:(A→B→C→D→Option Rr)→A→B→C→D→Option Rr) (r:Rr) (a0:A) (m:B) (q:C) (u:D) (hs:Bz σ (S a0 m q u)) (h:Go.Proofs.YtldfpencimjjlaaGreat.UL body Aj a0 m q u=some r)
 (round:∀(J:BI→Prop) (k:A→B→C→D→Option Rr),(∀σ' a b c d,Bz σ' (S a b c d)→k a b c d=some r→J σ')→∀a b c d,body k a b c d=some r→AO P z (S a b c d) (Lc J Q)):AO P (.loop z) σ Q:=by
 refine AO.loop (fun n s=>∃a b c d,Bz s (S a b c d)∧Go.Proofs.YtldfpencimjjlaaGreat.UL body n a b c d=some r) Aj ⟨a0,m,q,u,hs,h⟩ ?_;rintro n s ⟨a,b,c,d,j,I⟩;refine CZ j ?_;cases n with
 |zero=>cases I
 |succ n=>exact round _ (Go.Proofs.YtldfpencimjjlaaGreat.UL body n) (fun σ' a b c d L M=>⟨n,Yb n,a,b,c,d,L,M⟩) a b c d I
def FT {A B C D E Rr:Type} (body:(A→B→C→D→E→Option Rr)→A→B→C→D→E→Option Rr):Nat→A→B→C→D→E→Option Rr
 |0,_,_,_,_,_=>none
 |n+1,a,b,c,d,e=>body (FT body n) a b c d e
def AO.FT {P:Program} {σ:BI} {Q:Exit→BI→Prop} {I:Code} {A B C D E Rr:Type} (S:A→B→C→D→E→BI) (body:(A→B→C→D→E→Option Rr)→A→B→C→D→E→Option Rr) (r:Rr) (a0:A) (m:B) (q:C) (u:D) (z:E) (hs:Bz σ (S a0 m q u z)) (h:Go.Proofs.YtldfpencimjjlaaGreat.FT body Aj a0 m q u z=some r)
 (round:∀(J:BI→Prop) (k:A→B→C→D→E→Option Rr),(∀σ' a b c d e,Bz σ' (S a b c d e)→k a b c d e=some r→J σ')→∀a b c d e,body k a b c d e=some r→AO P I (S a b c d e) (Lc J Q)):AO P (.loop I) σ Q:=by
 refine AO.loop (fun n s=>∃a b c d e,Bz s (S a b c d e)∧Go.Proofs.YtldfpencimjjlaaGreat.FT body n a b c d e=some r) Aj ⟨a0,m,q,u,z,hs,h⟩ ?_;rintro n s ⟨a,b,c,d,e,j,L⟩;refine CZ j ?_;cases n with
 |zero=>cases L
 |succ n=>exact round _ (Go.Proofs.YtldfpencimjjlaaGreat.FT body n) (fun σ' a b c d e M O=>⟨n,Yb n,a,b,c,d,e,M,O⟩) a b c d e L
def FU {A B C D E F Rr:Type} (body:(A→B→C→D→E→F→Option Rr)→A→B→C→D→E→F→Option Rr):Nat→A→B→C→D→E→F→Option Rr
 |0,_,_,_,_,_,_=>none
 |n+1,a,b,c,d,e,f=>body (FU body n) a b c d e f
def AO.FU {P:Program} {σ:BI} {Q:Exit→BI→Prop} {L:Code} {A B C D E F Rr:Type} (S:A→B→C→D→E→F→BI) (body:(A→B→C→D→E→F→Option Rr)→A→B→C→D→E→F→Option Rr) (r:Rr) (a0:A) (m:B) (q:C) (u:D) (z:E) (I:F) (hs:Bz σ (S a0 m q u z I)) (h:Go.Proofs.YtldfpencimjjlaaGreat.FU body Aj a0 m q u z I=some r)
 (round:∀(J:BI→Prop) (k:A→B→C→D→E→F→Option Rr),(∀σ' a b c d e f,Bz σ' (S a b c d e f)→k a b c d e f=some r→J σ')→∀a b c d e f,body k a b c d e f=some r→AO P L (S a b c d e f) (Lc J Q)):AO P (.loop L) σ Q:=by
 refine AO.loop (fun n s=>∃a b c d e f,Bz s (S a b c d e f)∧Go.Proofs.YtldfpencimjjlaaGreat.FU body n a b c d e f=some r) Aj ⟨a0,m,q,u,z,I,hs,h⟩ ?_;rintro n s ⟨a,b,c,d,e,f,j,M⟩;refine CZ j ?_;cases n with
 |zero=>cases M
 |succ n=>exact round _ (Go.Proofs.YtldfpencimjjlaaGreat.FU body n) (fun σ' a b c d e f O U=>⟨n,Yb n,a,b,c,d,e,f,O,U⟩) a b c d e f M
def abD {A B C D E F G Rr:Type} (body:(A→B→C→D→E→F→G→Option Rr)→A→B→C→D→E→F→G→Option Rr):Nat→A→B→C→D→E→F→G→Option Rr
 |0,_,_,_,_,_,_,_=>none
 |n+1,a,b,c,d,e,f,g=>body (abD body n) a b c d e f g
def AO.abD {P:Program} {σ:BI} {Q:Exit→BI→Prop} {M:Code} {A B C D E F G Rr:Type} (S:A→B→C→D→E→F→G→BI) (body:(A→B→C→D→E→F→G→Option Rr)→A→B→C→D→E→F→G→Option Rr) (r:Rr) (a0:A) (m:B) (q:C) (u:D) (z:E) (I:F) (L:G) (hs:Bz σ (S a0 m q u z I L)) (h:Go.Proofs.YtldfpencimjjlaaGreat.abD body Aj a0 m q u z I L=some r)
 (round:∀(J:BI→Prop) (k:A→B→C→D→E→F→G→Option Rr),(∀σ' a b c d e f g,Bz σ' (S a b c d e f g)→k a b c d e f g=some r→J σ')→∀a b c d e f g,body k a b c d e f g=some r→AO P M (S a b c d e f g) (Lc J Q)):AO P (.loop M) σ Q:=by
 refine AO.loop (fun n s=>∃a b c d e f g,Bz s (S a b c d e f g)∧Go.Proofs.YtldfpencimjjlaaGreat.abD body n a b c d e f g=some r) Aj ⟨a0,m,q,u,z,I,L,hs,h⟩ ?_;rintro n s ⟨a,b,c,d,e,f,g,j,O⟩;refine CZ j ?_;cases n with
 |zero=>cases O
 |succ n=>exact round _ (Go.Proofs.YtldfpencimjjlaaGreat.abD body n) (fun σ' a b c d e f g U Y=>⟨n,Yb n,a,b,c,d,e,f,g,U,Y⟩) a b c d e f g O
section
variable {P : Program} {o : Oper} {es : List BN} {α : Type}
def arT {b:Nat} {z:α} {n c:Int} {r:List α} (h:JV b z n c=some r):(0≤n∧n≤c∧(b:Int)*c≤140737488355328)∧r=List.replicate n.toNat z:=by
 unfold JV at h;split at h
 ·exact⟨‹_›,(D5 h).symm⟩
 cases h
def dD {x y:Operand} {t e:TypeId} {size j:Nat} {m:Value} {n c:Int} {r:List α} (enc:α→D) (z:α) (h:JV j z n c=some r) (hE:GN P t e size j) (hz:(P.info? e).bind (·.zero)=some m) (h1:m.cells.all (·.oneCell')=true) (L:m.cells.size=size)
 (q:Fa m=(enc z).cells.map .d) (hb:0<j) (ho:o.op=.makeSlice t x y):Bl P o [(x,.d (Ac n)),(y,.d (Ac c))] es (.aO es.length) (es++[.arr e size (List.map enc r)]):=
 .eff fun C ok H a w hm hn=>by
  obtain⟨⟨h0,hnc,hbc⟩,rfl⟩:=arT h;have hx:=(Ej hn).1.lit;have M:=(Ej hn).2.lit;simp only at hx M;obtain⟨i,z',hi,hz',hs,hby,_⟩:=hE.info;have hzv:i.zero=some m:=by rw[hi]at hz;simpa using hz
  have O:c≤9223372036854775807:=by
   have h2:(1:Int)*c≤(j:Int)*c:=Int.mul_le_mul_of_nonneg_right AB AB;omega
  have hr:=run_make (P:=P) w t e i m hE.und hi hzv .i64 .i64 n c h0 hnc (by rw[hby];omega) O;rw[hs]at hr
  let cells:=madeCells m.cells (c.toNat*size)
  have U:=hE.pos;have u:cells.size=c.toNat*size:=size_madeCells _ _;have Y:(Fa m).length=size:=by simp[Fa,L]
  have I:∀y∈List.map enc (List.replicate n.toNat z),y.cells.length=size:=by
   intro y M;simp only[List.map_replicate,List.mem_replicate]at M;rw[M.2,←Y,q];simp
  have J:=RY I;have hlen:(List.map enc (List.replicate n.toNat z)).length=n.toNat:=BP
  rw[hlen]at J;have aHh:n.toNat*size≤c.toNat*size:=Jw _ AB
  have hrs:∀{ok:Nat→Prop} {w:World} {H:List Bj},G8 ok w H (flat (List.map enc (List.replicate n.toNat z))) (cells.toList.take (n.toNat*size)):=by
   intro ok w H;refine⟨by rw[J,Fr,TB,u];omega,fun k hk=>?_⟩;rw[J]at hk;have hd:=aEk k size;have hq:k/size<n.toNat:=nN (by rwa [Uf]at hk);have hm':k % size<size:=mW _ U;have e0:k=k/size*size+k % size:=by rw[Uf];exact hd.symm
   have e1:(flat (List.map enc (List.replicate n.toNat z))).getD k .junk=.d ((enc z).cells.getD (k % size) Dp):=by
    have hg:=flat_get I (k/size) (k % size) (by rw[hlen];exact hq) hm';rw[←e0]at hg;rw[hg];congr 3;simp[List.getD,hq]
   have hcl:(enc z).cells.length=size:=by rw[←Y,q];simp
   have e2:(Ag.d ((enc z).cells.getD (k % size) Dp))=(Fa m).getD (k % size) .junk:=by
    rw[q];have :k % size<(enc z).cells.length:=AB
    simp[List.getD,this]
   have Z:k % size<m.cells.size:=AB
   have e3:(cells.toList.take (n.toNat*size)).getD k undef=m.cells[k % size]:=by
    have hk2:k<c.toNat*size:=AB
    have e:cells.toList=(List.range (c.toNat*size)).map fun i=>m.cells[i % m.cells.size]! :=by
     show(madeCells m.cells (c.toNat*size)).toList=_;simp[madeCells]
    rw[e];simp only[List.getD,Nv hk];simp[hk2,L];rw[rG m.cells (k % size) Z]
   rw[e1,e2,e3];have e4:(Fa m).getD (k % size) .junk=.d (Oo m.cells[k % size]):=by simp[Fa,List.getD,Z]
   rw[e4];exact⟨yX ((Qc.1 h1) _ BP),.d _ _ (kE _)⟩
  obtain⟨h2,h3⟩:=hm.push (.cells cells e) ⟨.slice (some ⟨w.heap.size,0,none⟩) n.toNat c.toNat,size⟩ (.arr e size (List.map enc (List.replicate n.toNat z))) (fun b hb=>by simpa[Df]using hb.symm) (by
   refine⟨rfl,I,cells.toList.take (n.toNat*size),⟨?_,.inr ⟨w.heap.size,c.toNat,cells,by rw[hlen],El _,Y1 w _,by rw[hlen];omega,aFl,ZW u.symm,by rw[hlen]⟩⟩,hrs⟩
   rw[hlen,Fr,TB,u];omega)
  refine⟨.slice (some ⟨w.heap.size,0,none⟩) n.toNat c.toNat,_,ok,_,.inl ?_,h3,Names.push _ _,h2,.aO _ _ _ _ size aHY⟩;simp only[execOp,ho,hx,M,FV,hr,Fb,GY];rfl
def gCopy (l m:List α):List α:=m.take l.length++l.drop m.length
def ar2 {x y:Operand} {t e:TypeId} {size bytes k:Nat} (enc:α→D) (l m:List α) (hE:GN P t e size bytes) (hk:es[k]? =some (.arr e size (List.map enc l))) (hc:∀a,(enc a).cells.length=size) (ho:o.op=.call { callee:=.builtin .copy,args:= #[x,y],argTypes:= #[t,t] }):
 Bl P o [(x,.aO k),(y,.d (BQ enc m))] es .junk (es.set k (.arr e size (List.map enc (gCopy l m)))):=
 .eff fun C ok H a w hm hn=>by
  have hx:=(Ej hn).1;have hy:=(Ej hn).2;simp only at hx hy;obtain⟨h,hh,hok⟩:=Gj hm.ent hm.hlen hk;have hxv:=QE hx hh;obtain⟨i,z',hi,hz',hs,hby,_⟩:=hE.info;have hu:(underlying t).run P w=.ok (.slice e) w:=aOK
  have hsz:(sizeOf e).run P w=.ok size w:=aLa
  have Y:∀(q:List α),∀y∈q.map enc,y.cells.length=size:=fun q y hy=>aM7
  have hyR:Dv ok w (.sl (m.map enc)) (a.eval y):=by cases hy with |d _ _ h=>exact h
  obtain⟨z,U,aGu⟩:=ZY H hyR (Y m);obtain⟨h1,h2,ys,Z,hrs⟩:=hok;have hlm:(m.map enc).length=m.length:=BP
  have hll:(l.map enc).length=l.length:=BP
  have hnl:z.length=m.length*size:=by rw[U.len,hlm]
  let n:=Nat.min m.length l.length
  have hlenx:(Builtin.lenOf (a.eval y)).run P w=.ok m.length w:=by
   rcases U.at_ with⟨ad,c,e1,_⟩|⟨c,e1,e2⟩
   ·rw[e1];simp[Builtin.lenOf]
   rw[e1];rw[hlm]at e2;simp[Builtin.lenOf,e2]
  have J:(Builtin.firstCells size n (a.eval y)).run P w=.ok (z.take (n*size)).toArray w:=by
   rcases U.at_ with⟨ad,c,e1,hcells⟩|⟨c,e1,e2⟩
   ·rw[e1];refine run_firstCells_some (P:=P) w size n ad _ c (z.take (n*size)) ?_ ?_
    ·rw[Fr,hnl];have :n*size≤m.length*size:=Jw _ (aPM _ _);omega
    intro j v hj;rw[zM]at hj;split at hj
    ·exact hcells j v hj
    cases hj
   rw[e1];rw[hlm]at e2;have :z=[]:=H9 (by rw[hnl,e2];simp);simp[Builtin.firstCells,this]
  have hone:∀u∈z.take (n*size),u.oneCell'=true:=fun u hu=>U.one u (nT hu);have hn1:n≤m.length:=aPM _ _;have hn2:n≤l.length:=Nat.min_le_right _ _
  have I:(z.take (n*size)).length=n*size:=by
   rw[Fr,hnl];have :n*size≤m.length*size:=Jw _ hn1;omega
  have hgc:gCopy l m=m.take n++l.drop n:=by
   unfold gCopy;by_cases hle:m.length≤l.length
   ·have e1:n=m.length:=qP hle;rw[e1,Ql hle,Gm]
   have e1:n=l.length:=Nat.min_eq_right AB;rw[e1,aEH AB,PK]
  have L:(gCopy l m).length=l.length:=by rw[hgc];simp;omega
  rcases Z.2 with⟨hv,hl0⟩|⟨g,cap,M,hv,_,hg,hncap,hcm,hcs,htake⟩
  ·
   rw[hll]at hl0;have hn0:n=0:=AB
   have hl:l=[]:=H9 hl0;have hge:gCopy l m=l:=by rw[hgc,hn0];simp
   rw[hge]
   have hset:es.set k (.arr e size (List.map enc l))=es:=by
    apply bU;intro j;by_cases hj:k=j
    ·subst hj;have hkl:=(G5.1 hk).1;rw[List.getElem?_set_self hkl,hk]
    rw[Xp hj]
   rw[hset];refine⟨goInt n,w,ok,H,.inl ?_,.refl _ _,.refl _,hm,.junk _⟩;have e0:Nat.min m.length 0=n:=by rw[hn0];simp
   have hf0:(Builtin.firstCells size 0 (a.eval y)).run P w=.ok #[] w:=by rw[hn0]at J;simpa using J
   simp[execOp,ho,resolve,invoke,builtin,Builtin.copy_,hxv,hv,hu,hlenx,hsz,hf0,hn0]
  ·rw[hll]at hv hncap htake;have hlt:g<w.heap.size:=(GZ.1 hg).1
   have hfit:n*size≤M.size:=by
    exact F6 (Jw _ AB) hcs
   have hst:=aMk (P:=P) g 0 e (z.take (n*size)) 0 M w hg (by rw[I];omega) hone;have aA2:∀y∈(gCopy l m).map enc,y.cells.length=size:=Y _
   obtain⟨h3,h4⟩:=hm.upd (e:=.arr e size (List.map enc (gCopy l m))) (w':=w.setRow g (M.toList.take (0+0)++z.take (n*size)++M.toList.drop (0+0+(z.take (n*size)).length)).toArray) hk rfl hh (by rw[hv];rfl) rfl rfl rfl aNn (fun c hc=>aN4 _ _ _ _ hc) (fun hg'=>by
    refine⟨h1,aA2,z.take (n*size)++ys.drop (n*size),?_,?_⟩
    ·refine⟨?_,.inr ⟨g,cap,_,by rw[Cm,L];exact hv,El _,xY w g M _ e (0,0) hg,by rw[Cm,L];exact hncap,hcm,?_,?_⟩⟩
     ·simp only[EP,I,LP,Z.1,Cm,L];have :n*size≤l.length*size:=Jw _ hn2;omega
     ·simp only[P5,aJa,IV,JJ,I];simp only[l9,EP,I,LP,TB];rw[show n*size+(M.size-n*size)=M.size by omega];exact hcs
     simp only[P5,aJa,IV,JJ,I,aAl];rw[Cm,L,←htake];rw[aL4,I,Ql (by rw[I];exact Jw _ hn2)];congr 1;rw[List.drop_take]
    have ha:=aGu.mono hg' (Names.refl H);have hb:=hrs.mono hg' (Names.refl H);have aGv:=RY (Y l);have aGw:=RY (Y m);have aEm:=RY aA2;have aHi:n*size≤l.length*size:=Jw _ hn2;have aHj:n*size≤m.length*size:=Jw _ hn1;refine⟨by simp only[aEm,EP,I,LP,Z.1,Cm,L];omega,fun j hj=>?_⟩;rw[aEm,Cm,L]at hj;have hpos:=hE.pos;have e0:j=j/size*size+j % size:=by rw[Uf];exact(aEk j size).symm
    have hq:j/size<l.length:=nN (by rwa [Uf]at hj);have hr:j % size<size:=mW _ hpos;have hg3:=flat_get aA2 (j/size) (j % size) (by rw[Cm,L];exact hq) hr;rw[←e0]at hg3;by_cases hjn:j<n*size
    ·have hqn:j/size<n:=nN (by rwa [Uf]at hjn);have hg2:=flat_get (Y m) (j/size) (j % size) (by rw[hlm];omega) hr;rw[←e0]at hg2
     have O:((gCopy l m).map enc).getD (j/size) Dp=(m.map enc).getD (j/size) Dp:=by
      rw[hgc];simp only[List.getD,JM];rw[Gs Dz,Yd,Nv hqn]
     rw[hg3,O,←hg2]
     have e5:(z.take (n*size)++ys.drop (n*size)).getD j undef=z.getD j undef:=by
      simp only[List.getD];rw[Gs (by rw[I];exact hjn),Nv hjn]
     rw[e5];exact ha.2 j (by rw[aGw,hlm];omega)
    have hqn:n≤j/size:=(Nat.le_div_iff_mul_le hpos).2 AB;have hg1:=flat_get (Y l) (j/size) (j % size) (by rw[hll];exact hq) hr;rw[←e0]at hg1
    have O:((gCopy l m).map enc).getD (j/size) Dp=(l.map enc).getD (j/size) Dp:=by
     rw[hgc];have hlt':(m.take n).length=n:=Dz
     simp only[List.getD,JM];rw[Jr (by rw[Cm,hlt'];exact hqn),Cm,hlt',ZR,QJ];congr 2;omega
    rw[hg3,O,←hg1]
    have e5:(z.take (n*size)++ys.drop (n*size)).getD j undef=ys.getD j undef:=by
     simp only[List.getD];rw[Jr (by rw[I];omega),I,QJ];congr 2;omega
    rw[e5]
    exact hb.2 j (by rw[aGv,hll];omega))
   refine⟨goInt n,_,ok,H,.inl ?_,h4,.refl _,h3,.junk _⟩;have e0:Nat.min m.length l.length=n:=rfl;simp[execOp,ho,resolve,invoke,builtin,Builtin.copy_,hxv,hv,hu,hlenx,hsz,e0,J];rw[hst];simp
end
def Bo (s:ByteArray):List Int:=s.data.toList.map fun c=>(c.toNat:Int)
def IQ (s:ByteArray):(Bo s).length=s.size:=by unfold Bo;rw[Cm,TB];rfl
section
variable {P : Program} {o : Oper} {es : List BN} {α : Type}
def aBs :∀(l:List Int),flat (l.map DI)=l.map fun n=>.d (DI n)
 | []=>rfl
 |n::l=>by rw[LC,WM,aBs l];rfl
def anM {w:World} {t u ty e:TypeId} {i:TypeInfo} (ht:P.underlying t=some (.slice e)) (hu:P.underlying u=some .string) (hi:P.info? e=some i) (hz:i.zero=some (.int .u8 0)) (j:i.size=1) (Y:i.bytes=1)
 {v:Value} {n:Nat} {xs:List Value} (q:nO w e 1 v n xs) (s:ByteArray) (M:n+s.size≤maxLen) (J:n+s.size≤140737488355328):
 ∃v' w',(Builtin.append_ #[t,u] ty #[v,.string s]).run P w=.ok v' w'∧nO w' e 1 v' (n+s.size) (xs++Lib.strCells s)∧w.grownBy w' v.ownBlock∧(∀U,Df v'=some U→Df v=some U∨w.heap.size≤U):=by
 have L:xs.length=n:=by simpa using q.1
 have hlen:(xs++Lib.strCells s).length=(n+s.size)*1:=by rw[EP,L,aIa,dO]
 rcases q.2 with⟨rfl,rfl⟩|⟨g,cap,Z,rfl,_,hg,hnc,O,hcs,z⟩
 ·have hx:xs=[]:=H9 L;subst hx;obtain⟨v',w',q1,q2,q3,q4⟩:=Lib.run_append_own_string (P:=P) w w.heap.size t u ty e i ht hu hi hz j Y _ 0 [] (Rep w w.heap.size e 1) s M J (EG _);refine⟨v',w',q1,.of q2,q3,fun U m=>.inr ?_⟩;rcases q2.2 with⟨rfl,_⟩|⟨g2,_,_,rfl,hle,_⟩
  ·simp[Df]at m
  simp[Df]at m;subst m;exact hle
 rw[dO]at hcs z;by_cases I:n+s.size≤cap
 ·have hr:=Lib.run_append_room_string (P:=P) w t u ty e i ht hu hi j g n cap Z hg s I AB;refine⟨_,_,hr,⟨hlen,.inr ⟨g,cap,_,rfl,El _,xY w g Z _ e _ hg,I,O,?_,?_⟩⟩,⟨rfl,rfl,rfl,BP,fun k _ hk=>setRow_other w g k _ (fun e=>hk (by simp[Value.ownBlock,e]))⟩,fun U m=>.inl m⟩
  ·simp only[l9,EP,Fr,LP,TB,aIa];omega
  rw[z,←hlen];exact aOf
 have hr:=Lib.run_append_grow_string (P:=P) w t u ty e i (.int .u8 0) ht hu hi hz ⟨g,0,none⟩ n cap xs (by rw[j];simpa using L) (q.cells (g:=g) rfl) s AB (by unfold maxLen at M;omega) (by rw[Y];exact growslice_fits AB AB);have hge:=grownCap_ge w (n+s.size) cap e;have O:grownCap w (n+s.size) cap e≤maxLen:=grownCap_le_maxLen w (n+s.size) cap e M;refine⟨_,_,hr,⟨hlen,.inr ⟨w.heap.size,_,_,rfl,El _,Y1 w.drew _,hge,O,ZW ?_,?_⟩⟩,⟨rfl,rfl,rfl,BP,fun k hk _=>KC w.drew _ k hk⟩,fun U m=>.inr (by simp[Df]at m;omega)⟩
 ·have hz1:(Value.int IntKind.u8 0).cells.size=1:=rfl;simp only[Array.size_append,l9,size_zeroCells,hz1,L,aIa];omega
 simp only[Array.toList_append,Ht];rw[←Ht,←hlen];exact aOf
def afv {s x:Operand} {t u e:TypeId} {k:Nat} {l r:List Int} {j:ByteArray} (h:Ci 1 l (Bo j)=some r) (hE:GN P t e 1 1) (hz:(P.info? e).bind (·.zero)=some (.int .u8 0)) (hu:P.underlying u=some .string) (hk:es[k]? =some (.arr e 1 (List.map DI l)))
 (ho:o.op=.call { callee:=.builtin .append,args:= #[s,x],argTypes:= #[t,u] }):Bl P o [(s,.aO k),(x,.d (Cx j))] es (.aO es.length) (es.set k .dead++[.arr e 1 (List.map DI r)]):=
 .eff fun C ok H a w hm hn=>by
  obtain⟨rfl,hlen⟩:=qg h;rw[IQ,dO]at hlen;have hs:=(Ej hn).1;have hx:=(Ej hn).2.lit;simp only at hs hx;obtain⟨hd,hh,hok⟩:=Gj hm.ent hm.hlen hk;have hsv:=QE hs hh;obtain⟨h1,h2,ys,z,hrs⟩:=hok;obtain⟨i,z',hi,hz',hs1,hby,_⟩:=hE.info;have hz2:i.zero=some (.int .u8 0):=by rw[hi]at hz;simpa using hz
  have J:(l.map DI).length=l.length:=BP
  have L:(l.map DI).length+j.size≤maxLen:=by rw[J];unfold maxLen;omega
  obtain⟨v',w',hr,I,M,O⟩:=anM (P:=P) (ty:=o.type) hE.und hu hi hz2 hs1 hby z j L (by rw[J];exact hlen)
  obtain⟨h3,h4⟩:=hm.turn (h':=⟨v',1⟩) (e:=.arr e 1 (List.map DI (l++Bo j))) hk rfl hh M.os M.tape M.output M.size (fun c hc hne=>M.block c hc (by rw[aNZ z];exact fun e=>hne e.symm)) (fun g U=>⟨zK I U,O g U⟩) (fun hgr=>by
   refine⟨rfl,fun y hy=>by obtain⟨q,_,rfl⟩:=FH.1 hy;rfl,ys++Lib.strCells j,?_,?_⟩
   ·have e:(List.map DI (l++Bo j)).length=(l.map DI).length+j.size:=by simp[IQ]
    rw[e];exact I
   have Y:=hrs.mono hgr (Names.push H [⟨v',1⟩]);have hfl:(flat (l.map DI)).length=l.length:=by rw[aBs];simp
   have hcl:(Lib.strCells j)=(Bo j).map (.int .u8):=by unfold Lib.strCells Bo;rw[zU];rfl
   rw[JM,kZ,aBs (Bo j),hcl];refine⟨by rw[EP,EP,Y.1,Cm,Cm],fun i hi=>?_⟩;by_cases m:i<(flat (l.map DI)).length
   ·have e1:(flat (l.map DI)++(Bo j).map fun n=>Ag.d (DI n)).getD i .junk=(flat (l.map DI)).getD i .junk:=by simp[List.getD,Gs m]
    have e2:(ys++(Bo j).map (Value.int .u8)).getD i undef=ys.getD i undef:=by simp[List.getD,Gs (by rw[Y.1];exact m:i<ys.length)]
    rw[e1,e2];exact Y.2 i m
   have Z:i-(flat (l.map DI)).length<(Bo j).length:=by rw[EP,Cm]at hi;omega
   have e1:(flat (l.map DI)++(Bo j).map fun n=>Ag.d (DI n)).getD i .junk=.d (DI (Bo j)[i-(flat (l.map DI)).length]):=by simp[List.getD,Jr (Um m),Z]
   have e2:(ys++(Bo j).map (Value.int .u8)).getD i undef=.int .u8 (Bo j)[i-(flat (l.map DI)).length]:=by simp[List.getD,Jr (by rw[Y.1];omega:ys.length≤i),Y.1,Z]
   rw[e1,e2]
   exact⟨rfl,.d _ _ (.lit _)⟩)
  have hH:(H++[(⟨v',1⟩:Bj)])[es.length]? =some ⟨v',1⟩:=aHY
  refine⟨v',w',ok,_,.inl ?_,h4,Names.push _ _,h3,?_⟩
  ·simp[execOp,ho,resolve,invoke,builtin,hx,hsv,hr]
  rcases I.2 with⟨rfl,_⟩|⟨g',c',_,rfl,_⟩
  ·exact .aO _ _ _ _ 1 hH
  exact .aO _ _ _ _ 1 hH
def alP {x:Operand} {z I e:TypeId} {s:ByteArray} (hs:P.underlying z=some .string) (hd:P.underlying I=some (.slice e)) (M:P.underlying e=some (.int .u8)) (O:o.op=.convert z I x):Bl P o [(x,.d (Cx s))] es (.d (BQ DI (Bo s))) es:=
 .eff fun C ok H a w U Y=>by
  have L:=(Kv Y).lit;simp only at L;have Z:=run_bytes_of_string (P:=P) w z I e s hs hd M;obtain⟨h1,h2⟩:=U.drew;obtain⟨h3,h4⟩:=h1.fresh (.cells (bytesRow s (grownCap w s.size 0 e)) e ((bytesRow s (grownCap w s.size 0 e)).size,(bytesRow s (grownCap w s.size 0 e)).size+1));refine⟨.slice (some ⟨w.heap.size,0,none⟩) s.size (grownCap w s.size 0 e),_,_,H,.inl ?_,h2.trans h4,.refl _,h3,.d _ _ ?_⟩
  ·simp only[execOp,O,L,FV,Z,Fb,GY]
  have m:((Bo s).map DI).length=s.size:=by simp[IQ]
  have q:∀i,i<s.size→(w.drew.alloc (.cells (bytesRow s (grownCap w s.size 0 e)) e ((bytesRow s (grownCap w s.size 0 e)).size,(bytesRow s (grownCap w s.size 0 e)).size+1))).cell? ⟨w.heap.size,0+(i*1+0),none⟩=some (.int .u8 ((s.data.toList.getD i 0).toNat)):=by
   intro i hi;have hb:(w.drew.alloc (.cells (bytesRow s (grownCap w s.size 0 e)) e ((bytesRow s (grownCap w s.size 0 e)).size,(bytesRow s (grownCap w s.size 0 e)).size+1))).heap[w.heap.size]? =some (.cells (bytesRow s (grownCap w s.size 0 e)) e ((bytesRow s (grownCap w s.size 0 e)).size,(bytesRow s (grownCap w s.size 0 e)).size+1)):=Y1 w.drew _;rw[JJ,dO,P5];have u:i<s.data.size:=hi
   have hg:(bytesRow s (grownCap w s.size 0 e))[i]? =some (.int .u8 ((s.data.toList.getD i 0).toNat)):=by
    unfold bytesRow;rw[YW MS];simp[jP u,List.getD]
   unfold World.cell?;simp only[hb];simpa using hg
  have hl:∀i,i<s.size→((Bo s).map DI).getD i Dp=DI ((s.data.toList.getD i 0).toNat):=by
   intro i hi;have u:i<s.data.size:=hi;simp[Bo,List.getD,jP u]
  have z0:∀j,j<1→j=0:=fun j J=>AB
  have :=Dv.sl (ok:=fun b=>ok b∨b=w.drew.heap.size) (w:=w.drew.alloc (.cells (bytesRow s (grownCap w s.size 0 e)) e ((bytesRow s (grownCap w s.size 0 e)).size,(bytesRow s (grownCap w s.size 0 e)).size+1))) ((Bo s).map DI) w.heap.size 0 (grownCap w s.size 0 e) 1 (by rw[m];exact grownCap_ge w s.size 0 e) (fun _ _=>.inr rfl)
   (fun i hi=>by rw[m]at hi;rw[hl i hi];rfl)
   (fun i hi j J=>by rw[m]at hi;rw[z0 j J,hl i hi];rfl)
   (fun i hi j J=>by rw[m]at hi;rw[z0 j J,q i hi];rfl)
   (fun i hi j J=>by rw[m]at hi;rw[z0 j J];unfold cellAt;rw[q i hi,hl i hi];exact .lit _)
  rw[m]at this;exact this
def Ec (op:BinOp) (k:IntKind) (x y:Int):Int:=
 match op with
 | .and=>k.wrap ((BitVec.ofInt k.bits x&&& BitVec.ofInt k.bits y).toNat)
 | .or=>k.wrap ((BitVec.ofInt k.bits x|||BitVec.ofInt k.bits y).toNat)
 | .xor=>k.wrap ((BitVec.ofInt k.bits x^^^BitVec.ofInt k.bits y).toNat)
 |_=>k.wrap ((BitVec.ofInt k.bits x&&& ~~~(BitVec.ofInt k.bits y)).toNat)
def Qd {t t':TypeId} {x y:Operand} {k:IntKind} {u v:Int} (j:o.op=.binOp .and t x y t'):Bl P o [(x,.d (.lit (.int k u))),(y,.d (.lit (.int k v)))] es (.d (.lit (.int k (Ec .and k u v)))) es:=
 GV j (fun w=>aGJ) ⟨rfl,rfl⟩
def Vf {t t':TypeId} {x y:Operand} {k:IntKind} {u v:Int} (j:o.op=.binOp .or t x y t'):Bl P o [(x,.d (.lit (.int k u))),(y,.d (.lit (.int k v)))] es (.d (.lit (.int k (Ec .or k u v)))) es:=
 GV j (fun w=>aGJ) ⟨rfl,rfl⟩
def aRB {t t':TypeId} {x y:Operand} {k:IntKind} {u v:Int} (j:o.op=.binOp .xor t x y t'):Bl P o [(x,.d (.lit (.int k u))),(y,.d (.lit (.int k v)))] es (.d (.lit (.int k (Ec .xor k u v)))) es:=
 GV j (fun w=>aGJ) ⟨rfl,rfl⟩
def akt {t t':TypeId} {x y:Operand} {k:IntKind} {u v:Int} (j:o.op=.binOp .andNot t x y t'):Bl P o [(x,.d (.lit (.int k u))),(y,.d (.lit (.int k v)))] es (.d (.lit (.int k (Ec .andNot k u v)))) es:=
 GV j (fun w=>aGJ) ⟨rfl,rfl⟩
def ZM (k:IntKind) (x:Int):Int:=Ec .xor k (if k.signed then -1 else k.max) x
def aRT {t:TypeId} {x:Operand} {k:IntKind} {u:Int} (j:o.op=.unOp .xor t x):Bl P o [(x,.d (.lit (.int k u)))] es (.d (.lit (.int k (ZM k u)))) es:=
 aJJ j (fun w=>by simp[Op.unary,Op.intBits,ZM,Ec])
def PE (op:BinOp) (k:IntKind) (x y:Int):Option Int:=
 if y<0 then none else some (match op with | .shl=>k.wrap (x*2^(min y.toNat k.bits))|_=>x.fdiv (2^(min y.toNat k.bits)))
def aDS {t t':TypeId} {x y:Operand} {k k':IntKind} {u v r:Int} (h:PE .shl k u v=some r) (j:o.op=.binOp .shl t x y t'):Bl P o [(x,.d (.lit (.int k u))),(y,.d (.lit (.int k' v)))] es (.d (.lit (.int k r))) es:=by
 unfold PE at h;split at h
 ·cases h
 rename_i m;obtain rfl:=D5 h;exact GV j (fun w=>by simp[binOp,Op.shift,m]) ⟨rfl,rfl⟩
def aTV {t t':TypeId} {x y:Operand} {k k':IntKind} {u v r:Int} (h:PE .shr k u v=some r) (j:o.op=.binOp .shr t x y t'):Bl P o [(x,.d (.lit (.int k u))),(y,.d (.lit (.int k' v)))] es (.d (.lit (.int k r))) es:=by
 unfold PE at h;split at h
 ·cases h
 rename_i m;obtain rfl:=D5 h;exact GV j (fun w=>by simp[binOp,Op.shift,m]) ⟨rfl,rfl⟩
def sO (k:IntKind) (a b:Int):Option Int:=if b=0 then none else some (k.wrap (a.tdiv b))
def Wu (a b:Int):Option Int:=if b=0 then none else some (a.tmod b)
def aqe {t t':TypeId} {x y:Operand} {k:IntKind} {u v r:Int} (h:sO k u v=some r) (j:o.op=.binOp .quo t x y t'):Bl P o [(x,.d (.lit (.int k u))),(y,.d (.lit (.int k v)))] es (.d (.lit (.int k r))) es:=by
 unfold sO at h;split at h
 ·cases h
 rename_i m;obtain rfl:=D5 h;exact GV j (fun w=>by simp[binOp,Op.intDiv,m]) ⟨rfl,rfl⟩
def aKn {t t':TypeId} {x y:Operand} {k:IntKind} {u v r:Int} (h:Wu u v=some r) (j:o.op=.binOp .rem t x y t'):Bl P o [(x,.d (.lit (.int k u))),(y,.d (.lit (.int k v)))] es (.d (.lit (.int k r))) es:=by
 unfold Wu at h;split at h
 ·cases h
 rename_i m;obtain rfl:=D5 h;exact GV j (fun w=>by simp[binOp,Op.intDiv,m]) ⟨rfl,rfl⟩
end
section
variable {P : Program} {o : Oper} {es : List BN} {α : Type}
def acs {ok:Nat→Prop} {w:World} {H:List Bj} {h:Bj} {e size k i off:Nat} {xs:List D} {v:Value} (O:H[k]? =some h) (u:Ez ok w H h (.arr e size xs)) (hi:i<xs.length) (U:R ok w H (.mG k i off) v):
 ∃g cap j ys,h.v=.slice (some ⟨g,0,none⟩) xs.length cap∧w.heap[g]? =some (.cells j e (0,0))∧xs.length≤cap∧cap≤maxLen∧xs.length*size≤j.size∧cap*size≤j.size∧j.toList.take (xs.length*size)=ys∧ys.length=xs.length*size∧G8 ok w H (flat xs) ys∧(∀x∈xs,x.cells.length=size)∧v=.pointer (some ⟨g,i*size+off,none⟩):=by
 obtain⟨J,Y,ys,⟨Z,h4⟩,h5⟩:=u;rcases h4 with⟨q,h7⟩|⟨g,cap,j,q,h7,h8,L,z,m,I⟩
 ·omega
 refine⟨g,cap,j,ys,q,h8,L,z,F6 (Jw _ L) m,m,I,Z,h5,Y,?_⟩;cases U with
 |mG _ _ _ b n c s M=>
  rw[O]at M;obtain rfl:=D5 M;simp only[ji,MK,Addr.mk.injEq]at q;simp only at J;rw[q.1.1,J]
def ads {size n i j:Nat} (hi:i<n) (m:j<size):i*size+j<n*size:=
 calc i*size+j<i*size+size:=AB
  _=(i+1)*size:=by rw[Un]
  _≤n*size:=Jw _ hi
def J6 {x:Operand} {t:TypeId} {agg:Bool} {k n i off e size:Nat} {y:D} (enc:α→D) {l:List α} {a:α} (hy:y=PY agg (enc a).cells off n) (hk:es[k]? =some (.arr e size (List.map enc l))) (ha:l[i]? =some a) (hT:ET P t agg n) (hn:off+n≤(enc a).cells.length) (h1:agg=false→n=1)
 (ho:o.op=.load t x):Bl P o [(x,.mG k i off)] es (.d y) es:=
 .pure fun ok H ac w M hl Y=>by
  have hx:=Kv Y;simp only at hx;subst hy;obtain⟨h,hh,Z⟩:=Gj M hl hk;obtain⟨I,O⟩:=G5.1 ha;have m:i<(List.map enc l).length:=Qr
  obtain⟨g,cap,q,ys,e1,e2,e3,e4,e5,e5',e6,e7,e8,e9,e10⟩:=acs hh Z m hx;have J:(List.map enc l).getD i Dp=enc a:=by simp[List.getD,I,O]
  have hsz:(enc a).cells.length=size:=by
   refine e9 _ ?_;exact FH.2 ⟨a,by rw[←O];exact EU I,rfl⟩
  have hfl:=RY e9
  have u:∀j,j<size→w.cell? ⟨g,i*size+j,none⟩=some (ys.getD (i*size+j) undef):=by
   intro j L;have z:=ads m L;have hcur:(List.map enc l).length*size≤q.size:=e5;have h15:i*size+j<q.size:=AB
   have e11:ys.getD (i*size+j) undef=q[i*size+j]'(h15):=by
    rw[←e6];have h14:i*size+j<l.length*size:=VN
    simp[List.getD,Nv h14,show i*size+j<q.size by omega]
   rw[e11];simp[World.cell?,e2,show i*size+j<q.size by omega]
  have U:∀j,j<size→((enc a).cells.getD j Dp).leaf=true∧Dv ok w ((enc a).cells.getD j Dp) (ys.getD (i*size+j) undef):=by
   intro j L;have z:=e8.2 (i*size+j) (by rw[hfl];exact ads m L);rw[flat_get e9 i j m L,J]at z;refine⟨z.1,?_⟩;cases z.2 with |d _ _ h=>exact h
  obtain⟨v,hr,hD⟩:=aFL (ok:=ok) (w:=w) (b:=g) (p:=i*size) (cs:=(enc a).cells) hT hn h1 (fun j L=>(U j AB).1) (fun j L=>by rw[u j AB];rfl) (fun j L=>by unfold cellAt;rw[u j AB];exact(U j AB).2);exact⟨v,by simp only[execOp,ho,e10,FV,hr,Fb,GY],.d _ _ hD⟩
def X6 {t:TypeId} {x y:Operand} {k i off n e size:Nat} (enc:α→D) {l:List α} {a a':α} {v:Ag} (hk:es[k]? =some (.arr e size (List.map enc l))) (ha:l[i]? =some a) (hl:v.cells.all Ag.leaf=true) (hs:∀w,(sizeOf t).run P w=.ok n w) (hn:v.cells.length=n)
 (hle:off+n≤(enc a).cells.length) (hset:(enc a').cells.map Ag.d=setAt ((enc a).cells.map Ag.d) off v.cells) (hc:∀b,(enc b).cells.length=size) (ho:o.op=.store t x y):
 Bl P o [(x,.mG k i off),(y,v)] es .junk (es.set k (.arr e size (List.map enc (l.set i a')))):=
 .eff fun C ok H I w hm hn'=>by
  have h1:=(Ej hn').1;have h2:=(Ej hn').2;simp only at h1 h2;obtain⟨h,hh,hok⟩:=Gj hm.ent hm.hlen hk;obtain⟨U,hia⟩:=G5.1 ha;have aGx:i<(List.map enc l).length:=cZ
  have hok1:=hok.1;obtain⟨g,cap,m,ys,e1,e2,e3,e4,e5,e5',e6,e7,e8,e9,e10⟩:=acs hh hok aGx h1;have z:=h2.akg hl;have hll:(List.map enc l).length=l.length:=BP
  rw[hll]at e1 e3 e6 e7;have hea:(enc a).cells.length=size:=hc a;have Y:(I.eval y).cells.toList.length=n:=by rw[z.1,hn]
  have hsz:(I.eval y).cells.size=n:=aGm
  have hcur:l.length*size≤m.size:=by simpa using e5
  have hend:i*size+off+n≤l.length*size:=by
   have :(i+1)*size≤l.length*size:=Jw _ U;rw[Un]at this;omega
  have hst:=aMk (P:=P) g (i*size+off) e (I.eval y).cells.toList 0 m w e2 (by rw[Y];omega) (fun u hu=>by
   obtain⟨j,J,rfl⟩:=Ia hu;have h5:=z.2 j (by rw[←z.1];exact J);have :=h5.2.leaf h5.1
   rwa [aE2 J]at this)
  simp only[P5]at hst;have M:∀(q:List α),∀y∈q.map enc,y.cells.length=size:=fun q y hy=>aM7
  obtain⟨h3,h4⟩:=hm.upd (e:=.arr e size (List.map enc (l.set i a'))) (w':=w.setRow g (m.toList.take (i*size+off)++(I.eval y).cells.toList++m.toList.drop (i*size+off+(I.eval y).cells.toList.length)).toArray) hk rfl hh (by rw[e1];rfl) rfl rfl rfl aNn (fun c hc=>aN4 _ _ _ _ hc) (fun hg'=>by
   have esz:(setAt m.toList (i*size+off) (I.eval y).cells.toList).length=m.toList.length:=RU (by have :=m.length_toList;omega);refine⟨hok1,M _,setAt ys (i*size+off) (I.eval y).cells.toList,⟨?_,.inr ⟨g,cap,_,by simp;exact e1,El _,xY w g m _ e (0,0) e2,by simpa using e3,e4,?_,?_⟩⟩,?_⟩
   ·rw[RU AB];simpa using e7
   ·have h9:(setAt m.toList (i*size+off) (I.eval y).cells.toList).toArray.size=m.size:=by rw[l9,esz];simp
    show _≤(setAt m.toList (i*size+off) (I.eval y).cells.toList).toArray.size;rw[h9];exact e5'
   ·rw[aAl];show(setAt m.toList (i*size+off) (I.eval y).cells.toList).take _=_;rw[←e6];have hlen':(List.map enc (l.set i a')).length=l.length:=BP
    rw[hlen'];apply bU;intro j;have hcl:=m.length_toList;by_cases J:j<l.length*size
    ·have a1:((setAt m.toList (i*size+off) (I.eval y).cells.toList).take (l.length*size))[j]? =some ((setAt m.toList (i*size+off) (I.eval y).cells.toList).getD j undef):=by
      rw[Nv J];simp[List.getD,show j<(setAt m.toList (i*size+off) (I.eval y).cells.toList).length by rw[esz];omega]
     have tl:(m.toList.take (l.length*size)).length=l.length*size:=Dz
     have sl:(setAt (m.toList.take (l.length*size)) (i*size+off) (I.eval y).cells.toList).length=l.length*size:=by rw[RU AB,tl]
     have a2:(setAt (m.toList.take (l.length*size)) (i*size+off) (I.eval y).cells.toList)[j]? =some ((setAt (m.toList.take (l.length*size)) (i*size+off) (I.eval y).cells.toList).getD j undef):=by
      simp[List.getD,show j<(setAt (m.toList.take (l.length*size)) (i*size+off) (I.eval y).cells.toList).length by omega]
     rw[a1,a2,Xa AB,Xa AB];congr 1;split
     ·rfl
     simp[List.getD,Nv J]
    have tl:(m.toList.take (l.length*size)).length=l.length*size:=Dz
    have sl:(setAt (m.toList.take (l.length*size)) (i*size+off) (I.eval y).cells.toList).length=l.length*size:=by rw[RU AB,tl]
    rw[IC Dz,IC AB]
   have hb:=e8.mono hg' (Names.refl H);have hcr:=z.mono hg' (Names.refl H);have hfl:=RY (M l);have Z:=RY (M (l.set i a'));refine⟨by rw[RU AB,e7,Z];simp,fun j J=>?_⟩;rw[Z]at J;simp only[Cm,fV]at J
   have hpos:0<size:=by
    rcases Yp size with h0|h0
    ·rw[h0,Nat.mul_zero]at J;omega
    exact h0
   have e0:j=j/size*size+j % size:=by rw[Uf];exact(aEk j size).symm
   have hq:j/size<l.length:=nN (by rwa [Uf]at J);have hr:j % size<size:=mW _ hpos
   have hdiv:j/size=i↔i*size≤j∧j<i*size+size:=by
    rw[Nat.div_eq_iff hpos,Uf];omega
   rw[Y]at hb hcr;generalize j/size=qd at e0 hq hdiv;generalize j % size=L at e0 hr;have hg3:=flat_get (M (l.set i a')) qd L (by simpa using hq) hr;rw[←e0]at hg3;have hg1:=flat_get (M l) qd L (by simpa using hq) hr;rw[←e0]at hg1;rw[hg3,Xa AB,Y];by_cases O:qd=i
   ·have hnew:(List.map enc (l.set i a')).getD (qd) Dp=enc a':=by rw[O];simp[List.getD,U]
    have hold:(List.map enc l).getD (qd) Dp=enc a:=by rw[O];simp[List.getD,U,hia]
    rw[hnew];have aHk:(enc a').cells.length=size:=hc a'
    have e11:Ag.d ((enc a').cells.getD (L) Dp)=(setAt ((enc a).cells.map Ag.d) off v.cells).getD (L) .junk:=by
     rw[←hset];simp[List.getD,show L<(enc a').cells.length by omega]
    rw[e11,Xa (by rw[Cm,hn];exact hle),hn];have hji:j=i*size+L:=by rw[←O];exact e0
    by_cases hin:off≤L∧L<off+n
    ·rw[D9 hin,D9 AB];have :j-(i*size+off)=L-off:=AB
     rw[this];exact hcr.2 _ AB
    rw[DL hin,DL AB];have e12:((enc a).cells.map Ag.d).getD (L) .junk=.d ((enc a).cells.getD (L) Dp):=by simp[List.getD,show L<(enc a).cells.length by omega]
    rw[e12,←hold,←hg1];exact hb.2 j (by rw[hfl];simpa using J)
   have hsame:(List.map enc (l.set i a')).getD (qd) Dp=(List.map enc l).getD (qd) Dp:=by
    simp[List.getD,Xp (Ne.symm O)]
   have hnot:¬(i*size+off≤j∧j<i*size+off+n):=by
    rintro⟨ha1,ha2⟩;exact O (hdiv.2 ⟨AB,AB⟩)
   rw[DL hnot,hsame,←hg1]
   exact hb.2 j (by rw[hfl];simpa using J))
  refine⟨undef,_,ok,H,.inr ⟨rfl,?_⟩,h4,.refl _,h3,.junk _⟩;simp only[execOp,ho,e10,Instr.storeAt,Instr.sureAddr,storeVar,FV,GY,Fb,hs,hsz,ne_eq,not_true_eq_false,KN,hst]
end
def Ag.UM (k:Nat) (cs:List D):Ag→Ag
 | .ptr j off=>if j=k then .d (.ref cs off)else .ptr j off
 |x=>x
def BI.UM (σ:BI) (k:Nat) (cs:List D):BI:=⟨σ.slots.map (Ag.UM k cs),σ.ents.set k .dead,σ.base⟩
def UY {σ:BI} (k:Nat) {cs:List Ag} (hk:σ.ents[k]? =some (.box cs)) (hd:cs.all Ag.Bc=true):∀C ok H a w,Holds C ok H σ a w→∃ok',Holds C ok' H (σ.UM k (J8 cs)) a w:=by
 intro C ok H a w m;obtain⟨h,M,hok⟩:=Gj m.mem.ent m.mem.hlen hk;have z:k<σ.ents.length:=(G5.1 hk).1;obtain⟨b0,O,hf,hx,hc⟩:=aN7 hok hd
 let ok':Nat→Prop:=fun b=>ok b∨Df h.v=some b
 have L:=fun b q=>m.mem.blk k _ h b hk rfl M q;have hg:Eb ok w ok' w:=fun b q=>⟨.inl q,rfl⟩
 refine⟨ok',⟨m.mem.fr,fun b q=>.inl (m.mem.yZ b q),?_,?_,m.mem.names,by simp[BI.UM,m.mem.hlen],?_,?_,?_⟩,by simp[BI.UM,m.size],m.defers.mono hg,m.base,?_⟩
 ·rintro b (q|q)
  ·exact m.mem.y8 b q
  exact .inr (L b q).2.2
 ·rintro b (q|q)
  ·exact m.mem.kW b q
  exact(L b q).2.1
 ·intro j e' h' he I;rcases NC z he with⟨rfl,rfl⟩|⟨_,J⟩
  ·trivial
  exact(m.mem.ent j e' h' J I).mono hg (.refl _) (fun _ _ _=>rfl)
 ·intro j e' h' b he hl I q;rcases NC z he with⟨rfl,rfl⟩|⟨hne,J⟩
  ·cases hl
  have h3:=m.mem.blk j e' h' b J hl I q;refine⟨fun u=>?_,h3.2⟩;rcases u with u|u
  ·exact h3.1 u
  exact hne (m.mem.Fj j k e' _ h' h b J hk hl rfl I M q u)
 ·intro i j e1 e2 h1 h2 b he1 he2 U Y hh1 hh2 hb1 hb2;rcases NC z he1 with⟨rfl,rfl⟩|⟨_,Z⟩
  ·cases U
  rcases NC z he2 with⟨rfl,rfl⟩|⟨_,asG⟩
  ·cases Y
  exact m.mem.Fj i j e1 e2 h1 h2 b Z asG U Y hh1 hh2 hb1 hb2
 intro t ht;simp only[BI.UM,Cm]at ht
 have e1:(σ.UM k (J8 cs)).slots.getD t .junk=(σ.slots.getD t .junk).UM k (J8 cs):=by
  simp only[BI.UM];exact V5 _ _ _ ht
 rw[e1];have hR:=(m.slot t ht).mono hg (Names.refl H);generalize σ.slots.getD t .junk=x at hR ⊢;generalize a.tmps.getD t undef=v at hR ⊢;cases x with
 |ptr j off=>
  simp only[Ag.UM];split
  ·rename_i hj;subst hj;cases hR with
   |ptr _ _ b s hH=>
    rw[M]at hH;obtain rfl:=D5 hH;simp at O;subst O;have :=Dv.ref (ok:=ok') (w:=w) (J8 cs) off b 0 (fun _=>.inr rfl) hf hx (fun j hj=>(hc j hj).mono hg);rw[JJ]at this;exact .d _ _ this
  exact hR
 |_=>exact hR
section
variable {P : Program} {o : Oper} {es : List BN} {α β γ : Type}
def oK {ok:Nat→Prop} {w:World} {H:List Bj} {a:Act}:∀{xs:List Operand} {vs:List Ag},xs.length=vs.length→(∀n∈FX xs vs,R ok w H n.2 (a.eval n.1))→∀i,i<vs.length→R ok w H (vs.getD i .junk) ((xs.map a.eval).getD i undef)
 | [],[],_,_,i,hi=>OX
 | [],_::_,h,_,_,_=>IU
 |_::_,[],h,_,_,_=>IU
 |x::xs,v::vs,h,j,0,_=>by simpa using j (x,v) (by simp[FX])
 |x::xs,v::vs,h,j,i+1,hi=>by
  have :=oK LJ (fun n m=>j n (by simp[FX,m])) i GR;simpa using this
def VR {fn:Fn} {j:Array Operand} (m:List D) (hl:j.toList.length=m.length) (z:o.op=.makeFunc fn #[] j):Bl P o (FX j.toList (m.map .d)) es (.d (.fn fn [] m)) es:=
 .pure fun ok H a w _ _ I=>by
  refine⟨.func fn #[] (j.map a.eval),by simp[execOp,z,Instr.makeFunc],.d _ _ (.fn fn [] m #[] _ rfl NP (fun i hi=>OX) (fun i hi=>?_))⟩;have u:=oK (xs:=j.toList) (vs:=m.map .d) NP I i GR;have J:(m.map Ag.d).getD i .junk=.d (m.getD i Dp):=ND
  have q:i<j.size:=by have :j.size=m.length:=NP
                      omega
  have L:(j.toList.map a.eval).getD i undef=(j.map a.eval).getD i undef:=by simp[List.getD,Array.getD,q]
  rw[J,L]at u;cases u with |d _ _ h=>exact h
def aV2 {f:FuncId} {C:EW} {ok:Nat→Prop} {H:List Bj} {w:World} (L:DF C ok H es w) {u:List D} {q:Ag} (Z:Ah P f (u.map .d) [] q []) (m:Array Value) (hs:m.size=u.length) (O:∀i,i<u.length→Dv ok w (u.getD i Dp) (m.getD i undef)) (I:q.up [] es.length=q):
 Calls P f m w fun e w'=>∃v ok' H',e=.returned v∧Eb ok w ok' w'∧Names H H'∧DF C ok' H' es w'∧R ok' w' H' q v:=by
 have U:DF ⟨w,ok,[],[]⟩ ok [] [] w:=
  ⟨.refl _ _,fun _ h=>h,fun _ h=>.inl h,L.kW,.refl _,rfl,fun k e h z _=>by simp at z,fun k e h b z=>by simp at z,fun k k' e e' h h' b z=>by simp at z⟩
 refine(Z ok [] [] w m U vM (fun i hi=>?_)).mono ?_
 ·have J:i<u.length:=GR
  have e1:(u.map Ag.d).getD i .junk=.d (u.getD i Dp):=by simp[List.getD,J]
  rw[e1];exact .d _ _ (O i J)
 rintro e w' ⟨v,ok',H',rfl,j,hR⟩;have Y:H'=[]:=H9 j.hlen
 obtain⟨h1,h2⟩:=L.change (ok':=ok') (H':=H) (es':=es) (w':=w') (fun _=>False) j.fr.os j.fr.tape j.fr.output j.fr.size (fun b M _=>j.fr.block b M BP) (fun _ h=>h.elim) j.yZ (fun b M=>by
  rcases j.y8 b M with h|h|h
  ·exact .inl h
  ·exact .inr ⟨h,j.kW b M⟩
  simp at h) (.refl _) L.hlen (fun k e h z hh=>.inl ⟨z,hh,fun _ _ _ h=>h⟩)
 refine⟨v,ok',H,rfl,h2,.refl _,h1,?_⟩;have :=aTv (srcs:=[]) (H:=H) (Hc:=[]) (H':=H') rfl (fun i k h=>IU) (fun k v O=>by simp at O) hR;rw[L.hlen,I,Y]at this;simpa using this
def ae7 {f:FuncId} {x:Operand} {ops:Array Operand} {ats:Array TypeId} (j cs:List D) {m:Ag} (hr:Ah P f ((j++cs).map .d) [] m []) (hf:Dn P f=true) (hl:ops.toList.length=j.length) (I:m.up [] es.length=m)
 (ho:o.op=.call { callee:=.value x,args:=ops,argTypes:=ats }):Bl P o ((x,.d (.fn (.func f) [] cs))::FX ops.toList (j.map .d)) es m es:=by
 intro C ok H a w Q hm hn;have M:=hn (x,.d (.fn (.func f) [] cs)) BP;simp only at M;have u:=oK (xs:=ops.toList) (vs:=j.map .d) NP (fun n O=>hn n (Gf _ O));generalize hv:a.eval x=v at M;cases M with
 |d _ _ h=>
  cases h with
  |fn _ _ _ vs us U Y h1 h2=>
   have Z:vs= #[]:=aH cZ;subst Z;unfold Oper.wp
   have he:(execOp a.eval o).run P w=.ok (.enter f ((ops.map a.eval)++us)) w:=by
    have :=Ty hf (ops.map a.eval++us) w;simp[execOp,ho,resolve,hv,Deferred.ofValue,invoke,this]
   rw[he,Za];have J:(ops.map a.eval).size=j.length:=NP
   refine(aV2 hm hr _ (by simp[J,Y]) (fun i hi=>?_) I).mono ?_
   ·by_cases q:i<j.length
    ·have L:=u i PL;have e1:(j.map Ag.d).getD i .junk=.d (j.getD i Dp):=aLf
     have z:i<ops.size:=aal
     have e2:(ops.toList.map a.eval).getD i undef=(ops.map a.eval++us).getD i undef:=by
      simp[List.getD,Hd,YW,z]
     have e3:(j++cs).getD i Dp=j.getD i Dp:=by simp[List.getD,Gs q]
     rw[e1,e2]at L;rw[e3];cases L with |d _ _ h=>exact h
    have z:i-j.length<cs.length:=aQ7
    have e3:(j++cs).getD i Dp=cs.getD (i-j.length) Dp:=by simp[List.getD,Jr (Um q)]
    have e4:(ops.map a.eval++us).getD i undef=us.getD (i-j.length) undef:=by
     simp only[Hd];rw[aKO AB,J]
    rw[e3,e4];exact h2 _ z
   rintro e w' ⟨v,ok',H',rfl,L,h4,h5,h6⟩;exact⟨v,ok',H',rfl,L,h4,h5,h6⟩
def TY (P:Program) (j:α→D) (m:β→D) (d:D) (g:α→Option β):Prop:=∃f cs,d=.fn (.func f) [] cs∧Dn P f=true∧∀a b,g a=some b→Ah P f (([j a]++cs).map .d) [] (.d (m b)) []
def WY (P:Program) (j:α→D) (m:β→D) (q:γ→D) (d:D) (g:α→β→Option γ):Prop:=∃f cs,d=.fn (.func f) [] cs∧Dn P f=true∧∀a b c,g a b=some c→Ah P f (([j a,m b]++cs).map .d) [] (.d (q c)) []
def pX {x y:Operand} {ats:Array TypeId} {j:α→D} {m:β→D} {d:D} {g:α→Option β} {a:α} {b:β} (hd:TY P j m d g) (h:g a=some b) (q:o.op=.call { callee:=.value x,args:= #[y],argTypes:=ats }):
 Bl P o [(x,.d d),(y,.d (j a))] es (.d (m b)) es:=by
 obtain⟨f,cs,rfl,u,z⟩:=hd;exact ae7 [j a] cs (z a b h) u rfl rfl q
def Xj {x y z:Operand} {ats:Array TypeId} {j:α→D} {m:β→D} {q:γ→D} {d:D} {g:α→β→Option γ} {a:α} {b:β} {c:γ} (hd:WY P j m q d g) (h:g a b=some c) (u:o.op=.call { callee:=.value x,args:= #[y,z],argTypes:=ats }):
 Bl P o [(x,.d d),(y,.d (j a)),(z,.d (m b))] es (.d (q c)) es:=by
 obtain⟨f,cs,rfl,I,J⟩:=hd;exact ae7 [j a,m b] cs (J a b c h) I rfl rfl u
end
end Go.Proofs.YtldfpencimjjlaaGreat
end
