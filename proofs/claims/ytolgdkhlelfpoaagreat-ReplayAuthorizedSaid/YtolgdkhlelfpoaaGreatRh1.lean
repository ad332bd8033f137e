/- Part 1 of what the laws' proofs lean on: states of the walk, typed functions of the program and their laws (short forms written by wip/shrink.py; no condition). -/
import Derived.Test.YtolgdkhlelfpoaaGreatRows
import Derived.WalkKit
import Derived.WalkSpells
import Derived.WalkLawsBesides
import Derived.Lib.Hide
import Derived.Laws.AppendOwnNone
import Derived.Laws.CopyOwn
import Derived.Lib.AppendStr
import Derived.Laws.IdiomStrings
import Derived.Laws.BitsAllLaws
import Derived.OrdersIn
import Derived.ControlIn
import Derived.TacticsIn
import Derived.ArgAppend
import Derived.RangeFuncLeaves
import Derived.RangeFuncRecord
import Derived.Laws.StructEq
import Derived.Laws.BytesString
import Derived.Lib.OwnBridge
import Derived.Sort.OwnSortedInts
import Derived.Lib.SliceRun
import Derived.ProofKit
import Derived.Deep.Slices
import Derived.Lib.SlicesCompact
import Derived.Test.YtolgdkhlelfpoaaGreatProg
import Derived.Shelf.Small.Bits
import Derived.Shelf.Small.Strs
import Derived.Shelf.Small.Wraps
import Derived.Shelf.Strconv.Itoa0
import Derived.Shelf.Strings.Search1
import Derived.Shelf.Strings.Search2
import Derived.Shelf.Strings.Cut
import Derived.Shelf.LaysM
import Derived.Shelf.Strings.Shaped
import Derived.Shelf.Sort.Plain
import Derived.Shelf.Slices.Turned
import Derived.Ground.Names2Prog
import Derived.Shelf.Slices.Clone
import Derived.Shelf.Slices.CompactI
import Derived.Shelf.Slices.SearchI
import Derived.Shelf.Slices.Cells
import Derived.Shelf.Slices.In.SortNone
import Derived.Shelf.Slices.Empties
import Derived.Ground.SlgnProg
import Derived.Shelf.SlicesE.Clone
import Derived.RangeFuncIn
import Derived.Scope
import Derived.Tactics
import Derived.Tactics2
import Derived.Defers
import Derived.Recover
import Derived.Laws.Pointers
import Derived.Shelf.SlLaysF0
import Derived.Shelf.SlSortCmp.NoneTotal
import Derived.Laws.IdiomRangeMap
import Derived.Laws.Small
import Derived.Laws.IdiomCopy
import Derived.Lib.Overlaps
import Derived.Lib.AppendZerosOnto
import Derived.Shelf.Spec.SlicesInsertGrow
import Derived.Laws.Bits64
import Derived.Lib.Bytealg
set_option linter.defProp false
set_option linter.unnecessarySimpa false
set_option linter.unusedVariables false
set_option linter.unusedSimpArgs false
namespace Go.Proofs.YtolgdkhlelfpoaaGreat
open Go.RowKit
def Aa:=@Option.bind_some
def BK:=@cond_false
def Bl:=@Option.some.inj
def Bv:=@Bool.and_eq_true
def CB:=@List.length_map
def Dk:=@List.length_append
def DX:=@List.getElem?_eq_getElem
def Ba:=@cond_true
def BX:=@congrArg
def Eb:=@List.getElem?_eq_some_iff
def DV:=@List.all_eq_true
def Ei:=@Array.getElem?_eq_some_iff
def FD:=@List.getElem?_append_left
def Fj:=@List.eq_nil_of_length_eq_zero
def FU:=@Array.getD_eq_getD_getElem?
def Qd:=@List.length_singleton
def FN:=@Nat.le_of_ble_eq_true
def EX:=@Go.Result.andThen_ok
def EU:=@List.getElem_mem
def IG:=@Array.getElem?_setIfInBounds_ne
def LK:=@Nat.add_assoc
def EF:=@Bool.not_true
def E5:=@Nat.le_trans
def Dn:=@Nat.le_refl
def FI:=@decide_eq_true_eq
def Ho:=@List.getElem?_append_right
def Dx:=@Nat.zero_le
def Fa:=@List.mem_cons_self
def FM:=@List.mem_map
def Nh:=@Nat.add_comm
def CG:=@if_pos
def FH:=@List.not_mem_nil
def ER:=@Go.Sem.run_bind
def FQ:=@List.length_cons
def CV:=@if_neg
def Gq:=@List.mem_cons_of_mem
def G5:=@List.length_take
def Em:=@List.mem_cons
def G6:=@List.append_assoc
def Fe:=@List.mem_append
def Gv:=@List.getElem_of_mem
def Fl:=@List.mem_filter
def Gi:=@List.mem_singleton
def Ep:=@Go.Sem.run_pure
def FC:=@Bool.true_and
def Hg:=@Nat.mul_le_mul_right
def GV:=@List.any_eq_true
def Jt:=@List.pairwise_iff_getElem
def O7:=@Array.all_eq_true_iff_forall_mem
def Gt:=@List.getElem?_map
def Jo:=@List.getElem?_take_of_lt
def GN:=@Option.map_some
def GI:=@List.foldl_cons
def Gp:=@Go.Proofs.Tryz.underlying3
def IK:=@of_decide_eq_false
def Jk:=@List.length_filter_le
def IC:=@List.nil_append
def Jm:=@List.getElem?_eq_none
def Hl:=@Go.RowKit.Below.heap_alloc
def Hy:=@List.take_length
def NC:=@List.drop_eq_getElem_cons
def HY:=@decide_eq_false
def Io:=@Option.some.injEq
def IX:=@Bool.not_eq_true
def Lm:=@Array.getElem?_modify
def I4:=@decide_eq_true
def J3:=@List.length_drop
def Nu:=@List.length_nil
def PO:=@List.mem_of_find?_eq_some
def KF:=@Option.getD_some
def JW:=@List.map_append
def Hz:=@Nat.zero_add
def P6:=@List.take_of_length_le
def Og:=@Go.MapKept.run_getObj_map
def KD:=@List.nodup_cons
def LV:=@List.flatMap_cons
def Jg:=@Bool.not_false
def ND:=@List.getElem?_drop
def J5:=@List.map_cons
def Ir:=@Bool.or_false
def Rq:=@Option.isSome_iff_exists
abbrev BD:=IntKind.i64.wrap
def bf (n:Int):BD n=(n+9223372036854775808)%18446744073709551616-9223372036854775808:=Go.IntKind.wrap_i64 n
def MX:=@Go.Proofs.Tryz.underlying55
def JF:=@Bool.false_or
def Ns:=@List.pairwise_cons
def P5:=@List.filterMap_cons
def Xl:=@List.take_succ_eq_append_getElem
def MV:=@Go.Proofs.Tryz.underlying9
def Qq:=@Option.map_eq_some_iff
def XO:=@Array.eq_empty_of_size_eq_zero
def PX:=@Array.length_toList
def KT:=@Bool.and_true
def Vq:=@List.getElem?_set_ne
def UQ:=@Classical.byContradiction
def Ph:=@List.mem_filterMap
def TL:=@Go.World.putObj_heap_same
def Oa:=@List.drop_length
def Qy:=@List.filter_sublist
def QD:=@Bool.not_eq_true'
def VL:=@Go.World.putObj_heap_other
def VG:=@decide_eq_false_iff_not
def Nr:=@Go.Oper.wpIn_mono
def Y9:=@Array.getElem?_append_left
def TT:=@List.mem_of_getElem?
def Qu:=@Bool.false_eq_true
def Rj:=@Option.toList_some
def Ld:=@Bool.or_true
def Rt:=@List.findIdx_cons
def Qr:=@Go.Proofs.Tryz.underlying49
def Sr:=@List.filter_append
def U7:=@Nat.lt_of_lt_of_le
def RZ:=@Nat.le_of_not_lt
def Qn:=@List.mem_flatMap
def Ic:=@if_false
def S9:=@List.getElem_map
def RU:=@List.foldlM_cons
def je:=@List.takeWhile_append_dropWhile
def Tt:=@List.take_add_one
def Tc:=@Go.Proofs.Tryz.underlying51
def QW:=@List.append_nil
def TY:=@Go.Proofs.Tryz.underlying4
def Q5:=@Prod.mk.injEq
def NH:=@Go.wpS_region
def YK:=@Option.bind_eq_some_iff
def VP:=@of_decide_eq_true
def Iu:=@if_true
def Wx:=@beq_eq_false_iff_ne
def PY:=@Nat.add_zero
def iE:=@List.getD_eq_getElem?_getD
def UR:=@Nat.lt_succ_self
def VU:=@List.filter_cons
def Xr:=@Nat.eq_zero_or_pos
def YR:=@List.filterMap_append
def bK:=@Array.toArray_toList
def Ry:=@Nat.succ_mul
def QO:=@Nat.mul_comm
def aJ:=@List.pairwise_append
def ZB:=@Go.World.alloc_heap_new
def WZ:=@List.cons_append
def Ws:=@beq_self_eq_true
def bn:=@List.findIdx_lt_length
def mZ:=@Array.getElem?_toList
def iT:=@List.take_append_drop
def XJ:=@Bool.or_eq_true
def WY:=@Go.Oper.upon_enter
def Wq:=@Go.Proofs.Tryz.zeroValue3
def Xb:=@Go.run_equalIn_int
def Y0:=@Bool.eq_iff_iff
def V3:=@List.map_take
def uJ:=@List.nodup_iff_pairwise_ne
def aO:=@Go.Value.slice.injEq
def Yy:=@List.size_toArray
def Zq:=@List.ext_getElem?
def QS:=@beq_iff_eq
def jC:=@Nat.div_lt_of_lt_mul
def zG:=@Array.getElem?_eq_getElem
def iw:=@Bool.or_eq_false_iff
def Wh:=@List.nodup_nil
def Y5:=@Go.heap_alloc_new
def NJ:=@Go.wpS_seq
def XP:=@Go.wp_region_list
def Yw:=@Go.IntKind.wrap_u64
def lY:=@List.filter_eq_self
def uP:=@List.getElem?_cons_succ
def WJ:=@List.map_drop
def dD:=@List.getElem?_take
def Zy:=@List.length_set
def RN:=@Go.wpIn_mono
def aC:=@Go.Proofs.Tryz.zeroValue4
def eU:=@Array.ext_getElem?
def ZU:=@beq_false_of_ne
def Zc:=@Go.IntKind.wrap_u8
def aA0:=@List.filter_eq_nil_iff
def VH:=@Nat.add_mul
def aAG:=@List.drop_of_length_le
def iG:=@Function.comp_def
def cZ:=@List.foldl_append
def jR:=@Nat.lt_trichotomy
def mG:=@Go.Proofs.Tryz.underlying22
def kW:=@List.find?_append
def lU:=@bne_self_eq_false
def Y3:=@Go.Proofs.Tryz.sizeOf3
def aFv:=@Array.getElem?_setIfInBounds
def aC6:=@Array.getElem?_append_right
def aA2:=@List.mem_of_mem_take
def jd:=@List.ext_getElem
def ng:=@Go.Proofs.Tryz.underlying5
def qH:=@List.mem_append_left
def aDO:=@Array.toList_setIfInBounds
def Zr:=@Go.Oper.semAt_eq
def XK:=@Go.Proofs.Tryz.isAgg3
def sF:=@List.toList_toArray
def xO:=@List.length_pos_iff
def aDm:=@Array.mapM_eq_mapM_toList
def eI:=@Go.Proofs.Tryz.zeroValue5
def dP:=@Go.Proofs.Tryz.zeroValue9
def fD:=@List.take_left'
def kC:=@List.find?_cons
def Zd:=@Nat.le_of_eq
def aV:=@Go.Proofs.Tryz.sizeOf4
def uo:=@Go.Proofs.Tryz.underlying226
def aS:=@Go.Addr.add_lit
def kR:=@List.mem_range
def eH:=@List.drop_zero
def aBv:=@Nat.exists_eq_add_of_le
def aBd:=@List.getElem?_replicate
def aC4:=@List.getElem?_cons_zero
def aE0:=@List.pairwise_singleton
def zK:=@Go.World.ownsRow_nil
def uT:=@Go.Proofs.Tryz.underlying89
def Rep:=@Go.Proofs.Tryz.zeroValue226
def zA:=@Go.Proofs.Tryz.underlying24
def zX:=@List.nodup_append
def ug:=@Int.toNat_natCast
def aIQ:=@List.findIdx?_eq_some_iff_getElem
def adQ:=@List.set_eq_take_append_cons_drop
def YU:=@Nat.mul_one
def aGM:=@List.dropWhile_sublist
def Z4:=@Go.Proofs.Tryz.isAgg4
def aCV:=@ByteArray.size_extract
def ni:=@List.any_cons
def xu:=@Go.Proofs.Tryz.zeroValue89
def XE:=@Array.ext
def aEn:=@Nat.eq_of_beq_eq_true
def aC2:=@Go.Lib.wpList_append_run
def aBV:=@List.mem_append_right
def aAs:=@Bool.and_eq_false_iff
def rG:=@Go.wpIn_region_any
def rQ:=@Nat.div_add_mod
def YI:=@Nat.mod_lt
def lu:=@List.map_map
def aE9:=@Array.ext'
def jZ:=@getElem!_pos
def tH:=@Nat.min_eq_left
def dK:=@Go.Proofs.Tryz.sizeOf5
def dA:=@Go.Proofs.Tryz.sizeOf9
def abw:=@List.Nodup.length_le_of_subset
def aEP:=@List.mem_of_mem_drop
def mX:=@Nat.lt_or_ge
def yR:=@List.find?_some
def aEz:=@Go.callsIn_of_wp_marks
def aFy:=@Go.Lib.strCells_length
def aCr:=@Array.getElem?_push
def aBs:=@List.reverse_append
def aAO:=@Go.run_underlying
def xM:=@List.take_zero
def xF:=@Go.Proofs.Tryz.sizeOf226
def gG:=@Go.setRow_heap
def nZ:=@Go.Sem.run_map
def fV:=@Go.Proofs.Tryz.isAgg5
def jG:=@Go.Proofs.Tryz.isAgg9
def aIq:=@Nat.min_def
def azK:=@Go.run_loadCells_list
def aDz:=@Int.natCast_nonneg
def aBS:=@Go.MapKept.heap_alloc
def aGE:=@List.find?_eq_none
def aBq:=@Nat.eq_or_lt_of_le
def aIz:=@List.dropWhile_cons_of_pos
def aIK:=@List.dropWhile_cons_of_neg
def vI:=@Go.callsD_of_wpS
def acM:=@Int.fdiv_eq_ediv_of_nonneg
def adX:=@Int.tmod_eq_emod_of_nonneg
def aE7:=@Bool.not_eq_false
def aEt:=@Go.run_storeCells_at
def aAr:=@List.getElem_take
def aaG:=@List.mem_take_iff_getElem
def ad8:=@List.getElem?_zip_eq_some
def az4:=@Go.wpIn_region_list
def ZW:=@or_false
def aFm:=@Go.World.size_alloc
def vg:=@List.map_set
def Zj:=@Go.wpS_cond
def aEe:=@List.map_reverse
def aGW:=@List.cons.injEq
def vS:=@Nat.one_mul
def aBB:=@List.take_left
def aEm:=@List.drop_drop
def aBY:=@List.take_take
def aGa:=@Nat.mul_le_mul
end Go.Proofs.YtolgdkhlelfpoaaGreat
namespace Go.Proofs.YtolgdkhlelfpoaaGreat
open Go.RowKit
abbrev Aj:=Value.int .i64
end Go.Proofs.YtolgdkhlelfpoaaGreat
namespace Go.Proofs.YtolgdkhlelfpoaaGreat
open Go.RowKit
def A8 {p:Prop} (h:p:=by kernel_rfl):p:=h
def AA {p:Prop} (h:p:=by omega):p:=h
def Ce {p:Prop} (h:p:=by cases h;exact .ret (EC [])):p:=h
def BG {p:Prop} (h:p:=by simp):p:=h
def BP {p:Prop} (h:p:=by decide):p:=h
def Du {p:Prop} (h:p:=by cases h;kernel_rfl):p:=h
def NQ {p:Prop} (h:p:=by simpa using n):p:=h
def Dp {p:Prop} (h:p:=by simp;omega):p:=h
def Ey {p:Prop} (h:p:=by simpa using hi):p:=h
def QZ {p:Prop} (h:p:=by have :=I (k+1) y (by simpa using n);simpa[LK,Nh 1 k]using this):p:=h
def VJ {p:Prop} (h:p:=by rw[←CS h];exact⟨[],[(0,true)],trivial,by kernel_rfl,by kernel_rfl,by kernel_rfl⟩):p:=h
def Gz {p:Prop} (h:p:=by simp only[Qd];omega):p:=h
def MF {p:Prop} (h:p:=by cases h;exact .ret (EC [(2,true)])):p:=h
def Vx {p:Prop} (h:p:=by cases h;exact .ret (EC [(0,true)])):p:=h
def Vj {p:Prop} (h:p:=by cases h;exact .ret (EC [(0,true),(1,true),(2,true),(3,true)])):p:=h
def aHj {p:Prop} (h:p:=by rw[←CS h];exact⟨[Dq FK,BA false],[],⟨⟨0,Ae (Ap FK),true,29,by kernel_rfl,by kernel_rfl,by kernel_rfl,Dh,FN (by kernel_rfl),(by intro j;cases j),by kernel_rfl⟩,Sz (by kernel_rfl),trivial⟩,by kernel_rfl,by kernel_rfl,by kernel_rfl⟩):p:=h
def aIM {p:Prop} (h:p:=by rw[←CS h];exact⟨[Dq n,BA true],[],⟨⟨0,Ae (Ap n),true,29,by kernel_rfl,by kernel_rfl,by kernel_rfl,Dh,FN (by kernel_rfl),(by intro j;cases j),by kernel_rfl⟩,Sz (by kernel_rfl),trivial⟩,by kernel_rfl,by kernel_rfl,by kernel_rfl⟩):p:=h
def Jc {p:Prop} (h:p:=by simp[List.getD,hi]):p:=h
def Hf {p:Prop} (h:p:=by simpa using h):p:=h
def Fq {p:Prop} (h:p:=by simp at h):p:=h
def iL {p:Prop} (h:p:=by have :=z (k+1) y (by simpa using n);simpa[LK,Nh 1 k]using this):p:=h
def gI {p:Prop} (h:p:=by have :=O (k+1) y (by simpa using n);simpa[LK,Nh 1 k]using this):p:=h
def kS {p:Prop} (h:p:=by have :=J (k+1) y (by simpa using n);simpa[LK,Nh 1 k]using this):p:=h
def jF {p:Prop} (h:p:=by have :=S (k+1) y (by simpa using n);simpa[LK,Nh 1 k]using this):p:=h
def o7 {p:Prop} (h:p:=by have :=z (k+1) (by simpa using hk);simpa[LK,Nh 1 k]using this):p:=h
def JV {p:Prop} (h:p:=by decide+kernel):p:=h
def Ue {p:Prop} (h:p:=by cases h;exact .ret (EC [(1,true)])):p:=h
def Jq {p:Prop} (h:p:=by rw[Dk];omega):p:=h
def GX {p:Prop} (h:p:=by cases h):p:=h
def L9 {p:Prop} (h:p:=by simpa using f):p:=h
def NI {p:Prop} (h:p:=by simpa using j):p:=h
def VZ {p:Prop} (h:p:=by first|exact q|kernel_rfl):p:=h
def cu {p:Prop} (h:p:=by have :=u (k+1);simpa[LK,Nh 1 k]using this):p:=h
def MS {p:Prop} (h:p:=by simpa using s):p:=h
def WA {p:Prop} (h:p:=by obtain⟨a,_,rfl⟩:=FM.1 hx;rfl):p:=h
def Qz {p:Prop} (h:p:=by intro hh;cases hh):p:=h
def ac3 {p:Prop} (h:p:=by rw[←CS h];exact⟨[],[(0,true),(1,true),(2,true),(3,true)],trivial,by kernel_rfl,by kernel_rfl,by kernel_rfl⟩):p:=h
def PG {p:Prop} (h:p:=by simp at s;omega):p:=h
def Yl {p:Prop} (h:p:=by simp[Act.eval,Array.replicate]):p:=h
def KP {p:Prop} (h:p:=by simp at hi):p:=h
def YA {p:Prop} (h:p:=by simp only[Dk,Qd];omega):p:=h
def Oe {p:Prop} (h:p:=by simpa using u):p:=h
def UE {p:Prop} (h:p:=by rw[Fh]at h;exact h):p:=h
def NT {p:Prop} (h:p:=by rw[apq];rfl):p:=h
def aAE {p:Prop} (h:p:=by have :Ar=9223372036854775808:=rfl;omega):p:=h
def PN {p:Prop} (h:p:=by rw[bf];omega):p:=h
def XQ {p:Prop} (h:p:=by simp only[Nu];omega):p:=h
def Qw {p:Prop} (h:p:=by simpa using q):p:=h
def mD {p:Prop} (h:p:=by simpa using(z 0 (by simp)).symm):p:=h
def zy {p:Prop} (h:p:=by simp[Array.getD,hil]at hf ⊢;exact hf):p:=h
def oJ {p:Prop} (h:p:=by obtain⟨a,_,rfl⟩:=FM.1 j;rfl):p:=h
def SY {p:Prop} (h:p:=by simpa using e):p:=h
def Nz {p:Prop} (h:p:=by simp[hi]):p:=h
def aGf {p:Prop} (h:p:=by rw[alloc_eq_grow,alloc_eq_grow,grow_grow];rfl):p:=h
def Pg {p:Prop} (h:p:=by simp[flat]):p:=h
def aG3 {p:Prop} (h:p:=by by_cases h:(s.size:Int)>32<;>simp[h]<;>omega):p:=h
def aGk {p:Prop} (h:p:=by by_cases h:(s.size:Int)<1<;>simp[h]<;>omega):p:=h
def zi {p:Prop} (h:p:=by simp only[aIq];split<;>omega):p:=h
def aQ {p:Prop} (h:p:=by rw[Fh];exact nO f):p:=h
def Tf {p:Prop} (h:p:=by rw[f];rfl):p:=h
def Yx {p:Prop} (h:p:=by rw[aCf f z];simp):p:=h
def iV {p:Prop} (h:p:=by simpa using(u 0).symm):p:=h
def aAJ {p:Prop} (h:p:=by simpa using z 0 x (by simp)):p:=h
def XW {p:Prop} (h:p:=by simpa using z):p:=h
def Qk {p:Prop} (h:p:=by simp at f):p:=h
def qg {p:Prop} (h:p:=by simpa using I 0 x (by simp)):p:=h
def abT {p:Prop} (h:p:=by intro j;cases j):p:=h
def aBT {p:Prop} (h:p:=by obtain⟨b,_,rfl⟩:=FM.1 hy;exact hc b):p:=h
def aA5 {p:Prop} (h:p:=by simp[binOp,Op.intBits,Dc]):p:=h
def aEq {p:Prop} (h:p:=by rw[J rfl b (by rw[j];rfl)];exact n):p:=h
def aEa {p:Prop} (h:p:=by cases h;exact .ret (EC [(4,true)])):p:=h
def aJk {p:Prop} (h:p:=by rw[CB]at hi;rw[Qs _ _ _ hi];exact SE m j q (h i hi)):p:=h
def aa4 {p:Prop} (h:p:=by subst e;have h:=i;exact CJ.aW<|by cases h;kernel_rfl):p:=h
def wK {p:Prop} (h:p:=by simp[Act.eval,Act.put]):p:=h
def aFC {p:Prop} (h:p:=by simpa using I 0 σ.ents (by simp)):p:=h
def aCe {p:Prop} (h:p:=by simpa using J 0 σ.ents (by simp)):p:=h
def Yi {p:Prop} (h:p:=by simpa using Z):p:=h
def abR {p:Prop} (h:p:=by rw[CB]at hi;rw[Qs _ _ _ hi];exact(h i hi).qx π):p:=h
def Zt {p:Prop} (h:p:=by simpa using m):p:=h
def lg {p:Prop} (h:p:=by simp[List.getD,j]):p:=h
def ji {p:Prop} (h:p:=by rw[f]at h;exact h):p:=h
def zH {p:Prop} (h:p:=by simp[Op.bytesLess]at h):p:=h
def jX {p:Prop} (h:p:=by intro h;cases h):p:=h
def U0 {p:Prop} (h:p:=by simp[f]):p:=h
def adr {p:Prop} (h:p:=by simpa using(by omega:i<(ops.map a.eval).size)):p:=h
def aAi {p:Prop} (h:p:=by rw[World.cell?,f];rfl):p:=h
def vO {p:Prop} (h:p:=by constructor<;>omega):p:=h
def ab9 {p:Prop} (h:p:=by rw[ha];exact E5 (Jk _ _) (by rw[G5];omega)):p:=h
def jg {p:Prop} (h:p:=by simpa using he):p:=h
def atH {p:Prop} (h:p:=by simpa using hk):p:=h
def aaj {p:Prop} (h:p:=by cases h;exact .ret (EC [(0,false),(1,true)])):p:=h
def aG9 {p:Prop} (h:p:=by rw[Dk];simp only[Qd];omega):p:=h
def wF {p:Prop} (h:p:=by unfold maxLen;omega):p:=h
def aH7 {p:Prop} (h:p:=by rw[L]at Z;obtain rfl:=Bl Z;exact(M m hm).1):p:=h
def aHW {p:Prop} (h:p:=by cases h;exact .ret (EC [(0,true),(1,true)])):p:=h
def aDI {p:Prop} (h:p:=by simp[sizeOf,typeInfo,hi,hs]):p:=h
def eK {p:Prop} (h:p:=by simpa using q2):p:=h
def Va {p:Prop} (h:p:=by rw[m,←q]):p:=h
def aax {p:Prop} (h:p:=by have :=hinj j j' o o' t s ho' q hd';omega):p:=h
def aFf {p:Prop} (h:p:=by first|exact z|kernel_rfl):p:=h
def dF {p:Prop} (h:p:=by simpa using U):p:=h
def aaQ {p:Prop} (h:p:=by simp[Value.cells,List.getD,Array.getD,z]):p:=h
def aEk {p:Prop} (h:p:=by rw[aqA];exact hdf.mono hgr):p:=h
def aAW {p:Prop} (h:p:=by simp[List.getD,q]):p:=h
def XF {p:Prop} (h:p:=by simp at J):p:=h
def XG {p:Prop} (h:p:=by simp at n):p:=h
def tq {p:Prop} (h:p:=by rw[←f.hlen];simp):p:=h
def aGu {p:Prop} (h:p:=by have :=hinj j j' o o' t s Z q hd';omega):p:=h
def kY {p:Prop} (h:p:=by simpa using S):p:=h
def aGS {p:Prop} (h:p:=by rw[hb1];exact(Eb.1 M).1):p:=h
def aA4 {p:Prop} (h:p:=by rw[←h.hlen];simp):p:=h
def vM {p:Prop} (h:p:=by intro q;cases q):p:=h
def yV {p:Prop} (h:p:=by intro m;cases m):p:=h
def Xq {p:Prop} (h:p:=by simp[u]):p:=h
def aBu {p:Prop} (h:p:=by simp[Array.getD,h1,hi']):p:=h
def aFh {p:Prop} (h:p:=by simp[underlying,hE.und]):p:=h
def aE1 {p:Prop} (h:p:=by rw[Au.Xa]at J;exact J):p:=h
def ade {p:Prop} (h:p:=by obtain⟨a,_,rfl⟩:=FM.1 hy;exact hc a):p:=h
def afa {p:Prop} (h:p:=by unfold MG at f;rw[DX m]at f;exact f):p:=h
def WI {p:Prop} (h:p:=by cases h'):p:=h
def qW {p:Prop} (h:p:=by simp[Array.getD]):p:=h
def aFi {p:Prop} (h:p:=by rw[size_put];exact hsz):p:=h
def aa9 {p:Prop} (h:p:=by simp[stepG,stepG.exec,Frame.atR]):p:=h
def aFa {p:Prop} (h:p:=by simp[List.getD,Vq e]):p:=h
def oW {p:Prop} (h:p:=by simpa using I):p:=h
def aFQ {p:Prop} (h:p:=by simp[ev,List.getD,hy]):p:=h
def zZ {p:Prop} (h:p:=by simpa using hi1):p:=h
def vw {p:Prop} (h:p:=by simp[flat]at hi):p:=h
def aGb {p:Prop} (h:p:=by simp[List.getD,FD e]):p:=h
def aCO {p:Prop} (h:p:=by simpa[CQ]using h.symm):p:=h
def rJ {p:Prop} (h:p:=by rw[IC];omega):p:=h
def aeJ {p:Prop} (h:p:=by rw[j];rfl):p:=h
def Ye {p:Prop} (h:p:=by simp[h]):p:=h
def uw {p:Prop} (h:p:=by simpa using h2):p:=h
def afO {p:Prop} (h:p:=by rw[G5];omega):p:=h
def wP {p:Prop} (h:p:=by rw[CB];omega):p:=h
def aE2 {p:Prop} (h:p:=by simp[r,List.getD,hy]):p:=h
def aDr {p:Prop} (h:p:=by rw[yE];exact hh.base):p:=h
def aCP {p:Prop} (h:p:=by simp[World.setRow]):p:=h
def pU {p:Prop} (h:p:=by simpa using L):p:=h
def zo {p:Prop} (h:p:=by apply aE9;simp):p:=h
def sW {p:Prop} (h:p:=by simpa using O):p:=h
def mO {p:Prop} (h:p:=by rw[e];rfl):p:=h
def uy {p:Prop} (h:p:=by simp[go_sem]):p:=h
def aAl {p:Prop} (h:p:=by rw[Fh];exact h):p:=h
def aFH {p:Prop} (h:p:=by rw[Dk];simp;omega):p:=h
def aE4 {p:Prop} (h:p:=by simp[execOp,f];rfl):p:=h
def aE5 {p:Prop} (h:p:=by simp[underlying,h]):p:=h
def aBh {p:Prop} (h:p:=by rw[Dk]at hi;omega):p:=h
def aGH {p:Prop} (h:p:=by simp[underlying,Z]):p:=h
def aCR {p:Prop} (h:p:=by rw[CB];exact hi):p:=h
def aG5 {p:Prop} (h:p:=by simpa using hee):p:=h
def aAo {p:Prop} (h:p:=by simp[lX,e]):p:=h
def fC {p:Prop} (h:p:=by simp at s):p:=h
def aCW {p:Prop} (h:p:=by rw[s]at f;omega):p:=h
end Go.Proofs.YtolgdkhlelfpoaaGreat
namespace Go.Proofs.YtolgdkhlelfpoaaGreat
open Go.RowKit
def Bz {p:Prop} (h:p:=by exact fun h=>AZ<|Ce):p:=h
def Fv {p:Prop} (h:p:=by exact AB.exit<|AZ<|Ce):p:=h
def SA {p:Prop} (h:p:=by exact JA A8<|JA A8<|JA A8<|JA A8<|trivial):p:=h
def Ol {p:Prop} (h:p:=by exact AB.skip<|AZ<|Ce):p:=h
def yX {p:Prop} (h:p:=by exact .nil<|Or.inl ⟨(),(CS h).symm,(⟨[],[],trivial,A8,A8,A8⟩)⟩):p:=h
def Tm {p:Prop} (h:p:=by exact AB.exit<|AZ<|Vx):p:=h
def aJK {p:Prop} (h:p:=by exact fun h=>AB.ret<|⟨.inr rfl,(QC j).slots,(.ready,none),.normal,A8,rfl,(K3 _ ⟨q,u,Ad 16 32 [(2,true),(6,true)],h⟩)⟩):p:=h
def aHd {p:Prop} (h:p:=by exact AB.ret<|⟨.inr rfl,(QG lD f).slots,(.ready,none),.normal,A8,rfl,(K3 _ ⟨L,v8,Ad 21 80 [(0,true),(1,true)],h⟩)⟩):p:=h
def vG {p:Prop} (h:p:=by exact .nil<|j _ _ _ (Ad 16 449 [(0,true)]) h):p:=h
def Zz {p:Prop} (h:p:=by exact AZ<|AZ<|Ce):p:=h
def aD7 {p:Prop} (h:p:=by exact fun h=>AB.exit<|K4 _ ⟨Ad 18 2 [],h⟩):p:=h
def aJc {p:Prop} (h:p:=by exact AB.skip<|Or.inl ⟨(),(CS h).symm,(⟨[],[],trivial,A8,A8,A8⟩)⟩):p:=h
def bC {p:Prop} (h:p:=by exact .bD<|Ag h Bz fun h=>Ol):p:=h
def aBE {p:Prop} (h:p:=by exact AZ<|Ag h Bz fun h=>Ol):p:=h
end Go.Proofs.YtolgdkhlelfpoaaGreat
section
namespace Go.Proofs.YtolgdkhlelfpoaaGreat
open Go.RowKit
def addr_add (b o j:Nat):(⟨b,o,none⟩:Addr).add j=⟨b,o+j,none⟩:=by
 unfold Addr.add;split<;>simp_all
section
variable {P : Program} {ops : Array Oper} {rest : List Oper} {o : Oper} {a : Act} {w : World} {Q : Exit → Act → World → Prop}
def as4 (w:World) (ty:TypeId) (b off:Nat) (cs:Array Value) (n:(isAgg ty).run P w=.ok true w) (q:(sizeOf ty).run P w=.ok cs.size w)
 (s:∀j,j<cs.size→w.cell? ⟨b,off+j,none⟩=some (cs.getD j undef)):(loadVar ty ⟨b,off,none⟩).run P w=.ok (.agg cs) w:=by
 have h:(loadCells ⟨b,off,none⟩ cs.toList.length).run P w=.ok cs.toList.toArray w:=
  azK (P:=P) w ⟨b,off,none⟩ cs.toList (fun j v f=>by
   rw[addr_add]
   have m:j<cs.size:=by
    have :=(Eb.1 f).1;simpa using this
   rw[s j m];simp only[mZ]at f;simp[Array.getD,m]at f ⊢
   exact f)
 simp only[PX,bK]at h;simp only[loadVar,ER,n,q,EX,Iu,h,Ep]
end
inductive D where
 |lit (v:Value)
 |agg (cs:List D)
 |sl (es:List D)
 |ref (cs:List D) (off:Nat)
 |fn (f:Fn) (first cap:List D)
 |JM (t:TypeId) (x:D)
def D.cells:D→List D
 | .agg cs=>cs
 |x=>[x]
def D.leaf:D→Bool
 | .lit v=>v.oneCell'
 | .agg _=>false
 |_=>true
abbrev Cb :D:=.lit undef
abbrev cellAt (w:World) (b o:Nat):Value:=(w.cell? ⟨b,o,none⟩).getD undef
inductive Cm (ok:Nat→Prop) (w:World):D→Value→Prop
 |lit (v:Value):Cm ok w (.lit v) v
 |agg (cs:List D) (vs:Array Value) (hl:vs.size=cs.length) (hf:∀i,i<cs.length→(cs.getD i Cb).leaf=true)
  (h:∀i,i<cs.length→Cm ok w (cs.getD i Cb) (vs.getD i undef)):Cm ok w (.agg cs) (.agg vs)
 |sl0 (ad:Option Addr) (cap:Nat):Cm ok w (.sl []) (.slice ad 0 cap)
 |sl (es:List D) (b off cap size:Nat) (hcap:es.length≤cap) (hok:0<es.length→0<size→ok b) (hs:∀i,i<es.length→(es.getD i Cb).cells.length=size)
  (hf:∀i,i<es.length→∀j,j<size→((es.getD i Cb).cells.getD j Cb).leaf=true)
  (hx:∀i,i<es.length→∀j,j<size→(w.cell? ⟨b,off+(i*size+j),none⟩).isSome=true)
  (hc:∀i,i<es.length→∀j,j<size→Cm ok w ((es.getD i Cb).cells.getD j Cb) (cellAt w b (off+(i*size+j)))):
  Cm ok w (.sl es) (.slice (some ⟨b,off,none⟩) es.length cap)
 |ref (cs:List D) (off b o:Nat) (hok:0<cs.length→ok b) (hf:∀i,i<cs.length→(cs.getD i Cb).leaf=true)
  (hx:∀j,j<cs.length→(w.cell? ⟨b,o+j,none⟩).isSome=true)
  (hc:∀j,j<cs.length→Cm ok w (cs.getD j Cb) (cellAt w b (o+j))):Cm ok w (.ref cs off) (.pointer (some ⟨b,o+off,none⟩))
 |fn (f:Fn) (first cap:List D) (vs us:Array Value) (hl:vs.size=first.length) (hm:us.size=cap.length)
  (h:∀i,i<first.length→Cm ok w (first.getD i Cb) (vs.getD i undef)) (h':∀i,i<cap.length→Cm ok w (cap.getD i Cb) (us.getD i undef)):
  Cm ok w (.fn f first cap) (.func f vs us)
 |JM (t:TypeId) (x:D) (v:Value) (h:Cm ok w x v):Cm ok w (.JM t x) (.iface t v)
def Df (ok:Nat→Prop) (w:World) (ok':Nat→Prop) (w':World):Prop:=∀b,ok b→ok' b∧w'.heap[b]? =w.heap[b]?
def Df.refl (ok:Nat→Prop) (w:World):Df ok w ok w:=fun _ h=>⟨h,rfl⟩
def Df.trans {ok f j:Nat→Prop} {w n q:World} (h:Df ok w f n) (k:Df f n j q):Df ok w j q:=
 fun b m=>⟨(k b (h b m).1).1,((k b (h b m).1).2).trans (h b m).2⟩
def Df.cell {ok ok':Nat→Prop} {w w':World} (h:Df ok w ok' w') {b o:Nat} (f:ok b):w'.cell? ⟨b,o,none⟩=w.cell? ⟨b,o,none⟩:=
 World.cell?_of_block (w:=w) (a:=⟨b,o,none⟩) (h b f).2
def Cm.mono {ok ok':Nat→Prop} {w w':World} (s:Df ok w ok' w') {x:D} {v:Value} (h:Cm ok w x v):Cm ok' w' x v:=by
 induction h with
 |lit v=>exact .lit v
 |agg cs vs I u _ q=>exact .agg cs vs I u q
 |sl0 ad cap=>exact .sl0 ad cap
 |sl es b off cap size z m S u J _ q=>
  have O:∀i j,i<es.length→j<size→ok b:=fun i j hi n=>m AA AA;refine .sl es b off cap size z (fun L U=>(s b (m L U)).1) S u (fun i hi j n=>?_) (fun i hi j n=>?_)
  ·rw[s.cell (O i j hi n)];exact J i hi j n
  unfold cellAt;rw[s.cell (O i j hi n)];exact q i hi j n
 |ref cs off b o m u J _ q=>
  refine .ref cs off b o (fun L=>(s b (m L)).1) u (fun j n=>?_) (fun j n=>?_)
  ·rw[s.cell (m AA)];exact J j n
  unfold cellAt;rw[s.cell (m AA)];exact q j n
 |fn f first cap vs us I Y _ _ q M=>exact .fn f first cap vs us I Y q M
 |JM t x v _ q=>exact .JM t x v q
def Cm.shrink {ok ok':Nat→Prop} {w:World} (L:∀b o,ok b→(w.cell? ⟨b,o,none⟩).isSome=true→ok' b) {x:D} {v:Value} (h:Cm ok w x v):Cm ok' w x v:=by
 induction h with
 |lit v=>exact .lit v
 |agg cs vs z n _ j=>exact .agg cs vs z n j
 |sl0 ad cap=>exact .sl0 ad cap
 |sl es b off cap size q m I n s _ j=>exact .sl es b off cap size q (fun u M=>L b _ (m u M) (s 0 u 0 M)) I n s j
 |ref cs off b o m n s _ j=>exact .ref cs off b o (fun u=>L b _ (m u) (s 0 u)) n s j
 |fn f first cap vs us z O _ _ j J=>exact .fn f first cap vs us z O j J
 |JM t x v _ j=>exact .JM t x v j
def Cm.leaf {ok:Nat→Prop} {w:World} {x:D} {v:Value} (h:Cm ok w x v) (f:x.leaf=true):v.oneCell'=true:=by
 cases h<;>first|rfl|exact f|(simp[D.leaf]at f)
inductive AV where
 |d (x:D)
 |ptr (k off:Nat)
 |aP (k:Nat)
 |jL (k i off:Nat)
 |fn (f:Fn) (first cap:List AV)
 |mp (k:Nat)
 |clip (xs:List D)
 |rZ (k:Nat)
 |dO (vs:List AV)
 |ag (vs:List AV)
 |junk
def AV.leaf:AV→Bool
 | .d x=>x.leaf
 | .dO _| .ag _| .junk=>false
 |_=>true
def AV.cells:AV→List AV
 | .d x=>x.cells.map .d
 | .ag xs=>xs
 |x=>[x]
inductive Au where
 |dead
 |box (cs:List AV)
 |arr (e:TypeId) (size:Nat) (es:List D)
 |map (es:List (Value×D))
 |aU (es:List (Value×D))
 |iter (es:List (Value×D)) (vis:List Nat)
 |loop (tm:Array Value) (slots:List AV) (rc:Array Tmp×Code×Code) (st:LoopState) (pe:Option Code)
def Au.live:Au→Bool
 | .dead=>false
 |_=>true
structure BN where
 v:Value
 size:Nat:=0
inductive R (ok:Nat→Prop) (w:World) (H:List BN):AV→Value→Prop
 |d (x:D) (v:Value) (h:Cm ok w x v):R ok w H (.d x) v
 |ptr (k off b s:Nat) (h:H[k]? =some ⟨.pointer (some ⟨b,0,none⟩),s⟩):R ok w H (.ptr k off) (.pointer (some ⟨b,off,none⟩))
 |aP (k:Nat) (ad:Option Addr) (n cap s:Nat) (h:H[k]? =some ⟨.slice ad n cap,s⟩):R ok w H (.aP k) (.slice ad n cap)
 |jL (k i off b n cap s:Nat) (h:H[k]? =some ⟨.slice (some ⟨b,0,none⟩) n cap,s⟩):R ok w H (.jL k i off) (.pointer (some ⟨b,i*s+off,none⟩))
 |fn (f:Fn) (first cap:List AV) (vs us:Array Value) (hl:vs.size=first.length) (hm:us.size=cap.length) (h:∀i,i<first.length→R ok w H (first.getD i .junk) (vs.getD i undef))
  (h':∀i,i<cap.length→R ok w H (cap.getD i .junk) (us.getD i undef)):R ok w H (.fn f first cap) (.func f vs us)
 |mp (k:Nat) (v:Value) (s:Nat) (hl:v.oneCell'=true) (h:H[k]? =some ⟨v,s⟩):R ok w H (.mp k) v
 |clip (xs:List D) (ad:Option Addr) (h:Cm ok w (.sl xs) (.slice ad xs.length xs.length)):R ok w H (.clip xs) (.slice ad xs.length xs.length)
 |rZ (k:Nat) (ad:Option Addr) (n cap s:Nat) (h:H[k]? =some ⟨.slice ad n cap,s⟩):R ok w H (.rZ k) (.slice ad n n)
 |dO (xs:List AV) (vs:Array Value) (hl:vs.size=xs.length) (h:∀i,i<xs.length→R ok w H (xs.getD i .junk) (vs.getD i undef)):R ok w H (.dO xs) (.tuple vs)
 |ag (xs:List AV) (vs:Array Value) (hl:vs.size=xs.length) (hf:∀i,i<xs.length→(xs.getD i .junk).leaf=true) (h:∀i,i<xs.length→R ok w H (xs.getD i .junk) (vs.getD i undef)):R ok w H (.ag xs) (.agg vs)
 |junk (v:Value):R ok w H .junk v
def Names (H H':List BN):Prop:=∀(k:Nat) (v:BN),H[k]? =some v→H'[k]? =some v
def Names.refl (H:List BN):Names H H:=fun _ _ h=>h
def Names.trans {H H1 H2:List BN} (h:Names H H1) (k:Names H1 H2):Names H H2:=fun i v f=>k i v (h i v f)
def Names.push (H H':List BN):Names H (H++H'):=fun k v h=>by
 rw[FD (Eb.1 h).1];exact h
def R.mono {ok ok':Nat→Prop} {w w':World} {H H':List BN} (z:Df ok w ok' w') (m:Names H H') {x:AV} {v:Value} (h:R ok w H x v):R ok' w' H' x v:=by
 induction h with
 |d x v h=>exact .d x v (h.mono z)
 |ptr k off b s h=>exact .ptr k off b s (m _ _ h)
 |aP k ad n cap s h=>exact .aP k ad n cap s (m _ _ h)
 |jL k i off b n cap s h=>exact .jL k i off b n cap s (m _ _ h)
 |fn f first cap vs us j I _ _ q u=>exact .fn f first cap vs us j I q u
 |mp k v s j h=>exact .mp k v s j (m _ _ h)
 |clip xs ad h=>exact .clip xs ad (h.mono z)
 |rZ k ad n cap s h=>exact .rZ k ad n cap s (m _ _ h)
 |dO xs vs j _ q=>exact .dO xs vs j q
 |ag xs vs j J _ q=>exact .ag xs vs j J q
 |junk v=>exact .junk v
def R.shrink {ok ok':Nat→Prop} {w:World} (u:∀b o,ok b→(w.cell? ⟨b,o,none⟩).isSome=true→ok' b) {H:List BN} {x:AV} {v:Value} (h:R ok w H x v):R ok' w H x v:=by
 induction h with
 |d x v h=>exact .d x v (h.shrink u)
 |ptr k off b s h=>exact .ptr k off b s h
 |aP k ad n cap s h=>exact .aP k ad n cap s h
 |jL k i off b n cap s h=>exact .jL k i off b n cap s h
 |fn f first cap vs us j z _ _ m q=>exact .fn f first cap vs us j z m q
 |mp k v s j h=>exact .mp k v s j h
 |clip xs ad h=>exact .clip xs ad (h.shrink u)
 |rZ k ad n cap s h=>exact .rZ k ad n cap s h
 |dO xs vs j _ m=>exact .dO xs vs j m
 |ag xs vs j I _ m=>exact .ag xs vs j I m
 |junk v=>exact .junk v
def R.leaf {ok:Nat→Prop} {w:World} {H:List BN} {x:AV} {v:Value} (h:R ok w H x v) (f:x.leaf=true):v.oneCell'=true:=by
 cases h with
 |d x v h=>exact h.leaf f
 |dO=>simp[AV.leaf]at f
 |ag=>simp[AV.leaf]at f
 |junk=>simp[AV.leaf]at f
 |mp k v s f h=>exact f
 |_=>rfl
def Ed (ok:Nat→Prop) (w:World) (H:List BN) (xs:List AV) (vs:List Value):Prop:=
 vs.length=xs.length∧∀i,i<xs.length→(xs.getD i .junk).leaf=true∧R ok w H (xs.getD i .junk) (vs.getD i undef)
def Ed.mono {ok ok':Nat→Prop} {w w':World} {H H':List BN} (f:Df ok w ok' w') (j:Names H H') {xs:List AV} {vs:List Value} (h:Ed ok w H xs vs):Ed ok' w' H' xs vs:=
 ⟨h.1,fun i hi=>⟨(h.2 i hi).1,(h.2 i hi).2.mono f j⟩⟩
def Ed.shrink {ok ok':Nat→Prop} {w:World} (f:∀b o,ok b→(w.cell? ⟨b,o,none⟩).isSome=true→ok' b) {H:List BN} {xs:List AV} {vs:List Value} (h:Ed ok w H xs vs):Ed ok' w H xs vs:=
 ⟨h.1,fun i hi=>⟨(h.2 i hi).1,(h.2 i hi).2.shrink f⟩⟩
def flat (es:List D):List AV:=es.flatMap fun x=>x.cells.map .d
def kG (w:World) (e:TypeId) (size:Nat) (v:Value) (n:Nat) (xs:List Value):Prop:=
 xs.length=n*size∧
 ((v=.slice none 0 0∧n=0)∨
  ∃g cap f,v=.slice (some ⟨g,0,none⟩) n cap∧0≤g∧w.heap[g]? =some (.cells f e (0,0))∧n≤cap∧cap≤maxLen∧cap*size≤f.size∧f.toList.take (n*size)=xs)
def kG.of {w:World} {base:Nat} {e:TypeId} {size:Nat} {v:Value} {n:Nat} {xs:List Value} (h:w.ownsRow base e size v n xs):kG w e size v n xs:=by
 refine⟨h.1,?_⟩;rcases h.2 with f|⟨g,cap,j,f,I,m,q,s,u,z⟩
 ·exact .inl f
 exact .inr ⟨g,cap,j,f,Dx _,m,q,s,Zd u.symm,z⟩
def kG.cells {w:World} {e:TypeId} {size:Nat} {v:Value} {n:Nat} {xs:List Value} (h:kG w e size v n xs) {g:Nat} (s:v.ownBlock=some g):∀j u,xs[j]? =some u→w.cell? ((⟨g,0,none⟩:Addr).add j)=some u:=by
 intro j u q;rcases h.2 with⟨rfl,_⟩|⟨z,cap,I,rfl,_,J,_,_,_,f⟩
 ·simp[Value.ownBlock]at s
 simp[Value.ownBlock]at s;subst s;have m:(⟨z,0,none⟩:Addr).add j=⟨z,j,none⟩:=by unfold Addr.add;split<;>simp_all
 rw[m,cell_of_row w z j I e (0,0) J];rw[←f,dD]at q;split at q
 ·simpa using q
 cases q
structure I9 (ok:Nat→Prop) (w:World) (es:List (Value×D)) (ms:Array MapEntry) (clock:Nat):Prop where
 len:ms.size=es.length
 ent:∀(i:Nat) (e:Value×D) (m:MapEntry),es[i]? =some e→ms[i]? =some m→m.key=e.1∧Cm ok w e.2 m.val∧m.born<clock
 inc:∀(i j:Nat) (m n:MapEntry),i<j→ms[i]? =some m→ms[j]? =some n→m.born<n.born
def Oh (ms:Array MapEntry) (clock:Nat):Prop:=clock=ms.size∧∀(i:Nat) (e:MapEntry),ms[i]? =some e→e.born=i
def Dy (ok:Nat→Prop) (w:World) (H:List BN) (h:BN):Au→Prop
 | .dead=>True
 | .box cs=>∃b vs T,h.v=.pointer (some ⟨b,0,none⟩)∧w.heap[b]? =some (.cells vs T (0,0))∧Ed ok w H cs vs.toList
 | .arr e size es=>h.size=size∧(∀x∈es,x.cells.length=size)∧∃xs,kG w e size h.v es.length xs∧Ed ok w H (flat es) xs
 | .map es=>∃b ms clock,h.v=.map (some b)∧w.heap[b]? =some (.map ms clock)∧I9 ok w es ms clock
 | .aU es=>∃b ms clock,h.v=.map (some b)∧w.heap[b]? =some (.map ms clock)∧I9 ok w es ms clock∧Oh ms clock
 | .iter es vis=>∃bi f ms clock seen,h.v=.pointer (some ⟨bi,0,none⟩)∧w.heap[bi]? =some (.mapIter (some f) clock seen clock)∧ok f∧w.heap[f]? =some (.map ms clock)∧I9 ok w es ms clock∧
  seen.size=vis.length∧∀(j i:Nat),vis[j]? =some i→∃e,ms[i]? =some e∧seen[j]? =some e.born
 | .loop tm slots rc st m=>∃l fn D,h.v=.func (.yield l) #[] #[]∧w.heap[l]? =some (.loop { state:=st,pending:=m,fn,tmps:=tm,params:=rc.1,assign:=rc.2.1,body:=rc.2.2,defers:=D })∧tm.size=slots.length∧∀t,t<slots.length→R ok w H (slots.getD t .junk) (tm.getD t undef)
def CQ :Value→Option Nat
 | .pointer (some a)=>some a.block
 | .slice (some a) _ _=>some a.block
 | .map (some b)=>some b
 | .func (.yield l) _ _=>some l
 |_=>none
structure eX (w0:World) (X:List Nat) (w:World):Prop where
 os:w.os=w0.os
 tape:w.tape=w0.tape
 output:w.output=w0.output
 size:w0.heap.size≤w.heap.size
 block:∀k,k<w0.heap.size→k∉X→w.heap[k]? =w0.heap[k]?
def eX.refl (w:World) (X:List Nat):eX w X w:=⟨rfl,rfl,rfl,Dn _,fun _ _ _=>rfl⟩
def eX.below {w0 w:World} (h:eX w0 [] w):Below w0.heap.size w0 w:=⟨h.os,h.tape,h.output,h.size,fun k f=>h.block k f BG⟩
structure DZ where
 w0:World
 ok0:Nat→Prop
 X:List Nat
 H0:List BN
structure Bo (C:DZ) (ok:Nat→Prop) (H:List BN) (es:List Au) (w:World):Prop where
 fr:eX C.w0 C.X w
 uD:∀b,C.ok0 b→ok b
 uF:∀b,ok b→C.ok0 b∨C.w0.heap.size≤b∨b∈C.X
 jl:∀b,ok b→b<w.heap.size
 names:Names C.H0 H
 hlen:H.length=es.length
 ent:∀(k:Nat) (e:Au) (h:BN),es[k]? =some e→H[k]? =some h→Dy ok w H h e
 blk:∀(k:Nat) (e:Au) (h:BN) (b:Nat),es[k]? =some e→e.live=true→H[k]? =some h→CQ h.v=some b→¬ok b∧b<w.heap.size∧(C.w0.heap.size≤b∨b∈C.X)
 Az:∀(k k':Nat) (e e':Au) (h h':BN) (b:Nat),es[k]? =some e→es[k']? =some e'→e.live=true→e'.live=true→H[k]? =some h→H[k']? =some h'→CQ h.v=some b→CQ h'.v=some b→k=k'
def Dy.mono {ok ok':Nat→Prop} {w w':World} {H H':List BN} {h:BN} {e:Au} (z:Df ok w ok' w') (O:Names H H') (J:e.live=true→∀b,CQ h.v=some b→w'.heap[b]? =w.heap[b]?) (L:Dy ok w H h e):Dy ok' w' H' h e:=by
 cases e with
 |dead=>trivial
 |box cs=>
  obtain⟨b,vs,T,j,n,f⟩:=L;exact⟨b,vs,T,j,aEq,f.mono z O⟩
 |arr e s es=>
  obtain⟨j,n,xs,⟨f,u⟩,I⟩:=L;refine⟨j,n,xs,⟨f,?_⟩,I.mono z O⟩;rcases u with u|⟨g,cap,S,M,U,Z,h9⟩
  ·exact .inl u
  exact .inr ⟨g,cap,S,M,U,by rw[J rfl g (by rw[M];rfl)];exact Z,h9⟩
 |map es=>
  obtain⟨b,ms,clock,j,n,f⟩:=L;exact⟨b,ms,clock,j,aEq,f.len,fun i e m hi q=>⟨(f.ent i e m hi q).1,(f.ent i e m hi q).2.1.mono z,(f.ent i e m hi q).2.2⟩,f.inc⟩
 |aU es=>
  obtain⟨b,ms,clock,j,n,f,u⟩:=L;exact⟨b,ms,clock,j,aEq,⟨f.len,fun i e m hi q=>⟨(f.ent i e m hi q).1,(f.ent i e m hi q).2.1.mono z,(f.ent i e m hi q).2.2⟩,f.inc⟩,u⟩
 |iter es vis=>
  obtain⟨bi,Y,ms,clock,seen,j,n,f,u,I,M,U⟩:=L;exact⟨bi,Y,ms,clock,seen,j,by rw[J rfl bi aeJ];exact n,(z Y f).1,by rw[(z Y f).2];exact u,⟨I.len,fun i e m hi q=>⟨(I.ent i e m hi q).1,(I.ent i e m hi q).2.1.mono z,(I.ent i e m hi q).2.2⟩,I.inc⟩,M,U⟩
 |loop tm slots rc st pe=>
  obtain⟨l,fn,D,j,n,f,u⟩:=L;exact⟨l,fn,D,j,by rw[J rfl l aeJ];exact n,f,fun t ht=>(u t ht).mono z O⟩
def Dy.shrink {ok ok':Nat→Prop} {w:World} (z:∀b o,ok b→(w.cell? ⟨b,o,none⟩).isSome=true→ok' b) (L:∀(b:Nat) (ms:Array MapEntry) (c:Nat),ok b→w.heap[b]? =some (.map ms c)→ok' b) {H:List BN} {h:BN} {e:Au} (I:Dy ok w H h e):Dy ok' w H h e:=by
 cases e with
 |dead=>trivial
 |box cs=>
  obtain⟨b,vs,T,j,n,f⟩:=I;exact⟨b,vs,T,j,n,f.shrink z⟩
 |arr e s es=>
  obtain⟨j,n,xs,f,u⟩:=I;exact⟨j,n,xs,f,u.shrink z⟩
 |map es=>
  obtain⟨b,ms,clock,j,n,f⟩:=I;exact⟨b,ms,clock,j,n,f.len,fun i e m hi q=>⟨(f.ent i e m hi q).1,(f.ent i e m hi q).2.1.shrink z,(f.ent i e m hi q).2.2⟩,f.inc⟩
 |aU es=>
  obtain⟨b,ms,clock,j,n,f,J⟩:=I;exact⟨b,ms,clock,j,n,⟨f.len,fun i e m hi q=>⟨(f.ent i e m hi q).1,(f.ent i e m hi q).2.1.shrink z,(f.ent i e m hi q).2.2⟩,f.inc⟩,J⟩
 |iter es vis=>
  obtain⟨bi,M,ms,clock,seen,j,n,f,J,u,O,S⟩:=I;exact⟨bi,M,ms,clock,seen,j,n,L M ms clock f J,J,⟨u.len,fun i e m hi q=>⟨(u.ent i e m hi q).1,(u.ent i e m hi q).2.1.shrink z,(u.ent i e m hi q).2.2⟩,u.inc⟩,O,S⟩
 |loop tm slots rc st Y=>
  obtain⟨l,fn,D,j,n,f,J⟩:=I;exact⟨l,fn,D,j,n,f,fun t U=>(J t U).shrink z⟩
def Dy.drew {ok:Nat→Prop} {w:World} {H:List BN} {h:BN} {e:Au} {n:Nat} (f:Dy ok w H h e):Dy ok { w with drawn:=n } H h e:=
 Dy.mono (w:=w) (ok:=ok) (fun _ j=>⟨j,rfl⟩) (.refl _) (fun _ _ _=>rfl) f
def BQ (P:Program) (o:Oper) (ns:List (Operand×AV)) (es:List Au) (x:AV) (es':List Au):Prop:=
 ∀(C:DZ) (ok:Nat→Prop) (H:List BN) (a:Act) (w:World) (Q:Exit→Act→World→Prop),
  Bo C ok H es w→(∀n∈ns,R ok w H n.2 (a.eval n.1))→
  o.wp P a w (fun a' w'=>∃v ok' H',a'=a.put o.dst v∧Df ok w ok' w'∧Names H H'∧Bo C ok' H' es' w'∧R ok' w' H' x v) Q
def BQ.pure {P:Program} {o:Oper} {ns:List (Operand×AV)} {es:List Au} {x:AV}
 (h:∀(ok:Nat→Prop) (H:List BN) (a:Act) (w:World),(∀(k:Nat) (e:Au) (h:BN),es[k]? =some e→H[k]? =some h→Dy ok w H h e)→H.length=es.length→(∀n∈ns,R ok w H n.2 (a.eval n.1))→∃v,(execOp a.eval o).run P w=.ok (.value v) w∧R ok w H x v):BQ P o ns es x es:=by
 intro C ok H a w Q f j;obtain⟨v,m,q⟩:=h ok H a w f.ent f.hlen j;unfold Oper.wp;rw[m];exact⟨v,ok,H,rfl,.refl _ _,.refl _,f,q⟩
structure Ai where
 slots:List AV
 ents:List Au
 base:Nat:=0
def Ai.get (σ:Ai):Operand→AV
 | .tmp t=>σ.slots.getD t .junk
 | .const v=>.d (.lit v)
 | .global g=>.d (.lit (.pointer (some ⟨g,0,none⟩)))
 | .func f=>.d (.fn (.func f) [] [])
def Ai.put (σ:Ai) (d:Option Tmp) (x:AV) (es:List Au):Ai:=
 ⟨match d with |some t=>σ.slots.set t x|none=>σ.slots,es,σ.base⟩
def Ai.oG (σ:Ai) (d:Option Tmp) (x:AV):Ai:=
 ⟨match d with |some t=>σ.slots.set t x|none=>σ.slots,σ.ents,σ.base⟩
def Ai.Rn (σ:Ai) (d:Option Tmp) (x:AV):σ.oG d x=σ.put d x σ.ents:=rfl
def Marks (C:DZ) (ok:Nat→Prop) (w:World) (f:List Deferred):Prop:=
 ∃Ds:List Nat,f=Ds.map (fun D=>{ target:=.collected D,args:= #[] })∧Ds.Nodup∧∀D∈Ds,ok D∧C.w0.heap.size≤D∧w.heap[D]? =some (.deferred (some []))
def Marks.nil (C:DZ) (ok:Nat→Prop) (w:World):Marks C ok w []:=⟨[],rfl,Wh,fun _ h=>GX⟩
def Marks.mono {C:DZ} {ok ok':Nat→Prop} {w w':World} {m:List Deferred} (h:Marks C ok w m) (n:Df ok w ok' w'):Marks C ok' w' m:=by
 obtain⟨Ds,q,s,f⟩:=h;exact⟨Ds,q,s,fun D j=>⟨(n D (f D j).1).1,(f D j).2.1,((n D (f D j).1).2).trans (f D j).2.2⟩⟩
structure Holds (C:DZ) (ok:Nat→Prop) (H:List BN) (σ:Ai) (a:Act) (w:World):Prop where
 mem:Bo C ok H σ.ents w
 size:a.tmps.size=σ.slots.length
 defers:Marks C ok w a.defers
 base:C.H0.length=σ.base
 slot:∀t,t<σ.slots.length→R ok w H (σ.slots.getD t .junk) (a.tmps.getD t undef)
def aN {l:List AV} {t:Nat} (h:¬t<l.length):l.getD t .junk=.junk:=by
 simp[List.getD,Jm (RZ h)]
def Holds.get {C:DZ} {ok:Nat→Prop} {H:List BN} {σ:Ai} {a:Act} {w:World} (h:Holds C ok H σ a w) (x:Operand):R ok w H (σ.get x) (a.eval x):=by
 cases x with
 |tmp t=>
  show R ok w H (σ.slots.getD t .junk) (a.tmps.getD t undef);by_cases j:t<σ.slots.length
  ·exact h.slot t j
  rw[aN j];exact .junk _
 |const v=>exact .d _ _ (.lit v)
 |global g=>exact .d _ _ (.lit _)
 |func f=>exact .d _ _ (.fn (.func f) [] [] #[] #[] rfl rfl (fun i hi=>KP) (fun i hi=>KP))
def Holds.put {C:DZ} {ok ok':Nat→Prop} {H H':List BN} {σ:Ai} {a:Act} {w w':World} (h:Holds C ok H σ a w) (d:Option Tmp) {x:AV} {v:Value} {es':List Au}
 (j:Df ok w ok' w') (q:Names H H') (s:Bo C ok' H' es' w') (u:R ok' w' H' x v):Holds C ok' H' (σ.put d x es') (a.put d v) w':=by
 cases d with
 |none=>exact⟨s,h.size,h.defers.mono j,h.base,fun t f=>(h.slot t f).mono j q⟩
 |some d=>
  refine⟨s,by simp[Ai.put,Act.put,h.size],h.defers.mono j,h.base,fun t f=>?_⟩;simp only[Ai.put,Zy]at f;simp only[Ai.put,Act.put];by_cases e:d=t
  ·subst e;have m:(σ.slots.set d x).getD d .junk=x:=by simp[List.getD,f]
   have n:(a.tmps.setIfInBounds d v).getD d undef=v:=by simp[Array.getD,h.size,f]
   rw[m,n];exact u
  have m:(σ.slots.set d x).getD t .junk=σ.slots.getD t .junk:=aFa
  have n:(a.tmps.setIfInBounds d v).getD t undef=a.tmps.getD t undef:=by simp[FU,IG e]
  rw[m,n];exact(h.slot t f).mono j q
def AV.qx (π:List (Nat×Bool)):AV→AV
 | .d x=>.d x
 | .ptr k off=>match π.idxOf? (k,true)with |some j=>.ptr j off|none=>.junk
 | .aP k=>match π.idxOf? (k,true)with |some j=>.aP j|none=>.junk
 | .jL k i off=>match π.idxOf? (k,true)with |some j=>.jL j i off|none=>.junk
 | .mp k=>match π.idxOf? (k,true)with |some j=>.mp j|none=>.junk
 | .rZ k=>match π.idxOf? (k,true)with |some j=>.rZ j|none=>.junk
 | .clip xs=>.clip xs
 |_=>.junk
def AV.back (π:List (Nat×Bool)):AV→AV
 | .fn f first cap=>.fn f (first.map (AV.qx π)) (cap.map (AV.qx π))
 | .dO vs=>.dO (vs.map (AV.qx π))
 |x=>x.qx π
def Au.back (π:List (Nat×Bool)):Au→Au
 | .dead=>.dead
 | .box cs=>.box (cs.map (AV.qx π))
 | .arr e s es=>.arr e s es
 | .map es=>.map es
 | .aU es=>.aU es
 | .iter es vis=>.iter es vis
 | .loop tm slots rc st f=>.loop tm (slots.map (AV.back π)) rc st f
def iJ {π:List (Nat×Bool)} {H:List BN} {k j:Nat} {h:BN} (m:π.idxOf? (k,true)=some j) (n:H[k]? =some h):(π.map fun p=>H.getD p.1 ⟨undef,0⟩)[j]? =some h:=by
 rw[List.idxOf?,aIQ]at m;obtain⟨f,q, -⟩:=m;have e:π[j]=(k,true):=Qw
 simp[f,e,List.getD,n]
def R.qx {ok:Nat→Prop} {w:World} {H:List BN} (π:List (Nat×Bool)) {x:AV} {v:Value} (h:R ok w H x v):R ok w (π.map fun p=>H.getD p.1 ⟨undef,0⟩) (x.qx π) v:=by
 cases h with
 |d x v h=>exact .d x v h
 |ptr k off b s h=>
  simp only[AV.qx];split<;>rename_i j m
  ·exact .ptr _ off b s (iJ m h)
  exact .junk _
 |aP k ad n cap s h=>
  simp only[AV.qx];split<;>rename_i j m
  ·exact .aP _ ad n cap s (iJ m h)
  exact .junk _
 |jL k i off b n cap s h=>
  simp only[AV.qx];split<;>rename_i j m
  ·exact .jL _ i off b n cap s (iJ m h)
  exact .junk _
 |mp k v s q h=>
  simp only[AV.qx];split<;>rename_i j m
  ·exact .mp _ v s q (iJ m h)
  exact .junk _
 |clip xs ad h=>exact .clip xs ad h
 |rZ k ad n cap s h=>
  simp only[AV.qx];split<;>rename_i j m
  ·exact .rZ _ ad n cap s (iJ m h)
  exact .junk _
 |fn f first cap vs us q u h h'=>exact .junk _
 |dO xs vs q h=>exact .junk _
 |ag xs vs q z h=>exact .junk _
 |junk v=>exact .junk _
def Qs (f:AV→AV) (l:List AV) (i:Nat) (h:i<l.length):(l.map f).getD i .junk=f (l.getD i .junk):=by
 simp[List.getD,h]
def R.back {ok:Nat→Prop} {w:World} {H:List BN} (π:List (Nat×Bool)) {x:AV} {v:Value} (h:R ok w H x v):R ok w (π.map fun p=>H.getD p.1 ⟨undef,0⟩) (x.back π) v:=by
 cases h with
 |fn f first cap vs us j m h h'=>
  exact .fn f _ _ vs us (by simp[j]) (by simp[m]) (fun i hi=>abR) (fun i hi=>by rw[CB]at hi;rw[Qs _ _ _ hi];exact(h' i hi).qx π)
 |dO xs vs j h=>exact .dO _ vs (by simp[j]) (fun i hi=>abR)
 |ag xs vs j q h=>exact .junk _
 |d x v h=>exact(R.d x v h).qx π
 |ptr k off b s h=>exact(R.ptr k off b s h).qx π
 |aP k ad n cap s h=>exact(R.aP k ad n cap s h).qx π
 |jL k i off b n cap s h=>exact(R.jL k i off b n cap s h).qx π
 |mp k v s j h=>exact(R.mp k v s j h).qx π
 |clip xs ad h=>exact(R.clip xs ad h).qx π
 |rZ k ad n cap s h=>exact(R.rZ k ad n cap s h).qx π
 |junk v=>exact .junk _
def Au.backOk (π:List (Nat×Bool)):Au→Bool
 | .box cs=>cs.all fun x=>(x.qx π).leaf
 |_=>true
def Qx (base:Nat) (es:List Au) (π:List (Nat×Bool)):Bool:=
 π.all (fun p=>decide (p.1<es.length))&&decide ((π.filterMap fun p=>if p.2 then some p.1 else none).Nodup)&&((π.take base).map (·.1)==List.range base)&&π.all fun p=>(es.getD p.1 .dead).backOk π
def OJ (es:List Au) (π:List (Nat×Bool)):List Au:=π.map fun p=>if p.2 then(es.getD p.1 .dead).back π else .dead
def aGz :∀{π:List (Nat×Bool)},(π.filterMap fun p=>if p.2 then some p.1 else none).Nodup→∀(i j k:Nat),π[i]? =some (k,true)→π[j]? =some (k,true)→i=j
 | [],_,i,j,k,h,_=>Fq
 |p::π,f,i,j,k,hi,q=>by
  have m:∀(n:Nat),π[n]? =some (k,true)→k∈π.filterMap fun p=>if p.2 then some p.1 else none:=fun n h=>by
   rw[Ph];exact⟨_,TT h,rfl⟩
  have s:(π.filterMap fun p=>if p.2 then some p.1 else none).Nodup:=by
   rw[P5]at f;split at f
   ·exact f
   exact(KD.1 f).2
  match i,j with
  |0,0=>rfl
  |0,j+1=>
   simp at hi q;subst hi;simp only[P5,Iu]at f;exact absurd (m j q) (KD.1 f).1
  |i+1,0=>
   simp at hi q;subst q;simp only[P5,Iu]at f;exact absurd (m i hi) (KD.1 f).1
  |i+1,j+1=>rw[aGz s i j k Ey Qw]
def Dy.back {ok:Nat→Prop} {w:World} {H:List BN} {h:BN} {e:Au} (π:List (Nat×Bool)) (J:e.backOk π=true) (f:Dy ok w H h e):Dy ok w (π.map fun p=>H.getD p.1 ⟨undef,0⟩) h (e.back π):=by
 cases e with
 |dead=>trivial
 |box cs=>
  obtain⟨b,vs,T,j,m,n,q⟩:=f;refine⟨b,vs,T,j,m,NQ,fun i hi=>?_⟩;rw[CB]at hi;rw[Qs _ _ _ hi];refine⟨?_,(q i hi).2.qx π⟩;simp only[Au.backOk,DV]at J;exact J _ Jc
 |arr e s es=>
  obtain⟨j,m,xs,n,q,L⟩:=f;refine⟨j,m,xs,n,q,fun i hi=>⟨(L i hi).1,?_⟩⟩;have u:=(L i hi).2;have z:(flat es).getD i .junk∈flat es:=Jc
  unfold flat at z ⊢;simp only[Qn,FM]at z;obtain⟨x,_,y,_,M⟩:=z;unfold flat at u;rw[←M]at u ⊢;cases u with |d _ _ h=>exact .d _ _ h
 |map es=>exact f
 |aU es=>exact f
 |iter es vis=>exact f
 |loop tm slots rc st O=>
  obtain⟨l,fn,D,j,m,n,q⟩:=f;refine⟨l,fn,D,j,m,NQ,fun t I=>?_⟩;rw[CB]at I;rw[Qs _ _ _ I];exact(q t I).back π
def aHZ {π:List (Nat×Bool)} {e:Au}:(e.back π).live=e.live:=by cases e<;>rfl
def Bo.norm {C:DZ} {ok:Nat→Prop} {H:List BN} {es:List Au} {w:World} (I:Bo C ok H es w) (π:List (Nat×Bool)) (M:Qx C.H0.length es π=true):
 Bo C ok (π.map fun p=>H.getD p.1 ⟨undef,0⟩) (OJ es π) w:=by
 unfold Qx at M;simp only[Bv,FI,QS,DV]at M;obtain⟨⟨⟨hlt,hnd⟩,Y⟩,hbk⟩:=M
 have n:∀(j:Nat) (h:BN),(π.map fun p=>H.getD p.1 ⟨undef,0⟩)[j]? =some h→∃p,π[j]? =some p∧p.1<es.length∧H[p.1]? =some h:=by
  intro j h f;rw[Gt]at f;cases m:π[j]? with
  |none=>rw[m]at f;simp at f
  |some p=>
   rw[m]at f;have q:p.1<es.length:=hlt p (TT m);refine⟨p,rfl,q,?_⟩;have hkH:p.1<H.length:=by rw[I.hlen];exact q
   simp[List.getD,hkH]at f ⊢;exact f
 have s:∀(j:Nat) (p:Nat×Bool) (e:Au),(OJ es π)[j]? =some e→π[j]? =some p→p.1<es.length→(p.2=false∧e=.dead)∨(p.2=true∧∃J,es[p.1]? =some J∧e=J.back π∧p∈π):=by
  intro j p e f m q;unfold OJ at f;rw[Gt,m]at f;cases U:p.2 with
  |false=>simp[U]at f;exact .inl ⟨rfl,f.symm⟩
  |true=>
   simp[U,List.getD,q]at f;exact .inr ⟨rfl,es[p.1],by simp[q],f.symm,TT m⟩
 refine⟨I.fr,I.uD,I.uF,I.jl,?_,by simp[OJ],?_,?_,?_⟩
 ·intro k v hv;have q:k<C.H0.length:=(Eb.1 hv).1;have Z:((π.take C.H0.length).map (·.1))[k]? =some k:=by rw[Y];simp[q]
  rw[Gt,Jo q]at Z;have h2:=I.names k v hv;cases m:π[k]? with
  |none=>rw[m]at Z;simp at Z
  |some p=>
   rw[m]at Z;have hpk:p.1=k:=Yi
   rw[Gt,m];simp[List.getD,hpk,h2]
 ·intro j e h f hh;obtain⟨p,m,q,hH⟩:=n j h hh;rcases s j p e f m q with⟨_,rfl⟩|⟨_,J,u,rfl,z⟩
  ·trivial
  refine(I.ent p.1 J h u hH).back π ?_;have :=hbk p z;simpa[List.getD,u]using this
 ·intro j e h b f O hh U;obtain⟨p,m,q,hH⟩:=n j h hh;rcases s j p e f m q with⟨_,rfl⟩|⟨_,J,u,rfl,z⟩
  ·cases O
  rw[aHZ]at O;exact I.blk p.1 J h b u O hH U
 intro j j' e e' h h' b f hj' O S hh hh' U hb';obtain⟨p,m,q,hH⟩:=n j h hh;obtain⟨p',hp',hk',hH'⟩:=n j' h' hh';rcases s j p e f m q with⟨_,rfl⟩|⟨hpt,J,u,rfl,z⟩
 ·cases O
 rcases s j' p' e' hj' hp' hk' with⟨_,rfl⟩|⟨L,e0',auu,rfl,hmem'⟩
 ·cases S
 rw[aHZ]at O S;have hkk:=I.Az p.1 p'.1 J e0' h h' b u auu O S hH hH' U hb';obtain⟨k,bb⟩:=p;obtain⟨k',bb'⟩:=p';simp only at hkk hpt L;subst hkk;subst hpt;subst L;exact aGz hnd j j' k m hp'
def IV (π:List (Nat×Bool)):List Bool→List AV→List AV
 |_,[]=>[]
 |true::m,x::xs=>x.back π::IV π m xs
 |false::m,_::xs=>.junk::IV π m xs
 | [],_::xs=>.junk::IV π [] xs
def pR (π:List (Nat×Bool)):∀(m:List Bool) (l:List AV),(IV π m l).length=l.length
 |_,[]=>by unfold IV;rfl
 |true::m,x::xs=>by simp[IV,pR π m xs]
 |false::m,x::xs=>by simp[IV,pR π m xs]
 | [],x::xs=>by simp[IV,pR π [] xs]
def qh (π:List (Nat×Bool)):∀(m:List Bool) (l:List AV) (t:Nat),(IV π m l).getD t .junk=(l.getD t .junk).back π∨(IV π m l).getD t .junk=.junk
 |_,[],t=>by unfold IV;right;simp
 |true::m,x::xs,0=>by left;simp[IV]
 |false::m,x::xs,0=>by right;simp[IV]
 | [],x::xs,0=>by right;simp[IV]
 |true::m,x::xs,t+1=>by simpa[IV]using qh π m xs t
 |false::m,x::xs,t+1=>by simpa[IV]using qh π m xs t
 | [],x::xs,t+1=>by simpa[IV]using qh π [] xs t
def zC (σ S:Ai):Prop:=∃(m:List Bool) (π:List (Nat×Bool)),Qx σ.base σ.ents π=true∧S=⟨IV π m σ.slots,OJ σ.ents π,σ.base⟩
def Holds.auv {C:DZ} {ok:Nat→Prop} {H:List BN} {σ S:Ai} {a:Act} {w:World} (h:Holds C ok H σ a w) (j:zC σ S):∃H',Holds C ok H' S a w:=by
 obtain⟨m,π,f,rfl⟩:=j;refine⟨π.map fun p=>H.getD p.1 ⟨undef,0⟩,h.mem.norm π (h.base▸f),by simp[pR,h.size],h.defers,h.base,fun t n=>?_⟩;rcases qh π m σ.slots t with e|e
 ·simp only[e];exact(h.get (.tmp t)).back π
 simp only[e];exact .junk _
def Bq (σ S:Ai):Prop:=∀(C:DZ) (ok:Nat→Prop) (H:List BN) (a:Act) (w:World),Holds C ok H σ a w→∃ok' H',Holds C ok' H' S a w
def zC.sub {σ S:Ai} (h:zC σ S):Bq σ S:=fun _ ok _ _ _ f=>let⟨H',h'⟩:=f.auv h;⟨ok,H',h'⟩
def ak3 {σ S:Ai} (f:Ai) (h:∀C ok H a w,Holds C ok H σ a w→∃ok',Holds C ok' H f a w) (k:Bq f S):Bq σ S:=fun C _ H a w j=>let⟨ok',h'⟩:=h C _ H a w j;k C ok' H a w h'
section
variable {P : Program} {ops : Array Oper} {Q : Exit → Act → World → Prop}
def toCome (f:Array Bool):Nat:=(f.toList.filter (!·)).length
def toCome_set {f:Array Bool} {i:Nat} (hi:i<f.size) (h:f.getD i true=false):toCome (f.setIfInBounds i true)+1=toCome f:=by
 unfold toCome;have j:f.toList[i]' Ey=false:=by simpa[Array.getD,hi]using h
 have e:f.toList=f.toList.take i++false::f.toList.drop (i+1):=by
  rw[←j,List.getElem_cons_drop,iT]
 have m:(f.setIfInBounds i true).toList=f.toList.take i++true::f.toList.drop (i+1):=by
  rw[aDO,adQ,CG Ey]
 rw[m]
 conv=>rhs;rw[e]
 simp[Sr];omega
def written (ops:Array Oper):List Tmp:=ops.toList.filterMap (·.dst)
def UL (ops:Array Oper):Bool:=(List.range ops.size).all fun i=>(List.range ops.size).all fun j=>i==j||match(ops[i]?).bind (·.dst),(ops[j]?).bind (·.dst)with
 |some d,some f=>d != f
 |_,_=>true
def Qa (ops:Array Oper) (n:Nat):Bool:=(written ops).all fun d=>decide (d<n)
def aGC (h:UL ops=true):∀(i j:Nat) (o f:Oper) (d:Tmp),ops[i]? =some o→ops[j]? =some f→o.dst=some d→f.dst=some d→i=j:=by
 intro i j o f d m n q s;unfold UL at h;rw[DV]at h;have hi:i<ops.size:=(Ei.1 m).1;have u:j<ops.size:=(Ei.1 n).1;have :=h i Ey;rw[DV]at this;have :=this j Oe;rw[m,n]at this;simp[q,s]at this;exact this
def aDH {i:Nat} {o:Oper} {d:Tmp} (h:ops[i]? =some o) (hd:o.dst=some d):d∈written ops:=by
 unfold written;rw[Ph]
 exact⟨o,by
  have⟨hi,f⟩:=Ei.1 h
  rw[←f];exact Array.getElem_mem_toList hi,hd⟩
def aGe {a:Act} {d:Tmp} {v:Value} (h:d<a.tmps.size):(a.put (some d) v).tmps.getD d undef=v:=by
 simp[Act.put,Array.getD,h]
def aFG {a:Act} {d t:Tmp} {v:Value} (h:d≠t):(a.put (some d) v).tmps.getD t undef=a.tmps.getD t undef:=by
 simp[Act.put,FU,IG h]
def size_put {a:Act} {d:Option Tmp} {v:Value}:(a.put d v).tmps.size=a.tmps.size:=by cases d<;>simp[Act.put]
def aqA {a:Act} {d:Option Tmp} {v:Value}:(a.put d v).defers=a.defers:=by cases d<;>rfl
end
def SS (ops:Array Oper) (σ:Ai) (g:Option (Nat×Bool)):Prop:=g=none∨
 ∃j f d b,g=some (j,f)∧(ops[j]?).bind (·.dst)=some d∧σ.slots.getD d .junk=.d (.lit (.bool b))∧b=f
def Uk (ops:Array Oper) (σ:Ai) (g:Option (Nat×Bool)):Prop:=
 ∃j f d v,g=some (j,f)∧(ops[j]?).bind (·.dst)=some d∧σ.slots.getD d .junk=.d (.lit v)∧(v=.bool (!f)∨v=undef)
def akA {ops:Array Oper} {σ:Ai} {g:Option (Nat×Bool)} (j:Nat) (f:Bool) (d:Nat) (b:Bool) (h:g=some (j,f)) (hd:(ops[j]?).bind (·.dst)=some d) (m:σ.slots.getD d .junk=.d (.lit (.bool b))) (n:b= !f):Uk ops σ g:=⟨j,f,d,_,h,hd,m,.inl (by rw[n])⟩
def amO {ops:Array Oper} {σ:Ai} {g:Option (Nat×Bool)} (j:Nat) (f:Bool) (d:Nat) (h:g=some (j,f)) (hd:(ops[j]?).bind (·.dst)=some d) (m:σ.slots.getD d .junk=.d (.lit undef)):Uk ops σ g:=⟨j,f,d,_,h,hd,m,.inr rfl⟩
def R.bool {ok:Nat→Prop} {w:World} {H:List BN} {u v:Value} (h:R ok w H (.d (.lit u)) v):v=u:=by
 cases h with |d _ _ h=>cases h;rfl
def amr {C:DZ} {ok:Nat→Prop} {H:List BN} {σ:Ai} {a:Act} {w:World} (h:Holds C ok H σ a w) {ops:Array Oper} {j d:Nat} {v:Value}
 (n:(ops[j]?).bind (·.dst)=some d) (f:σ.slots.getD d .junk=.d (.lit v)):yielded ops a.tmps j=(match v with | .bool b=>some b|_=>none):=by
 have hd:d<σ.slots.length:=by
  apply UQ;intro q;rw[aN q]at f;cases f
 have m:=(f▸h.slot d hd).bool
 have s:a.tmps[d]? =some v:=by
  have :d<a.tmps.size:=by rw[h.size];exact hd
  simp[Array.getD,this]at m;simp[this,m]
 unfold yielded;rw[n];simp only[Aa,s];cases v<;>rfl
def aqu {C:DZ} {ok:Nat→Prop} {H:List BN} {σ:Ai} {a:Act} {w:World} (h:Holds C ok H σ a w) {ops:Array Oper} {j d:Nat} {b:Bool}
 (n:(ops[j]?).bind (·.dst)=some d) (f:σ.slots.getD d .junk=.d (.lit (.bool b))):yielded ops a.tmps j=some b:=by
 have hd:d<σ.slots.length:=by
  apply UQ;intro q;rw[aN q]at f;cases f
 have m:=(f▸h.slot d hd).bool
 have s:a.tmps[d]? =some (.bool b):=by
  have :d<a.tmps.size:=by rw[h.size];exact hd
  simp[Array.getD,this]at m;simp[this,m]
 unfold yielded;rw[n];simp only[Aa,s]
def NS {C:DZ} {ok:Nat→Prop} {H:List BN} {σ:Ai} {a:Act} {w:World} (h:Holds C ok H σ a w) {ops:Array Oper} {o:Oper} (f:SS ops σ o.guard):Region.wanted o (yielded ops a.tmps)=true:=by
 unfold Region.wanted;rcases f with f|⟨j,m,d,b,f,n,q,rfl⟩
 ·rw[f]
 rw[f];show(yielded ops a.tmps j==some b)=true;rw[aqu h n q];simp
def aCf {C:DZ} {ok:Nat→Prop} {H:List BN} {σ:Ai} {a:Act} {w:World} (h:Holds C ok H σ a w) {ops:Array Oper} {o:Oper} (m:Uk ops σ o.guard):Region.wanted o (yielded ops a.tmps)=false:=by
 unfold Region.wanted;obtain⟨j,f,d,v,m,n,q,s⟩:=m;rw[m];show(yielded ops a.tmps j==some f)=false;rw[amr h n q];rcases s with rfl|rfl
 ·simp
 rfl
def needs (σ:Ai):List (Operand×AV)→Prop
 | []=>True
 |n::ns=>σ.get n.1=n.2∧needs σ ns
def MR {σ:Ai}:∀{ns:List (Operand×AV)},needs σ ns→∀n∈ns,σ.get n.1=n.2
 | [],_,n,h=>Fq
 |m::ns,f,n,h=>by
  rcases Em.1 h with rfl|h
  ·exact f.1
  exact MR f.2 n h
def tmpsOf (o:Oper):List Tmp:=o.op.operands.toList.filterMap fun | .tmp t=>some t|_=>none
def Js (ns:List (Operand×AV)):List Tmp:=ns.filterMap fun n=>match n.1 with | .tmp t=>some t|_=>none
def OO (P:Program) (ops:Array Oper) (σ:Ai) (x:AV) (E:List Au) (bar:Bool) (o:Oper):Prop:=
 ((∃ns,BQ P o ns σ.ents x E∧needs σ ns∧(Js ns).all (tmpsOf o).contains=true∧SS ops σ o.guard)∨(x=.d (.lit undef)∧E=σ.ents∧Uk ops σ o.guard))∧(bar=false→E=σ.ents)
def aaN {P:Program} {ops:Array Oper} {σ:Ai} {x:AV} {o:Oper} {ns:List (Operand×AV)} (h:BQ P o ns σ.ents x σ.ents) (f:needs σ ns) (j:SS ops σ o.guard) (m:(Js ns).all (tmpsOf o).contains=true):OO P ops σ x σ.ents false o:=
 ⟨.inl ⟨ns,h,f,m,j⟩,fun _=>rfl⟩
def Gg (ro:Option Nat):Fence:={ fn:=fun _=>True,depth:=none,alive:=false,round:=ro }
def wR {ro:Option Nat} {n:Nat} {P:Program} {f:FuncId} {args:Array Value} {w:World} {R:Ending→World→Prop}:CallsIn (Gg ro) n P f args w R↔Calls P f args w R:=
 callsIn_wide (n:=n)
def ao4 {ro:Option Nat} {n:Nat} {P:Program} {f:String} {args:Array Value} {w:World} {R:Value→World→Prop} (h:Rows P f args w R):RowsIn (Gg ro) n P f args w R:=
 fun c cs _=>let⟨v,w',r,s⟩:=h c cs;⟨v,w',r,(stepsIn_wide (P:=P)).2 s⟩
def BQ.aqv {P:Program} {o:Oper} {ns:List (Operand×AV)} {es es':List Au} {x:AV} (h:BQ P o ns es x es') {C:DZ} {ok:Nat→Prop} {H:List BN} {a:Act} {w:World} (m:Bo C ok H es w) (q:∀n∈ns,R ok w H n.2 (a.eval n.1)):∀c,o.op≠ .defer c:=by
 intro c s;have f:=h C ok H a w (fun _ _ _=>False) m q;unfold Oper.wp execOp at f;rw[s]at f;simp only[ER]at f;cases j:(resolve a.eval c o.type).run P w with
 |ok d w'=>
  rw[j]at f;simp only[Result.andThen]at f;obtain⟨v,_,_,u,_⟩:=f;have :=BX (fun a=>a.defers.length) u;cases z:o.dst<;>simp[Act.put,z]at this
 |halt x w'=>
  rw[j]at f;cases x<;>exact f
def BQ.WW {P:Program} {o:Oper} {ns:List (Operand×AV)} {es es':List Au} {x:AV} (h:BQ P o ns es x es') (ro:Option Nat) (C:DZ) (ok:Nat→Prop) (H:List BN) (a:Act) (w:World) (Q:Exit→Act→World→Prop)
 (j:Bo C ok H es w) (m:∀n∈ns,R ok w H n.2 (a.eval n.1)):
 o.wpIn (Gg ro) 0 P a w (fun a' w'=>∃v ok' H',a'=a.put o.dst v∧Df ok w ok' w'∧Names H H'∧Bo C ok' H' es' w'∧R ok' w' H' x v) Q:=by
 have f:=h C ok H a w Q j m;refine⟨fun _ _=>trivial,?_⟩;rw[Zr _ _ _ (h.aqv j m)];unfold Oper.wp at f;generalize(execOp a.eval o).run P w=r at f;cases r with
 |ok n w'=>
  cases n<;>first
   |exact f
   |exact f.elim
   |exact⟨fun h=>GX,wR.2 f⟩
   |exact⟨fun h=>GX,ao4 f⟩
 |halt x w'=>cases x<;>exact f
inductive Chain (P:Program) (ops:Array Oper):List Oper→Ai→Ai→Prop
 |nil (σ:Ai):Chain P ops [] σ σ
 |op {o:Oper} {rest:List Oper} {σ σ':Ai} {ns:List (Operand×AV)} {x:AV} (d:Option Tmp) (h:BQ P o ns σ.ents x σ.ents) (hn:needs σ ns) (hg:SS ops σ o.guard) (hd:o.dst=d)
  (k:Chain P ops rest (σ.oG d x) σ'):Chain P ops (o::rest) σ σ'
 |oe {o:Oper} {rest:List Oper} {σ σ':Ai} {ns:List (Operand×AV)} {x:AV} {es':List Au} (d:Option Tmp) (E:List Au) (h:BQ P o ns σ.ents x es') (he:es'=E) (hn:needs σ ns) (hg:SS ops σ o.guard) (hd:o.dst=d)
  (k:Chain P ops rest (σ.put d x E) σ'):Chain P ops (o::rest) σ σ'
 |skip {o:Oper} {rest:List Oper} {σ σ':Ai} (d:Option Tmp) (hg:Uk ops σ o.guard) (hd:o.dst=d) (k:Chain P ops rest (σ.oG d (.d (.lit undef))) σ'):Chain P ops (o::rest) σ σ'
 |any {o:Oper} {rest:List Oper} {σ σ':Ai} {x:AV} (d:Option Tmp) (h:OO P ops σ x σ.ents false o) (hd:o.dst=d) (k:Chain P ops rest (σ.oG d x) σ'):Chain P ops (o::rest) σ σ'
 |Ya {o:Oper} {rest:List Oper} {σ σ':Ai} {x:AV} {E:List Au} {bar:Bool} (d:Option Tmp) (h:OO P ops σ x E bar o) (hd:o.dst=d) (k:Chain P ops rest (σ.put d x E) σ'):Chain P ops (o::rest) σ σ'
 |conv {rest:List Oper} {σ σ':Ai} (σ2:Ai) (h:∀C ok H a w,Holds C ok H σ a w→∃ok',Holds C ok' H σ2 a w) (k:Chain P ops rest σ2 σ'):Chain P ops rest σ σ'
def Chain.sound {P:Program} {ops:Array Oper} {l:List Oper} {σ σ':Ai} (h:Chain P ops l σ σ') {ro:Option Nat} {C:DZ} {H0:List BN} {Q:Exit→Act→World→Prop}:
 ∀{ok:Nat→Prop} {H:List BN} {a:Act} {w:World},Holds C ok H σ a w→Names H0 H→(∀ok' H' a' w',Holds C ok' H' σ' a' w'→Names H0 H'→Q .normal a' w')→wpListIn (Gg ro) 0 P ops Q l a w:=by
 induction h with
 |nil σ=>intro ok H a w f J q;exact q ok H a w f J
 | @op o rest σ σ' ns x d L J z hd k I=>
   intro ok H a w f j q;subst hd;unfold wpListIn;rw[CG (NS f z)];refine Nr ?_ (L.WW ro C ok H a w Q f.mem (fun n s=>MR J n s▸f.get n.1));rintro a' w' ⟨v,ok',H',rfl,u,m,M,O⟩;exact I (f.put o.dst u m M O) (j.trans m) q
 | @oe o rest σ σ' ns x es' d E L Y J z hd k I=>
   intro ok H a w f j q;subst hd;subst Y;unfold wpListIn;rw[CG (NS f z)];refine Nr ?_ (L.WW ro C ok H a w Q f.mem (fun n s=>MR J n s▸f.get n.1));rintro a' w' ⟨v,ok',H',rfl,u,m,M,O⟩;exact I (f.put o.dst u m M O) (j.trans m) q
 | @skip o rest σ σ' d z hd k I=>
   intro ok H a w f j q;subst hd;unfold wpListIn;rw[CV Yx];exact⟨fun _ _=>trivial,I (f.put o.dst (.refl _ _) (.refl _) f.mem (.d _ _ (.lit _))) j q⟩
 | @any o rest σ σ' x d S hd k I=>
   intro ok H a w f j q;subst hd;unfold wpListIn;rcases S.1 with⟨ns,L,J,_,z⟩|⟨rfl,_,z⟩
   ·rw[CG (NS f z)];refine Nr ?_ (L.WW ro C ok H a w Q f.mem (fun n s=>MR J n s▸f.get n.1));rintro a' w' ⟨v,ok',H',rfl,u,m,M,O⟩;exact I (f.put o.dst u m M O) (j.trans m) q
   rw[CV Yx];exact⟨fun _ _=>trivial,I (f.put o.dst (.refl _ _) (.refl _) f.mem (.d _ _ (.lit _))) j q⟩
 | @Ya o rest σ σ' x E bar d S hd k I=>
   intro ok H a w f j q;subst hd;unfold wpListIn;rcases S.1 with⟨ns,L,J,_,z⟩|⟨rfl,rfl,z⟩
   ·rw[CG (NS f z)];refine Nr ?_ (L.WW ro C ok H a w Q f.mem (fun n s=>MR J n s▸f.get n.1));rintro a' w' ⟨v,ok',H',rfl,u,m,M,O⟩;exact I (f.put o.dst u m M O) (j.trans m) q
   rw[CV Yx];exact⟨fun _ _=>trivial,I (f.put o.dst (.refl _ _) (.refl _) f.mem (.d _ _ (.lit _))) j q⟩
 |conv σ2 Z k I=>
  intro ok H a w f j q;obtain⟨ok',U⟩:=Z C ok H a w f;exact I U j q
def MQ :Code→Bool
 | .seq a b=>MQ a&&MQ b
 | .cond _ a b=>MQ a&&MQ b
 | .block _ a=>MQ a
 | .loop a=>MQ a
 | .scope a=>MQ a
 | .rangeFunc .. =>false
 |_=>true
def dN (ro:Option Nat) (c:Code):Prop:=ro=none∨MQ c=true
def dN.two {ro:Option Nat} {c x y:Code} (h:dN ro c) (e:MQ c=(MQ x&&MQ y)):dN ro x∧dN ro y:=by
 rcases h with h|h
 ·exact⟨.inl h,.inl h⟩
 rw[e,Bv]at h;exact⟨.inr h.1,.inr h.2⟩
def asv (P:Program) (c:Code) (σ:Ai) (Q:Exit→Ai→Prop):Prop:=
 ∀(ro:Option Nat),dN ro c→∀(C:DZ) (ok:Nat→Prop) (H:List BN) (a:Act) (w:World),Holds C ok H σ a w→c.wpIn (Gg ro) 0 P (fun e a' w'=>∃ok' H' σ',Holds C ok' H' σ' a' w'∧Q e σ') a w
structure AB (P:Program) (c:Code) (σ:Ai) (Q:Exit→Ai→Prop):Prop where
 run:asv P c σ Q
section
variable {P : Program} {σ σ' : Ai} {Q : Exit → Ai → Prop}
def AB.mono {c:Code} {Q':Exit→Ai→Prop} (h:AB P c σ Q) (f:∀e σ,Q e σ→Q' e σ):AB P c σ Q':=
 ⟨fun ro j C ok H a w m=>RN (h.run ro j C ok H a w m) fun _ _ _ ⟨ok',H',σ',n,q⟩=>⟨ok',H',σ',n,f _ _ q⟩⟩
def AB.region {id:Nat} {ops:Array Oper} (h:Chain P ops ops.toList σ σ') (f:Q .normal σ'):AB P (.region id ops false) σ Q:=⟨fun ro _ C ok H a w j=>
 az4 (h.sound j (.refl H) fun ok' H' a' w' m _=>⟨ok',H',σ',m,f⟩)⟩
def AB.skip (h:Q .normal σ):AB P .skip σ Q:=⟨fun _ _ _ ok H a w f=>wpIn_skip ⟨ok,H,σ,f,h⟩⟩
def AB.label {l:Nat} (h:Q .normal σ):AB P (.label l) σ Q:=⟨fun _ _ _ ok H a w f=>wpIn_label ⟨ok,H,σ,f,h⟩⟩
def AB.exit {i:Nat} (h:Q (.exit i) σ):AB P (.exit i) σ Q:=⟨fun _ _ _ ok H a w f=>wpIn_exit ⟨ok,H,σ,f,h⟩⟩
def AB.ret (h:Q .ret σ):AB P .ret σ Q:=⟨fun _ _ _ ok H a w f=>wpIn_ret ⟨ok,H,σ,f,h⟩⟩
def Ik (K:Ai→Prop) (Q:Exit→Ai→Prop):Exit→Ai→Prop
 | .normal,σ=>K σ
 |e,σ=>Q e σ
def AB.seq {x y:Code} (K:Ai→Prop) (m:AB P x σ (Ik K Q)) (n:∀σ',K σ'→AB P y σ' Q):AB P (.seq x y) σ Q:=⟨fun ro f C ok H a w q=>
 wpIn_seq (RN (m.run ro (f.two rfl).1 C ok H a w q) (by
  rintro e a' w' ⟨ok',H',σ',h,j⟩;cases e with
  |normal=>exact(n σ' j).run ro (f.two rfl).2 C ok' H' a' w' h
  |_=>exact⟨ok',H',σ',h,j⟩))⟩
def AB.seq1 {x y:Code} (f:Ai) (h:AB P x σ (Ik (fun σ'=>σ'=f) Q)) (j:AB P y f Q):AB P (.seq x y) σ Q:=AB.seq _ h (fun _ e=>e▸j)
def AB.cond {c:Operand} {x y:Code} (b:Bool) (m:σ.get c=.d (.lit (.bool b))) (n:b=true→AB P x σ Q) (q:b=false→AB P y σ Q):AB P (.cond c x y) σ Q:=by
 refine⟨fun ro j C ok H a w f=>?_⟩;have e:=(m▸f.get c).bool;exact wpIn_cond_split e (fun h=>(n h).run ro (j.two rfl).1 C ok H a w f) (fun h=>(q h).run ro (j.two rfl).2 C ok H a w f)
def aHk (i:Nat) (Q:Exit→Ai→Prop):Exit→Ai→Prop
 | .exit j,σ=>if j=i then Q .normal σ else Q (.exit j) σ
 |e,σ=>Q e σ
def AB.block {i:Nat} {c:Code} (h:AB P c σ (aHk i Q)):AB P (.block i c) σ Q:=⟨fun ro q C ok H a w s=>
 wpIn_block (RN (h.run ro q C ok H a w s) (by
  rintro e a' w' ⟨ok',H',σ',m,f⟩;cases e with
  |exit j=>
   show if j=i then _ else _
   simp only[aHk]at f;split<;>rename_i n
   ·rw[CG n]at f;exact⟨ok',H',σ',m,f⟩
   rw[CV n]at f;exact⟨ok',H',σ',m,f⟩
  |_=>exact⟨ok',H',σ',m,f⟩))⟩
def aiJ {ro:Option Nat} {P:Program} {Q:Exit→Act→World→Prop} {c:Code} (I:Nat→Act→World→Prop)
 (round:∀n a w,I n a w→c.wpIn (Gg ro) 0 P (Exit.then (fun a' w'=>∃m,m<n∧I m a' w') Q) a w):∀n a w,I n a w→(Code.loop c).wpIn (Gg ro) 0 P Q a w:=by
 intro n a w O b k cs s u z
 have key:∀n a w,I n a w→∃e a' w',Q e a' w'∧ArrivesIn (Machine.fenced P (Gg ro)) P (lone (b.atR a (.code c::.inLoop c::k)) cs w) b k cs e a' w':=by
  intro n
  induction n using Nat.strongRecOn with
  |_ n S=>
   intro a w U;obtain⟨e,j,q,f,harr⟩:=round n a w U b (.inLoop c::k) cs s u z;cases e with
   |normal=>
    obtain⟨m,J,L⟩:=f;obtain⟨Y,Z,w₂,M,h⟩:=S m J j q L;exact⟨Y,Z,w₂,M,.of_steps (StepsIn.trans harr (.one (fenced_calm u z rfl) stepR_inLoop)) h⟩
   |exit id=>exact⟨_,j,q,f,.pass (x:=.inLoop c) rfl (fun _ _=>.inl BG) harr⟩
   |goto l=>exact⟨_,j,q,f,.pass (x:=.inLoop c) rfl (fun _ _=>.inl BG) harr⟩
   |ret=>exact⟨_,j,q,f,.pass (x:=.inLoop c) rfl (fun _ _=>.inl BG) harr⟩
   |panic ch=>exact⟨_,j,q,f,.pass (x:=.inLoop c) rfl (fun _ _=>.inl BG) harr⟩
   |outgrown=>exact⟨_,j,q,f,.pass (x:=.inLoop c) rfl (fun _ _=>.inl BG) harr⟩
 obtain⟨e,a',w',f,harr⟩:=key n a w O;exact⟨e,a',w',f,.of_steps (.one (fenced_calm u z rfl) stepR_loop) harr⟩
def AB.loop {c:Code} (I:Nat→Ai→Prop) (n:Nat) (h:I n σ) (round:∀n σ,I n σ→AB P c σ (Ik (fun σ'=>∃m,m<n∧I m σ') Q)):AB P (.loop c) σ Q:=by
 refine⟨fun ro u C ok H a w f=>?_⟩;refine aiJ (fun n a w=>∃ok H σ,Holds C ok H σ a w∧I n σ) ?_ n a w ⟨ok,H,σ,f,h⟩;rintro n a w ⟨ok,H,σ,f,z⟩;refine RN ((round n σ z).run ro u C ok H a w f) ?_;rintro e a' w' ⟨ok',H',σ',q,s⟩;cases e with
 |normal=>obtain⟨m,J,j⟩:=s;exact⟨m,J,ok',H',σ',q,j⟩
 |_=>exact⟨ok',H',σ',q,s⟩
end
def Cc {P:Program} {σ S:Ai} {Q:Exit→Ai→Prop} {c:Code} (f:Bq σ S) (h:AB P c S Q):AB P c σ Q:=⟨fun ro j C ok H a w m=>by
 obtain⟨ok',H',h'⟩:=f C ok H a w m
 exact h.run ro j C ok' H' a w h'⟩
section
variable {P : Program} {ops : Array Oper} {Q : Exit → Act → World → Prop}
def qJ {F:Fence} {n:Nat} (I:Array Bool→Act→World→Prop) (f:∀l a w,I l a w→l.size=ops.size)
 (q:∀l a w,I l a w→∀i,i∈Region.ready .any ops l→wpOpIn F n P ops Q i (fun a' w'=>I (l.setIfInBounds i true) a' w') a w)
 (m:∀l a w,I l a w→Region.ready .any ops l=[]→Q .normal a w):
 ∀(Ar:Nat) l a w,toCome l≤Ar→I l a w→wpAnyIn F n P .any ops Q Ar l a w:=by
 intro Ar
 induction Ar with
 |zero=>
  intro l a w J u
  have L:Region.ready .any ops l=[]:=by
   unfold Region.ready;rw[aA0];intro i hi;have s:i<l.size:=by rw[f l a w u];simpa using hi
   have M:l.toList.filter (!·)=[]:=Fj (by unfold toCome at J;omega);rw[aA0]at M;have :=M (l[i]) BG;have z:l[i]=true:=by simpa using this
   simp[Array.getD,s,z]
  exact⟨L,m l a w u L⟩
 |succ Ar O=>
  intro l a w J u;refine⟨m l a w u,fun i hi=>?_⟩;have j:=hi;unfold Region.ready at j;rw[Fl]at j;have s:i<l.size:=by rw[f l a w u];simpa using j.1
  have S:l.getD i true=false:=by
   have :=j.2;simp only[Bv,QD]at this;exact this.1
  have U:=toCome_set s S;exact wpOpIn_mono (fun a' w' h=>O _ a' w' AA h) (q l a w u i hi)
end
def F6 (o:Oper) (j:Nat):Bool:=o.after.toList.any fun e=>decide (e.on=j)&&Region.binds .any e
def Ty (ops:Array Oper):Bool:=(List.range ops.size).all fun i=>match ops[i]? with
 |some o=>((List.range ops.size).all fun j=>match(ops[j]?).bind (·.dst)with
  |some d=> !(tmpsOf o).contains d||F6 o j||(match ops[j]? with |some f=>F6 f i|none=>false)
  |none=>true)&&(match o.guard with |some (j,_)=>F6 o j|none=>true)
 |none=>true
inductive EP (P:Program) (ops:Array Oper):List Oper→Ai→List AV→List (List Au)→List Bool→Ai→Prop
 |nil (σ:Ai):EP P ops [] σ [] [] [] σ
 |op {o:Oper} {rest:List Oper} {σ σ':Ai} {ns:List (Operand×AV)} {x:AV} {rs:List AV} {ess:List (List Au)} {bs:List Bool} (d:Option Tmp) (h:BQ P o ns σ.ents x σ.ents) (hn:needs σ ns)
  (hg:SS ops σ o.guard) (hd:o.dst=d) (ht:(Js ns).all (tmpsOf o).contains=true) (k:EP P ops rest (σ.oG d x) rs ess bs σ'):EP P ops (o::rest) σ (x::rs) (σ.ents::ess) (false::bs) σ'
 |oe {o:Oper} {rest:List Oper} {σ σ':Ai} {ns:List (Operand×AV)} {x:AV} {es':List Au} {rs:List AV} {ess:List (List Au)} {bs:List Bool} (d:Option Tmp) (E:List Au) (h:BQ P o ns σ.ents x es') (he:es'=E) (hn:needs σ ns)
  (hg:SS ops σ o.guard) (hd:o.dst=d) (ht:(Js ns).all (tmpsOf o).contains=true) (k:EP P ops rest (σ.put d x E) rs ess bs σ'):EP P ops (o::rest) σ (x::rs) (E::ess) (true::bs) σ'
 |any {o:Oper} {rest:List Oper} {σ σ':Ai} {x:AV} {rs:List AV} {ess:List (List Au)} {bs:List Bool} (d:Option Tmp) (h:OO P ops σ x σ.ents false o) (hd:o.dst=d) (k:EP P ops rest (σ.oG d x) rs ess bs σ'):EP P ops (o::rest) σ (x::rs) (σ.ents::ess) (false::bs) σ'
 |Ya {o:Oper} {rest:List Oper} {σ σ':Ai} {x:AV} {E:List Au} {bar:Bool} {rs:List AV} {ess:List (List Au)} {bs:List Bool} (d:Option Tmp) (h:OO P ops σ x E bar o) (hd:o.dst=d) (k:EP P ops rest (σ.put d x E) rs ess bs σ'):EP P ops (o::rest) σ (x::rs) (E::ess) (bar::bs) σ'
 |skip {o:Oper} {rest:List Oper} {σ σ':Ai} {rs:List AV} {ess:List (List Au)} {bs:List Bool} (d:Option Tmp) (hg:Uk ops σ o.guard) (hd:o.dst=d) (k:EP P ops rest (σ.oG d (.d (.lit undef))) rs ess bs σ'):EP P ops (o::rest) σ (.d (.lit undef)::rs) (σ.ents::ess) (false::bs) σ'
section
variable {P : Program} {ops : Array Oper} {es : List Au}
def Dl (ops:Array Oper) (σ0:Ai) (r:Nat→AV) (ev:Nat→List Au):Nat→Ai
 |0=>σ0
 |i+1=>match ops[i]? with
  |some o=>(Dl ops σ0 r ev i).put o.dst (r i) (ev i)
  |none=>Dl ops σ0 r ev i
def EP.facts {l:List Oper} {σ σ':Ai} {rs:List AV} {ess:List (List Au)} {bs:List Bool} (h:EP P ops l σ rs ess bs σ') (σ0:Ai) (r:Nat→AV) (ev:Nat→List Au) (bar:Nat→Bool):∀i,(∀k:Nat,l[k]? =ops[i+k]?)→i+l.length=ops.size→σ=Dl ops σ0 r ev i→
 (∀(k:Nat) y,rs[k]? =some y→r (i+k)=y)→(∀(k:Nat) y,ess[k]? =some y→ev (i+k)=y)→(∀(k:Nat) y,bs[k]? =some y→bar (i+k)=y)→
 (∀j (o:Oper),i≤j→ops[j]? =some o→OO P ops (Dl ops σ0 r ev j) (r j) (ev j) (bar j) o)∧σ'=Dl ops σ0 r ev ops.size:=by
 induction h with
 |nil σ=>
  intro i u s q z _ _;have :i=ops.size:=MS
  subst this;refine⟨fun j o M ho=>?_,q⟩;have :=(Ei.1 ho).1;omega
 | @op o rest σ σ' ns x rs ess bs d ho hn hg hd ht k S=>
   intro i u s q z I O;subst hd;have J:ops[i]? =some o:=iV
   have L:r i=x:=aAJ
   have m:ev i=σ.ents:=aFC
   obtain⟨U,Y⟩:=S (i+1) (fun k=>cu) PG (by
    rw[Ai.Rn];simp only[Dl,J,L,m];rw[←q]) (fun k y n=>iL)
    (fun k y n=>QZ) (fun k y n=>gI)
   refine⟨fun j Z M f=>?_,Y⟩;by_cases e:i=j
   ·subst e;rw[J]at f;obtain rfl:=Bl f;exact⟨.inl ⟨ns,by rw[L,m,←q];exact ho,q▸hn,ht,q▸hg⟩,fun _=>Va⟩
   exact U j Z AA f
 | @oe o rest σ σ' ns x es' rs ess bs d E ho hE hn hg hd ht k S=>
   intro i u s q z I O;subst hd;subst hE;have J:ops[i]? =some o:=iV
   have L:r i=x:=aAJ
   have m:ev i=es':=by simpa using I 0 es' BG
   have hbr:bar i=true:=by simpa using O 0 true BG
   obtain⟨U,Y⟩:=S (i+1) (fun k=>cu) PG (by
    simp only[Dl,J,L,m];rw[←q]) (fun k y n=>iL)
    (fun k y n=>QZ) (fun k y n=>gI)
   refine⟨fun j Z M f=>?_,Y⟩;by_cases e:i=j
   ·subst e;rw[J]at f;obtain rfl:=Bl f;exact⟨.inl ⟨ns,by rw[L,m,←q];exact ho,q▸hn,ht,q▸hg⟩,fun hf=>by rw[hbr]at hf;cases hf⟩
   exact U j Z AA f
 | @any o rest σ σ' x rs ess bs d hs hd k S=>
   intro i u s q z I O;subst hd;have J:ops[i]? =some o:=iV
   have L:r i=x:=aAJ
   have m:ev i=σ.ents:=aFC
   obtain⟨U,Y⟩:=S (i+1) (fun k=>cu) PG (by
    rw[Ai.Rn];simp only[Dl,J,L,m];rw[←q]) (fun k y n=>iL)
    (fun k y n=>QZ) (fun k y n=>gI)
   refine⟨fun j Z M f=>?_,Y⟩;by_cases e:i=j
   ·subst e;rw[J]at f;obtain rfl:=Bl f;refine⟨?_,fun _=>Va⟩;rw[L,m,←q];exact hs.1
   exact U j Z AA f
 | @Ya o rest σ σ' x E br rs ess bs d hs hd k S=>
   intro i u s q z I O;subst hd;have J:ops[i]? =some o:=iV
   have L:r i=x:=aAJ
   have m:ev i=E:=by simpa using I 0 E BG
   have hbr:bar i=br:=by simpa using O 0 br BG
   obtain⟨U,Y⟩:=S (i+1) (fun k=>cu) PG (by
    simp only[Dl,J,L,m];rw[←q]) (fun k y n=>iL)
    (fun k y n=>QZ) (fun k y n=>gI)
   refine⟨fun j Z M f=>?_,Y⟩;by_cases e:i=j
   ·subst e;rw[J]at f;obtain rfl:=Bl f;rw[L,m,hbr,←q];exact hs
   exact U j Z AA f
 | @skip o rest σ σ' rs ess bs d hg hd k S=>
   intro i u s q z I O;subst hd;have J:ops[i]? =some o:=iV
   have L:r i=.d (.lit undef):=by simpa using z 0 (.d (.lit undef)) BG
   have m:ev i=σ.ents:=aFC
   obtain⟨U,Y⟩:=S (i+1) (fun k=>cu) PG (by
    rw[Ai.Rn];simp only[Dl,J,L,m];rw[←q]) (fun k y n=>iL)
    (fun k y n=>QZ) (fun k y n=>gI)
   refine⟨fun j Z M f=>?_,Y⟩;by_cases e:i=j
   ·subst e;rw[J]at f;obtain rfl:=Bl f;exact⟨.inr ⟨L,Va,q▸hg⟩,fun _=>Va⟩
   exact U j Z AA f
def Pm {σ0:Ai} {r:Nat→AV} {ev:Nat→List Au} {t:Nat}:∀i,(∀j (o:Oper),j<i→ops[j]? =some o→o.dst≠some t)→(Dl ops σ0 r ev i).slots.getD t .junk=σ0.slots.getD t .junk
 |0,_=>rfl
 |i+1,h=>by
  have f:=Pm (σ0:=σ0) (r:=r) (ev:=ev) i (fun j o s m=>h j o AA m);simp only[Dl];split
  ·rename_i o m;have n:=h i o AA m;cases hd:o.dst with
   |none=>exact f
   |some d=>
    have q:d≠t:=fun e=>n (by rw[hd,e]);show((Dl ops σ0 r ev i).slots.set d (r i)).getD t .junk=_;rw[←f];simp[List.getD,Vq q]
  exact f
def RY {σ0:Ai} {r:Nat→AV} {ev:Nat→List Au}:∀i,(Dl ops σ0 r ev i).slots.length=σ0.slots.length
 |0=>rfl
 |i+1=>by
  simp only[Dl];split
  ·rename_i o f;cases hd:o.dst with
   |none=>exact RY i
   |some d=>show((Dl ops σ0 r ev i).slots.set d (r i)).length=_;rw[Zy];exact RY i
  exact RY i
def yE {σ0:Ai} {r:Nat→AV} {ev:Nat→List Au}:∀i,(Dl ops σ0 r ev i).base=σ0.base
 |0=>rfl
 |i+1=>by
  simp only[Dl];split
  ·exact yE i
  exact yE i
def Rx {σ0:Ai} {r:Nat→AV} {ev:Nat→List Au} (f:∀(i j:Nat) (o m:Oper) (d:Tmp),ops[i]? =some o→ops[j]? =some m→o.dst=some d→m.dst=some d→i=j) {t j:Nat} {o:Oper} (n:ops[j]? =some o) (hd:o.dst=some t) (I:t<σ0.slots.length):
 ∀i,j<i→(Dl ops σ0 r ev i).slots.getD t .junk=r j
 |0,h=>AA
 |i+1,h=>by
  by_cases e:j=i
  ·subst e;simp only[Dl,n,hd];have J:t<(Dl ops σ0 r ev j).slots.length:=by rw[RY];exact I
   show((Dl ops σ0 r ev j).slots.set t (r j)).getD t .junk=_;simp[List.getD,J]
  have q:=Rx (r:=r) (ev:=ev) f n hd I i AA;simp only[Dl];split
  ·rename_i m s;cases u:m.dst with
   |none=>exact q
   |some d=>
    have z:d≠t:=fun e'=>e (f j i o m t n s hd (by rw[u,e']));show((Dl ops σ0 r ev i).slots.set d (r i)).getD t .junk=_;rw[←q];simp[List.getD,Vq z]
  exact q
def aFo (h:Ty ops=true):∀(i:Nat) (o:Oper),ops[i]? =some o→(∀(j:Nat) (n:Oper) (d:Tmp),ops[j]? =some n→n.dst=some d→d∈tmpsOf o→F6 o j=true∨F6 n i=true)∧(∀j b,o.guard=some (j,b)→F6 o j=true):=by
 intro i o s;unfold Ty at h;rw[DV]at h;have hi:i<ops.size:=(Ei.1 s).1;have q:=h i Ey;rw[s]at q;simp only[Bv,DV]at q;refine⟨fun j n d m hd u=>?_,fun j b z=>?_⟩
 ·have I:j<ops.size:=(Ei.1 m).1;have f:=q.1 j oW;rw[m]at f;simp only[Aa,hd,XJ,QD]at f;rcases f with(f|f)|f
  ·have :(tmpsOf o).contains d=true:=Oe
   rw[this]at f;cases f
  ·exact .inl f
  exact .inr f
 have f:=q.2;rw[z]at f;exact f
def UZ (ops:Array Oper) (bs:List Bool):Bool:=(List.range ops.size).all fun i=> !(bs.getD i false)||
 (((List.range i).all fun j=>(List.range (i+1)).any fun m=>decide (j<m)&&(match ops[m]? with |some o=>F6 o j|none=>false))&&
  ((List.range ops.size).all fun k=> !decide (i<k)||(List.range k).any fun m=>decide (i≤m)&&(match ops[k]? with |some o=>F6 o m|none=>false)))
def Tj {bs:List Bool} (h:UZ ops bs=true) {i:Nat} (hi:i<ops.size) (L:bs.getD i false=true) {D:Nat→Prop} (hd:∀(j:Nat) (o:Oper),ops[j]? =some o→D j→∀m,F6 o m=true→D m)
 (M:∀(o:Oper),ops[i]? =some o→∀m,F6 o m=true→D m):∀j,j<i→D j:=by
 unfold UZ at h;rw[DV]at h;have u:=h i Ey;simp only[L,EF,JF,Bv,DV]at u
 have key:∀n j,i-j≤n→j<i→D j:=by
  intro n
  induction n with
  |zero=>intro j O z;omega
  |succ n S=>
   intro j O z;have I:=u.1 j XW;rw[GV]at I;obtain⟨m,U,J⟩:=I;simp only[kR]at U;simp only[Bv,FI]at J;obtain⟨Z,f⟩:=J;have q:m<ops.size:=AA
   have s:ops[m]? =some ops[m]:=by simp[q]
   rw[s]at f;by_cases e:m=i
   ·subst e;exact M _ s j f
   exact hd m _ s (S m AA AA) j f
 exact fun j Y=>key (i-j) j (Dn _) Y
def yI {bs:List Bool} (h:UZ ops bs=true) {i:Nat} (hi:i<ops.size) (O:bs.getD i false=true) {D:Nat→Prop} (hd:∀(j:Nat) (o:Oper),ops[j]? =some o→D j→∀m,F6 o m=true→D m):
 ∀k,i<k→∀(o:Oper),ops[k]? =some o→(∀m,F6 o m=true→D m)→D i:=by
 unfold UZ at h;rw[DV]at h;have z:=h i Ey;simp only[O,EF,JF,Bv,DV]at z;intro k
 induction k using Nat.strongRecOn with
 |_ k S=>
  intro s o I f;have U:k<ops.size:=(Ei.1 I).1;have J:=z.2 k dF;simp only[s,decide_true,EF,JF,GV]at J;obtain⟨m,L,M⟩:=J;simp only[kR]at L;simp only[Bv,FI,I]at M;obtain⟨Z,Y⟩:=M;have n:=f m Y;by_cases e:m=i
  ·subst e;exact n
  have u:m<ops.size:=AA
  have q:ops[m]? =some ops[m]:=Xq
  exact S m L AA _ q (hd m _ q n)
def TD (ops:Array Oper):Bool:=(List.range ops.size).all fun i=>match ops[i]? with
 |some o=>o.after.toList.all fun(e:Edge)=> !Region.binds .any e||decide (e.on<i)
 |none=>true
def aFc (h:TD ops=true):∀(i:Nat) (o:Oper),ops[i]? =some o→∀e∈o.after.toList,Region.binds .any e=true→e.on<i:=by
 intro i o f e j m;unfold TD at h;rw[DV]at h;have hi:i<ops.size:=(Ei.1 f).1;have :=h i Ey;rw[f]at this;rw[DV]at this;have :=this e j;simpa[m]using this
def AB.draw {id:Nat} {σ σ':Ai} {Q:Exit→Ai→Prop} {rs:List AV} {ess:List (List Au)} {bs:List Bool} (hm:P.follows .mixedOrders=true) (S:(TD ops&&UL ops&&Qa ops σ.slots.length&&Ty ops)=true) (Y:UZ ops bs=true)
 (h:EP P ops ops.toList σ rs ess bs σ') (hQ:Q .normal σ'):AB P (.region id ops true) σ Q:=by
 refine⟨fun ro _ C ok H a w hh=>?_⟩;simp only[Bv]at S;obtain⟨⟨⟨he,hd⟩,hs⟩,hc⟩:=S;have JR:=aFc he;have hinj:=aGC hd;have S:=aFo hc
 have DF:∀(i:Nat) (o:Oper) (d:Tmp),ops[i]? =some o→o.dst=some d→d<σ.slots.length:=by
  intro i o d h1 h2;unfold Qa at hs;rw[DV]at hs;simpa using hs d (aDH h1 h2)
 let r:Nat→AV:=fun i=>rs.getD i .junk
 let ev:Nat→List Au:=fun i=>ess.getD i []
 let bar:Nat→Bool:=fun i=>bs.getD i false
 obtain⟨D7,hend⟩:=h.facts σ r ev bar 0 (fun k=>BG) BG rfl (fun k y hy=>aE2) (fun k y hy=>aFQ) (fun k y hy=>by simp[bar,List.getD,hy])
 let U:Nat→Ai:=Dl ops σ r ev
 have hU:∀i,i<ops.size→(U (i+1)).ents=ev i:=by
  intro i hi;have M:ops[i]? =some ops[i]:=Nz
  show(Dl ops σ r ev (i+1)).ents=_;simp only[Dl,M];rfl
 have hconst:∀n lo,(∀b,lo≤b→b<lo+n→bar b=false)→lo+n≤ops.size→(U (lo+n)).ents=(U lo).ents:=by
  intro n
  induction n with
  |zero=>intro lo _ _;rfl
  |succ n ih=>
   intro lo z hle;have h1:=ih lo (fun b h1 h2=>z b h1 AA) AA;have hi:lo+n<ops.size:=AA
   have M:ops[lo+n]? =some ops[lo+n]:=Nz
   have h2:=(D7 (lo+n) _ AA M).2 (z (lo+n) AA AA);rw[←LK,hU _ hi,h2];exact h1
 have J:∀lo hi,lo≤hi→hi≤ops.size→(∀b,lo≤b→b<hi→bar b=false)→(U hi).ents=(U lo).ents:=by
  intro lo hi h1 h2 h3;obtain⟨n,rfl⟩:=aBv h1;exact hconst n lo h3 h2
 refine rG hm ?_
 let I:Array Bool→Act→World→Prop:=fun l a w=>l.size=ops.size∧∃ok H m,m≤ops.size∧(∀b,bar b=true→b<ops.size→(l.getD b false=true↔b<m))∧Bo C ok H (U m).ents w∧a.tmps.size=σ.slots.length∧Marks C ok w a.defers∧
  (∀t,t<σ.slots.length→(∀(j:Nat) (o:Oper),ops[j]? =some o→o.dst=some t→l.getD j false=false)→R ok w H (σ.slots.getD t .junk) (a.tmps.getD t undef))∧
  (∀(i:Nat) (o:Oper) (d:Tmp),ops[i]? =some o→o.dst=some d→l.getD i false=true→R ok w H (r i) (a.tmps.getD d undef))∧
  (∀(j:Nat) (o:Oper),ops[j]? =some o→l.getD j false=true→∀i,F6 o i=true→l.getD i false=true)
 refine qJ I (fun l a w h=>h.1) ?_ ?_ ops.size _ _ _ ?_ ?_
 ·rintro l a w ⟨h1,ok,H,m,GL,u,hmem0,hsz,hdf,h5,h6,h7⟩ i hi;unfold Region.ready at hi;rw[Fl]at hi;obtain⟨hi1,hi2⟩:=hi;have hi':i<ops.size:=zZ
  have M:ops[i]? =some ops[i]:=by simp[hi']
  simp only[Bv]at hi2;have JU:=hi2.2;rw[M]at JU;simp only[GN,KF]at JU;have ZK:=fun e he=>(O7.1 JU) e he
  have Z:∀j,F6 ops[i] j=true→l.getD j false=true∧j<i:=by
   intro j s;unfold F6 at s;rw[GV]at s;obtain⟨e,hee,s⟩:=s;simp only[Bv,FI]at s;have :=ZK e aG5;simp only[s.2,EF,JF]at this;rw[s.1]at this;exact⟨this,s.1▸JR i _ M e hee s.2⟩
  have L:l.getD i false=false:=by
   have h8:=hi2.1;have hil:i<l.size:=AA
   simp[Array.getD,hil]at h8 ⊢;exact h8
  have O:∀(j:Nat) (o:Oper),ops[j]? =some o→l.getD j false=true→∀m,F6 o m=true→l.getD m false=true:=fun j o s hl m hm=>h7 j o s hl m hm
  have hmem:Bo C ok H (U i).ents w:=by
   have hE:(U i).ents=(U m).ents:=by
    by_cases him:i≤m
    ·refine(J i m him GL (fun b h2 h3=>?_)).symm;rw[←IX];intro z;have hbl:=(u b z AA).2 h3;by_cases e:b=i
     ·subst e;rw[L]at hbl;cases hbl
     have hob:ops[b]? =some (ops[b]' AA):=by simp[show b<ops.size by omega]
     have :=Tj Y (show b<ops.size by omega) z (D:=fun j=>l.getD j false=true) O (fun o M m hm=>O b o M hbl m hm) i AA;rw[L]at this;cases this
    refine J m i AA AA (fun b h2 h3=>?_);rw[←IX];intro z;have :=yI Y (show b<ops.size by omega) z (D:=fun j=>l.getD j false=true) O i h3 _ M (fun m hm=>(Z m hm).1);exact absurd ((u b z AA).1 this) AA
   rw[hE];exact hmem0
  have hread:∀t,t∈tmpsOf ops[i]→R ok w H ((Dl ops σ r ev i).slots.getD t .junk) (a.tmps.getD t undef):=by
   intro t ht;by_cases hw:∃(j:Nat) (o:Oper),ops[j]? =some o∧o.dst=some t
   ·obtain⟨j,o,s,q⟩:=hw;rcases(S i _ M).1 j o t s q ht with hce|hce
    ·obtain⟨hdj,hji⟩:=Z j hce;rw[Rx hinj s q (DF j o t s q) i hji];exact h6 j o t s q hdj
    have hij:i<j:=by
     unfold F6 at hce;rw[GV]at hce;obtain⟨e,hee,hce⟩:=hce;simp only[Bv,FI]at hce;exact hce.1▸JR j _ s e hee hce.2
    rw[Pm i (fun j' o' hj' ho' hd'=>aax)];refine h5 t (DF j o t s q) (fun j' o' ho' hd'=>?_);have hjj:=hinj j j' o o' t s ho' q hd';subst hjj;rw[←IX];intro hd;rw[h7 j o s hd i hce]at L;cases L
   have hw':∀(j:Nat) (o:Oper),ops[j]? =some o→o.dst≠some t:=fun j o h1 h2=>hw ⟨j,o,h1,h2⟩;rw[Pm i (fun j o _ s=>hw' j o s)];by_cases htn:t<σ.slots.length
   ·exact h5 t htn (fun j o s q=>absurd q (hw' j o s))
   rw[aN htn];exact .junk _
  have Ox:∀j d v,F6 ops[i] j=true→(ops[j]?).bind (·.dst)=some d→(Dl ops σ r ev i).slots.getD d .junk=.d (.lit v)→yielded ops a.tmps j=(match v with | .bool b=>some b|_=>none):=by
   intro j d v s q z;cases hoj:ops[j]? with
   |none=>rw[hoj]at q;simp at q
   |some oj=>
    rw[hoj]at q;simp only[Aa]at q;obtain⟨hdj,hji⟩:=Z j s;have hdn:=DF j oj d hoj q;rw[Rx hinj hoj q hdn i hji]at z;have hv:=(z▸h6 j oj d hoj q hdj).bool
    have hs:a.tmps[d]? =some v:=by
     have :d<a.tmps.size:=by rw[hsz];exact hdn
     simp[Array.getD,this]at hv;simp[this,hv]
    unfold yielded;rw[hoj];simp only[Aa,q,hs];cases v<;>rfl
  have hput:∀(x:AV) (v:Value) (ok':Nat→Prop) (H':List BN) (w':World),x=r i→Df ok w ok' w'→Names H H'→Bo C ok' H' (ev i) w'→R ok' w' H' x v→I (l.setIfInBounds i true) (a.put ops[i].dst v) w':=by
   intro x v ok' H' w' hx hgr hnm hmem' hR;subst hx
   have hother:∀(d t:Nat),ops[i].dst=some d→d≠t→(a.put ops[i].dst v).tmps.getD t undef=a.tmps.getD t undef:=by
    intro d t hd hne;rw[hd];exact aFG hne
   obtain⟨m',adz,WX,adA⟩:∃m',m'≤ops.size∧(∀b,bar b=true→b<ops.size→((l.setIfInBounds i true).getD b false=true↔b<m'))∧Bo C ok' H' (U m').ents w':=by
    have hget:∀b,b≠i→(l.setIfInBounds i true).getD b false=l.getD b false:=fun b z=>by
     simp only[FU,IG (Ne.symm z)]
    have adB:(l.setIfInBounds i true).getD i false=true:=aBu
    cases hbi:bar i with
    |false=>
     refine⟨m,GL,fun b z hbs=>?_,?_⟩
     ·have hne:b≠i:=fun e=>by subst e;rw[hbi]at z;cases z
      rw[hget b hne];exact u b z hbs
     have h2:=(D7 i _ AA M).2 hbi;rw[h2]at hmem'
     have hE:(U i).ents=(U m).ents:=by
      by_cases him:i≤m
      ·refine(J i m him GL (fun b h2 h3=>?_)).symm;rw[←IX];intro z;have hbl:=(u b z AA).2 h3;by_cases e:b=i
       ·subst e;rw[L]at hbl;cases hbl
       have :=Tj Y (show b<ops.size by omega) z (D:=fun j=>l.getD j false=true) O (fun o M m hm=>O b o M hbl m hm) i AA;rw[L]at this;cases this
      refine J m i AA AA (fun b h2 h3=>?_);rw[←IX];intro z;have :=yI Y (show b<ops.size by omega) z (D:=fun j=>l.getD j false=true) O i h3 _ M (fun m hm=>(Z m hm).1);exact absurd ((u b z AA).1 this) AA
     rw[←hE];exact hmem'
    |true=>
     refine⟨i+1,AA,fun b z hbs=>?_,by rw[hU i hi'];exact hmem'⟩;by_cases e:b=i
     ·subst e;rw[adB];simp
     rw[hget b e];constructor
     ·intro hbl;apply UQ;intro hn;have :=Tj Y hbs z (D:=fun j=>l.getD j false=true) O (fun o M m hm=>O b o M hbl m hm) i AA;rw[L]at this;cases this
     intro hlt;exact Tj Y hi' hbi (D:=fun j=>l.getD j false=true) O (fun o ho' m hm=>by rw[M]at ho';obtain rfl:=Bl ho';exact(Z m hm).1) b AA
   refine⟨by simp[h1],ok',H',m',adz,WX,adA,aFi,aEk,?_,?_,?_⟩
   ·intro t ht hno
    have hne:ops[i].dst≠some t:=by
     intro e;have :=hno i _ M e;simp[Array.getD,h1,hi']at this
    have hold:(a.put ops[i].dst v).tmps.getD t undef=a.tmps.getD t undef:=by
     cases hdi:ops[i].dst with
     |none=>rfl
     |some d=>exact hdi▸hother d t hdi (fun e=>hne (by rw[hdi,e]))
    rw[hold];refine(h5 t ht (fun j o s q=>?_)).mono hgr hnm;have hij:i≠j:=fun e=>by subst e;rw[M]at s;obtain rfl:=Bl s;exact hne q
    have :=hno j o s q;simpa only[FU,IG hij]using this
   ·intro k o d hk hkd hl;by_cases hik:i=k
    ·subst hik;rw[M]at hk;obtain rfl:=Bl hk;rw[hkd,aGe (by rw[hsz];exact DF i _ d M hkd)];exact hR
    have hl':l.getD k false=true:=by
     simp only[FU,IG hik]at hl ⊢;exact hl
    have :=(h6 k o d hk hkd hl').mono hgr hnm;cases hdst:ops[i].dst with
    |none=>exact this
    |some d'=>
     have hne:d'≠d:=fun e=>hik (hinj i k _ _ d' M hk hdst (e▸hkd));rw[←hdst,hother d' d hdst hne];exact this
   intro j o s hl k hk;have hil:i<l.size:=AA
   by_cases hik:i=k
   ·subst hik;simp[Array.getD,hil]
   have hkk:l.getD k false=true:=by
    by_cases hij:i=j
    ·subst hij;rw[M]at s;obtain rfl:=Bl s;exact(Z k hk).1
    have hl':l.getD j false=true:=by
     simp only[FU,IG hij]at hl ⊢;exact hl
    exact h7 j o s hl' k hk
   simp only[FU,IG hik]at hkk ⊢;exact hkk
  unfold wpOpIn;rw[M];show if Region.wanted ops[i] (yielded ops a.tmps)=true then _ else _
  rcases(D7 i ops[i] AA M).1 with⟨ns,hop,Yb,hnt,hg⟩|⟨hx,hev,hg⟩
  ·have hwant:Region.wanted ops[i] (yielded ops a.tmps)=true:=by
    unfold Region.wanted;rcases hg with hg|⟨j,want,d,b,hg,s,z,rfl⟩
    ·rw[hg]
    rw[hg];show(yielded ops a.tmps j==some b)=true;rw[Ox j d _ ((S i _ M).2 j b hg) s z];simp
   rw[CG hwant];refine Nr ?_ (hop.WW ro C ok H a w _ hmem (fun n hn=>?_))
   ·rintro a' w' ⟨v,ok',H',rfl,hgr,hnn,hm',hx⟩;exact hput _ v ok' H' w' rfl hgr hnn hm' hx
   have hnv:=MR Yb n hn;obtain⟨x,y⟩:=n;simp only at hnv ⊢;subst hnv;cases x with
   |tmp t=>
    refine hread t ?_;rw[DV]at hnt
    have :t∈Js ns:=by
     unfold Js;rw[Ph];exact⟨_,hn,rfl⟩
    simpa using hnt t this
   |const v=>exact .d _ _ (.lit v)
   |global g=>exact .d _ _ (.lit _)
   |func f=>exact .d _ _ (.fn (.func f) [] [] #[] #[] rfl rfl (fun i hi=>KP) (fun i hi=>KP))
  have hwant:Region.wanted ops[i] (yielded ops a.tmps)=false:=by
   unfold Region.wanted;obtain⟨j,want,d,v,hg,s,z,hv⟩:=hg;rw[hg];show(yielded ops a.tmps j==some want)=false;rw[Ox j d _ ((S i _ M).2 j want hg) s z];rcases hv with rfl|rfl
   ·simp
   rfl
  rw[CV (by rw[hwant];simp)];exact⟨fun _ _=>trivial,hput _ _ ok H w hx.symm (.refl _ _) (.refl _) (by rw[hev];exact hmem) (.d _ _ (.lit _))⟩
 ·rintro l a w ⟨h1,ok,H,m,GL,u,hmem,hsz,hdf,h5,h6,h7⟩ hr
  have hall:∀n i,i<n→i<ops.size→l.getD i false=true:=by
   intro n
   induction n with
   |zero=>intro i hi;omega
   |succ n ih=>
    intro i hi hi2;by_cases hn:i<n
    ·exact ih i hn hi2
    have hin:i=n:=AA
    subst hin;rw[←aE7];intro hf;have M:ops[i]? =some ops[i]:=by simp[hi2]
    have hmem:i∈Region.ready .any ops l:=by
     unfold Region.ready;rw[Fl];refine⟨by simpa using hi2,?_⟩;have hil:i<l.size:=AA
     have hf':l.getD i true=false:=zy
     rw[hf',M];simp only[Jg,FC,GN,KF];rw[O7];intro e he;cases hbe:Region.binds .any e with
     |false=>simp
     |true=>
      have hlt:=JR i _ M e jg hbe;rw[ih e.on AA AA];simp
    rw[hr]at hmem;simp at hmem
  refine⟨ok,H,σ',?_,hQ⟩;subst hend
  have hE:(U ops.size).ents=(U m).ents:=J m ops.size GL (Dn _) (fun b h2 h3=>by
   rw[←IX];intro z
   exact absurd ((u b z h3).1 (hall (b+1) b AA h3)) AA)
  refine⟨by show Bo C ok H (U ops.size).ents w;rw[hE];exact hmem,by rw[RY];exact hsz,hdf,aDr,fun t ht=>?_⟩;rw[RY]at ht;by_cases hw:∃(j:Nat) (o:Oper),ops[j]? =some o∧o.dst=some t
  ·obtain⟨j,o,s,q⟩:=hw;have hjn:j<ops.size:=(Ei.1 s).1;rw[Rx hinj s q ht ops.size hjn];exact h6 j o t s q (hall (j+1) j AA hjn)
  have hw':∀(j:Nat) (o:Oper),ops[j]? =some o→o.dst≠some t:=fun j o h1 h2=>hw ⟨j,o,h1,h2⟩;rw[Pm ops.size (fun j o _ s=>hw' j o s)];exact h5 t ht (fun j o s q=>absurd q (hw' j o s))
 ·unfold toCome;simp
 refine⟨BG,ok,H,0,Dx _,fun b z _=>qW,?_,hh.size,hh.defers.mono (fun b z=>⟨z,rfl⟩),fun t ht _=>?_,fun i o d _ _ hl=>?_,fun j o _ hl=>?_⟩
 ·exact⟨⟨hh.mem.fr.os,hh.mem.fr.tape,hh.mem.fr.output,hh.mem.fr.size,hh.mem.fr.block⟩,hh.mem.uD,hh.mem.uF,hh.mem.jl,hh.mem.names,hh.mem.hlen,fun k e h h1 h2=>(hh.mem.ent k e h h1 h2).drew,hh.mem.blk,hh.mem.Az⟩
 ·exact R.mono (w:=w) (ok:=ok) (w':={ w with drawn:=w.drawn+1 }) (fun b z=>⟨z,rfl⟩) (.refl _) (hh.slot t ht)
 ·simp[Array.getD]at hl
 simp[Array.getD]at hl
end
def Aw (P:Program) (f:FuncId) (args:List AV) (E:List Au) (j:AV) (E':List Au):Prop:=
 ∀(ok:Nat→Prop) (X:List Nat) (H:List BN) (w:World) (h:Array Value),Bo ⟨w,ok,X,H⟩ ok H E w→h.size=args.length→(∀i,i<args.length→R ok w H (args.getD i .junk) (h.getD i undef))→
  Calls P f h w fun e w'=>∃v ok' H',e=.returned v∧Bo ⟨w,ok,X,H⟩ ok' H' E' w'∧R ok' w' H' j v
def Holds.akr {C:DZ} {ok:Nat→Prop} {H:List BN} {σ:Ai} {a:Act} {w:World} (h:Holds C ok H σ a w) (t:Nat):R ok w H (σ.slots.getD t .junk) (a.tmps.getD t undef):=h.get (.tmp t)
def Ai.enter (args:List AV) (n:Nat) (E:List Au):Ai:=⟨args++List.replicate (n-args.length) .junk,E,E.length⟩
def R.lit {ok:Nat→Prop} {w:World} {H:List BN} {u v:Value} (h:R ok w H (.d (.lit u)) v):v=u:=by
 cases h with |d _ _ h=>cases h;rfl
structure DI (P:Program) (t:TypeId) (agg:Bool) (size:Nat):Prop where
 agg:∀w,(isAgg t).run P w=.ok agg w
 size:∀w,(sizeOf t).run P w=.ok size w
def aEM (P:Program) (t:TypeId) (agg:Bool) (size:Nat):Bool:=
 (match P.underlying t with |some (.struct _)|some (.array _ _)=>agg|some _=> !agg|none=>false)&&(match P.info? t with |some i=>decide (i.size=size)|none=>false)
def EO {P:Program} {t:TypeId} {agg:Bool} {size:Nat} (h:aEM P t agg size=true):DI P t agg size:=by
 unfold aEM at h;simp only[Bv]at h;refine⟨fun w=>?_,fun w=>?_⟩
 ·have j:=h.1;cases m:P.underlying t with
  |none=>rw[m]at j;cases j
  |some d=>
   rw[m]at j;have e:(underlying t).run P w=.ok d w:=by simp[underlying,m]
   simp only[isAgg,ER,e,EX];cases d<;>cases agg<;>simp_all
 have f:=h.2;cases hi:P.info? t with
 |none=>rw[hi]at f;cases f
 |some i=>
  rw[hi]at f;have :i.size=size:=L9
  simp[sizeOf,typeInfo,hi,this]
section
variable {P : Program} {o : Oper} {es : List Au}
def Ib {α:Type} {p:α→Prop} {a:α} (h:∀n∈[a],p n):p a:=h a BG
def Dt {α:Type} {p:α→Prop} {a b:α} (h:∀n∈[a,b],p n):p a∧p b:=⟨h a BG,h b BG⟩
def amU {x:Operand} {v:AV} (f:o.op=.move x):BQ P o [(x,v)] es v es:=
 .pure fun _ _ a _ _ _ h=>⟨a.eval x,by simp[execOp,f],h (x,v) BG⟩
def ais {x:Operand} {v:AV} (f:o.op=.assign x):BQ P o [(x,v)] es v es:=
 .pure fun _ _ a _ _ _ h=>⟨a.eval x,by simp[execOp,f],h (x,v) BG⟩
def agz {c x y:Operand} {v:AV} (b:Bool) (h:b=true) (j:o.op=.pick c x y):BQ P o [(c,.d (.lit (.bool b))),(x,v)] es v es:=
 .pure fun _ _ a _ _ _ f=>⟨a.eval x,by
  have :=(Dt f).1.lit;simp only at this
  simp[execOp,j,this,asBool,h],(Dt f).2⟩
def asy {c x y:Operand} {v:AV} (b:Bool) (h:b=false) (j:o.op=.pick c x y):BQ P o [(c,.d (.lit (.bool b))),(y,v)] es v es:=
 .pure fun _ _ a _ _ _ f=>⟨a.eval y,by
  have :=(Dt f).1.lit;simp only at this
  simp[execOp,j,this,asBool,h],(Dt f).2⟩
def Hw {op:BinOp} {t t':TypeId} {x y:Operand} {u v r:Value} (n:o.op=.binOp op t x y t') (h:∀w,(binOp op t u v).run P w=.ok r w) (q:u.oneCell'=true∧u matches .int _ _| .string _| .bool _):
 BQ P o [(x,.d (.lit u)),(y,.d (.lit v))] es (.d (.lit r)) es:=
 .pure fun _ _ a w _ _ f=>⟨r,by
  have j:=(Dt f).1.lit;have m:=(Dt f).2.lit;simp only at j m
  have s:(eqGuard op t x y u v).run P w=.ok () w:=by
   unfold eqGuard;cases u<;>simp at q<;>(cases op<;>simp[pure,Sem.run_pure'])
  simp only[execOp,n,j,m,ER,s,h w,EX,Ep],.d _ _ (.lit _)⟩
def aDQ {op:UnOp} {t:TypeId} {x:Operand} {u r:Value} (j:o.op=.unOp op t x) (h:∀w,(Op.unary op u).run P w=.ok r w):BQ P o [(x,.d (.lit u))] es (.d (.lit r)) es:=
 .pure fun _ _ a w _ _ m=>⟨r,by
  have f:=(Ib m).lit;simp only at f
  simp only[execOp,j,f,ER,h w,EX,Ep],.d _ _ (.lit _)⟩
def aHG {s t:TypeId} {x:Operand} {u r:Value} (j:o.op=.convert s t x) (h:∀w,(convert s t u).run P w=.ok r w):BQ P o [(x,.d (.lit u))] es (.d (.lit r)) es:=
 .pure fun _ _ a w _ _ m=>⟨r,by
  have f:=(Ib m).lit;simp only at f
  simp only[execOp,j,f,ER,h w,EX,Ep],.d _ _ (.lit _)⟩
def apI {x:Operand} {i:Nat} {xs:List AV} {v:AV} (q:o.op=.extract x i) (s:xs[i]? =some v):BQ P o [(x,.dO xs)] es v es:=
 .pure fun ok H a w _ _ z=>by
  have j:=Ib z;simp only at j;generalize I:a.eval x=u at j;cases j with
  |dO _ vs M h=>
   obtain⟨hi,m⟩:=Eb.1 s;have n:=h i hi;have J:xs.getD i .junk=v:=by simp[List.getD,hi,m]
   have f:i<vs.size:=AA
   have L:vs.getD i undef=vs[i]:=by simp[Array.getD,f]
   rw[J,L]at n;exact⟨vs[i],by simp[execOp,q,I,Instr.extract,f],n⟩
def arX {x:Operand} {t e:TypeId} {xs:List D} (q:P.underlying t=some (.slice e)) (j:o.op=.call { callee:=.builtin .len,args:= #[x],argTypes:= #[t] }):
 BQ P o [(x,.d (.sl xs))] es (.d (.lit (.int .i64 xs.length))) es:=
 .pure fun ok H a w _ _ s=>by
  have f:=Ib s;simp only at f;generalize m:a.eval x=u at f;have n:(underlying t).run P w=.ok (.slice e) w:=by simp[underlying,q]
  refine⟨_,?_,.d _ _ (.lit _)⟩;cases f with
  |d _ _ h=>
   cases h with
   |sl0 ad cap=>simp[execOp,j,resolve,invoke,builtin,Builtin.len_,m,n,goInt]
   |sl _ b off cap size=>simp[execOp,j,resolve,invoke,builtin,Builtin.len_,m,n,goInt]
def aon {x:Operand} {t:TypeId} {s:ByteArray} (h:P.underlying t=some .string) (j:o.op=.call { callee:=.builtin .len,args:= #[x],argTypes:= #[t] }):
 BQ P o [(x,.d (.lit (.string s)))] es (.d (.lit (.int .i64 s.size))) es:=
 .pure fun ok H a w _ _ m=>by
  have f:=(Ib m).lit;simp only at f;have n:(underlying t).run P w=.ok .string w:=aE5
  exact⟨_,by simp[execOp,j,resolve,invoke,builtin,Builtin.len_,f,n,goInt],.d _ _ (.lit _)⟩
def Et {es:List Au} {H:List BN} {ok:Nat→Prop} {w:World} (m:∀(k:Nat) (e:Au) (h:BN),es[k]? =some e→H[k]? =some h→Dy ok w H h e) (n:H.length=es.length) {k:Nat} {e:Au} (j:es[k]? =some e):
 ∃h,H[k]? =some h∧Dy ok w H h e:=by
 have f:k<H.length:=by rw[n];exact(Eb.1 j).1
 exact⟨H[k],U0,m k e _ j U0⟩
def akN {x:Operand} {t e e':TypeId} {k s:Nat} {xs:List D} (M:es[k]? =some (.arr e' s xs)) (O:P.underlying t=some (.slice e)) (S:o.op=.call { callee:=.builtin .len,args:= #[x],argTypes:= #[t] }):
 BQ P o [(x,.aP k)] es (.d (.lit (.int .i64 xs.length))) es:=
 .pure fun ok H a w f U Y=>by
  have j:=Ib Y;simp only at j;generalize Z:a.eval x=u at j;have hu:(underlying t).run P w=.ok (.slice e) w:=by simp[underlying,O]
  obtain⟨h,hh,m⟩:=Et f U M;refine⟨_,?_,.d _ _ (.lit _)⟩;cases j with
  |aP _ ad n cap s' J=>
   rw[hh]at J;obtain rfl:=Bl J;obtain⟨_,_,ys,⟨_,q⟩,_⟩:=m
   have z:n=xs.length:=by
    rcases q with⟨I,h3⟩|⟨g,L,cur,I,_⟩
    ·simp at I;omega
    simp at I;omega
   subst z;simp[execOp,S,resolve,invoke,builtin,Builtin.len_,Z,hu,goInt]
structure CU (P:Program) (t:TypeId) (f off:Nat):Prop where
 run:∀(b o:Nat) w,(Instr.fieldAt t (.pointer (some ⟨b,o,none⟩)) f).run P w=.ok (.pointer (some ⟨b,o+off,none⟩)) w
def ab4 (P:Program) (t:TypeId) (f off:Nat):Bool:=
 match P.underlying t with
 |some (.struct j)=>match j[f]? with
  |some h=>decide (h.offset=off)&&(match P.info? h.type with |some i=>decide (i.size≠0)|none=>false)
  |none=>false
 |_=>false
def CY {P:Program} {t:TypeId} {f off:Nat} (h:ab4 P t f off=true):CU P t f off:=by
 unfold ab4 at h;refine⟨fun b o w=>?_⟩;split at h
 ·rename_i n q;split at h
  ·rename_i s u;simp only[Bv,FI]at h;obtain⟨z,j⟩:=h;split at j
   ·rename_i i hi;have I:(sizeOf s.type).run P w=.ok i.size w:=by simp[sizeOf,typeInfo,hi]
    have J:i.size≠0:=NI
    have m:(underlying t).run P w=.ok (.struct n) w:=by simp[underlying,q]
    simp[Instr.fieldAt,m,u,Instr.sureAddr,fieldPlace,I,J,addr_add,z]
   cases j
  cases h
 cases h
def anw {x:Operand} {t:TypeId} {f off j:Nat} {cs:List D} (s:CU P t f off) (z:o.op=.fieldAddr t x f):BQ P o [(x,.d (.ref cs j))] es (.d (.ref cs (j+off))) es:=
 .pure fun ok H a w _ _ I=>by
  have m:=Ib I;simp only at m;generalize J:a.eval x=u at m;cases m with
  |d _ _ h=>
   cases h with
   |ref _ _ b p n q L M=>
    refine⟨.pointer (some ⟨b,p+(j+off),none⟩),?_,.d _ _ (.ref cs (j+off) b p n q L M)⟩;simp only[execOp,z,J,ER,s.run,EX,Ep,LK]
def ajB {x:Operand} {t:TypeId} {f off k j:Nat} (n:CU P t f off) (q:o.op=.fieldAddr t x f):BQ P o [(x,.ptr k j)] es (.ptr k (j+off)) es:=
 .pure fun ok H a w _ _ z=>by
  have m:=Ib z;simp only at m;generalize I:a.eval x=u at m;cases m with
  |ptr _ _ b s h=>
   refine⟨.pointer (some ⟨b,j+off,none⟩),?_,.ptr _ _ b s h⟩;simp only[execOp,q,I,ER,n.run,EX,Ep]
def al8 {x:Operand} {t:TypeId} {f off k i j:Nat} (q:CU P t f off) (z:o.op=.fieldAddr t x f):BQ P o [(x,.jL k i j)] es (.jL k i (j+off)) es:=
 .pure fun ok H a w _ _ I=>by
  have m:=Ib I;simp only at m;generalize J:a.eval x=u at m;cases m with
  |jL _ _ _ b n cap s h=>
   refine⟨.pointer (some ⟨b,i*s+(j+off),none⟩),?_,.jL _ _ _ b n cap s h⟩;simp only[execOp,z,J,ER,q.run,EX,Ep,LK]
def aiv {x y:Operand} {t e:TypeId} {k:IntKind} {i:Int} {xs:List D} {q:D} {agg:Bool} {size:Nat} (Y:P.underlying t=some (.slice e)) (Z:DI P e agg size) (h0:0≤i) (hi:xs[i.toNat]? =some q) (s:q.cells.length=size)
 (ho:o.op=.indexAddr t x y):BQ P o [(x,.d (.sl xs)),(y,.d (.lit (.int k i)))] es (.d (.ref q.cells 0)) es:=
 .pure fun ok H a w _ _ O=>by
  have z:=(Dt O).1;have S:=(Dt O).2.lit;simp only at z S;generalize he:a.eval x=u at z;have hu:(underlying t).run P w=.ok (.slice e) w:=by simp[underlying,Y]
  obtain⟨m,I⟩:=Eb.1 hi;cases z with
  |d _ _ h=>
   cases h with
   |sl0 ad cap=>simp at m
   |sl _ b off cap f U J L hf hx hc=>
    have hd:xs.getD i.toNat Cb=q:=by simp[List.getD,m,I]
    have M:f=size:=by rw[←L _ m,hd,s]
    subst M;refine⟨.pointer (some ⟨b,off+i.toNat*f+0,none⟩),?_,.d _ _ (.ref q.cells 0 b (off+i.toNat*f) (fun h=>J AA (by rw[s]at h;exact h)) ?_ ?_ ?_)⟩
    ·have hlen:0≤i∧i<(xs.length:Int):=⟨h0,AA⟩
     simp only[execOp,ho,he,S,Instr.indexAt,asIntOf,ER,Ep,hu,EX,Sem.run_ite,hlen,and_self,Iu,Z.size,addr_add,PY]
    ·intro j n;rw[s]at n;rw[←hd];exact hf _ m j n
    ·intro j n;rw[s]at n;rw[LK];exact hx _ m j n
    intro j n;rw[s]at n;rw[LK,←hd];exact hc _ m j n
def aoC {x y:Operand} {t e e':TypeId} {kd:IntKind} {i:Int} {k size:Nat} {xs:List D} {agg:Bool} (S:es[k]? =some (.arr e' size xs)) (U:P.underlying t=some (.slice e)) (Y:DI P e agg size) (Z:0≤i) (hi:i.toNat<xs.length)
 (ho:o.op=.indexAddr t x y):BQ P o [(x,.aP k),(y,.d (.lit (.int kd i)))] es (.jL k i.toNat 0) es:=
 .pure fun ok H a w j hl z=>by
  have m:=(Dt z).1;have I:=(Dt z).2.lit;simp only at m I;generalize he:a.eval x=u at m;have hu:(underlying t).run P w=.ok (.slice e) w:=by simp[underlying,U]
  obtain⟨h,J,q⟩:=Et j hl S;cases m with
  |aP _ ad n cap s' L=>
   rw[J]at L;obtain rfl:=Bl L;obtain⟨M,_,ys,⟨_,s⟩,_⟩:=q;simp only at M;subst M;rcases s with⟨f,h3⟩|⟨g,O,cur,f,_⟩
   ·omega
   simp only[aO]at f;obtain⟨rfl,rfl,rfl⟩:=f;refine⟨.pointer (some ⟨g,i.toNat*s'+0,none⟩),?_,.jL _ _ _ _ _ _ _ J⟩;have hlen:0≤i∧i<(xs.length:Int):=⟨Z,AA⟩
   simp only[execOp,ho,he,I,Instr.indexAt,asIntOf,ER,Ep,hu,EX,Sem.run_ite,hlen,and_self,Iu,Y.size,addr_add,Hz,PY]
def arN {x y:Operand} {t:TypeId} {k:IntKind} {i:Int} {s:ByteArray} {c:UInt8} (m:P.underlying t=some .string) (n:0≤i) (hi:s[i.toNat]? =some c) (q:o.op=.index t x y):
 BQ P o [(x,.d (.lit (.string s))),(y,.d (.lit (.int k i)))] es (.d (.lit (.int .u8 c.toNat))) es:=
 .pure fun ok H a w _ _ f=>by
  have h:=(Dt f).1.lit;have j:=(Dt f).2.lit;simp only at h j;have u:(underlying t).run P w=.ok .string w:=by simp[underlying,m]
  exact⟨_,by simp only[execOp,q,h,j,Instr.index,asIntOf,ER,Ep,u,EX,n,Iu,hi],.d _ _ (.lit _)⟩
def GY (l:List AV):List D:=l.map fun | .d x=>x|_=>Cb
def AV.wX:AV→Bool
 | .d _=>true
 |_=>false
def R.toD {ok:Nat→Prop} {w:World} {H:List BN} {x:AV} {v:Value} (h:R ok w H x v) (hd:x.wX=true):Cm ok w ((fun | .d x=>x|_=>Cb) x) v:=by
 cases h with
 |d _ _ h=>exact h
 |_=>simp[AV.wX]at hd
def NG (agg:Bool) (cs:List D) (off n:Nat):D:=if agg then .agg ((cs.drop off).take n)else cs.getD off Cb
def oU {P:Program} {ok:Nat→Prop} {w:World} {t:TypeId} {agg:Bool} {n b p off:Nat} {cs:List D} (I:DI P t agg n) (U:off+n≤cs.length) (L:agg=false→n=1)
 (M:∀i,i<cs.length→(cs.getD i Cb).leaf=true) (O:∀j,j<cs.length→(w.cell? ⟨b,p+j,none⟩).isSome=true) (J:∀j,j<cs.length→Cm ok w (cs.getD j Cb) (cellAt w b (p+j))):
 ∃v,(Instr.loadAt t (.pointer (some ⟨b,p+off,none⟩))).run P w=.ok v w∧Cm ok w (NG agg cs off n) v:=by
 have f:∀j,j<cs.length→w.cell? ⟨b,p+j,none⟩=some (cellAt w b (p+j)):=by
  intro j q;have :=O j q;obtain⟨u,S⟩:=Rq.1 this;simp[cellAt,S]
 cases agg with
 |false=>
  have :=L rfl;subst this;refine⟨cellAt w b (p+off),?_,J off AA⟩;have z:=f off AA;simp[Instr.loadAt,Instr.sureAddr,loadVar,I.agg,z]
 |true=>
  let vs:Array Value:=((List.range n).map fun j=>cellAt w b (p+(off+j))).toArray
  have m:vs.size=n:=by simp[vs]
  have s:∀j,j<n→vs.getD j undef=cellAt w b (p+(off+j)):=by
   intro j q;simp[vs,Array.getD,q]
  refine⟨.agg vs,?_,?_⟩
  ·simp only[Instr.loadAt,Instr.sureAddr,ER,Ep,EX]
   have h:=as4 (P:=P) w t b (p+off) vs (I.agg w) (by rw[m];exact I.size w) (fun j q=>by
    rw[m]at q;rw[s j q,LK]
    exact f (off+j) AA)
   exact h
  simp only[NG,Iu];have hlen:((cs.drop off).take n).length=n:=Dp
  have z:∀i,i<n→((cs.drop off).take n).getD i Cb=cs.getD (off+i) Cb:=by
   intro i hi;simp[List.getD,Jo hi,ND]
  refine .agg _ vs (by rw[hlen,m]) (fun i hi=>?_) (fun i hi=>?_)
  ·rw[hlen]at hi;rw[z i hi];exact M _ AA
  rw[hlen]at hi;rw[z i hi,s i hi];exact J _ AA
def agL {x:Operand} {t:TypeId} {agg:Bool} {n off:Nat} {cs:List D} (m:DI P t agg n) (q:off+n≤cs.length) (s:agg=false→n=1) (z:o.op=.load t x):
 BQ P o [(x,.d (.ref cs off))] es (.d (NG agg cs off n)) es:=
 .pure fun ok H a w _ _ j=>by
  have f:=Ib j;simp only at f;generalize I:a.eval x=u at f;cases f with
  |d _ _ h=>
   cases h with
   |ref _ _ b p J L M O=>
    obtain⟨v,S,hd⟩:=oU m q s L M O;exact⟨v,by simp only[execOp,z,I,ER,S,EX,Ep],.d _ _ hd⟩
def jK (l:List AV):(GY l).length=l.length:=by simp[GY]
def afC {l:List AV} {i:Nat} (h:i<l.length):(GY l).getD i Cb=(fun | .d x=>x|_=>Cb) (l.getD i .junk):=by
 simp[GY,List.getD,h]
def aBU {ok:Nat→Prop} {w:World} {H:List BN} {h:BN} {cs:List AV} (I:Dy ok w H h (.box cs)) (hd:cs.all AV.wX=true):
 ∃b,h.v=.pointer (some ⟨b,0,none⟩)∧(∀i,i<(GY cs).length→((GY cs).getD i Cb).leaf=true)∧(∀j,j<(GY cs).length→(w.cell? ⟨b,0+j,none⟩).isSome=true)∧(∀j,j<(GY cs).length→Cm ok w ((GY cs).getD j Cb) (cellAt w b (0+j))):=by
 obtain⟨b,vs,T,J,L,M,q⟩:=I;rw[DV]at hd
 have f:∀j,j<cs.length→w.cell? ⟨b,0+j,none⟩=some (vs.toList.getD j undef):=by
  intro j m;rw[Hz];have n:j<vs.size:=by simpa using(by omega:j<vs.toList.length)
  simp[World.cell?,L,n,List.getD]
 refine⟨b,J,fun i hi=>?_,fun j m=>?_,fun j m=>?_⟩
 ·rw[jK]at hi;rw[afC hi];have s:=(q i hi).1;have u:=hd (cs.getD i .junk) Jc;cases z:cs.getD i .junk with
  |d x=>rw[z]at s;exact s
  |_=>rw[z]at u;simp[AV.wX]at u
 ·rw[jK]at m;rw[f j m];rfl
 rw[jK]at m;rw[afC m];unfold cellAt;rw[f j m];exact(q j m).2.toD (hd (cs.getD j .junk) (by simp[List.getD,m]))
def asP {x:Operand} {t:TypeId} {agg:Bool} {k n off:Nat} {cs:List AV} (L:es[k]? =some (.box cs)) (hd:cs.all AV.wX=true) (M:DI P t agg n) (O:off+n≤cs.length) (S:agg=false→n=1) (U:o.op=.load t x):
 BQ P o [(x,.ptr k off)] es (.d (NG agg (GY cs) off n)) es:=
 .pure fun ok H a w j Y m=>by
  have f:=Ib m;simp only at f;generalize Z:a.eval x=u at f;obtain⟨h,hh,q⟩:=Et j Y L;obtain⟨b,z,hf,hx,hc⟩:=aBU q hd;cases f with
  |ptr _ _ b' s I=>
   rw[hh]at I;obtain rfl:=Bl I;simp at z;subst z;obtain⟨v,J,hD⟩:=oU M (by rw[jK];exact O) S hf hx hc;rw[Hz]at J;exact⟨v,by simp only[execOp,U,Z,ER,J,EX,Ep],.d _ _ hD⟩
def aHN {x:Operand} {t:TypeId} {k off:Nat} {cs:List AV} {v:AV} (M:es[k]? =some (.box cs)) (O:cs[off]? =some v) (S:DI P t false 1) (U:o.op=.load t x):BQ P o [(x,.ptr k off)] es v es:=
 .pure fun ok H a w m Y q=>by
  have j:=Ib q;simp only at j;generalize Z:a.eval x=u at j;obtain⟨h,hh,b,vs,T,I,h2,h3,h4⟩:=Et m Y M;cases j with
  |ptr _ _ b' s J=>
   rw[hh]at J;obtain rfl:=Bl J;simp at I;subst I;obtain⟨n,z⟩:=Eb.1 O;have L:=(h4 off n).2;have e1:cs.getD off .junk=v:=by simp[List.getD,n,z]
   have f:off<vs.size:=by simpa using(by omega:off<vs.toList.length)
   have e2:vs.toList.getD off undef=vs[off]:=by simp[List.getD,f]
   rw[e1,e2]at L;refine⟨vs[off],?_,L⟩;have hc:w.cell? ⟨b',off,none⟩=some vs[off]:=by simp[World.cell?,h2,f]
   simp[execOp,U,Z,Instr.loadAt,Instr.sureAddr,loadVar,S.agg,hc]
end
def Bo.change {C:DZ} {ok ok':Nat→Prop} {H H':List BN} {es es':List Au} {w w':World} (j:Bo C ok H es w) (B:Nat→Prop)
 (hos:w'.os=w.os) (L:w'.tape=w.tape) (hout:w'.output=w.output) (m:w.heap.size≤w'.heap.size)
 (z:∀b,b<w.heap.size→¬B b→w'.heap[b]? =w.heap[b]?) (hB:∀b,B b→b<w.heap.size→¬ok b∧(C.w0.heap.size≤b∨b∈C.X))
 (hok:∀b,ok b→ok' b) (I:∀b,ok' b→ok b∨(w.heap.size≤b∧b<w'.heap.size)) (q:Names H H') (hlen:H'.length=es'.length)
 (s:∀(k:Nat) (e:Au) (h:BN),es'[k]? =some e→H'[k]? =some h→
  (es[k]? =some e∧H[k]? =some h∧(e.live=true→∀b,CQ h.v=some b→¬B b))∨
  (Dy ok' w' H' h e∧(e.live=true→∀b,CQ h.v=some b→¬ok' b∧b<w'.heap.size∧(C.w0.heap.size≤b∨b∈C.X)∧
   ∀(k':Nat) (e':Au) (h':BN),k'≠k→es'[k']? =some e'→e'.live=true→H'[k']? =some h'→CQ h'.v≠some b))):
 Bo C ok' H' es' w'∧Df ok w ok' w':=by
 have hg:Df ok w ok' w':=fun b f=>⟨hok b f,z b (j.jl b f) (fun n=>(hB b n (j.jl b f)).1 f)⟩
 refine⟨⟨⟨hos.trans j.fr.os,L.trans j.fr.tape,hout.trans j.fr.output,E5 j.fr.size m,fun k hk hx=>?_⟩,fun b f=>hok b (j.uD b f),?_,?_,j.names.trans q,hlen,?_,?_,?_⟩,hg⟩
 ·have hkw:k<w.heap.size:=U7 hk j.fr.size;rw[z k hkw (fun f=>(hB k f hkw).2.elim (fun h=>AA) hx)];exact j.fr.block k hk hx
 ·intro b f;rcases I b f with h|⟨h,_⟩
  ·exact j.uF b h
  exact .inr (.inl (E5 j.fr.size h))
 ·intro b f;rcases I b f with h|⟨_,h⟩
  ·exact U7 (j.jl b h) m
  exact h
 ·intro k e h U Y;rcases s k e h U Y with⟨u,Z,h3⟩|⟨u,_⟩
  ·exact(j.ent k e h u Z).mono hg q (fun J b f=>z b (j.blk k e h b u J Z f).2.1 (h3 J b f))
  exact u
 ·intro k e h b U J Y f;rcases s k e h U Y with⟨u,Z,h3⟩|⟨_,u⟩
  ·have :=j.blk k e h b u J Z f;refine⟨fun n=>?_,U7 this.2.1 m,this.2.2⟩;rcases I b n with h4|⟨h4,_⟩
   ·exact this.1 h4
   omega
  exact⟨(u J b f).1,(u J b f).2.1,(u J b f).2.2.1⟩
 intro k k' e e' h h' b U he' J M Y hh' f n;apply UQ;intro O;rcases s k e h U Y with⟨u,Z,h3⟩|⟨_,u⟩
 ·rcases s k' e' h' he' hh' with⟨S,h2',h3'⟩|⟨_,S⟩
  ·exact O (j.Az k k' e e' h h' b u S J M Z h2' f n)
  exact(S M b n).2.2.2 k e h O U J Y f
 exact(u J b f).2.2.2 k' e' h' (fun e=>O e.symm) he' M hh' n
def xZ {α:Type} {l:List α} {i:Nat} {z:α} (h:i<l.length):l.getD i z=l[i]:=by simp[List.getD,h]
def Tn {α:Type} {l:List α} {a x:α} {k:Nat} (h:(l++[a])[k]? =some x):l[k]? =some x∨(k=l.length∧x=a):=by
 by_cases j:k<l.length
 ·rw[FD j]at h;exact .inl h
 have f:=(Eb.1 h).1;simp at f;have :k=l.length:=AA
 subst this;simp at h;exact .inr ⟨rfl,h.symm⟩
def Bo.push {C:DZ} {ok:Nat→Prop} {H:List BN} {es:List Au} {w:World} (f:Bo C ok H es w) (o:Obj) (h:BN) (e:Au) (u:∀b,CQ h.v=some b→b=w.heap.size)
 (Y:Dy ok (w.alloc o) (H++[h]) h e):Bo C ok (H++[h]) (es++[e]) (w.alloc o)∧Df ok w ok (w.alloc o):=by
 refine f.change (fun _=>False) rfl rfl rfl BG (fun b u _=>Hl _ _ _ u) (fun _ h=>h.elim) (fun _ h=>h) (fun _ h=>.inl h) (Names.push _ _) (by simp[f.hlen]) ?_;intro k e' h' z m;rcases Tn z with s|⟨s,Z⟩
 ·left;refine⟨s,?_,fun _ _ _ h=>h⟩;have I:k<H.length:=by rw[f.hlen];exact(Eb.1 s).1
  rwa [FD I]at m
 subst Z;have I:k=H.length:=by rw[f.hlen];exact s
 subst I;simp at m;subst m;refine .inr ⟨Y,fun _ b J=>?_⟩;obtain rfl:=u b J;refine⟨fun n=>absurd (f.jl _ n) AA,BG,.inl f.fr.size,fun k' L M O S hl j q=>?_⟩;rcases Tn S with n|⟨n,_⟩
 ·have U:k'<H.length:=by rw[f.hlen];exact(Eb.1 n).1
  rw[FD U]at j;exact absurd (f.blk k' L M _ n hl j q).2.1 AA
 rw[←f.hlen]at n;exact O n
def Bo.fresh {C:DZ} {ok:Nat→Prop} {H:List BN} {es:List Au} {w:World} (f:Bo C ok H es w) (o:Obj):
 Bo C (fun b=>ok b∨b=w.heap.size) H es (w.alloc o)∧Df ok w (fun b=>ok b∨b=w.heap.size) (w.alloc o):=by
 refine f.change (fun _=>False) rfl rfl rfl BG (fun b j _=>Hl _ _ _ j) (fun _ h=>h.elim) (fun _ h=>.inl h) (fun b h=>?_) (.refl _) f.hlen ?_
 ·rcases h with h|rfl
  ·exact .inl h
  exact .inr ⟨Dn _,BG⟩
 intro k e h m n;exact .inl ⟨m,n,fun _ _ _ h=>h⟩
def Bo.drew {C:DZ} {ok:Nat→Prop} {H:List BN} {es:List Au} {w:World} (f:Bo C ok H es w):Bo C ok H es w.drew∧Df ok w ok w.drew:=
 f.change (fun _=>False) rfl rfl rfl (Dn _) (fun _ _ _=>rfl) (fun _ h=>h.elim) (fun _ h=>h) (fun _ h=>.inl h) (.refl _) f.hlen fun _ _ _ j m=>.inl ⟨j,m,fun _ _ _ h=>h⟩
def Dy.dead {ok:Nat→Prop} {w:World} {H:List BN} {h:BN}:Dy ok w H h .dead:=trivial
def R.abd {ok:Nat→Prop} {w:World} {H:List BN} {x:AV} {v:Value} (h:R ok w H x v) (u:x.cells.all AV.leaf=true):Ed ok w H x.cells v.cells.toList:=by
 rw[DV]at u;cases h with
 |d x v h=>
  cases h with
  |agg cs vs O L S=>
   refine⟨by simp[AV.cells,D.cells,Value.cells,O],fun i hi=>?_⟩;simp only[AV.cells,D.cells,CB]at hi;have U:(AV.cells (.d (.agg cs))).getD i .junk=.d (cs.getD i Cb):=by simp[AV.cells,D.cells,List.getD,hi]
   have z:i<vs.size:=AA
   have M:(Value.cells (.agg vs)).toList.getD i undef=vs.getD i undef:=aaQ
   rw[U,M];exact⟨L i hi,.d _ _ (S i hi)⟩
  |lit v=>
   have m:=u (.d (.lit v)) (by simp[AV.cells,D.cells]);have e:v.cells= #[v]:=by cases v<;>first|rfl|(simp[AV.leaf,D.leaf,Value.oneCell']at m)
   refine⟨by simp[AV.cells,D.cells,e],fun i hi=>?_⟩;simp[AV.cells,D.cells]at hi;subst hi;rw[e];exact⟨m,.d _ _ (.lit v)⟩
  |sl0 ad cap=>
   refine⟨rfl,fun i hi=>?_⟩;simp[AV.cells,D.cells]at hi;subst hi;exact⟨rfl,.d _ _ (.sl0 ad cap)⟩
  |sl es b off cap size m q I J Y Z=>
   refine⟨rfl,fun i hi=>?_⟩;simp[AV.cells,D.cells]at hi;subst hi;exact⟨rfl,.d _ _ (.sl es b off cap size m q I J Y Z)⟩
  |ref cs off b o m q I J=>
   refine⟨rfl,fun i hi=>?_⟩;simp[AV.cells,D.cells]at hi;subst hi;exact⟨rfl,.d _ _ (.ref cs off b o m q I J)⟩
  |fn f first cap vs us m q I J=>
   refine⟨rfl,fun i hi=>?_⟩;simp[AV.cells,D.cells]at hi;subst hi;exact⟨rfl,.d _ _ (.fn f first cap vs us m q I J)⟩
  |JM t x v m=>
   refine⟨rfl,fun i hi=>?_⟩;simp[AV.cells,D.cells]at hi;subst hi;exact⟨rfl,.d _ _ (.JM t x v m)⟩
 |ptr k off b s h=>
  exact⟨rfl,fun i hi=>by simp[AV.cells]at hi;subst hi;exact⟨rfl,.ptr k off b s h⟩⟩
 |aP k ad n cap s h=>
  exact⟨rfl,fun i hi=>by simp[AV.cells]at hi;subst hi;exact⟨rfl,.aP k ad n cap s h⟩⟩
 |jL k i off b n cap s h=>
  exact⟨rfl,fun j hi=>by simp[AV.cells]at hi;subst hi;exact⟨rfl,.jL k i off b n cap s h⟩⟩
 |fn f first cap vs us m q I J=>
  exact⟨rfl,fun i hi=>by simp[AV.cells]at hi;subst hi;exact⟨rfl,.fn f first cap vs us m q I J⟩⟩
 |mp k v s u h=>
  have e:v.cells= #[v]:=by cases v<;>first|rfl|(simp[Value.oneCell']at u)
  exact⟨by simp[AV.cells,e],fun j hi=>by simp[AV.cells]at hi;subst hi;rw[e];exact⟨rfl,.mp k v s u h⟩⟩
 |clip xs ad h=>exact⟨rfl,fun i hi=>by simp[AV.cells]at hi;subst hi;exact⟨rfl,.clip xs ad h⟩⟩
 |rZ k ad n cap s h=>exact⟨rfl,fun i hi=>by simp[AV.cells]at hi;subst hi;exact⟨rfl,.rZ k ad n cap s h⟩⟩
 |dO xs vs m q=>have :=u (.dO xs) (by simp[AV.cells]);simp[AV.leaf]at this
 |ag xs vs m L q=>
  refine⟨by simp[AV.cells,Value.cells,m],fun i hi=>?_⟩;have z:i<vs.size:=by rw[m];exact hi
  have M:(Value.cells (.agg vs)).toList.getD i undef=vs.getD i undef:=aaQ
  rw[M];exact⟨L i hi,q i hi⟩
 |junk v=>have :=u .junk (by simp[AV.cells]);simp[AV.leaf]at this
section
variable {P : Program} {o : Oper} {es : List Au}
def yL (w:World):∀b,CQ (BN.v ⟨.pointer (some ⟨w.heap.size,0,none⟩),0⟩)=some b→b=w.heap.size:=fun b f=>by simpa[CQ]using f.symm
def BQ.eff {ns:List (Operand×AV)} {x:AV} {es':List Au}
 (h:∀(C:DZ) (ok:Nat→Prop) (H:List BN) (a:Act) (w:World),Bo C ok H es w→(∀n∈ns,R ok w H n.2 (a.eval n.1))→
  ∃v w' ok' H',((execOp a.eval o).run P w=.ok (.value v) w'∨(v=undef∧(execOp a.eval o).run P w=.ok .skip w'))∧Df ok w ok' w'∧Names H H'∧Bo C ok' H' es' w'∧R ok' w' H' x v):BQ P o ns es x es':=by
 intro C ok H a w Q u z;obtain⟨v,w',ok',H',f,j,m,q,s⟩:=h C ok H a w u z;unfold Oper.wp;rcases f with f|⟨rfl,f⟩
 ·rw[f];exact⟨v,ok',H',rfl,j,m,q,s⟩
 rw[f];exact⟨undef,ok',H',rfl,j,m,q,s⟩
def aoU {t:TypeId} {x:Operand} {v:AV} (m:v.cells.all AV.leaf=true) (n:o.op=.box t x):BQ P o [(x,v)] es (.ptr es.length 0) (es++[.box v.cells]):=
 .eff fun C ok H a w h q=>by
  have j:=Ib q;simp only at j
  have f:Dy ok (w.alloc (.cells (a.eval x).cells t)) (H++[⟨.pointer (some ⟨w.heap.size,0,none⟩),0⟩]) ⟨.pointer (some ⟨w.heap.size,0,none⟩),0⟩ (.box v.cells):=
   ⟨w.heap.size,(a.eval x).cells,t,rfl,Y5 w _,(j.abd m).mono (fun b f=>⟨f,Hl _ _ _ (h.jl b f)⟩) (Names.push _ _)⟩
  obtain⟨s,u⟩:=h.push (.cells (a.eval x).cells t) ⟨.pointer (some ⟨w.heap.size,0,none⟩),0⟩ _ (yL w) f;refine⟨_,_,ok,_,.inl ?_,u,Names.push _ _,s,.ptr _ _ w.heap.size 0 aA4⟩;simp[execOp,n,Instr.box,newVar,newRow]
def Lp :Value→D
 | .slice none 0 0=>.sl []
 |v=>.lit v
def YT {ok:Nat→Prop} {w:World} (v:Value):Cm ok w (Lp v) v:=by
 unfold Lp;split
 ·exact .sl0 none 0
 exact .lit v
def l7 {v:Value} (h:v.oneCell'=true):(Lp v).leaf=true:=by
 unfold Lp;split
 ·rfl
 exact h
def EW (z:Value):List AV:=z.cells.toList.map fun v=>.d (Lp v)
def agY {t:TypeId} {z:Value} (j:(P.info? t).bind (·.zero)=some z) (m:z.cells.all (·.oneCell')=true) (n:o.op=.alloc t):BQ P o [] es (.ptr es.length 0) (es++[.box (EW z)]):=
 .eff fun C ok H a w h L=>by
  have q:Dy ok (w.alloc (.cells z.cells t)) (H++[⟨.pointer (some ⟨w.heap.size,0,none⟩),0⟩]) ⟨.pointer (some ⟨w.heap.size,0,none⟩),0⟩ (.box (EW z)):=by
   refine⟨w.heap.size,z.cells,t,rfl,Y5 w _,by simp[EW],fun i hi=>?_⟩;simp only[EW,CB,PX]at hi;have s:(EW z).getD i .junk=.d (Lp z.cells[i]):=by simp[EW,List.getD,hi]
   have u:z.cells.toList.getD i undef=z.cells[i]:=Jc
   rw[s,u];exact⟨l7 ((O7.1 m) _ BG),.d _ _ (YT _)⟩
  obtain⟨I,J⟩:=h.push (.cells z.cells t) ⟨.pointer (some ⟨w.heap.size,0,none⟩),0⟩ _ (yL w) q;refine⟨_,_,ok,_,.inl ?_,J,Names.push _ _,I,.ptr _ _ w.heap.size 0 aA4⟩;obtain⟨i,hi,f⟩:=YK.1 j;simp[execOp,n,Instr.alloc,zeroValue,typeInfo,hi,f,newVar,newRow]
def JY {l:List Au} {k j:Nat} {a x:Au} (f:k<l.length) (h:(l.set k a)[j]? =some x):(j=k∧x=a)∨(j≠k∧l[j]? =some x):=by
 by_cases e:k=j
 ·subst e;simp[f]at h;exact .inl ⟨rfl,h.symm⟩
 rw[Vq e]at h;exact .inr ⟨fun h'=>e h'.symm,h⟩
def Bo.upd {C:DZ} {ok:Nat→Prop} {H:List BN} {w w':World} (z:Bo C ok H es w) {k:Nat} {I e:Au} {h:BN} {b:Nat} (Z:es[k]? =some I) (q:I.live=true) (hh:H[k]? =some h) (hb:CQ h.v=some b)
 (hos:w'.os=w.os) (s:w'.tape=w.tape) (J:w'.output=w.output) (hsize:w'.heap.size=w.heap.size)
 (n:∀c,c≠b→w'.heap[c]? =w.heap[c]?) (he:Df ok w ok w'→Dy ok w' H h e):Bo C ok H (es.set k e) w'∧Df ok w ok w':=by
 have L:=z.blk k I h b Z q hh hb;have hg:Df ok w ok w':=fun c f=>⟨f,n c (fun e=>L.1 (e▸f))⟩
 refine z.change (fun c=>c=b) hos s J AA (fun c _ f=>n c f) (fun c f _=>by subst f;exact⟨L.1,L.2.2⟩) (fun _ h=>h) (fun _ h=>.inl h) (.refl _) (by simp[z.hlen]) ?_;intro j e' h' hj m;have M:k<es.length:=(Eb.1 Z).1;rcases JY M hj with⟨rfl,rfl⟩|⟨u,O⟩
 ·rw[hh]at m;obtain rfl:=Bl m;refine .inr ⟨he hg,fun _ c f=>?_⟩;rw[hb]at f;obtain rfl:=Bl f;refine⟨L.1,AA,L.2.2,fun k' e'' h'' u hk' hl' S U=>u ?_⟩;rcases JY M hk' with⟨rfl,_⟩|⟨_,Y⟩
  ·rfl
  exact z.Az k' j e'' I h'' h b Y Z hl' q S hh U hb
 refine .inl ⟨O,m,fun hl c f hcb=>u ?_⟩;subst hcb;exact z.Az j k e' I h' h c O Z hl q m hh f hb
def aCy (w:World) (g:Nat) (cs:Array Value) (k:Nat) (h:k≠g):(w.setRow g cs).heap[k]? =w.heap[k]? :=setRow_other w g k cs h
def setAt {α:Type} (cs:List α) (off:Nat) (ys:List α):List α:=cs.take off++ys++cs.drop (off+ys.length)
def OX {α:Type} {cs ys:List α} {off:Nat} (h:off+ys.length≤cs.length):(setAt cs off ys).length=cs.length:=by simp[setAt];omega
def UY {α:Type} {cs ys:List α} {off:Nat} (h:off+ys.length≤cs.length) (i:Nat) (z:α):(setAt cs off ys).getD i z=if off≤i∧i<off+ys.length then ys.getD (i-off) z else cs.getD i z:=by
 unfold setAt;have f:(cs.take off).length=off:=Dp
 by_cases hi:i<off
 ·rw[CV AA];simp only[List.getD];rw[G6,FD AA,Jo hi]
 by_cases j:i<off+ys.length
 ·rw[CG AA];simp only[List.getD];rw[G6,Ho AA,f,FD AA]
 rw[CV AA];simp only[List.getD];rw[Ho Dp,ND];congr 2;simp;omega
def aHV {t:TypeId} {x y:Operand} {k off n:Nat} {cs:List AV} {v:AV} (Z:es[k]? =some (.box cs)) (hl:v.cells.all AV.leaf=true) (hs:∀w,(sizeOf t).run P w=.ok n w) (hn:v.cells.length=n) (hle:off+n≤cs.length) (ho:o.op=.store t x y):
 BQ P o [(x,.ptr k off),(y,v)] es .junk (es.set k (.box (setAt cs off v.cells))):=
 .eff fun C ok H a w M q=>by
  have O:=(Dt q).1;have h2:=(Dt q).2;simp only at O h2;generalize he:a.eval x=u at O;obtain⟨h,hh,S⟩:=Et M.ent M.hlen Z;obtain⟨b,vs,T,hb,j,z,I⟩:=S;have f:=h2.abd hl;cases O with
  |ptr _ _ J s hH=>
   rw[hh]at hH;obtain rfl:=Bl hH;simp at hb;subst hb;have m:(a.eval y).cells.toList.length=n:=by rw[f.1,hn]
   have avo:vs.size=cs.length:=XW
   have U:(a.eval y).cells.size=n:=Zt
   have hst:=aEt (P:=P) J off T (a.eval y).cells.toList 0 vs w j (by rw[m];omega) (fun u hu=>by
    obtain⟨i,hi,rfl⟩:=Gv hu;have L:=f.2 i (by rw[←f.1];exact hi);have :=L.2.leaf L.1
    rwa [xZ hi]at this)
   simp only[PY]at hst;have hlt:J<w.heap.size:=(Ei.1 j).1
   obtain⟨h3,h4⟩:=M.upd (e:=.box (setAt cs off v.cells)) (w':=w.setRow J (vs.toList.take off++(a.eval y).cells.toList++vs.toList.drop (off+(a.eval y).cells.toList.length)).toArray) Z rfl hh rfl rfl rfl rfl aCP (fun c hc=>aCy _ _ _ _ hc) (fun hg=>by
    refine⟨J,_,T,rfl,gG w J vs _ T (0,0) j,?_,fun i hi=>?_⟩
    ·have Y:(vs.toList.take off++(a.eval y).cells.toList++vs.toList.drop (off+(a.eval y).cells.toList.length))=setAt vs.toList off (a.eval y).cells.toList:=rfl;rw[Y,sF,OX (by have :=vs.length_toList;omega),OX AA];simpa using z
    have Y:(vs.toList.take off++(a.eval y).cells.toList++vs.toList.drop (off+(a.eval y).cells.toList.length))=setAt vs.toList off (a.eval y).cells.toList:=rfl;rw[OX AA]at hi;rw[Y,sF,UY (by have :=vs.length_toList;omega),UY AA,m,hn];split
    ·have L:=f.2 (i-off) AA;exact⟨L.1,L.2.mono hg (.refl _)⟩
    exact⟨(I i hi).1,(I i hi).2.mono hg (.refl _)⟩)
   refine⟨undef,_,ok,H,.inr ⟨rfl,?_⟩,h4,.refl _,h3,.junk _⟩;simp only[execOp,ho,he,Instr.storeAt,Instr.sureAddr,storeVar,ER,Ep,EX,hs,U,ne_eq,not_true_eq_false,Ic,hst]
end
def SL (x:D) (es:List D):flat (x::es)=x.cells.map .d++flat es:=Pg
def Yg (xs ys:List D):flat (xs++ys)=flat xs++flat ys:=Pg
def OD {size:Nat}:∀{es:List D},(∀x∈es,x.cells.length=size)→(flat es).length=es.length*size
 | [],_=>Pg
 |x::es,h=>by
  rw[SL,Dk,CB,h x BG,OD (fun y f=>h y (Gq _ f)),FQ,Ry,Nh]
def flat_get {size:Nat}:∀{es:List D},(∀x∈es,x.cells.length=size)→∀i j,i<es.length→j<size→(flat es).getD (i*size+j) .junk=.d ((es.getD i Cb).cells.getD j Cb)
 | [],_,i,j,hi,_=>KP
 |x::es,h,0,j,_,m=>by
  have f:=h x BG;rw[SL,Nat.zero_mul,Hz];simp only[List.getD];rw[FD (by simp[f,m])];have n:j<x.cells.length:=AA
  simp[n]
 |x::es,h,i+1,j,hi,m=>by
  have f:=h x BG;have q:=flat_get (fun y s=>h y (Gq _ s)) i j Ey m;rw[SL];simp only[List.getD]at q ⊢;rw[Ho (by simp[f,Ry];omega)];have e:(i+1)*size+j-(x.cells.map AV.d).length=i*size+j:=by simp[f,Ry];omega
  rw[e,q];simp
section
variable {P : Program} {o : Oper} {es : List Au}
structure SQ (w:World) (v:Value) (m size:Nat) (news:List Value):Prop where
 len:news.length=m*size
 one:∀u∈news,u.oneCell'=true
 at_:(∃ad c,v=.slice (some ad) m c∧∀(j:Nat) (u:Value),news[j]? =some u→w.cell? (ad.add j)=some u)∨(∃c,v=.slice none 0 c∧m=0)
def Yf {ok:Nat→Prop} {w:World} (H:List BN) {ys:List D} {v:Value} {size:Nat} (h:Cm ok w (.sl ys) v) (S:∀x∈ys,x.cells.length=size):
 ∃m,SQ w v ys.length size m∧Ed ok w H (flat ys) m:=by
 cases h with
 |sl0 ad cap=>
  refine⟨[],⟨BG,BG,?_⟩,Pg,fun i hi=>vw⟩;cases ad with
  |none=>exact .inr ⟨cap,rfl,rfl⟩
  |some ad=>exact .inl ⟨ad,cap,rfl,fun j u h=>Fq⟩
 |sl _ b off cap f hcap hok U hf hx hc=>
  by_cases hy:ys=[]
  ·subst hy;refine⟨[],⟨BG,BG,.inl ⟨⟨b,off,none⟩,cap,rfl,fun j u h=>Fq⟩⟩,Pg,fun i hi=>vw⟩
  have q:0<ys.length:=xO.2 hy;have Y:f=size:=by rw[←U 0 q];exact S _ aAW
  subst Y;have hl:=OD S
  have key:∀k,k<ys.length*f→∃i j,k=i*f+j∧i<ys.length∧j<f:=by
   intro k n
   have hp:0<f:=by
    rcases Xr f with Z|Z
    ·rw[Z,Nat.mul_zero]at n;omega
    exact Z
   exact⟨k/f,k % f,by rw[QO];exact(rQ k f).symm,jC (by rwa [QO]at n),YI _ hp⟩
  let m:List Value:=(List.range (ys.length*f)).map fun k=>cellAt w b (off+k)
  have s:m.length=ys.length*f:=by simp[m]
  have I:∀k,k<ys.length*f→m.getD k undef=cellAt w b (off+k):=by
   intro k n;simp[m,List.getD,n]
  have z:Ed ok w H (flat ys) m:=by
   refine⟨by rw[s,hl],fun k n=>?_⟩;rw[hl]at n;obtain⟨i,j,rfl,hi,J⟩:=key k n;rw[flat_get S i j hi J,I _ n];exact⟨hf i hi j J,.d _ _ (hc i hi j J)⟩
  refine⟨m,⟨s,fun u hu=>?_,.inl ⟨⟨b,off,none⟩,cap,rfl,fun k u n=>?_⟩⟩,z⟩
  ·obtain⟨k,n,rfl⟩:=Gv hu;have h5:=z.2 k (by rw[←z.1];exact n);have :=h5.2.leaf h5.1
   rwa [xZ n]at this
  obtain⟨L,rfl⟩:=Eb.1 n;rw[addr_add];have M:k<ys.length*f:=by rw[←s];exact L
  obtain⟨i,j,e,hi,J⟩:=key k M;have O:=hx i hi j J;rw[←e]at O;obtain⟨u',hu'⟩:=Rq.1 O;have :=I k M;rw[xZ L]at this;rw[this];simp[cellAt,hu']
structure Ez (P:Program) (t e:TypeId) (size bytes:Nat):Prop where
 und:P.underlying t=some (.slice e)
 info:∃i z,P.info? e=some i∧i.zero=some z∧i.size=size∧i.bytes=bytes∧z.cells.size=size
 pos:0<size
def adi (P:Program) (t e size f:Nat):Bool:=
 (match P.underlying t with |some (.slice e')=>decide (e'=e)|_=>false)&&(match P.info? e with |some i=>decide (i.size=size)&&decide (i.bytes=f)&&(match i.zero with |some z=>decide (z.cells.size=size)|none=>false)|none=>false)&&decide (0<size)
def JD {P:Program} {t e size f:Nat} (h:adi P t e size f=true):Ez P t e size f:=by
 unfold adi at h;simp only[Bv,FI]at h;obtain⟨⟨j,m⟩,q⟩:=h;refine⟨?_,?_,q⟩
 ·split at j
  ·rename_i e' s;rw[s];simp at j;rw[j]
  cases j
 split at m
 ·rename_i i hi;simp only[Bv,FI]at m;obtain⟨⟨u,I⟩,n⟩:=m;split at n
  ·rename_i z J;exact⟨i,z,hi,J,u,I,NQ⟩
  cases n
 cases m
def amW {w:World} {t e:TypeId} {ty:TypeId} {size J:Nat} (hE:Ez P t e size J) {v:Value} {n:Nat} {xs:List Value} (s:w.ownsRow 0 e size v n xs) {x:Value} {m:Nat} {h:List Value} (f:SQ w x m size h)
 (hb:(n+m)*J≤140737488355328) (hn:n+m≤maxLen):
 ∃v' w',(Builtin.append_ #[t,t] ty #[v,x]).run P w=.ok v' w'∧w'.ownsRow 0 e size v' (n+m) (xs++h)∧w.grownBy w' v.ownBlock∧(∀g,CQ v'=some g→CQ v=some g∨w.heap.size≤g):=by
 obtain⟨i,z,hi,hz,Z,O,hzs⟩:=hE.info;rcases f.at_ with⟨ad,c,rfl,q⟩|⟨c,rfl,rfl⟩
 ·obtain⟨v',w',hr,ho',hg,hnil⟩:=run_append_own (P:=P) w 0 t ty e i z size J hE.und hi hz Z O hzs hE.pos v n xs s ad m c h f.len q f.one hn hb (Dx _);refine⟨v',w',hr,ho',hg,fun g L=>?_⟩;rcases s.2 with⟨rfl,rfl⟩|⟨g0,cap,S,rfl,hbg,hg0,hnc,hcm,hcs,htake⟩
  ·have hx:xs=[]:=Fj (by simpa using s.1);subst hx;obtain⟨v2,w2,I,ho2,_,_⟩:=run_append_own (P:=P) w w.heap.size t ty e i z size J hE.und hi hz Z O hzs hE.pos _ 0 [] (zK w w.heap.size e size) ad m c h f.len q f.one hn hb (Dn _);rw[hr]at I;simp only[Result.ok.injEq]at I;obtain⟨rfl,rfl⟩:=I;rcases ho2.2 with⟨rfl,_⟩|⟨g',_,_,rfl,hle,_⟩
   ·simp[CQ]at L
   simp[CQ]at L;subst L;exact .inr hle
  by_cases M:n+m≤cap
  ·have hfit:n*i.size+h.length≤S.size:=by rw[f.len,hcs,Z,←VH];exact Hg _ M
   have I:=run_append_room (P:=P) w t ty e i hE.und hi g0 n cap S hg0 ad m c h (by rw[Z];exact f.len) q f.one M hfit;rw[hr]at I;simp only[Result.ok.injEq]at I;obtain⟨rfl,rfl⟩:=I;exact .inl L
  have U:∀(j:Nat) (u:Value),xs[j]? =some u→w.cell? ((⟨g0,0,none⟩:Addr).add j)=some u:=s.cells (g:=g0) rfl;have I:=run_append_grow (P:=P) w t ty e i z hE.und hi hz ⟨g0,0,none⟩ n cap xs (by rw[Z];exact s.1) U ad m c h (by rw[Z];exact f.len) q AA (by unfold maxLen at hn;omega) (growslice_fits AA (by rw[O];exact hb));rw[hr]at I;simp only[Result.ok.injEq]at I;obtain⟨rfl,rfl⟩:=I;simp[CQ]at L;subst L;exact .inr (Dn _)
 have Y:h=[]:=Fj (by simpa using f.len);subst Y;refine⟨v,w,?_,MS,⟨rfl,rfl,rfl,Dn _,fun _ _ _=>rfl⟩,fun g hg=>.inl hg⟩;rcases s.2 with⟨rfl,rfl⟩|⟨g,cap,S,rfl,_,_,hnc,_⟩
 ·simp[Builtin.append_,aAO hE.und,sizeOf,typeInfo,hi,Builtin.lenOf,Builtin.firstCells]
 simp[Builtin.append_,aAO hE.und,sizeOf,typeInfo,hi,Builtin.lenOf,Builtin.firstCells,hnc,storeCells]
def aBz {w:World} {t e:TypeId} {ty:TypeId} {size s:Nat} (hE:Ez P t e size s) {v:Value} {n:Nat} {xs:List Value} (q:kG w e size v n xs) {x:Value} {m:Nat} {j:List Value} (f:SQ w x m size j)
 (hb:(n+m)*s≤140737488355328) (hn:n+m≤maxLen):
 ∃v' w',(Builtin.append_ #[t,t] ty #[v,x]).run P w=.ok v' w'∧kG w' e size v' (n+m) (xs++j)∧w.grownBy w' v.ownBlock∧(∀g,CQ v'=some g→CQ v=some g∨w.heap.size≤g):=by
 rcases q.2 with h|⟨g,cap,M,rfl,h0,Y,hnc,hcm,hcs,O⟩
 ·obtain⟨v',w',h1,h2,S,h4⟩:=amW (ty:=ty) hE ⟨q.1,.inl h⟩ f hb hn;exact⟨v',w',h1,.of h2,S,h4⟩
 obtain⟨i,z,hi,hz,hs,hby,hzs⟩:=hE.info;have hlen:(xs++j).length=(n+m)*size:=by rw[Dk,q.1,f.len,VH]
 rcases f.at_ with⟨ad,c,rfl,I⟩|⟨c,rfl,rfl⟩
 ·by_cases u:n+m≤cap
  ·have L:n*i.size+j.length≤M.size:=by
    rw[f.len,hs,←VH];exact E5 (Hg _ u) hcs
   have hr:=run_append_room (P:=P) w t ty e i hE.und hi g n cap M Y ad m c j (by rw[hs];exact f.len) I f.one u L;rw[hs]at hr L;refine⟨_,_,hr,⟨hlen,.inr ⟨g,cap,_,rfl,Dx _,gG w g M _ e _ Y,u,hcm,?_,?_⟩⟩,⟨rfl,rfl,rfl,BG,fun k _ hk=>setRow_other w g k _ (fun e=>hk (by simp[Value.ownBlock,e]))⟩,fun g' J=>.inl J⟩
   ·simp only[Yy,Dk,G5,J3,PX];omega
   rw[O,←hlen];exact aBB
  obtain⟨v',w',h1,h2,S⟩:=run_append_arg_grows (P:=P) w t ty e i z size s hE.und hi hz hs hby hzs hE.pos ⟨g,0,none⟩ n cap xs q.1 (q.cells (g:=g) rfl) ad m c j f.len I AA hn hb;refine⟨v',w',h1,.of h2,⟨S.os,S.tape,S.output,S.size,fun k hk _=>S.block k hk BG⟩,fun g' J=>.inr ?_⟩;rcases h2.2 with⟨rfl,_⟩|⟨g2,_,_,rfl,Z,_⟩
  ·simp[CQ]at J
  simp[CQ]at J;subst J;exact Z
 have U:j=[]:=Fj (by simpa using f.len);subst U;refine⟨.slice (some ⟨g,0,none⟩) n cap,w,?_,Qw,⟨rfl,rfl,rfl,Dn _,fun _ _ _=>rfl⟩,fun g hg=>.inl hg⟩;simp[Builtin.append_,aAO hE.und,sizeOf,typeInfo,hi,Builtin.lenOf,Builtin.firstCells,hnc,storeCells]
def Bo.turn {C:DZ} {ok:Nat→Prop} {H:List BN} {w w':World} (f:Bo C ok H es w) {k:Nat} {S e:Au} {h h':BN} (hk:es[k]? =some S) (I:S.live=true) (hh:H[k]? =some h)
 (hos:w'.os=w.os) (J:w'.tape=w.tape) (U:w'.output=w.output) (L:w.heap.size≤w'.heap.size)
 (u:∀c,c<w.heap.size→CQ h.v≠some c→w'.heap[c]? =w.heap[c]?) (hb':∀g,CQ h'.v=some g→g<w'.heap.size∧(CQ h.v=some g∨w.heap.size≤g))
 (he:Df ok w ok w'→Dy ok w' (H++[h']) h' e):Bo C ok (H++[h']) (es.set k .dead++[e]) w'∧Df ok w ok w':=by
 have Y:=fun b hb=>f.blk k S h b hk I hh hb;have Z:k<es.length:=(Eb.1 hk).1;have hg:Df ok w ok w':=fun c s=>⟨s,u c (f.jl c s) (fun e=>(Y c e).1 s)⟩
 refine f.change (fun c=>CQ h.v=some c) hos J U L u (fun c s _=>⟨(Y c s).1,(Y c s).2.2⟩) (fun _ h=>h) (fun _ h=>.inl h) (Names.push _ _) (by simp[f.hlen]) ?_;intro j e' hj' hj n;rcases Tn hj with h1|⟨h1,h2⟩
 ·have hjl:j<H.length:=by rw[f.hlen];simpa using(Eb.1 h1).1
  rw[FD hjl]at n;rcases JY Z h1 with⟨rfl,rfl⟩|⟨M,h3⟩
  ·exact .inr ⟨trivial,fun h=>GX⟩
  refine .inl ⟨h3,n,fun hl c s hcb=>M ?_⟩;exact f.Az j k e' S hj' h c h3 hk hl I n hh s hcb
 subst h2;have hk2:j=H.length:=by rw[f.hlen];simpa using h1
 subst hk2;simp at n;subst n;refine .inr ⟨he hg,fun _ c s=>?_⟩;obtain⟨h3,m⟩:=hb' c s;refine⟨fun hok=>?_,h3,?_,fun k' e'' h'' M hk' O q z=>?_⟩
 ·rcases m with m|m
  ·exact(Y c m).1 hok
  have :=f.jl c hok;omega
 ·rcases m with m|m
  ·exact(Y c m).2.2
  exact .inl (E5 f.fr.size m)
 rcases Tn hk' with h5|⟨h5,_⟩
 ·have hkl':k'<H.length:=by rw[f.hlen];simpa using(Eb.1 h5).1
  rw[FD hkl']at q;rcases JY Z h5 with⟨rfl,rfl⟩|⟨hne',h6⟩
  ·cases O
  rcases m with m|m
  ·exact hne' (f.Az k' k e'' S h'' h c h6 hk O I q hh z m)
  have :=(f.blk k' e'' h'' c h6 O q z).2.1;omega
 simp at h5;exact M (by rw[h5,f.hlen])
def ku {w:World} {e size n:Nat} {v:Value} {xs:List Value} (h:kG w e size v n xs) {g:Nat} (f:CQ v=some g):g<w.heap.size:=by
 rcases h.2 with⟨rfl,_⟩|⟨m,_,_,rfl,_,j,_⟩
 ·simp[CQ]at f
 simp[CQ]at f;subst f;exact(Ei.1 j).1
def aC8 {w:World} {e size n:Nat} {v:Value} {xs:List Value} (h:kG w e size v n xs):v.ownBlock=CQ v:=by
 rcases h.2 with⟨rfl,_⟩|⟨f,_,_,rfl,_⟩<;>rfl
def Me {ok:Nat→Prop} {w:World} {H:List BN} {k:Nat} {v:Value} {h:BN} (j:R ok w H (.aP k) v) (m:H[k]? =some h):v=h.v:=by
 cases j with
 |aP _ ad n cap s f=>rw[m]at f;rw[Bl f]
def amJ {C:DZ} {ok:Nat→Prop} {H:List BN} {w:World} (S:Bo C ok H es w) {t ty e:TypeId} {size j k:Nat} {xs ys:List D} (hE:Ez P t e size j) (hk:es[k]? =some (.arr e size xs))
 {v x:Value} (hv:R ok w H (.aP k) v) {f:List Value} (z:SQ w x ys.length size f) (q:Ed ok w H (flat ys) f) (U:∀y∈ys,y.cells.length=size) (hb:(xs.length+ys.length)*j≤140737488355328) (hn:xs.length+ys.length≤maxLen):
 ∃v' w' H',(Builtin.append_ #[t,t] ty #[v,x]).run P w=.ok v' w'∧Df ok w ok w'∧Names H H'∧Bo C ok H' (es.set k .dead++[.arr e size (xs++ys)]) w'∧R ok w' H' (.aP es.length) v':=by
 obtain⟨h,hh,Y⟩:=Et S.ent S.hlen hk;obtain rfl:=Me hv hh;obtain⟨h1,h2,u,n,Z⟩:=Y;obtain⟨v',w',hr,s,I,J⟩:=aBz (P:=P) (ty:=ty) hE n z hb hn
 obtain⟨h3,h4⟩:=S.turn (h':=⟨v',size⟩) (e:=.arr e size (xs++ys)) hk rfl hh I.os I.tape I.output I.size (fun c hc hne=>I.block c hc (by rw[aC8 n];exact fun e=>hne e.symm)) (fun g L=>⟨ku s L,J g L⟩) (fun M=>by
  refine⟨rfl,fun y hy=>?_,u++f,MS,?_⟩
  ·rcases Fe.1 hy with h|h
   ·exact h2 y h
   exact U y h
  have O:=Z.mono M (Names.push H [⟨v',size⟩]);have a2:=q.mono M (Names.push H [⟨v',size⟩]);rw[Yg];refine⟨by rw[Dk,Dk,O.1,a2.1],fun i hi=>?_⟩;by_cases m:i<(flat xs).length
  ·have e1:(flat xs++flat ys).getD i .junk=(flat xs).getD i .junk:=by simp[List.getD,FD m]
   have e2:(u++f).getD i undef=u.getD i undef:=by simp[List.getD,FD (by rw[O.1];exact m:i<u.length)]
   rw[e1,e2];exact O.2 i m
  have hi3:i-(flat xs).length<(flat ys).length:=aBh
  have e1:(flat xs++flat ys).getD i .junk=(flat ys).getD (i-(flat xs).length) .junk:=by simp[List.getD,Ho (RZ m)]
  have e2:(u++f).getD i undef=f.getD (i-(flat xs).length) undef:=by simp[List.getD,Ho (by rw[O.1];omega:u.length≤i),O.1]
  rw[e1,e2];exact a2.2 _ hi3)
 refine⟨v',w',_,hr,h4,Names.push _ _,h3,?_⟩;have hH:(H++[(⟨v',size⟩:BN)])[es.length]? =some ⟨v',size⟩:=by rw[←S.hlen];simp
 rcases s.2 with⟨rfl,_⟩|⟨g',c',_,rfl,_⟩
 ·exact .aP _ _ _ _ size hH
 exact .aP _ _ _ _ size hH
def agB {s x:Operand} {t e:TypeId} {size f k:Nat} {xs ys:List D} (hE:Ez P t e size f) (L:es[k]? =some (.arr e size xs)) (j:∀y∈ys,y.cells.length=size)
 (M:(xs.length+ys.length)*f≤140737488355328) (O:xs.length+ys.length≤maxLen) (S:o.op=.call { callee:=.builtin .append,args:= #[s,x],argTypes:= #[t,t] }):
 BQ P o [(s,.aP k),(x,.d (.sl ys))] es (.aP es.length) (es.set k .dead++[.arr e size (xs++ys)]):=
 .eff fun C ok H a w U m=>by
  have z:=(Dt m).1;have I:=(Dt m).2;simp only at z I;have q:Cm ok w (.sl ys) (a.eval x):=by cases I with |d _ _ h=>exact h
  obtain⟨J,n,u⟩:=Yf H q j;obtain⟨v',w',H',Y,Z,r2,r3,r4⟩:=amJ (ty:=o.type) U hE L z n u j M O;refine⟨v',w',ok,H',.inl ?_,Z,r2,r3,r4⟩;simp[execOp,S,resolve,invoke,builtin,Y]
def aEy {C:DZ} {ok:Nat→Prop} {H:List BN} {w:World} (j:Bo C ok H es w) (e:TypeId) (size:Nat):
 Bo C ok (H++[⟨.slice none 0 0,size⟩]) (es++[.arr e size []]) w∧R ok w (H++[⟨.slice none 0 0,size⟩]) (.aP es.length) (.slice none 0 0):=by
 obtain⟨h,_⟩:=j.change (ok':=ok) (w':=w) (H':=H++[⟨.slice none 0 0,size⟩]) (es':=es++[.arr e size []]) (fun _=>False) rfl rfl rfl (Dn _) (fun _ _ _=>rfl) (fun _ h=>h.elim) (fun _ h=>h) (fun _ h=>.inl h) (Names.push _ _) (by simp[j.hlen]) (by
  intro k e' h' n f;rcases Tn n with m|⟨m,s⟩
  ·have q:k<H.length:=by rw[j.hlen];exact(Eb.1 m).1
   rw[FD q]at f;exact .inl ⟨m,f,fun _ _ _ h=>h⟩
  subst s;have q:k=H.length:=by rw[j.hlen];exact m
  subst q;simp at f;subst f
  exact .inr ⟨⟨rfl,BG,[],⟨BG,.inl ⟨rfl,rfl⟩⟩,Pg,fun i hi=>vw⟩,fun _ b u=>by simp[CQ]at u⟩)
 exact⟨h,.aP _ _ _ _ size (by rw[←j.hlen];simp)⟩
def Ch (e:TypeId) (size:Nat) (f:o.op=.assign (.const (.slice none 0 0))):BQ P o [] es (.aP es.length) (es++[.arr e size []]):=
 .eff fun C ok H a w h _=>by
  obtain⟨j,m⟩:=aEy h e size;exact⟨.slice none 0 0,w,ok,_,.inl aE4,.refl _ _,Names.push _ _,j,m⟩
def ahb (f:o.op=.assign (.const (.slice none 0 0))):BQ P o [] es (.d (.sl [])) es:=
 .pure fun _ _ a w _ _ _=>⟨.slice none 0 0,aE4,.d _ _ (.sl0 none 0)⟩
def anO (f:o.op=.move (.const (.slice none 0 0))):BQ P o [] es (.d (.sl [])) es:=
 .pure fun _ _ a w _ _ _=>⟨.slice none 0 0,aE4,.d _ _ (.sl0 none 0)⟩
end
def aaZ (off:Nat):∀(vs:List Value) (i:Nat) (cells:Array Value),off+i+vs.length≤cells.size→
 ((vs.zipIdx i).foldl (fun cs (p:Value×Nat)=>cs.setIfInBounds (off+p.2) p.1) cells).toList=setAt cells.toList (off+i) vs
 | [],i,cells,h=>by simp[setAt]
 |v::vs,i,cells,h=>by
  simp only[FQ]at h;rw[List.zipIdx_cons,GI];rw[aaZ off vs (i+1) _ Dp];simp only[aDO];have f:off+i<cells.toList.length:=Dp
  unfold setAt;rw[adQ,CG f];have j:(cells.toList.take (off+i)).length=off+i:=Dp
  have m:(List.take (off+i) cells.toList++v::List.drop (off+i+1) cells.toList).take (off+(i+1))=cells.toList.take (off+i)++[v]:=by
   rw[List.take_append,j,P6 AA];have :off+(i+1)-(off+i)=1:=AA
   rw[this];simp
  have n:(List.take (off+i) cells.toList++v::List.drop (off+i+1) cells.toList).drop (off+(i+1)+vs.length)=cells.toList.drop (off+i+(vs.length+1)):=by
   rw[List.drop_append,j,aAG AA];have :off+(i+1)+vs.length-(off+i)=vs.length+1:=AA
   rw[this];simp[aEm];congr 1;omega
  rw[m,n];simp
def Jp :List (Nat×Operand)→List AV→List (Operand×AV)
 |(_,x)::f,v::vs=>(x,v)::Jp f vs
 |_,_=>[]
def Ju (place:Nat→Option (Nat×Nat)) (n:Nat):List (Nat×Operand)→List AV→Bool
 |(i,_)::f,v::vs=>(match place i with |some (off,s)=>decide (v.cells.length=s)&&decide (off+s≤n)&&v.cells.all AV.leaf|none=>false)&&Ju place n f vs
 | [],[]=>true
 |_,_=>false
def Hq (place:Nat→Option (Nat×Nat)):List AV→List (Nat×Operand)→List AV→List AV
 |cs,(i,_)::f,v::vs=>Hq place (setAt cs ((place i).getD (0,0)).1 v.cells) f vs
 |cs,_,_=>cs
def Ed.setAt {ok:Nat→Prop} {w:World} {H:List BN} {cs ys:List AV} {vs us:List Value} {off:Nat} (h:Ed ok w H cs vs) (k:Ed ok w H ys us) (f:off+ys.length≤cs.length):Ed ok w H (setAt cs off ys) (setAt vs off us):=by
 refine⟨by rw[OX (by rw[h.1,k.1];exact f),OX f,h.1],fun i hi=>?_⟩;rw[OX f]at hi;rw[UY f,UY (by rw[h.1,k.1];exact f),k.1];split
 ·exact k.2 _ AA
 exact h.2 i hi
def gX {ok:Nat→Prop} {w:World} {H:List BN} {place:Nat→Option (Nat×Nat)} {a:Act}:∀(j:List (Nat×Operand)) (vs:List AV) (cs:List AV) (cells:Array Value),Ed ok w H cs cells.toList→Ju place cs.length j vs=true→
 (∀n∈Jp j vs,R ok w H n.2 (a.eval n.1))→∃f,Instr.fill place cells (j.map fun p=>(p.1,a.eval p.2))=some f∧Ed ok w H (Hq place cs j vs) f.toList
 | [],[],cs,cells,z,_,_=>⟨cells,rfl,z⟩
 | [],_::_,_,_,_,h,_=>by simp[Ju]at h
 |_::_,[],_,_,_,h,_=>by simp[Ju]at h
 |(i,x)::j,v::vs,cs,cells,z,h,L=>by
  simp only[Ju,Bv]at h;obtain⟨m,S⟩:=h;cases I:place i with
  |none=>rw[I]at m;cases m
  |some os=>
   obtain⟨off,s⟩:=os;rw[I]at m;simp only[Bv,FI]at m;obtain⟨⟨h3,h4⟩,U⟩:=m;have M:Ed ok w H v.cells (a.eval x).cells.toList:=(L (x,v) (by simp[Jp])).abd U;have Y:(a.eval x).cells.size=s:=by have :=M.1;simp at this;omega
   have O:cells.size=cs.length:=by simpa using z.1
   have q:((a.eval x).cells.zipIdx.foldl (fun cs (p:Value×Nat)=>cs.setIfInBounds (off+p.2) p.1) cells).toList=setAt cells.toList off (a.eval x).cells.toList:=by
    rw[←Array.foldl_toList,Array.toList_zipIdx];exact aaZ off (a.eval x).cells.toList 0 cells Dp
   have u:=z.setAt M (off:=off) AA;rw[←q]at u;obtain⟨f,Z,hR⟩:=gX j vs (setAt cs off v.cells) _ u (by rw[OX AA];exact S) (fun n J=>L n (by simp[Jp,J]));refine⟨f,?_,?_⟩
   ·simp only[J5,Instr.fill,I];rw[CV Dp];exact Z
   simp only[Hq,I,KF];exact hR
def O6 (z:Value) (n:Nat):List AV:=(List.range n).map fun k=>(EW z).getD (k % z.cells.size) .junk
def agX {ok:Nat→Prop} {w:World} {H:List BN} {z:Value} {n:Nat} (j:z.cells.all (·.oneCell')=true) (m:0<z.cells.size):Ed ok w H (O6 z n) (((Array.range n).map (z.cells[· % z.cells.size]!)).toList):=by
 refine⟨by simp[O6],fun i hi=>?_⟩;have f:i<n:=by simpa[O6]using hi
 have h:i % z.cells.size<z.cells.size:=YI _ m;have q:(O6 z n).getD i .junk=.d (Lp z.cells[i % z.cells.size]):=by simp[O6,EW,List.getD,f,h]
 have s:(((Array.range n).map (z.cells[· % z.cells.size]!)).toList).getD i undef=z.cells[i % z.cells.size]:=by simp[List.getD,f,h]
 rw[q,s];exact⟨l7 ((O7.1 j) _ BG),.d _ _ (YT _)⟩
def aEZ {ok:Nat→Prop} {w:World} {H:List BN} {z:Value} (f:z.cells.all (·.oneCell')=true):Ed ok w H (EW z) z.cells.toList:=by
 refine⟨by simp[EW],fun i hi=>?_⟩;simp only[EW,CB,PX]at hi;have h:(EW z).getD i .junk=.d (Lp z.cells[i]):=by simp[EW,List.getD,hi]
 have j:z.cells.toList.getD i undef=z.cells[i]:=Jc
 rw[h,j];exact⟨l7 ((O7.1 f) _ BG),.d _ _ (YT _)⟩
def aBk {P:Program} {w:World}:∀(l:List Field),(∀f∈l,(P.info? f.type).isSome=true)→
 (l.mapM fun f=>(do pure (f.offset,←sizeOf f.type):Sem (Nat×Nat))).run P w=.ok (l.map fun f=>(f.offset,P.cellsOf f.type)) w
 | [],_=>rfl
 |f::l,h=>by
  obtain⟨i,hi⟩:=Rq.1 (h f BG);have j:=aBk (P:=P) (w:=w) l (fun g m=>h g (by simp[m]));have n:(sizeOf f.type).run P w=.ok i.size w:=by simp[sizeOf,typeInfo,hi]
  have q:P.cellsOf f.type=i.size:=by simp[Program.cellsOf,hi]
  simp only[List.mapM_cons,ER,n,EX,Ep,j,J5,q]
structure GZ (P:Program) (t:TypeId) (places:List (Nat×Nat)) (z:Value):Prop where
 fields:∃fs,P.underlying t=some (.struct fs)∧(∀f∈fs.toList,(P.info? f.type).isSome=true)∧(fs.toList.map fun f=>(f.offset,P.cellsOf f.type))=places
 zero:(P.info? t).bind (·.zero)=some z
 one:z.cells.all (·.oneCell')=true
def aJz (P:Program) (t:TypeId) (h:List (Nat×Nat)):Bool:=
 match P.underlying t with
 |some (.struct j)=>j.toList.all (fun f=>(P.info? f.type).isSome)&&decide ((j.toList.map fun f=>(f.offset,P.cellsOf f.type))=h)
 |_=>false
def Ih {P:Program} {t:TypeId} {f:List (Nat×Nat)} {z:Value} (h:aJz P t f=true) (j:(P.info? t).bind (·.zero)=some z) (m:z.cells.all (·.oneCell')=true):GZ P t f z:=by
 unfold aJz at h;split at h
 ·rename_i n q;simp only[Bv,DV,FI]at h;exact⟨⟨n,q,h.1,h.2⟩,j,m⟩
 cases h
section
variable {P : Program} {o : Oper} {es : List Au}
def vY {t:TypeId} {z:Value} (h:(P.info? t).bind (·.zero)=some z) (w:World):(zeroValue t).run P w=.ok z w:=by
 obtain⟨i,hi,f⟩:=YK.1 h;simp[zeroValue,typeInfo,hi,f]
def aap {l:List AV} (h:l.all AV.wX=true):l=(GY l).map .d:=by
 rw[DV]at h;unfold GY;rw[lu]
 conv=>lhs;rw[←List.map_id l]
 refine List.map_congr_left fun x f=>?_;have :=h x f;cases x<;>first|rfl|(simp[AV.wX]at this)
def al2 {t:TypeId} {j:Array (Nat×Operand)} {h:List (Nat×Nat)} {z:Value} (O:GZ P t h z) (vs:List AV) (S:Ju (fun(i:Nat)=>h[i]?) (EW z).length j.toList vs=true) (U:o.op=.build t j):
 BQ P o (Jp j.toList vs) es (.ag (Hq (fun(i:Nat)=>h[i]?) (EW z) j.toList vs)) es:=
 .pure fun ok H a w _ _ Y=>by
  obtain⟨⟨L,Z,hf,q⟩,hz,h1⟩:=O;have s:=vY (P:=P) hz w;have u:(underlying t).run P w=.ok (.struct L) w:=aGH
  have hm:(L.mapM fun f=>(do pure (f.offset,←sizeOf f.type):Sem (Nat×Nat))).run P w=.ok h.toArray w:=by
   rw[aDm];rw[nZ,aBk _ hf,q];rfl
  obtain⟨m,hc,n⟩:=gX (place:=fun(i:Nat)=>h[i]?) j.toList vs (EW z) z.cells (aEZ (ok:=ok) (w:=w) (H:=H) h1) S Y;refine⟨.agg m,?_,.ag _ _ (by simpa using n.1) (fun i hi=>(n.2 i hi).1) (fun i hi=>?_)⟩
  rotate_left
  ·have M:=(n.2 i hi).2;have I:i<m.size:=by have :=n.1;simp at this;omega
   have J:m.toList.getD i undef=m.getD i undef:=by simp[List.getD,Array.getD,I]
   rw[J]at M;exact M
  have e:(j.map fun(i,x)=>(i,a.eval x)).toList=j.toList.map fun p=>(p.1,a.eval p.2):=BG
  have J:(fun(i:Nat)=>h.toArray[i]?)=(fun(i:Nat)=>h[i]?):=by funext i;simp
  simp only[execOp,U,Instr.build,ER,s,u,hm,EX];rw[e,J,hc];rfl
def ahw {t:TypeId} {m:Array (Nat×Operand)} {j:List (Nat×Nat)} {z:Value} (Z:GZ P t j z) (vs:List AV) (hp:Ju (fun(i:Nat)=>j[i]?) (EW z).length m.toList vs=true)
 (hd:(Hq (fun(i:Nat)=>j[i]?) (EW z) m.toList vs).all AV.wX=true) (ho:o.op=.build t m):
 BQ P o (Jp m.toList vs) es (.d (.agg (GY (Hq (fun(i:Nat)=>j[i]?) (EW z) m.toList vs)))) es:=
 .pure fun ok H a w _ _ hn=>by
  obtain⟨⟨S,hu,hf,q⟩,hz,h1⟩:=Z;have s:=vY (P:=P) hz w;have u:(underlying t).run P w=.ok (.struct S) w:=by simp[underlying,hu]
  have hm:(S.mapM fun f=>(do pure (f.offset,←sizeOf f.type):Sem (Nat×Nat))).run P w=.ok j.toArray w:=by
   rw[aDm];rw[nZ,aBk _ hf,q];rfl
  obtain⟨n,hc,I⟩:=gX (place:=fun(i:Nat)=>j[i]?) m.toList vs (EW z) z.cells (aEZ (ok:=ok) (w:=w) (H:=H) h1) hp hn;refine⟨.agg n,?_,.d _ _ ?_⟩
  ·have e:(m.map fun(i,x)=>(i,a.eval x)).toList=m.toList.map fun p=>(p.1,a.eval p.2):=BG
   have e2:(fun(i:Nat)=>j.toArray[i]?)=(fun(i:Nat)=>j[i]?):=by funext i;simp
   simp only[execOp,ho,Instr.build,ER,s,u,hm,EX];rw[e,e2,hc];rfl
  rw[aap hd]at I;generalize GY (Hq (fun(i:Nat)=>j[i]?) (EW z) m.toList vs)=xs at I ⊢;obtain⟨U,J⟩:=I;simp only[CB]at U J
  have Y:∀i,i<xs.length→(xs.map AV.d).getD i .junk=.d (xs.getD i Cb):=by
   intro i hi;simp[List.getD,hi]
  have L:n.size=xs.length:=dF
  refine .agg xs n L ?_ ?_<;>intro i hi
  ·have :=(J i hi).1;rw[Y i hi]at this;exact this
  have M:=(J i hi).2;rw[Y i hi]at M;have O:i<n.size:=AA
  have e:n.toList.getD i undef=n.getD i undef:=by simp[List.getD,Array.getD,O]
  rw[e]at M;cases M with |d _ _ h=>exact h
def aki {ok:Nat→Prop} {w:World} {H:List BN} {ys:List D} {size b:Nat} {cells:Array Value} {e:TypeId} {fr:Nat×Nat} (m:∀y∈ys,y.cells.length=size) (J:w.heap[b]? =some (.cells cells e fr)) (n:ok b) (q:Ed ok w H (flat ys) cells.toList):
 Cm ok w (.sl ys) (.slice (some ⟨b,0,none⟩) ys.length ys.length):=by
 have z:=OD m;have s:cells.size=ys.length*size:=by have :=q.1;simp at this;omega
 have L:∀i,i<ys.length→ys.getD i Cb∈ys:=fun i hi=>Jc
 have u:∀i j,i<ys.length→j<size→i*size+j<ys.length*size:=by
  intro i j hi f
  calc i*size+j<i*size+size:=AA
   _=(i+1)*size:=by rw[Ry]
   _≤ys.length*size:=Hg _ hi
 have I:∀i j,i<ys.length→j<size→w.cell? ⟨b,0+(i*size+j),none⟩=some (cells.toList.getD (i*size+j) undef):=by
  intro i j hi f;have :=u i j hi f;rw[Hz];simp[World.cell?,J,s,this,List.getD]
 refine .sl ys b 0 ys.length size (Dn _) (fun _ _=>n) (fun i hi=>m _ (L i hi)) (fun i hi j f=>?_) (fun i hi j f=>?_) (fun i hi j f=>?_)
 ·have :=(q.2 (i*size+j) (by rw[z];exact u i j hi f)).1;rw[flat_get m i j hi f]at this;exact this
 ·rw[I i j hi f];rfl
 have :=(q.2 (i*size+j) (by rw[z];exact u i j hi f)).2;rw[flat_get m i j hi f]at this;unfold cellAt;rw[I i j hi f];cases this with |d _ _ h=>exact h
def aJl {t e:TypeId} {size j len:Nat} {z:Value} (hE:Ez P t e size j) (Z:(P.info? e).bind (·.zero)=some z) (h1:z.cells.all (·.oneCell')=true) (L:z.cells.size=size) (hlen:len*size≤16777216) {f:Array (Nat×Operand)} {vs:List AV}
 (hp:Ju (fun i=>some (i*size,size)) (len*size) f.toList vs=true) {ok:Nat→Prop} {w:World} {H:List BN} {a:Act} (hn:∀n∈Jp f.toList vs,R ok w H n.2 (a.eval n.1)):
 ∃cells,(Instr.buildSlice t len (f.map fun(i,x)=>(i,a.eval x))).run P w=.ok (.slice (some ⟨w.heap.size,0,none⟩) len len) (w.alloc (.cells cells e))∧Ed ok w H (Hq (fun i=>some (i*size,size)) (O6 z (len*size)) f.toList vs) cells.toList:=by
 obtain⟨i,z',hi,_,hs,_,_⟩:=hE.info;have M:=vY (P:=P) Z w;have m:(sizeOf e).run P w=.ok size w:=aDI
 have q:(underlying t).run P w=.ok (.slice e) w:=aFh
 have Y:(f.map fun(i,x)=>(i,a.eval x)).toList=f.toList.map fun p=>(p.1,a.eval p.2):=BG
 have O:(O6 z (len*size)).length=len*size:=by simp[O6]
 have s:0<z.cells.size:=by rw[L];exact hE.pos
 obtain⟨h,S,hR⟩:=gX (place:=fun i=>some (i*size,size)) f.toList vs (O6 z (len*size)) _ (agX (ok:=ok) (w:=w) (H:=H) (n:=len*size) h1 s) (by rw[O];exact hp) hn;refine⟨h,?_,hR⟩;have u:¬(len*size>2^24):=AA
 by_cases I:len*size=0
 ·have U:(Array.range (len*size)).map (fun k=>(z.cells[k % z.cells.size]! :Value))= #[]:=by rw[I];simp
  rw[U]at S;have J:(Array.range (len*size)).map (fun k=>((#[]:Array Value)[k % (#[]:Array Value).size]! :Value))= #[]:=by rw[I];simp
  simp only[Instr.buildSlice,ER,q,EX,m,u,Ic,Sem.run_ite,I,Iu,Ep];simp only[I]at J;rw[J,Y,S];rfl
 simp only[Instr.buildSlice,ER,q,EX,m,u,Ic,Sem.run_ite,I,M,Ep];rw[Y,S];rfl
def apm {t e:TypeId} {size h len:Nat} {z:Value} (hE:Ez P t e size h) (u:(P.info? e).bind (·.zero)=some z) (I:z.cells.all (·.oneCell')=true) (n:z.cells.size=size) (hlen:len*size≤16777216) {f:Array (Nat×Operand)} (vs:List AV) (ys:List D)
 (J:Ju (fun i=>some (i*size,size)) (len*size) f.toList vs=true) (q:Hq (fun i=>some (i*size,size)) (O6 z (len*size)) f.toList vs=flat ys) (L:ys.length=len) (j:ys.all (fun y=>decide (y.cells.length=size))=true) (M:o.op=.buildSlice t len f):
 BQ P o (Jp f.toList vs) es (.d (.sl ys)) es:=
 .eff fun C ok H a w O S=>by
  obtain⟨cells,U,m⟩:=aJl hE u I n hlen J S;rw[q]at m;obtain⟨Y,s⟩:=O.fresh (.cells cells e);refine⟨.slice (some ⟨w.heap.size,0,none⟩) len len,_,_,H,.inl ?_,s,.refl _,Y,.d _ _ ?_⟩
  ·simp only[execOp,M,ER,U,EX,Ep]
  rw[←L];exact aki (H:=H) (fun y q=>by rw[DV]at j;simpa using j y q) (Y5 w _) (.inr rfl) (m.mono s (.refl _))
def ace {t e:TypeId} {size h len:Nat} {z:Value} (hE:Ez P t e size h) (S:(P.info? e).bind (·.zero)=some z) (U:z.cells.all (·.oneCell')=true) (I:z.cells.size=size) (hlen:len*size≤16777216) {f:Array (Nat×Operand)} (vs:List AV) (ys:List D)
 (Y:Ju (fun i=>some (i*size,size)) (len*size) f.toList vs=true) (J:Hq (fun i=>some (i*size,size)) (O6 z (len*size)) f.toList vs=flat ys) (L:ys.length=len) (m:ys.all (fun y=>decide (y.cells.length=size))=true) (Z:o.op=.buildSlice t len f):
 BQ P o (Jp f.toList vs) es (.aP es.length) (es++[.arr e size ys]):=
 .eff fun C ok H a w M hn=>by
  obtain⟨cells,hr,j⟩:=aJl hE S U I hlen Y hn;rw[J]at j;have n:∀y∈ys,y.cells.length=size:=fun y J=>by rw[DV]at m;simpa using m y J
  have hfl:=OD n;have q:cells.size=ys.length*size:=by have :=j.1;simp at this;omega
  have s:=hE.pos
  have O:ys.length≤16777216:=by
   have :ys.length*1≤ys.length*size:=Nat.mul_le_mul_left _ s;rw[L]at this ⊢;omega
  obtain⟨h2,h3⟩:=M.push (.cells cells e) ⟨.slice (some ⟨w.heap.size,0,none⟩) len len,size⟩ (.arr e size ys) (fun b u=>by simpa[CQ]using u.symm) (by
   refine⟨rfl,n,cells.toList,⟨Qw,.inr ⟨w.heap.size,len,cells,by rw[L],Dx _,Y5 w _,AA,wF,Zd (by rw[q,L]),?_⟩⟩,?_⟩
   ·rw[P6 Dp]
   exact j.mono (fun b u=>⟨u,Hl _ _ _ (M.jl b u)⟩) (Names.push _ _))
  refine⟨.slice (some ⟨w.heap.size,0,none⟩) len len,_,ok,_,.inl ?_,h3,Names.push _ _,h2,.aP _ _ _ _ size (by rw[←M.hlen];simp)⟩;simp only[execOp,Z,ER,hr,EX,Ep]
end
section
variable {P : Program} {ops : Array Oper} {Q : Exit → Act → World → Prop} {φ : Nat → Value → World → Prop} {W : World} {a0 : Act} {i : Nat}
variable {d : Option Tmp} {t : TypeId} {p : String} {af : Array Edge} {g : Option (Nat × Bool)}
def Enters (P:Program) (f:FuncId):Prop:=∀args w,(callFunc f args).run P w=.ok (.enter f args) w
def enters_of {f:FuncId} {fn:Func} {c:Code} (j:P.funcs[f]? =some fn) (h:(fn.name== "runtime.NumGoroutine")=false) (m:fn.body=some c):Enters P f:=by
 intro args w;have n:fn.name≠ "runtime.NumGoroutine" :=Hf
 simp[callFunc,j,n,m]
def DC (P:Program) (f:FuncId):Bool:=match P.funcs[f]? with
 |some fn=> !(fn.name== "runtime.NumGoroutine")&&fn.body.isSome
 |none=>false
def Py {f:FuncId} (h:DC P f=true):Enters P f:=by
 unfold DC at h;cases j:P.funcs[f]? with
 |none=>rw[j]at h;cases h
 |some fn=>
  rw[j]at h;simp only[Bv,QD]at h;obtain⟨c,m⟩:=Rq.1 h.2;exact enters_of j h.1 m
def jE {o:Oper} {a:Act} {f:FuncId} {ats:Array TypeId} {avx:Array Operand} (h:o.op=.call { callee:=.value (.func f),args:=avx,argTypes:=ats }):execOp a.eval o=callFunc f (avx.map a.eval):=by
 have j:a.eval (.func f)=.func (.func f) #[] #[]:=rfl;unfold execOp;simp[h,resolve,Deferred.ofValue,invoke,j]
end
inductive Cj where
 |ent (k:Nat)
 |nil (size:Nat)
def Cj.hd (H:List BN):Cj→BN
 | .ent k=>H.getD k ⟨undef,0⟩
 | .nil s=>⟨.slice none 0 0,s⟩
def AV.Oy (srcs:List Cj) (n:Nat):AV→AV
 | .d x=>.d x
 | .ptr k off=>match srcs[k]? with |some (.ent j)=>.ptr j off|some (.nil _)=>.junk|none=>.ptr (n+(k-srcs.length)) off
 | .aP k=>match srcs[k]? with |some (.ent j)=>.aP j|some (.nil _)=>.junk|none=>.aP (n+(k-srcs.length))
 | .jL k i off=>match srcs[k]? with |some (.ent j)=>.jL j i off|some (.nil _)=>.junk|none=>.jL (n+(k-srcs.length)) i off
 | .mp k=>match srcs[k]? with |some (.ent j)=>.mp j|some (.nil _)=>.junk|none=>.mp (n+(k-srcs.length))
 | .rZ k=>match srcs[k]? with |some (.ent j)=>.rZ j|some (.nil _)=>.junk|none=>.rZ (n+(k-srcs.length))
 | .clip xs=>.clip xs
 |_=>.junk
def AV.up (srcs:List Cj) (n:Nat):AV→AV
 | .dO xs=>.dO (xs.map (AV.Oy srcs n))
 | .fn f fi ca=>.fn f (fi.map (AV.Oy srcs n)) (ca.map (AV.Oy srcs n))
 |x=>x.Oy srcs n
def aCi (srcs:List Cj):AV→AV→Prop
 | .d x,y=>y=.d x
 | .ptr k off,y=>∃i,y=.ptr i off∧srcs[i]? =some (.ent k)
 | .mp k,y=>∃i,y=.mp i∧srcs[i]? =some (.ent k)
 |_,_=>False
def iU (srcs:List Cj):List AV→List AV→Prop
 |x::xs,y::ys=>aCi srcs x y∧iU srcs xs ys
 | [],[]=>True
 |_,_=>False
def dc {srcs:List Cj}:∀{xs ys:List AV},iU srcs xs ys→xs.length=ys.length
 | [],[],_=>rfl
 |_::xs,_::ys,h=>by simp[dc h.2]
 | [],_::_,h=>h.elim
 |_::_,[],h=>h.elim
def aAv {srcs:List Cj}:∀{xs ys:List AV},iU srcs xs ys→∀i,i<ys.length→aCi srcs (xs.getD i .junk) (ys.getD i .junk)
 | [],[],_,i,hi=>KP
 |_::xs,_::ys,h,0,_=>by simpa using h.1
 |_::xs,_::ys,h,i+1,hi=>by simpa using aAv h.2 i Ey
 | [],_::_,h,_,_=>h.elim
 |_::_,[],h,_,_=>h.elim
def aej (srcs:List Cj):AV→AV→Prop
 | .fn f fi ca,y=>∃h j,y=.fn f h j∧iU srcs fi h∧iU srcs ca j
 | .d x,y=>y=.d x∨(∃i s,x=.lit (.slice none 0 0)∧y=.aP i∧srcs[i]? =some (.nil s))∨(x=.lit (.slice none 0 0)∧y=.d (.sl []))
 | .aP k,y=>∃i,y=.aP i∧srcs[i]? =some (.ent k)
 | .ptr k off,y=>∃i,y=.ptr i off∧srcs[i]? =some (.ent k)
 | .mp k,y=>∃i,y=.mp i∧srcs[i]? =some (.ent k)
 |_,_=>False
def Au.closed:Au→Bool
 | .box cs=>cs.all AV.wX
 | .loop .. =>false
 |_=>true
def Dy.any {ok:Nat→Prop} {w:World} {H H2:List BN} {h:BN} {e:Au} (j:Dy ok w H h e) (q:e.closed=true):Dy ok w H2 h e:=by
 cases e with
 |dead=>trivial
 |box cs=>
  obtain⟨b,vs,T,u,z,I,n⟩:=j;refine⟨b,vs,T,u,z,I,fun i hi=>⟨(n i hi).1,?_⟩⟩;have m:=(n i hi).2;simp only[Au.closed,DV]at q;have f:=q (cs.getD i .junk) Jc;cases L:cs.getD i .junk with
  |d x=>rw[L]at m;cases m with |d _ _ h=>exact .d _ _ h
  |_=>rw[L]at f;simp[AV.wX]at f
 |arr e s es=>
  obtain⟨u,z,xs,I,n,m⟩:=j;refine⟨u,z,xs,I,n,fun i hi=>⟨(m i hi).1,?_⟩⟩;have f:=(m i hi).2;have J:(flat es).getD i .junk∈flat es:=Jc
  unfold flat at J ⊢;simp only[Qn,FM]at J;obtain⟨x,_,y,_,M⟩:=J;unfold flat at f;rw[←M]at f ⊢;cases f with |d _ _ h=>exact .d _ _ h
 |map es=>exact j
 |aU es=>exact j
 |iter es vis=>exact j
 |loop=>cases q
def Au.up (srcs:List Cj) (n:Nat):Au→Au
 | .box cs=>.box (cs.map (AV.Oy srcs n))
 |e=>e
def AV.aho (srcs:List Cj):AV→Bool
 | .d _=>true
 | .mp k=>match srcs[k]? with |some (.ent _)=>true|_=>false
 | .ptr k _=>match srcs[k]? with |some (.ent _)=>true|_=>false
 |_=>false
def Au.adC (srcs:List Cj):Au→Bool
 | .box cs=>cs.all (AV.aho srcs)
 | .loop .. =>false
 |_=>true
def Au.aeY (srcs:List Cj) (n:Nat):Au→Bool
 | .box cs=>cs.all fun x=>x.wX||(x.Oy srcs n).leaf
 | .loop .. =>false
 |_=>true
def Au.Xa (srcs:List Cj) (n:Nat) (e:Au):(e.up srcs n).live=e.live:=by cases e<;>rfl
def afo {srcs:List Cj} {n:Nat} {x:AV} (h:x.wX=true):x.Oy srcs n=x:=by cases x<;>first|rfl|cases h
def Au.amR {srcs:List Cj} {n:Nat} {e:Au} (h:e.closed=true):e.up srcs n=e:=by
 cases e with
 |box cs=>
  simp only[Au.closed,DV]at h;show Au.box (cs.map (AV.Oy srcs n))=Au.box cs
  rw[show cs.map (AV.Oy srcs n)=cs from by
   conv=>rhs;rw[←List.map_id cs]
   exact List.map_congr_left fun x f=>afo (h x f)]
 |_=>rfl
def aHX {srcs:List Cj} {n:Nat}:∀{E:List Au},E.all Au.closed=true→E.map (Au.up srcs n)=E
 | [],_=>rfl
 |e::E,h=>by
  simp only[List.all_cons,Bv]at h;rw[J5,Au.amR h.1,aHX h.2]
def akL {srcs:List Cj} {n:Nat} {e:Au} (h:e.closed=true):e.aeY srcs n=true:=by
 cases e with
 |box cs=>
  simp only[Au.closed,Au.aeY,DV]at h ⊢;intro x f;rw[h x f];rfl
 |loop=>cases h
 |_=>rfl
def Dy.down {ok:Nat→Prop} {w:World} {H Hc:List BN} {h:BN} {srcs:List Cj} {n:Nat} {e:Au} (J:∀(j:Nat) (s:Cj),srcs[j]? =some s→Hc[j]? =some (Cj.hd H s)) (hd:e.adC srcs=true) (u:Dy ok w H h (e.up srcs n)):Dy ok w Hc h e:=by
 cases e with
 |dead=>trivial
 |arr=>exact u.any rfl
 |map=>exact u
 |aU=>exact u
 |iter=>exact u
 |loop=>cases hd
 |box cs=>
  obtain⟨b,vs,T,L,M,O,S⟩:=u;refine⟨b,vs,T,L,M,by rw[O,CB],fun i hi=>?_⟩;obtain⟨z,m⟩:=S i aCR;rw[Qs _ _ _ hi]at m z;simp only[Au.adC,DV]at hd;have f:=hd (cs.getD i .junk) Jc;generalize cs.getD i .junk=x at m f z ⊢;generalize vs.toList.getD i undef=v at m ⊢;cases x with
  |d x=>exact⟨z,by cases m with |d _ _ h=>exact .d _ _ h⟩
  |mp k=>
   refine⟨rfl,?_⟩;simp only[AV.aho]at f;simp only[AV.Oy]at m;cases q:srcs[k]? with
   |none=>rw[q]at f;cases f
   |some s=>
    cases s with
    |nil _=>rw[q]at f;cases f
    |ent j=>
     rw[q]at m;cases m with
     |mp _ _ s U I=>
      refine .mp k _ s U ?_;rw[J k _ q];simp[Cj.hd,List.getD,I]
  |ptr k off=>
   refine⟨rfl,?_⟩;simp only[AV.aho]at f;simp only[AV.Oy]at m;cases q:srcs[k]? with
   |none=>rw[q]at f;cases f
   |some s=>
    cases s with
    |nil _=>rw[q]at f;cases f
    |ent j=>
     rw[q]at m;cases m with
     |ptr _ _ b s I=>
      refine .ptr k off b s ?_;rw[J k _ q];simp[Cj.hd,List.getD,I]
  |_=>simp[AV.aho]at f
def Iq (srcs:List Cj) (es E':List Au):List Au:=
 (es.zipIdx.map fun(e,j)=>match srcs.findIdx? (fun s=>match s with | .ent k=>k==j| .nil _=>false)with |some i=>(E'.getD i .dead).up srcs es.length|none=>e)++(E'.drop srcs.length).map (Au.up srcs es.length)
def Oj (srcs:List Cj) (es E E':List Au):Bool:=
 decide (srcs.length=E.length)&&decide (srcs.length≤E'.length)&&E.all (Au.adC srcs)&&E'.all (Au.aeY srcs es.length)&&
 decide ((srcs.filterMap fun s=>match s with | .ent k=>some k| .nil _=>none).Nodup)&&
 ((srcs.zip E').all fun p=>match p.1 with | .ent _=>true| .nil _=> !p.2.live)&&(srcs.all fun s=>match s with | .ent k=>decide (k<es.length)&&(es.getD k .dead).live| .nil _=>true)
def jf (srcs:List Cj) (es:List Au):List Au→Prop
 |E=>∀(i:Nat) (s:Cj),srcs[i]? =some s→match s with | .ent k=>(E[i]?).map (Au.up srcs es.length)=es[k]? | .nil sz=>∃e,E[i]? =some (.arr e sz [])
def SE {ok:Nat→Prop} {w:World} {H Hc H':List BN} {srcs:List Cj} {x:AV} {v:Value} (S:Hc=srcs.map (Cj.hd H)) (J:∀(i k:Nat),srcs[i]? =some (.ent k)→k<H.length) (U:Names Hc H') (h:R ok w H' x v):R ok w (H++H'.drop srcs.length) (x.Oy srcs H.length) v:=by
 have key:∀(k:Nat) (hd:BN),H'[k]? =some hd→(∀(j:Nat),srcs[k]? =some (.ent j)→(H++H'.drop srcs.length)[j]? =some hd)∧(srcs[k]? =none→(H++H'.drop srcs.length)[H.length+(k-srcs.length)]? =some hd):=by
  intro k hd M;refine⟨fun j O=>?_,fun L=>?_⟩
  ·have z:=J k j O;have u:Hc[k]? =some (H.getD j ⟨undef,0⟩):=by rw[S,Gt,O];rfl
   have q:=U _ _ u;rw[M]at q;rw[FD z];simp[List.getD,z]at q;simp[z,q]
  have Y:srcs.length≤k:=pU
  rw[Ho AA,ND];have :srcs.length+(H.length+(k-srcs.length)-H.length)=k:=AA
  rw[this,M]
 cases h with
 |d x v h=>exact .d x v h
 |ptr k off b s h=>
  obtain⟨u,q⟩:=key k _ h;simp only[AV.Oy];split<;>rename_i m
  ·exact .ptr _ off b s (u _ m)
  ·exact .junk _
  exact .ptr _ off b s (q m)
 |aP k ad n cap s h=>
  obtain⟨u,q⟩:=key k _ h;simp only[AV.Oy];split<;>rename_i m
  ·exact .aP _ ad n cap s (u _ m)
  ·exact .junk _
  exact .aP _ ad n cap s (q m)
 |jL k i off b n cap s h=>
  obtain⟨u,q⟩:=key k _ h;simp only[AV.Oy];split<;>rename_i m
  ·exact .jL _ i off b n cap s (u _ m)
  ·exact .junk _
  exact .jL _ i off b n cap s (q m)
 |mp k v s I h=>
  obtain⟨u,q⟩:=key k _ h;simp only[AV.Oy];split<;>rename_i m
  ·exact .mp _ v s I (u _ m)
  ·exact .junk _
  exact .mp _ v s I (q m)
 |clip xs ad h=>exact .clip xs ad h
 |rZ k ad n cap s h=>
  obtain⟨u,q⟩:=key k _ h;simp only[AV.Oy];split<;>rename_i m
  ·exact .rZ _ ad n cap s (u _ m)
  ·exact .junk _
  exact .rZ _ ad n cap s (q m)
 |fn f first cap vs us I Z h h'=>exact .junk _
 |dO xs vs I h=>exact .junk _
 |ag xs vs I hf h=>exact .junk _
 |junk v=>exact .junk _
def aHf {ok:Nat→Prop} {w:World} {H Hc H':List BN} {srcs:List Cj} {x:AV} {v:Value} (m:Hc=srcs.map (Cj.hd H)) (j:∀(i k:Nat),srcs[i]? =some (.ent k)→k<H.length) (q:Names Hc H') (h:R ok w H' x v):R ok w (H++H'.drop srcs.length) (x.up srcs H.length) v:=by
 cases h with
 |dO xs vs u h=>exact .dO _ vs Xq (fun i hi=>aJk)
 |ag xs vs u I h=>exact .junk _
 |d x v h=>exact SE m j q (.d x v h)
 |ptr k off b s h=>exact SE m j q (.ptr k off b s h)
 |aP k ad n cap s h=>exact SE m j q (.aP k ad n cap s h)
 |jL k i off b n cap s h=>exact SE m j q (.jL k i off b n cap s h)
 |mp k v s u h=>exact SE m j q (.mp k v s u h)
 |clip xs ad h=>exact SE m j q (.clip xs ad h)
 |rZ k ad n cap s h=>exact SE m j q (.rZ k ad n cap s h)
 |fn f first cap vs us u z h h'=>exact .fn f _ _ vs us Xq (by simp[z]) (fun i hi=>aJk) (fun i hi=>by rw[CB]at hi;rw[Qs _ _ _ hi];exact SE m j q (h' i hi))
 |junk v=>exact .junk _
def Dy.upw {ok:Nat→Prop} {w:World} {H Hc H':List BN} {h:BN} {srcs:List Cj} {n:Nat} {e:Au} (s:Hc=srcs.map (Cj.hd H)) (m:∀(i k:Nat),srcs[i]? =some (.ent k)→k<H.length) (u:Names Hc H') (z:H.length=n) (q:e.aeY srcs n=true) (f:Dy ok w H' h e):
 Dy ok w (H++H'.drop srcs.length) h (e.up srcs n):=by
 cases e with
 |dead=>trivial
 |arr=>exact f.any rfl
 |map=>exact f
 |aU=>exact f
 |iter=>exact f
 |loop=>cases q
 |box cs=>
  obtain⟨b,vs,T,I,J,L,M⟩:=f;refine⟨b,vs,T,I,J,by rw[L,CB],fun i hi=>?_⟩;rw[CB]at hi;obtain⟨O,S⟩:=M i hi;simp only[Au.aeY,DV]at q;have j:=q (cs.getD i .junk) Jc;rw[Qs _ _ _ hi];refine⟨?_,by have :=SE s m u S;rwa [z]at this⟩;rcases Bool.or_eq_true_iff.1 j with j|j
  ·rw[afo j];exact O
  exact j
def EM :List Operand→List AV→List (Operand×AV)
 |x::xs,v::vs=>(x,v)::EM xs vs
 |_,_=>[]
def Jh (srcs:List Cj):List AV→List AV→Prop
 |x::xs,y::ys=>aej srcs x y∧Jh srcs xs ys
 | [],[]=>True
 |_,_=>False
def afV {srcs:List Cj}:∀{xs ys:List AV},Jh srcs xs ys→xs.length=ys.length
 | [],[],_=>rfl
 |_::xs,_::ys,h=>by simp[afV h.2]
 | [],_::_,h=>h.elim
 |_::_,[],h=>h.elim
def agV {srcs:List Cj} {ops:List Operand}:∀{xs ys:List AV},ops.length=xs.length→Jh srcs xs ys→∀i,i<ys.length→∃o x,ops[i]? =some o∧(o,x)∈EM ops xs∧aej srcs x (ys.getD i .junk):=by
 induction ops with
 |nil=>
  intro xs ys f h i hi;cases xs with
  |nil=>cases ys with |nil=>simp at hi|cons _ _=>exact h.elim
  |cons _ _=>simp at f
 |cons o ops j=>
  intro xs ys f h i hi;cases xs with
  |nil=>simp at f
  |cons x xs=>
   cases ys with
   |nil=>exact h.elim
   |cons y ys=>
    cases i with
    |zero=>exact⟨o,x,rfl,by simp[EM],h.1⟩
    |succ i=>
     obtain⟨m,n,q,s,u⟩:=j L9 h.2 i Ey;exact⟨m,n,Qw,by simp[EM,s],Oe⟩
def apK {srcs:List Cj} {H:List BN} {b:Nat}:b∈(srcs.filterMap fun s=>match s with | .ent k=>CQ (H.getD k ⟨undef,0⟩).v| .nil _=>none)↔∃k,.ent k∈srcs∧CQ (H.getD k ⟨undef,0⟩).v=some b:=by
 rw[Ph];constructor
 ·rintro⟨s,f,h⟩;cases s with
  |ent k=>exact⟨k,f,h⟩
  |nil _=>cases h
 rintro⟨k,f,h⟩;exact⟨_,f,h⟩
section
variable {P : Program} {o : Oper} {es : List Au}
def aHr :∀{srcs:List Cj},(srcs.filterMap fun s=>match s with | .ent k=>some k| .nil _=>none).Nodup→∀(i j k:Nat),srcs[i]? =some (.ent k)→srcs[j]? =some (.ent k)→i=j
 | [],_,i,j,k,h,_=>Fq
 |s::srcs,m,i,j,k,hi,q=>by
  have f:∀(n:Nat),srcs[n]? =some (.ent k)→k∈srcs.filterMap fun s=>match s with | .ent k=>some k| .nil _=>none:=fun n h=>by
   rw[Ph];exact⟨_,TT h,rfl⟩
  have u:(srcs.filterMap fun s=>match s with | .ent k=>some k| .nil _=>none).Nodup:=by
   cases s with
   |ent k'=>simp only[P5]at m;exact(KD.1 m).2
   |nil _=>simpa only[P5]using m
  match i,j with
  |0,0=>rfl
  |0,j+1=>
   simp at hi q;subst hi;simp only[P5]at m;exact absurd (f j q) (KD.1 m).1
  |i+1,0=>
   simp at hi q;subst q;simp only[P5]at m;exact absurd (f i hi) (KD.1 m).1
  |i+1,j+1=>rw[aHr u i j k Ey Qw]
def aHu {f:FuncId} {C:DZ} {ok:Nat→Prop} {H:List BN} {w:World} (Y:Bo C ok H es w) (srcs:List Cj) {dH fG:List AV} {E E':List Au} {res:AV} (hr:Aw P f fG E res E')
 (hb:Oj srcs es E E'=true) (hE:jf srcs es E) (ha:Jh srcs dH fG) {ops:List Operand} (hl:ops.length=dH.length) {a:Act} (hn:∀n∈EM ops dH,R ok w H n.2 (a.eval n.1)):
 Calls P f (ops.map a.eval).toArray w fun e w'=>∃v ok' H',e=.returned v∧Df ok w ok' w'∧Names H H'∧Bo C ok' H' (Iq srcs es E') w'∧R ok' w' H' (res.up srcs es.length) v:=by
 unfold Oj at hb;simp only[Bv,FI,DV]at hb;obtain⟨⟨⟨⟨⟨⟨hb1,hb2⟩,hb3⟩,hb4⟩,hb5⟩,hb6⟩,hb7⟩:=hb;have hidx:=aHr hb5
 let Hc:=srcs.map (Cj.hd H)
 let X:=srcs.filterMap fun s=>match s with | .ent k=>CQ (H.getD k ⟨undef,0⟩).v| .nil _=>none
 have hX:∀b,b∈X↔∃k,.ent k∈srcs∧CQ (H.getD k ⟨undef,0⟩).v=some b:=fun b=>apK
 have S:∀(i k:Nat),srcs[i]? =some (.ent k)→k<es.length∧(es.getD k .dead).live=true:=by
  intro i k hi;have :=hb7 _ (TT hi);simpa using this
 have hlt:∀(i k:Nat),srcs[i]? =some (.ent k)→k<H.length:=fun i k hi=>by rw[Y.hlen];exact(S i k hi).1
 have hHk:∀(k:Nat),k<H.length→H[k]? =some (H.getD k ⟨undef,0⟩):=fun k hk=>by simp[List.getD,hk]
 have aeZ:∀(k:Nat),k<es.length→es[k]? =some (es.getD k .dead):=fun k hk=>by simp[List.getD,hk]
 have L:∀b,b∈X→∃(i k:Nat),srcs[i]? =some (.ent k)∧CQ (H.getD k ⟨undef,0⟩).v=some b∧¬ok b∧b<w.heap.size∧(C.w0.heap.size≤b∨b∈C.X):=by
  intro b hb;obtain⟨k,hk,hbk⟩:=(hX b).1 hb;obtain⟨i,hi,M⟩:=Gv hk;have hi':srcs[i]? =some (.ent k):=by simp[hi,M]
  have :=Y.blk k _ _ b (aeZ k (S i k hi').1) (S i k hi').2 (hHk k (hlt i k hi')) hbk;exact⟨i,k,hi',hbk,this⟩
 have hmc:Bo ⟨w,ok,X,Hc⟩ ok Hc E w:=by
  refine⟨.refl _ _,fun _ h=>h,fun _ h=>.inl h,Y.jl,.refl _,by simp[Hc,hb1],?_,?_,?_⟩
  ·intro i e h M I;have hi:i<srcs.length:=aGS
   have hcl:e.adC srcs=true:=hb3 e (TT M);have auw:∀(j:Nat) (s:Cj),srcs[j]? =some s→Hc[j]? =some (Cj.hd H s):=fun j s m=>by simp[Hc,m]
   have m:srcs[i]? =some srcs[i]:=Nz
   have hd:=hE i _ m;simp only[Hc,Gt,m,GN,Io]at I;cases hsi:srcs[i]with
   |ent k=>
    rw[hsi]at hd I m;simp only[Cj.hd]at I;subst I;simp only at hd;rw[M,GN]at hd;exact Dy.down auw hcl (Y.ent k _ _ hd.symm (hHk k (hlt i k m)))
   |nil sz=>
    rw[hsi]at hd I;simp only[Cj.hd]at I;subst I;obtain⟨e',he'⟩:=hd;rw[M]at he';obtain rfl:=Bl he';exact⟨rfl,BG,[],⟨BG,.inl ⟨rfl,rfl⟩⟩,Pg,fun i hi=>vw⟩
  ·intro i e h b M J I z;have hi:i<srcs.length:=aGS
   have m:srcs[i]? =some srcs[i]:=Nz
   simp only[Hc,Gt,m,GN,Io]at I;cases hsi:srcs[i]with
   |ent k=>
    rw[hsi]at I m;simp only[Cj.hd]at I;subst I;have hbX:b∈X:=(hX b).2 ⟨k,TT m,z⟩;obtain⟨_,_,_,_,O,U,_⟩:=L b hbX;exact⟨O,U,.inr hbX⟩
   |nil sz=>
    rw[hsi]at I;simp only[Cj.hd]at I;subst I;simp[CQ]at z
  intro i j e e' h h' b M he' J Z I hh' z acB;have hi:i<srcs.length:=aGS
  have hj:j<srcs.length:=by rw[hb1];exact(Eb.1 he').1
  have m:srcs[i]? =some srcs[i]:=Nz
  have hs':srcs[j]? =some srcs[j]:=by simp[hj]
  simp only[Hc,Gt,m,GN,Io]at I;simp only[Hc,Gt,hs',GN,Io]at hh';cases hsi:srcs[i]with
  |nil sz=>rw[hsi]at I;simp only[Cj.hd]at I;subst I;simp[CQ]at z
  |ent k=>
   cases hsj:srcs[j]with
   |nil sz=>rw[hsj]at hh';simp only[Cj.hd]at hh';subst hh';simp[CQ]at acB
   |ent k'=>
    rw[hsi]at I m;rw[hsj]at hh' hs';simp only[Cj.hd]at I hh';subst I;subst hh';have hkk:=Y.Az k k' _ _ _ _ b (aeZ k (S i k m).1) (aeZ k' (S j k' hs').1) (S i k m).2 (S j k' hs').2 (hHk k (hlt i k m)) (hHk k' (hlt j k' hs')) z acB;subst hkk;exact hidx i j k m hs'
 have hargs:∀i,i<fG.length→R ok w Hc (fG.getD i .junk) ((ops.map a.eval).toArray.getD i undef):=by
  intro i hi;obtain⟨op,x,ho,hmem,harg⟩:=agV hl ha i hi;have hR:=hn _ hmem
  have e:(ops.map a.eval).toArray.getD i undef=a.eval op:=by
   obtain⟨O,U⟩:=Eb.1 ho;simp[Array.getD,O,U]
  rw[e];simp only at hR;generalize fG.getD i .junk=y at harg ⊢;generalize a.eval op=u at hR ⊢;have hHc:∀(j:Nat) (s:Cj),srcs[j]? =some s→Hc[j]? =some (Cj.hd H s):=fun j s m=>by simp[Hc,m]
  cases x with
  |d x=>
   rcases harg with rfl|⟨j,s,rfl,rfl,m⟩|⟨rfl,rfl⟩
   ·cases hR with |d _ _ h=>exact .d _ _ h
   ·have :=hR.lit;rw[this];exact .aP j none 0 0 s (hHc j _ m)
   have :=hR.lit;rw[this];exact .d _ _ (.sl0 none 0)
  |aP k=>
   obtain⟨j,rfl,m⟩:=harg;cases hR with
   |aP _ ad n cap s hH=>
    refine .aP j ad n cap s ?_;rw[hHc j _ m];simp[Cj.hd,List.getD,hH]
  |ptr k off=>
   obtain⟨j,rfl,m⟩:=harg;cases hR with
   |ptr _ _ b s hH=>
    refine .ptr j off b s ?_;rw[hHc j _ m];simp[Cj.hd,List.getD,hH]
  |mp k=>
   obtain⟨j,rfl,m⟩:=harg;cases hR with
   |mp _ _ s hl hH=>
    refine .mp j _ s hl ?_;rw[hHc j _ m];simp[Cj.hd,List.getD,hH]
  |fn f fi ca=>
   obtain⟨fi',ca',rfl,O,U⟩:=harg
   have one:∀(x y:AV) (v:Value),aCi srcs x y→R ok w H x v→R ok w Hc y v:=by
    intro x y v hxy hx;cases x with
    |d x=>obtain rfl:=hxy;cases hx with |d _ _ h=>exact .d _ _ h
    |mp k=>
     obtain⟨j,rfl,m⟩:=hxy;cases hx with
     |mp _ _ s hl hH=>
      refine .mp j _ s hl ?_;rw[hHc j _ m];simp[Cj.hd,List.getD,hH]
    |ptr k off=>
     obtain⟨j,rfl,m⟩:=hxy;cases hx with
     |ptr _ _ b s hH=>
      refine .ptr j off b s ?_;rw[hHc j _ m];simp[Cj.hd,List.getD,hH]
    |_=>exact hxy.elim
   cases hR with
   |fn _ _ _ vs us hl1 hl2 h3 h4=>
    refine .fn f fi' ca' vs us (by rw[hl1,dc O]) (by rw[hl2,dc U]) (fun i hi=>?_) (fun i hi=>?_)
    ·exact one _ _ _ (aAv O i hi) (h3 i (by rw[dc O];exact hi))
    exact one _ _ _ (aAv U i hi) (h4 i (by rw[dc U];exact hi))
  |_=>exact harg.elim
 refine(hr ok X Hc w _ hmc (by simp[hl,afV ha]) hargs).mono ?_;rintro e w' ⟨v,ok',H',rfl,q,hR⟩;have hgr:Df ok w ok' w':=fun b hb=>⟨q.uD b hb,q.fr.block b (Y.jl b hb) (fun hbX=>by obtain⟨_,_,_,_,O,_⟩:=L b hbX;exact O hb)⟩
 have avm:srcs.length≤H'.length:=by rw[q.hlen];exact hb2
 refine⟨v,ok',H++H'.drop srcs.length,rfl,hgr,Names.push _ _,?_,by have :=aHf rfl hlt q.names hR;rwa [Y.hlen]at this⟩
 let idx:Nat→Option Nat:=fun j=>srcs.findIdx? (fun s=>match s with | .ent k=>k==j| .nil _=>false)
 have atq:∀(j i:Nat),idx j=some i→srcs[i]? =some (.ent j):=by
  intro j i h;simp only[idx,aIQ]at h;obtain⟨O,U,_⟩:=h;have :srcs[i]? =some srcs[i]:=by simp[O]
  cases m:srcs[i]with
  |ent k=>rw[m]at U this;simp at U;rw[this,U]
  |nil _=>rw[m]at U;simp at U
 have atr:∀(j:Nat),idx j=none→∀(i:Nat),srcs[i]? ≠some (.ent j):=by
  intro j h i hi;simp only[idx,List.findIdx?_eq_none_iff]at h;have :=h _ (TT hi);simp at this
 have hlow:∀(j:Nat),j<es.length→(Iq srcs es E')[j]? =some (match idx j with |some i=>(E'.getD i .dead).up srcs es.length|none=>es.getD j .dead):=by
  intro j hj;unfold Iq;rw[FD (by simpa using hj)];simp only[Gt,List.getElem?_zipIdx,aeZ j hj,GN,Hz];rfl
 have asb:(Iq srcs es E').length=es.length+(E'.length-srcs.length):=by simp[Iq]
 have hhigh:∀(j:Nat),es.length≤j→(Iq srcs es E')[j]? =(E'[srcs.length+(j-es.length)]?).map (Au.up srcs es.length):=by
  intro j hj;unfold Iq;rw[Ho (by simpa using hj),Gt,ND];simp
 have att:∀(j:Nat),j<es.length→(H++H'.drop srcs.length)[j]? =H[j]? :=fun j hj=>FD (by rw[Y.hlen];exact hj)
 have asc:∀(j:Nat),es.length≤j→(H++H'.drop srcs.length)[j]? =H'[srcs.length+(j-es.length)]? :=by
  intro j hj;rw[Ho (by rw[Y.hlen];exact hj),ND,Y.hlen]
 have hcls:∀(j:Nat) (e:Au) (h:BN),(Iq srcs es E')[j]? =some e→e.live=true∨True→(H++H'.drop srcs.length)[j]? =some h→
  (∃(i:Nat) (e0:Au),e=e0.up srcs es.length∧E'[i]? =some e0∧H'[i]? =some h∧((j<es.length∧srcs[i]? =some (.ent j))∨(es.length≤j∧i=srcs.length+(j-es.length))))∨(j<es.length∧es[j]? =some e∧H[j]? =some h∧∀(i:Nat),srcs[i]? ≠some (.ent j)):=by
  intro j e h M _ I;by_cases hj:j<es.length
  ·rw[hlow j hj]at M;rw[att j hj]at I;cases hi:idx j with
   |none=>
    rw[hi]at M;simp only[Io]at M;exact .inr ⟨hj,by rw[aeZ j hj,M],I,atr j hi⟩
   |some i=>
    rw[hi]at M;simp only[Io]at M;have m:=atq j i hi;have hil:i<srcs.length:=(Eb.1 m).1;have hiE:i<E'.length:=AA
    refine .inl ⟨i,_,M.symm,by simp[List.getD,hiE],?_,.inl ⟨hj,m⟩⟩;refine q.names i h ?_;simp only[Hc,Gt,m,GN,Cj.hd];simp[List.getD,I]
  rw[hhigh j AA]at M;rw[asc j AA]at I;rw[Qq]at M;obtain⟨e0,M,rfl⟩:=M;exact .inl ⟨_,_,rfl,M,I,.inr ⟨AA,rfl⟩⟩
 have hold:∀(j:Nat) (e:Au) (h:BN) (b:Nat),es[j]? =some e→H[j]? =some h→(∀(i:Nat),srcs[i]? ≠some (.ent j))→e.live=true→CQ h.v=some b→b<w.heap.size∧b∉X∧¬ok b∧(C.w0.heap.size≤b∨b∈C.X):=by
  intro j e h b M I hno J z;have O:=Y.blk j e h b M J I z;refine⟨O.2.1,fun hbX=>?_,O.1,O.2.2⟩;obtain⟨i,k,m,hbk,_⟩:=L b hbX;have :=Y.Az j k e _ h _ b M (aeZ k (S i k m).1) J (S i k m).2 I (hHk k (hlt i k m)) z hbk;subst this;exact hno i m
 have ae0:∀(i:Nat) (e:Au) (h:BN) (b:Nat),E'[i]? =some e→H'[i]? =some h→e.live=true→CQ h.v=some b→¬ok' b∧b<w'.heap.size∧(w.heap.size≤b∨b∈X):=fun i e h b M I J z=>q.blk i e h b M J I z;refine⟨⟨q.fr.os.trans Y.fr.os,q.fr.tape.trans Y.fr.tape,q.fr.output.trans Y.fr.output,E5 Y.fr.size q.fr.size,fun k hk hx=>?_⟩,fun b hb=>q.uD b (Y.uD b hb),?_,q.jl,Y.names.trans (Names.push _ _),?_,?_,?_,?_⟩
 ·have hkw:k<w.heap.size:=U7 hk Y.fr.size
  rw[q.fr.block k hkw (fun hkX=>by
   obtain⟨_,_,_,_,_,_,h⟩:=L k hkX;rcases h with h|h
   ·omega
   exact hx h)]
  exact Y.fr.block k hk hx
 ·intro b hb;rcases q.uF b hb with h|h|h
  ·exact Y.uF b h
  ·exact .inr (.inl (E5 Y.fr.size h))
  obtain⟨_,_,_,_,_,_,h⟩:=L b h;exact .inr h
 ·rw[asb,Dk,J3,Y.hlen,q.hlen]
 ·intro j e h M I;rcases hcls j e h M (.inr trivial) I with⟨i,e0,rfl,O,U,_⟩|⟨_,O,U,h3⟩
  ·exact Dy.upw rfl hlt q.names Y.hlen (hb4 e0 (TT O)) (q.ent i e0 h O U)
  refine(Y.ent j e h O U).mono hgr (Names.push _ _) (fun J b z=>?_);have h4:=hold j e h b O U h3 J z;exact q.fr.block b h4.1 h4.2.1
 ·intro j e h b M J I z;rcases hcls j e h M (.inr trivial) I with⟨i,e0,rfl,O,U,_⟩|⟨_,O,U,h3⟩
  ·have h4:=ae0 i e0 h b O U aE1 z;refine⟨h4.1,h4.2.1,?_⟩;rcases h4.2.2 with h5|h5
   ·exact .inl (E5 Y.fr.size h5)
   obtain⟨_,_,_,_,_,_,h⟩:=L b h5;exact h
  have h4:=hold j e h b O U h3 J z;refine⟨fun hok'=>?_,U7 h4.1 q.fr.size,h4.2.2.2⟩;rcases q.uF b hok' with h5|h5|h5
  ·exact h4.2.2.1 h5
  ·have :w.heap.size≤b:=h5;omega
  exact h4.2.1 h5
 intro j j' e e' h h' b M he' J Z I hh' z acB;rcases hcls j e h M (.inr trivial) I with⟨i,e0,rfl,O,U,h3⟩|⟨_,O,U,h3⟩
 ·rcases hcls j' e' h' he' (.inr trivial) hh' with⟨i',e0',rfl,h1',h2',h3'⟩|⟨_,h1',h2',h3'⟩
  ·have hii:=q.Az i i' e0 e0' h h' b O h1' aE1 (by rw[Au.Xa]at Z;exact Z) U h2' z acB;subst hii;rcases h3 with⟨_,h4⟩|⟨h4,h5⟩
   ·rcases h3' with⟨_,h4'⟩|⟨h4',h5'⟩
    ·rw[h4]at h4';simpa using h4'
    have :=(Eb.1 h4).1;omega
   rcases h3' with⟨_,h4'⟩|⟨h4',h5'⟩
   ·have :=(Eb.1 h4').1;omega
   omega
  have h4:=hold j' e' h' b h1' h2' h3' Z acB;rcases(ae0 i e0 h b O U aE1 z).2.2 with h5|h5
  ·omega
  exact absurd h5 h4.2.1
 rcases hcls j' e' h' he' (.inr trivial) hh' with⟨i',e0',rfl,h1',h2',h3'⟩|⟨_,h1',h2',h3'⟩
 ·have h4:=hold j e h b O U h3 J z;rcases(ae0 i' e0' h' b h1' h2' (by rw[Au.Xa]at Z;exact Z) acB).2.2 with h5|h5
  ·omega
  exact absurd h5 h4.2.1
 exact Y.Az j j' e e' h h' b O h1' J Z U h2' z acB
def aIW {f:FuncId} {ops:Array Operand} {ats:Array TypeId} (srcs:List Cj) {dH fG:List AV} {E E':List Au} {h:AV} (j:Aw P f fG E h E') (m:DC P f=true) (n:Oj srcs es E E'=true) (hE:jf srcs es E) (ha:Jh srcs dH fG) (q:ops.toList.length=dH.length)
 (s:o.op=.call { callee:=.value (.func f),args:=ops,argTypes:=ats }):BQ P o (EM ops.toList dH) es (h.up srcs es.length) (Iq srcs es E'):=by
 intro C ok H a w Q u z;unfold Oper.wp;rw[jE s,Py m,WY];have e:ops.map a.eval=(ops.toList.map a.eval).toArray:=zo
 rw[e];refine(aHu u srcs j n hE ha q z).mono ?_;rintro e w' ⟨v,ok',H',rfl,I,J,L,M⟩;exact⟨v,ok',H',rfl,I,J,L,M⟩
end
def AP (n:Int):D:=.lit (.int .i64 n)
def ED (n:Int):D:=.lit (.int .u8 n)
def CM (b:Bool):D:=.lit (.bool b)
def DT (s:ByteArray):D:=.lit (.string s)
def Af {α:Type} (e:α→D) (l:List α):D:=.sl (l.map e)
def Ae (x:D):List AV:=x.cells.map .d
def BF {α:Type} (l:List α) (i:Int):Option α:=if 0≤i then l[i.toNat]? else none
def Ci {α:Type} (f:Nat) (l m:List α):Option (List α):=if(l.length+m.length)*f≤140737488355328 then some (l++m)else none
def FT (s:ByteArray) (i:Int):Option Int:=if 0≤i then(s[i.toNat]?).map fun c=>(c.toNat:Int)else none
def KY {α:Type} (l:List α) (lo hi:Int):Option (List α):=if 0≤lo∧lo≤hi∧hi≤l.length then some ((l.drop lo.toNat).take (hi.toNat-lo.toNat))else none
def Jr (s:ByteArray) (lo hi:Int):Option ByteArray:=if 0≤lo∧lo≤hi∧hi≤s.size then some (s.extract lo.toNat hi.toNat)else none
def Gy {α:Type} (f:Nat) (z:α) (n c:Int):Option (List α):=if 0≤n∧n≤c∧(f:Int)*c≤140737488355328 then some (List.replicate n.toNat z)else none
def Ip {α:Type} {l:List α} {i:Int} {x:α} (h:BF l i=some x):0≤i∧l[i.toNat]? =some x:=by
 unfold BF at h;split at h
 ·exact⟨‹_›,h⟩
 cases h
def aoY {α β:Type} {l:List α} {i:Nat} {x:α} (f:α→β) (h:l[i]? =some x):(l.map f)[i]? =some (f x):=Ye
def vN {α:Type} {b:Bool} {x y z:α} (f:b=true) (h:(bif b then x else y)=z):x=z:=by subst f;exact h
def oZ {α:Type} {b:Bool} {x y z:α} (f:b=false) (h:(bif b then x else y)=z):y=z:=by subst f;exact h
def CZ {α β:Type} {x:Option α} {f:α→Option β} {z:β} (h:x.bind f=some z):∃a,x=some a∧f a=some z:=YK.1 h
def Ar :Nat:=9223372036854775808
section
variable {P : Program} {o : Oper} {es : List Au} {α : Type}
def Bc {x:Operand} {t e:TypeId} (enc:α→D) (l:List α) (f:P.underlying t=some (.slice e)) (h:o.op=.call { callee:=.builtin .len,args:= #[x],argTypes:= #[t] }):
 BQ P o [(x,.d (Af enc l))] es (.d (AP l.length)) es:=by
 have :=arX (es:=es) (xs:=l.map enc) f h;rw[CB]at this;exact this
def Po {x:Operand} {t e e':TypeId} {k s:Nat} (enc:α→D) (l:List α) (f:es[k]? =some (.arr e' s (l.map enc))) (h:P.underlying t=some (.slice e)) (j:o.op=.call { callee:=.builtin .len,args:= #[x],argTypes:= #[t] }):
 BQ P o [(x,.aP k)] es (.d (AP l.length)) es:=by
 have :=akN f h j;rw[CB]at this;exact this
def afy {x:Operand} {t:TypeId} (s:ByteArray) (f:P.underlying t=some .string) (h:o.op=.call { callee:=.builtin .len,args:= #[x],argTypes:= #[t] }):
 BQ P o [(x,.d (DT s))] es (.d (AP s.size)) es:=aon f h
def amj {x y:Operand} {t e:TypeId} {k:IntKind} {i:Int} {agg:Bool} {size:Nat} (enc:α→D) {l:List α} {a:α} (h:BF l i=some a) (f:P.underlying t=some (.slice e)) (j:DI P e agg size) (m:(enc a).cells.length=size) (n:o.op=.indexAddr t x y):
 BQ P o [(x,.d (Af enc l)),(y,.d (.lit (.int k i)))] es (.d (.ref (enc a).cells 0)) es:=
 aiv f j (Ip h).1 (aoY enc (Ip h).2) m n
def OZ {x y:Operand} {t e e':TypeId} {kd:IntKind} {i:Int} {k size:Nat} {agg:Bool} (enc:α→D) {l:List α} {a:α} (h:BF l i=some a) (f:es[k]? =some (.arr e' size (l.map enc))) (j:P.underlying t=some (.slice e)) (m:DI P e agg size) (n:o.op=.indexAddr t x y):
 BQ P o [(x,.aP k),(y,.d (.lit (.int kd i)))] es (.jL k i.toNat 0) es:=
 aoC f j m (Ip h).1 (by have :=(Eb.1 (Ip h).2).1;simpa using this) n
def ah2 {s:ByteArray} {i n:Int} (h:FT s i=some n):∃c,0≤i∧s[i.toNat]? =some c∧n=c.toNat:=by
 unfold FT at h;split at h
 ·rename_i f;rw[Qq]at h;obtain⟨c,j,m⟩:=h;exact⟨c,f,j,m.symm⟩
 cases h
def U8 {x y:Operand} {t:TypeId} {k:IntKind} {i n:Int} {s:ByteArray} (h:FT s i=some n) (f:P.underlying t=some .string) (j:o.op=.index t x y):
 BQ P o [(x,.d (DT s)),(y,.d (.lit (.int k i)))] es (.d (ED n)) es:=by
 obtain⟨c,m,q,rfl⟩:=ah2 h;exact arN f m q j
def qM {b:Nat} {l m r:List α} (h:Ci b l m=some r):r=l++m∧(l.length+m.length)*b≤140737488355328:=by
 unfold Ci at h;split at h
 ·exact⟨(Bl h).symm, ‹_›⟩
 cases h
def aGP {n b:Nat} (f:0<b) (h:n*b≤140737488355328):n≤maxLen:=by
 have :n*1≤n*b:=Nat.mul_le_mul_left _ f;unfold maxLen;omega
def EN {s x:Operand} {t e:TypeId} {size f k:Nat} (enc:α→D) {l m r:List α} (h:Ci f l m=some r) (hE:Ez P t e size f) (n:es[k]? =some (.arr e size (l.map enc))) (q:∀a,(enc a).cells.length=size) (u:0<f)
 (z:o.op=.call { callee:=.builtin .append,args:= #[s,x],argTypes:= #[t,t] }):
 BQ P o [(s,.aP k),(x,.d (Af enc m))] es (.aP es.length) (es.set k .dead++[.arr e size (r.map enc)]):=by
 obtain⟨rfl,j⟩:=qM h;have :=agB (ys:=m.map enc) hE n (fun y I=>by obtain⟨a,_,rfl⟩:=FM.1 I;exact q a) NI (by simpa using aGP u j) z;rw[←JW]at this;exact this
def ah7 {s r:ByteArray} {lo hi:Int} (h:Jr s lo hi=some r):(0≤lo∧lo≤hi∧hi≤s.size)∧r=s.extract lo.toNat hi.toNat:=by
 unfold Jr at h;split at h
 ·exact⟨‹_›,(Bl h).symm⟩
 cases h
def lX (x:Option Operand) (n:Int):List (Operand×AV):=match x with |some y=>[(y,.d (AP n))]|none=>[]
def aBy {t:TypeId} {x:Operand} {lo hi:Option Operand} {l h:Int} {s r:ByteArray} (U:Jr s l h=some r) (Y:lo=none→l=0) (O:hi=none→h=s.size) (Z:P.underlying t=some .string) (q:o.op=.slice t x lo hi none):
 BQ P o ((x,.d (DT s))::(lX lo l++lX hi h)) es (.d (DT r)) es:=
 .pure fun ok H a w _ _ I=>by
  obtain⟨⟨J,h1,h2⟩,rfl⟩:=ah7 U;have j:=(I (x,.d (DT s)) BG).lit;simp only at j;have u:(underlying t).run P w=.ok .string w:=aGH
  refine⟨.string (s.extract l.toNat h.toNat),?_,.d _ _ (.lit _)⟩;have m:∀y,lo=some y→a.eval y=.int .i64 l:=fun y e=>(I (y,.d (AP l)) aAo).lit;have n:∀y,hi=some y→a.eval y=.int .i64 h:=fun y e=>(I (y,.d (AP h)) aAo).lit;have S:((0:Int)≤h∧h≤(s.size:Int)):=⟨AA,h2⟩
  have e2:((0:Int)≤l∧l≤(h.toNat:Int)):=⟨J,AA⟩
  cases lo with
  |none=>
   have L:=Y rfl;subst L;cases hi with
   |none=>
    have f:=O rfl;subst f;simp[execOp,q,j,Instr.sliceAt,Instr.slice,u,Instr.sliceBounds]
   |some y=>
    simp[execOp,q,j,Instr.sliceAt,Instr.slice,u,Instr.sliceBounds,Instr.sliceBound,n y rfl,asIntOf,S]
  |some z=>
   cases hi with
   |none=>
    have f:=O rfl;subst f;have M:((0:Int)≤l∧l≤(s.size:Int)):=⟨J,AA⟩
    simp[execOp,q,j,Instr.sliceAt,Instr.slice,u,Instr.sliceBounds,Instr.sliceBound,m z rfl,asIntOf,M]
   |some y=>
    simp[execOp,q,j,Instr.sliceAt,Instr.slice,u,Instr.sliceBounds,Instr.sliceBound,m z rfl,n y rfl,asIntOf,S];intro hc;have :=hc J;omega
def acP {l r:List α} {lo hi:Int} (h:KY l lo hi=some r):(0≤lo∧lo≤hi∧hi≤l.length)∧r=(l.drop lo.toNat).take (hi.toNat-lo.toNat):=by
 unfold KY at h;split at h
 ·exact⟨‹_›,(Bl h).symm⟩
 cases h
def aeT {ok:Nat→Prop} {w:World} {xs:List D} {ad:Option Addr} {cap size l h:Nat} (M:Cm ok w (.sl xs) (.slice ad xs.length cap)) (Z:∀x∈xs,x.cells.length=size) (O:l≤h) (S:h≤xs.length):
 Cm ok w (.sl ((xs.drop l).take (h-l))) (.slice (if cap=l then ad else ad.map (·.add (l*size))) (h-l) (cap-l)):=by
 have hlen:((xs.drop l).take (h-l)).length=h-l:=Dp
 by_cases U:h-l=0
 ·have :(xs.drop l).take (h-l)=[]:=by rw[U];rfl
  rw[this,U];exact .sl0 _ _
 have q:0<xs.length:=AA
 generalize hn:xs.length=n at M;cases M with
 |sl0=>simp at q
 |sl _ b off _ f Y z s hf hx hc=>
  have I:f=size:=by
   rw[←s 0 q];exact Z _ aAW
  subst I;have J:cap≠l:=AA
  rw[CV J];simp only[GN,addr_add]
  have L:∀i,i<h-l→((xs.drop l).take (h-l)).getD i Cb=xs.getD (l+i) Cb:=by
   intro i hi;simp[List.getD,Jo hi,ND]
  have m:∀i j,off+l*f+(i*f+j)=off+((l+i)*f+j):=by
   intro i j;rw[VH];omega
  have :=Cm.sl ((xs.drop l).take (h-l)) b (off+l*f) (cap-l) f (ok:=ok) (w:=w) (by rw[hlen];omega) (fun O S=>z (by rw[hlen]at O;omega) S) (fun i hi=>by rw[hlen]at hi;rw[L i hi];exact s _ AA)
   (fun i hi j u=>by rw[hlen]at hi;rw[L i hi];exact hf _ AA j u) (fun i hi j u=>by rw[hlen]at hi;rw[m];exact hx _ AA j u)
   (fun i hi j u=>by rw[hlen]at hi;rw[L i hi,m];exact hc _ AA j u)
  rw[hlen]at this;exact this
def vX {t e:TypeId} {agg:Bool} {size:Nat} {x:Operand} {lo hi:Option Operand} {l h:Int} (enc:α→D) {xs r:List α} (hr:KY xs l h=some r) (hl:lo=none→l=0) (hh:hi=none→h=xs.length) (ht:P.underlying t=some (.slice e)) (I:DI P e agg size)
 (hc:∀a,(enc a).cells.length=size) (J:o.op=.slice t x lo hi none):BQ P o ((x,.d (Af enc xs))::(lX lo l++lX hi h)) es (.d (Af enc r)) es:=
 .pure fun ok H a w _ _ O=>by
  obtain⟨⟨h0,h1,h2⟩,rfl⟩:=acP hr;have S:=O (x,.d (Af enc xs)) BG;simp only at S;generalize L:a.eval x=v at S;have M:(underlying t).run P w=.ok (.slice e) w:=by simp[underlying,ht]
  have s:∀y,lo=some y→a.eval y=.int .i64 l:=fun y e=>(O (y,.d (AP l)) aAo).lit;have u:∀y,hi=some y→a.eval y=.int .i64 h:=fun y e=>(O (y,.d (AP h)) aAo).lit;have m:Cm ok w (.sl (xs.map enc)) v:=by cases S with |d _ _ h=>exact h
  have n:∃ad cap,v=.slice ad (xs.map enc).length cap∧(xs.map enc).length≤cap:=by
   generalize hys:xs.map enc=ys at m;cases m with
   |sl0 ad cap=>exact⟨ad,cap,rfl,Dx _⟩
   |sl _ b off cap size f=>exact⟨_,cap,rfl,f⟩
  obtain⟨ad,cap,rfl,f⟩:=n;have j:=aeT (l:=l.toNat) (h:=h.toNat) m (size:=size) (fun y hy=>aBT) AA Dp;rw[←WJ,←V3]at j;rw[CB]at f;refine⟨_,?_,.d _ _ j⟩;have e1:((0:Int)≤h∧h≤(cap:Int)):=⟨AA,AA⟩
  cases lo with
  |none=>
   have U:=hl rfl;subst U;cases hi with
   |none=>
    have q:=hh rfl;subst q;simp[execOp,J,L,Instr.sliceAt,Instr.slice,M,Instr.sliceBounds,I.size]
   |some y=>
    simp[execOp,J,L,Instr.sliceAt,Instr.slice,M,Instr.sliceBounds,Instr.sliceBound,u y rfl,asIntOf,e1,I.size]
  |some z=>
   cases hi with
   |none=>
    have q:=hh rfl;subst q;have Y:((0:Int)≤l∧l≤(xs.length:Int)):=⟨h0,AA⟩
    simp[execOp,J,L,Instr.sliceAt,Instr.slice,M,Instr.sliceBounds,Instr.sliceBound,s z rfl,asIntOf,Y,I.size]
   |some y=>
    simp[execOp,J,L,Instr.sliceAt,Instr.slice,M,Instr.sliceBounds,Instr.sliceBound,s z rfl,u y rfl,asIntOf,e1,I.size];intro Z;have :=Z h0;omega
def Yu (P:Program) (t:TypeId) (f off:Nat) (agg:Bool) (n:Nat):Bool:=
 match P.underlying t with
 |some (.struct j)=>match j[f]? with
  |some h=>decide (h.offset=off)&&aEM P h.type agg n
  |none=>false
 |_=>false
def akC {x:Operand} {t:TypeId} {f off n:Nat} {agg:Bool} {cs:List D} (m:Yu P t f off agg n=true) (hn:off+n≤cs.length) (U:agg=false→n=1) (L:o.op=.field t x f):BQ P o [(x,.d (.agg cs))] es (.d (NG agg cs off n)) es:=
 .pure fun ok H a w _ _ z=>by
  have I:=Ib z;simp only at I;generalize M:a.eval x=v at I;unfold Yu at m;split at m
  ·rename_i Y Z;split at m
   ·rename_i j O;simp only[Bv,FI]at m;obtain⟨rfl,q⟩:=m;have q:=EO q;have s:(underlying t).run P w=.ok (.struct Y) w:=aGH
    cases I with
    |d _ _ h=>
     cases h with
     |agg _ vs hl J S=>
      cases agg with
      |false=>
       have :=U rfl;subst this;have u:j.offset<vs.size:=AA
       refine⟨vs[j.offset],?_,?_⟩
       ·simp[execOp,L,M,Instr.field,s,O,asAgg,part,q.agg,u]
       have :=S j.offset AA;simp[Array.getD,u]at this;exact .d _ _ this
      |true=>
       refine⟨.agg (vs.extract j.offset (j.offset+n)),?_,?_⟩
       ·simp[execOp,L,M,Instr.field,s,O,asAgg,part,q.agg,q.size]
       simp only[NG,Iu];have hlen:((cs.drop j.offset).take n).length=n:=Dp
       have hg:∀i,i<n→((cs.drop j.offset).take n).getD i Cb=cs.getD (j.offset+i) Cb:=by
        intro i hi;simp[List.getD,Jo hi,ND]
       refine .d _ _ (.agg _ _ (by rw[hlen];simp;omega) ?_ ?_)<;>intro i hi<;>rw[hlen]at hi<;>rw[hg i hi]
       ·exact J _ AA
       have :=S (j.offset+i) AA
       have e:(vs.extract j.offset (j.offset+n)).getD i undef=vs.getD (j.offset+i) undef:=by
        have h3:j.offset+i<vs.size:=AA
        have h4:i<(vs.extract j.offset (j.offset+n)).size:=Dp
        have h5:i<min (j.offset+n) vs.size-j.offset:=AA
        simp[Array.getD,h3,h5]
       rw[e];exact this
   cases m
  cases m
def AV.flat:AV→Bool
 | .d (.lit _)=>true
 | .dO xs=>xs.all fun x=>match x with | .d (.lit _)=>true|_=>false
 |_=>false
def afh (es:List Au):AV→AV→Prop
 | .d x,y=>y=.d x
 | .aP k,y=>∃e s xs,es[k]? =some (.arr e s xs)∧y=.d (.sl xs)
 |_,_=>False
def Y1 (es:List Au):List AV→List AV→Prop
 |x::xs,y::ys=>afh es x y∧Y1 es xs ys
 | [],[]=>True
 |_,_=>False
def aAq :∀{xs ys:List AV},Y1 es xs ys→xs.length=ys.length
 | [],[],_=>rfl
 |_::xs,_::ys,h=>by simp[aAq h.2]
 | [],_::_,h=>h.elim
 |_::_,[],h=>h.elim
def aaC {ops:List Operand}:∀{xs ys:List AV},ops.length=xs.length→Y1 es xs ys→∀i,i<ys.length→∃o x,ops[i]? =some o∧(o,x)∈EM ops xs∧afh es x (ys.getD i .junk):=by
 induction ops with
 |nil=>
  intro xs ys f h i hi;cases xs with
  |nil=>cases ys with |nil=>simp at hi|cons _ _=>exact h.elim
  |cons _ _=>simp at f
 |cons o ops j=>
  intro xs ys f h i hi;cases xs with
  |nil=>simp at f
  |cons x xs=>
   cases ys with
   |nil=>exact h.elim
   |cons y ys=>
    cases i with
    |zero=>exact⟨o,x,rfl,by simp[EM],h.1⟩
    |succ i=>
     obtain⟨m,n,q,s,u⟩:=j L9 h.2 i Ey;exact⟨m,n,Qw,by simp[EM,s],Oe⟩
def ZM {ok ok':Nat→Prop} {w:World} {H:List BN} {h:BN} {e s:Nat} {xs:List D} (he:Dy ok w H h (.arr e s xs)) (n:∀b,ok b→ok' b) (J:∀b,CQ h.v=some b→ok' b):Cm ok' w (.sl xs) h.v:=by
 obtain⟨h1,z,ys,⟨h3,h4⟩,U⟩:=he;rcases h4 with⟨I,Y⟩|⟨g,cap,m,I,Y,h8,Z,h10,L,M⟩
 ·rw[Fj Y,I];exact .sl0 none 0
 rw[I];have q:=J g (by rw[I];rfl);have u:=OD z
 have O:∀i j,i<xs.length→j<s→i*s+j<xs.length*s:=by
  intro i j hi f
  calc i*s+j<i*s+s:=AA
   _=(i+1)*s:=by rw[Ry]
   _≤xs.length*s:=Hg _ hi
 have hcur:xs.length*s≤m.size:=by
  exact E5 (Hg _ Z) L
 have hc:∀i j,i<xs.length→j<s→w.cell? ⟨g,0+(i*s+j),none⟩=some (ys.getD (i*s+j) undef):=by
  intro i j hi f;have S:=O i j hi f;rw[Hz]
  have e1:ys.getD (i*s+j) undef=m[i*s+j]' AA:=by
   rw[←M];simp[List.getD,Jo S,show i*s+j<m.size by omega]
  rw[e1];simp[World.cell?,h8,show i*s+j<m.size by omega]
 have hg:∀i,i<xs.length→xs.getD i Cb∈xs:=fun i hi=>Jc
 refine .sl xs g 0 cap s Z (fun _ _=>q) (fun i hi=>z _ (hg i hi)) (fun i hi j f=>?_) (fun i hi j f=>?_) (fun i hi j f=>?_)
 ·have :=(U.2 (i*s+j) (by rw[u];exact O i j hi f)).1;rw[flat_get z i j hi f]at this;exact this
 ·rw[hc i j hi f];rfl
 have :=(U.2 (i*s+j) (by rw[u];exact O i j hi f)).2;rw[flat_get z i j hi f]at this;unfold cellAt;rw[hc i j hi f];cases this with |d _ _ h=>exact h.mono (fun b J=>⟨n b J,rfl⟩)
def adq {f:FuncId} {ops:Array Operand} {ats:Array TypeId} {dH fG:List AV} {q:AV} (hr:Aw P f fG [] q []) (hf:DC P f=true) (n:q.flat=true) (ha:Y1 es dH fG) (hl:ops.toList.length=dH.length)
 (ho:o.op=.call { callee:=.value (.func f),args:=ops,argTypes:=ats }):BQ P o (EM ops.toList dH) es q es:=by
 intro C ok H a w Q z hn;unfold Oper.wp;rw[jE ho,Py hf,WY];have e:ops.map a.eval=(ops.toList.map a.eval).toArray:=zo
 rw[e]
 let I:Nat→Prop:=fun b=>b<w.heap.size
 have hmc:Bo ⟨w,I,[],[]⟩ I [] [] w:=
  ⟨.refl _ _,fun _ h=>h,fun _ h=>.inl h,fun _ h=>h,.refl _,rfl,fun k e h J _=>XF,fun k e h b J=>XF,fun k k' e e' h h' b J=>XF⟩
 refine(hr I [] [] w _ hmc (by simp[hl,aAq ha]) (fun i hi=>?_)).mono ?_
 ·obtain⟨op,x,ho',O,j⟩:=aaC hl ha i hi;have M:=hn _ O
  have e:(ops.toList.map a.eval).toArray.getD i undef=a.eval op:=by
   obtain⟨h1,h2⟩:=Eb.1 ho';have S:i<ops.size:=by simpa using h1
   have U:ops[i]=op:=uw
   simp[Array.getD,S,U]
  rw[e];simp only at M;generalize fG.getD i .junk=y at j;generalize a.eval op=u at M;cases x with
  |d x=>
   obtain rfl:=j;cases M with |d _ _ h=>exact .d _ _ (h.mono (fun b L=>⟨z.jl b L,rfl⟩))
  |aP k=>
   obtain⟨e',s,xs,hk,rfl⟩:=j;obtain⟨h,Z,hok⟩:=Et z.ent z.hlen hk;obtain rfl:=Me M Z;exact .d _ _ (ZM hok (fun b L=>z.jl b L) (fun b L=>(z.blk k _ h b hk rfl Z L).2.1))
  |_=>exact j.elim
 rintro e w' ⟨v,ok',H',rfl,m,M⟩;have Y:∀b,b<w.heap.size→¬False→w'.heap[b]? =w.heap[b]? :=fun b L _=>m.fr.block b L BG;obtain⟨h1,h2⟩:=z.change (ok':=ok) (H':=H) (es':=es) (w':=w') (fun _=>False) m.fr.os m.fr.tape m.fr.output m.fr.size Y (fun _ h=>h.elim) (fun _ h=>h) (fun _ h=>.inl h) (.refl _) z.hlen (fun k e h J Z=>.inl ⟨J,Z,fun _ _ _ h=>h⟩);refine⟨v,ok,H,rfl,h2,.refl _,h1,?_⟩;cases M with
 |d x v h=>
  cases x with
  |lit u=>cases h;exact .d _ _ (.lit _)
  |_=>simp[AV.flat]at n
 |dO xs vs hl' h=>
  refine .dO xs vs hl' (fun i hi=>?_);simp only[AV.flat,DV]at n;have S:=n (xs.getD i .junk) Jc;have U:=h i hi;generalize xs.getD i .junk=x at S U;generalize vs.getD i undef=u at U;cases U with
  |d y _ h5=>
   cases y with
   |lit u=>cases h5;exact .d _ _ (.lit _)
   |_=>simp at S
  |_=>simp at S
 |_=>simp[AV.flat]at n
end
def AV.thaw (k:Nat) (xs:List D):AV→AV
 | .aP j=>if j=k then .d (.sl xs)else .aP j
 | .jL j i off=>if j=k then .junk else .jL j i off
 |x=>x
def Ai.thaw (σ:Ai) (k:Nat) (xs:List D):Ai:=⟨σ.slots.map (AV.thaw k xs),σ.ents.set k .dead,σ.base⟩
def LC {σ:Ai} (k:Nat) {e s:Nat} {xs:List D} (U:σ.ents[k]? =some (.arr e s xs)):∀C ok H a w,Holds C ok H σ a w→∃ok',Holds C ok' H (σ.thaw k xs) a w:=by
 intro C ok H a w h;obtain⟨hd,I,Y⟩:=Et h.mem.ent h.mem.hlen U;have n:k<σ.ents.length:=(Eb.1 U).1
 let ok':Nat→Prop:=fun b=>ok b∨CQ hd.v=some b
 have z:=fun b f=>h.mem.blk k _ hd b U rfl I f;have Z:Df ok w ok' w:=fun b f=>⟨.inl f,rfl⟩
 refine⟨ok',⟨h.mem.fr,fun b f=>.inl (h.mem.uD b f),?_,?_,h.mem.names,by simp[Ai.thaw,h.mem.hlen],?_,?_,?_⟩,by simp[Ai.thaw,h.size],h.defers.mono Z,h.base,?_⟩
 ·rintro b (f|f)
  ·exact h.mem.uF b f
  exact .inr (z b f).2.2
 ·rintro b (f|f)
  ·exact h.mem.jl b f
  exact(z b f).2.1
 ·intro j e' h' he q;rcases JY n he with⟨rfl,rfl⟩|⟨_,u⟩
  ·trivial
  exact(h.mem.ent j e' h' u q).mono Z (.refl _) (fun _ _ _=>rfl)
 ·intro j e' h' b he hl q f;rcases JY n he with⟨rfl,rfl⟩|⟨hne,u⟩
  ·cases hl
  have h3:=h.mem.blk j e' h' b u hl q f;refine⟨fun m=>?_,h3.2⟩;rcases m with m|m
  ·exact h3.1 m
  exact hne (h.mem.Az j k e' _ h' hd b u U hl rfl q I f m)
 ·intro i j e1 e2 h1 h2 b he1 he2 L M hh1 hh2 hb1 hb2;rcases JY n he1 with⟨rfl,rfl⟩|⟨_,O⟩
  ·cases L
  rcases JY n he2 with⟨rfl,rfl⟩|⟨_,S⟩
  ·cases M
  exact h.mem.Az i j e1 e2 h1 h2 b O S L M hh1 hh2 hb1 hb2
 intro t ht;simp only[Ai.thaw,CB]at ht
 have e1:(σ.thaw k xs).slots.getD t .junk=(σ.slots.getD t .junk).thaw k xs:=by
  simp only[Ai.thaw];exact Qs _ _ _ ht
 rw[e1];have J:=(h.slot t ht).mono Z (Names.refl H);generalize σ.slots.getD t .junk=x at J ⊢;generalize a.tmps.getD t undef=v at J ⊢;cases x with
 |aP j=>
  simp only[AV.thaw];split
  ·rename_i hj;subst hj;obtain rfl:=Me J I;exact .d _ _ (ZM Y (fun b f=>.inl f) (fun b f=>.inr f))
  exact J
 |jL j i off=>
  simp only[AV.thaw];split
  ·exact .junk _
  exact J
 |_=>exact J
def AB.thaw {P:Program} {c:Code} {σ:Ai} {Q:Exit→Ai→Prop} (k:Nat) {e s:Nat} {xs:List D} (j:σ.ents[k]? =some (.arr e s xs)) (h:AB P c (σ.thaw k xs) Q):AB P c σ Q:=by
 refine⟨fun ro m C ok H a w n=>?_⟩;obtain⟨ok',f⟩:=LC k j C ok H a w n;exact h.run ro m C ok' H a w f
def Aw.view {P:Program} {f:FuncId} {args:List AV} {e s:Nat} {xs:List D} (h:Aw P f args [] (.aP 0) [.arr e s xs]):Aw P f args [] (.d (.sl xs)) []:=by
 intro ok X H w m I J ha;refine(h ok X H w m I J ha).mono ?_;rintro e' w' ⟨v,ok',H',rfl,j,L⟩;have M:H=[]:=Fj I.hlen;have O:H'.length=1:=j.hlen
 match H',O with
 | [hd],_=>
   obtain rfl:=Me L (h:=hd) rfl;have u:=j.ent 0 _ hd rfl rfl;have q:=fun b q=>j.blk 0 _ hd b rfl rfl rfl q
   let z:Nat→Prop:=fun b=>ok' b∨CQ hd.v=some b
   refine⟨hd.v,z,[],rfl,⟨j.fr,fun b h=>.inl (j.uD b h),?_,?_,by intro k v S;subst M;simp at S,rfl,fun k e h n=>XG,fun k e h b n=>XG,fun k k' e e' h h' b n=>XG⟩,.d _ _ (ZM u (fun b h=>.inl h) (fun b h=>.inr h))⟩
   ·rintro b (h|h)
    ·exact j.uF b h
    exact .inr (q b h).2.2
   rintro b (h|h)
   ·exact j.jl b h
   exact(q b h).2.1
def ala (es E':List Au) (f:E'.all Au.closed=true):Iq [] es E'=es++E':=by
 unfold Iq;simp only[List.findIdx?_nil,Nu,eH];rw[aHX f];congr 1;apply Zq;intro i;simp only[Gt,List.getElem?_zipIdx];cases es[i]? <;>rfl
def aeO {P:Program} {o:Oper} {es:List Au} {f:FuncId} {ops:Array Operand} {ats:Array TypeId} {dH fG:List AV} {j res':AV} {E':List Au} (q:Aw P f fG [] j E') (u:DC P f=true) (m:E'.all Au.closed=true)
 (ha:Jh [] dH fG) (z:ops.toList.length=dH.length) (I:j.up [] es.length=res') (J:o.op=.call { callee:=.value (.func f),args:=ops,argTypes:=ats }):BQ P o (EM ops.toList dH) es res' (es++E'):=by
 have :=aIW (es:=es) [] q u (by
  have n:E'.all (Au.aeY [] es.length)=true:=by
   rw[DV]at m ⊢;exact fun e L=>akL (m e L)
  simp[Oj,n]) (fun i s h=>Fq) ha z J
 rw[ala _ _ m,I]at this;exact this
def acV {P:Program} {o:Oper} {es:List Au} {f:FuncId} {ops:Array Operand} {ats:Array TypeId} {dH fG:List AV} {h res':AV} (j:Aw P f fG [] h []) (m:DC P f=true)
 (ha:Jh [] dH fG) (n:ops.toList.length=dH.length) (q:h.up [] es.length=res') (s:o.op=.call { callee:=.value (.func f),args:=ops,argTypes:=ats }):BQ P o (EM ops.toList dH) es res' es:=by
 have :=aeO (es:=es) j m rfl ha n q s;rw[QW]at this;exact this
section
variable {P : Program} {σ : Ai} {Q : Exit → Ai → Prop}
def aGO (P:Program) (σ:Ai):ResultVar→AV→Prop
 | .tmp t,x=>x=σ.slots.getD t .junk
 | .cell t T,x=>∃k cs agg n,σ.slots.getD t .junk=.ptr k 0∧σ.ents[k]? =some (.box cs)∧cs.all AV.wX=true∧DI P T agg n∧n≤cs.length∧(agg=false→n=1)∧x=.d (NG agg (GY cs) 0 n)
def Sz {P:Program} {σ:Ai} {t:Tmp} {x:AV} (h:x=σ.slots.getD t .junk):aGO P σ (.tmp t) x:=h
def Vp (P:Program) (σ:Ai):List ResultVar→List AV→Prop
 |r::rs,x::xs=>aGO P σ r x∧Vp P σ rs xs
 | [],[]=>True
 |_,_=>False
def Zo :List AV→AV
 | [x]=>x
 |xs=>.dO xs
def aIn (P:Program) (fn:Func) (f:AV) (E':List Au):Exit→Ai→Prop
 | .ret,σ=>∃xs π,Vp P σ fn.results.toList xs∧Qx σ.base σ.ents π=true∧f=(Zo xs).back π∧E'=OJ σ.ents π
 | .normal,σ=>∃xs π,Vp P σ fn.results.toList xs∧Qx σ.base σ.ents π=true∧f=(Zo xs).back π∧E'=OJ σ.ents π
 |_,_=>False
def aCU (tmps:Array Value):ResultVar→Sem Value
 | .tmp t=>pure (tmps.getD t undef)
 | .cell t T=>do loadVar T (←asAddr (tmps.getD t undef))
def aoq {C:DZ} {ok:Nat→Prop} {H:List BN} {a:Act} {w:World} (h:Holds C ok H σ a w) {r:ResultVar} {x:AV} (f:aGO P σ r x):
 ∃v,(aCU a.tmps r).run P w=.ok v w∧R ok w H x v:=by
 cases r with
 |tmp t=>
  obtain rfl:=f;exact⟨_,rfl,h.akr t⟩
 |cell t T=>
  obtain⟨k,cs,agg,n,I,J,hd,L,hn,M,rfl⟩:=f;have m:=I▸h.akr t;obtain⟨O,S,j⟩:=Et h.mem.ent h.mem.hlen J;obtain⟨b,q,U,Y,Z⟩:=aBU j hd;generalize hu:a.tmps.getD t undef=u at m;cases m with
  |ptr _ _ b' s z=>
   rw[S]at z;obtain rfl:=Bl z;simp at q;subst q;show ∃v,((do loadVar T (←asAddr (a.tmps.getD t undef)):Sem Value)).run P w=.ok v w∧_;rw[hu];obtain⟨v,f,hD⟩:=oU L (off:=0) (by rw[jK];omega) M U Y Z;refine⟨v,?_,.d _ _ hD⟩;simp only[Instr.loadAt,Instr.sureAddr,ER,Ep,EX,Hz]at f;simp only[asAddr,ER,Ep,EX];exact f
def aa5 {C:DZ} {ok:Nat→Prop} {H:List BN} {a:Act} {w:World} (h:Holds C ok H σ a w):∀(rs:List ResultVar) (xs:List AV),Vp P σ rs xs→
 ∃vs:List Value,(rs.mapM (aCU a.tmps)).run P w=.ok vs w∧vs.length=xs.length∧∀i,i<xs.length→R ok w H (xs.getD i .junk) (vs.getD i undef)
 | [],[],_=>⟨[],rfl,rfl,fun i hi=>KP⟩
 | [],_::_,h'=>h'.elim
 |_::_,[],h'=>h'.elim
 |r::rs,x::xs,h'=>by
  obtain⟨v,m,n⟩:=aoq (P:=P) h h'.1;obtain⟨vs,f,q,j⟩:=aa5 h rs xs h'.2;refine⟨v::vs,?_,by simp[q],fun i hi=>?_⟩
  ·simp only[List.mapM_cons,ER,m,f,EX,Ep]
  cases i with
  |zero=>exact n
  |succ i=>simpa using j i Ey
def akp {C:DZ} {ok:Nat→Prop} {H:List BN} {a:Act} {w:World} (h:Holds C ok H σ a w) {fn:Func} {xs:List AV} (s:Vp P σ fn.results.toList xs):
 ∃v,(results fn a.tmps).run P w=.ok v w∧R ok w H (Zo xs) v:=by
 obtain⟨vs,n,f,j⟩:=aa5 (P:=P) h _ _ s
 have u:(results fn a.tmps).run P w=.ok (if h:vs.toArray.size=1 then vs.toArray[0]else .tuple vs.toArray) w:=by
  have e:results fn a.tmps=(do let vs ←fn.results.mapM (aCU a.tmps);pure (if h:vs.size=1 then vs[0]else .tuple vs)):=rfl;rw[e,aDm];simp only[ER,nZ,n,EX,Ep]
 refine⟨_,u,?_⟩
 match xs,f,j with
 | [x],f,j=>
   have m:vs.toArray.size=1:=L9
   rw[dif_pos m];have :=j 0 BG
   have e:vs.getD 0 undef=vs.toArray[0]:=by
    have :0<vs.length:=U0
    simp[List.getD,this]
   rw[e]at this;exact this
 | [],f,j=>
   have m:¬vs.toArray.size=1:=by simp at f;simp[f]
   rw[dif_neg m];exact .dO [] _ L9 (fun i hi=>KP)
 |x::y::xs,f,j=>
  have m:¬vs.toArray.size=1:=by simp at f;simp[f]
  rw[dif_neg m];refine .dO _ _ L9 (fun i hi=>?_);have :=j i hi;have q:i<vs.length:=AA
  have e:vs.toArray.getD i undef=vs.getD i undef:=by simp[Array.getD,List.getD,q]
  rw[e];exact this
def aiZ {w:World} {D:Nat} {x:Option (List Deferred)} (h:w.heap[D]? =some (.deferred x)) (o:Nat):w.cell? ⟨D,o,none⟩=none:=by
 unfold World.cell?;rw[h]
def Holds.take {C:DZ} {ok:Nat→Prop} {H:List BN} {σ:Ai} {a:Act} {w:World} (Y:∀b,C.ok0 b→b<C.w0.heap.size) (h:Holds C ok H σ a w) {D:Nat} {Ds:List Nat} (hd:∀d∈Ds,ok d∧C.w0.heap.size≤d∧w.heap[d]? =some (.deferred (some [])))
 (Z:ok D∧C.w0.heap.size≤D∧w.heap[D]? =some (.deferred (some []))) (s:(D::Ds).Nodup):
 ∃ok',Holds C ok' H σ { a with defers:=Ds.map fun D=>{ target:=.collected D,args:= #[] } } (w.putObj D (.deferred none))∧∀d∈Ds,ok' d∧C.w0.heap.size≤d∧(w.putObj D (.deferred none)).heap[d]? =some (.deferred (some [])):=by
 obtain⟨h1,h2,S⟩:=Z;have j:∀b,b≠D→(w.putObj D (.deferred none)).heap[b]? =w.heap[b]? :=fun b f=>VL f;have u:∀b o,ok b→(w.cell? ⟨b,o,none⟩).isSome=true→ok b∧b≠D:=fun b o f z=>⟨f,fun e=>by subst e;rw[aiZ S]at z;cases z⟩
 have U:Df (fun b=>ok b∧b≠D) w (fun b=>ok b∧b≠D) (w.putObj D (.deferred none)):=fun b f=>⟨f,j b f.2⟩
 have M:∀(k:Nat) (e:Au) (hd:BN) (b:Nat),σ.ents[k]? =some e→e.live=true→H[k]? =some hd→CQ hd.v=some b→b≠D:=fun k e hd b n I q f O=>(h.mem.blk k e hd b n I q f).1 (O▸h1)
 have J:∀d∈Ds,(ok d∧d≠D)∧C.w0.heap.size≤d∧(w.putObj D (.deferred none)).heap[d]? =some (.deferred (some [])):=fun d m=>by
  have L:d≠D:=fun e=>(KD.1 s).1 (e▸m);exact⟨⟨(hd d m).1,L⟩,(hd d m).2.1,by rw[j d L];exact(hd d m).2.2⟩
 refine⟨fun b=>ok b∧b≠D,⟨⟨⟨h.mem.fr.os,h.mem.fr.tape,h.mem.fr.output,by simpa[World.putObj]using h.mem.fr.size,fun k hk hX=>by rw[j k AA];exact h.mem.fr.block k hk hX⟩,fun b f=>⟨h.mem.uD b f,fun e=>by have :=Y b f;omega⟩,fun b f=>h.mem.uF b f.1,fun b f=>by simpa[World.putObj]using h.mem.jl b f.1,h.mem.names,h.mem.hlen,?_,?_,?_⟩,h.size,⟨Ds,rfl,(KD.1 s).2,J⟩,h.base,fun t ht=>((h.slot t ht).shrink u).mono U (.refl _)⟩,J⟩
 ·intro k e hd n q;exact((h.mem.ent k e hd n q).shrink u (fun b ms c f z=>⟨f,fun e=>by subst e;rw[S]at z;cases z⟩)).mono U (.refl _) fun I b f=>j b (M k e hd b n I q f)
 ·intro k e hd b n I q f;obtain⟨h4,h5,h6⟩:=h.mem.blk k e hd b n I q f;exact⟨fun hx=>h4 hx.1,by simpa[World.putObj]using h5,h6⟩
 exact h.mem.Az
def aEi {fn:Func} {Rr:Ending→World→Prop} {C:DZ} (m:∀b,C.ok0 b→b<C.w0.heap.size) {H:List BN} {σ:Ai}
 (n:∀ok a w,Holds C ok H σ a w→∃v,(results fn a.tmps).run P w=.ok v w∧Rr (.returned v) w):∀(Ds:List Nat) {ok:Nat→Prop} {a:Act} {w:World},Holds C ok H σ a w→(∀d∈Ds,ok d∧C.w0.heap.size≤d∧w.heap[d]? =some (.deferred (some [])))→Ds.Nodup→
  LeavesInM (Gg none) 0 P fn a.tmps Rr (Ds.map fun D=>{ target:=.collected D,args:= #[] }) .returning w
 | [],ok,a,w,h,_,_=>n ok a w h
 |D::Ds,ok,a,w,h,hd,q=>by
  obtain⟨ok',h',f⟩:=h.take m (fun d j=>hd d (Gq _ j)) (hd D (Fa ..)) q;have s:=aEi m n Ds h' f (KD.1 q).2;exact⟨BG,.inl ⟨D,_,rfl,run_takeDeferred (hd D (Fa ..)).2.2,s⟩⟩
def Aw.aH {f:FuncId} {fn:Func} {c:Code} {args:List AV} {E E':List Au} {q:AV} (Z:P.funcs[f]? =some fn) (hb:fn.body=some c)
 (h:AB P c (.enter args fn.ntmps E) (aIn P fn q E')):Aw P f args E q E':=by
 intro ok X H w j z hs ha;refine(wR (ro:=none) (n:=0)).1 (aEz Z hb trivial (RN (h.run none (.inl rfl) ⟨w,ok,X,H⟩ ok H _ w ?_) ?_) rfl)
 ·refine⟨z,?_,.nil _ _ _,z.hlen,fun t ht=>?_⟩
  ·simp[Ai.enter,hs]
  simp only[Ai.enter];by_cases e:t<args.length
  ·have I:(args++List.replicate (fn.ntmps-args.length) AV.junk).getD t .junk=args.getD t .junk:=aGb
   have e2:(j++Array.replicate (fn.ntmps-j.size) undef).getD t undef=j.getD t undef:=by
    simp[FU,Y9 (show t<j.size by omega)]
   rw[I,e2];exact ha t e
  have I:(args++List.replicate (fn.ntmps-args.length) AV.junk).getD t .junk=.junk:=by
   simp only[List.getD,Ho (RZ e),aBd];split<;>rfl
  rw[I];exact .junk _
 rintro e a' w' ⟨ok',H',σ',Y,J⟩;obtain⟨Ds,L,M,O⟩:=Y.defers
 have key:∀(x:List AV) (π:List (Nat×Bool)),Vp P σ' fn.results.toList x→Qx σ'.base σ'.ents π=true→q=(Zo x).back π→E'=OJ σ'.ents π→
  LeavesInM (Gg none) 0 P fn a'.tmps (fun e w'=>∃v ok' H',e=.returned v∧Bo ⟨w,ok,X,H⟩ ok' H' E' w'∧R ok' w' H' q v) a'.defers .returning w':=by
  rintro x π u m rfl rfl;rw[L];refine aEi (P:=P) (C:=⟨w,ok,X,H⟩) z.jl (fun S a2 w2 s=>?_) Ds Y O M;obtain⟨v,hv,hR⟩:=akp (P:=P) s u;exact⟨v,hv,v,S,_,rfl,s.mem.norm π (s.base▸m),hR.back π⟩
 cases e with
 |ret=>obtain⟨x,π,u,m,s,U⟩:=J;exact key x π u m s U
 |normal=>obtain⟨x,π,u,m,s,U⟩:=J;exact key x π u m s U
 |_=>exact J.elim
def Ac {x y:Code} (f:AB P x σ (Ik (fun s=>AB P y s Q) Q)):AB P (.seq x y) σ Q:=AB.seq _ f (fun _ h=>h)
def DL {x y:Code} (K:Ai→Prop) (f:∀s,K s→AB P y s Q) (j:(∀s,K s→AB P y s Q)→AB P x σ (Ik (fun s=>AB P y s Q) Q)):AB P (.seq x y) σ Q:=AB.seq _ (j f) (fun _ h=>h)
def OM {c:Operand} {x y:Code} (f:σ.get c=.d (.lit (.bool true))) (h:AB P x σ Q):AB P (.cond c x y) σ Q:=AB.cond true f (fun _=>h) (fun h=>GX)
def Kt {c:Operand} {x y:Code} (f:σ.get c=.d (.lit (.bool false))) (h:AB P y σ Q):AB P (.cond c x y) σ Q:=AB.cond false f (fun h=>GX) (fun _=>h)
def GR {id:Nat} {ops:Array Oper} {y:Code} {σ':Ai} {rs:List AV} {ess:List (List Au)} {bs:List Bool} (m:P.follows .mixedOrders=true) (f:(TD ops&&UL ops&&Qa ops σ.slots.length&&Ty ops)=true) (j:UZ ops bs=true)
 (h:EP P ops ops.toList σ rs ess bs σ') (n:AB P y σ' Q):AB P (.seq (.region id ops true) y) σ Q:=
 AB.seq (fun s=>s=σ') (.draw m f j h rfl) (fun _ e=>e▸n)
end
section
variable {P : Program} {o : Oper} {es : List Au}
def arq {x:Operand} {t:TypeId} {agg:Bool} {n off:Nat} {cs:List D} {y:D} (f:y=NG agg cs off n) (h:DI P t agg n) (j:off+n≤cs.length) (m:agg=false→n=1) (q:o.op=.load t x):BQ P o [(x,.d (.ref cs off))] es (.d y) es:=f▸agL h j m q
def ag4 {x:Operand} {t:TypeId} {agg:Bool} {k n off:Nat} {cs:List AV} {y:D} (f:y=NG agg (GY cs) off n) (h:es[k]? =some (.box cs)) (hd:cs.all AV.wX=true) (j:DI P t agg n) (m:off+n≤cs.length) (q:agg=false→n=1) (s:o.op=.load t x):
 BQ P o [(x,.ptr k off)] es (.d y) es:=f▸asP h hd j m q s
def atC {x:Operand} {t:TypeId} {f off n:Nat} {agg:Bool} {cs:List D} {y:D} (h:y=NG agg cs off n) (j:Yu P t f off agg n=true) (m:off+n≤cs.length) (q:agg=false→n=1) (s:o.op=.field t x f):BQ P o [(x,.d (.agg cs))] es (.d y) es:=h▸akC j m q s
def aiM {t:TypeId} {h:Array (Nat×Operand)} {f:List (Nat×Nat)} {z:Value} {y:D} (j:GZ P t f z) (vs:List AV) (m:o.op=.build t h) (n:y=.agg (GY (Hq (fun(i:Nat)=>f[i]?) (EW z) h.toList vs))) (q:Ju (fun(i:Nat)=>f[i]?) (EW z).length h.toList vs=true)
 (hd:(Hq (fun(i:Nat)=>f[i]?) (EW z) h.toList vs).all AV.wX=true):BQ P o (Jp h.toList vs) es (.d y) es:=n▸ahw j vs q hd m
def ako {s t:TypeId} {x:Operand} {f k:IntKind} {n:Int} (h:P.underlying s=some (.int f)) (j:P.underlying t=some (.int k)) (m:o.op=.convert s t x):BQ P o [(x,.d (.lit (.int f n)))] es (.d (.lit (.int k (k.wrap n)))) es:=
 aHG m fun w=>by simp[convert,underlying,h,j,Conv.intToInt]
def akB {s t:TypeId} {x:Operand} {u:ByteArray} (f:P.underlying s=some .string) (h:P.underlying t=some .string) (j:o.op=.convert s t x):BQ P o [(x,.d (DT u))] es (.d (DT u)) es:=
 aHG j fun w=>by simp[convert,underlying,f,h]
def agi {t t':TypeId} {x y:Operand} {a b:Bool} (f:P.underlying t=some .bool) (h:o.op=.binOp .eql t x y t'):BQ P o [(x,.d (CM a)),(y,.d (CM b))] es (.d (CM (a==b))) es:=
 Hw (u:=.bool a) (v:=.bool b) (r:=.bool (a==b)) h (fun w=>by
  show((do pure (.bool (←Op.equal t (.bool a) (.bool b))):Sem Value)).run P w=_
  simp only[ER,run_equal_bool w t a b f,EX,Ep]) ⟨rfl,rfl⟩
def ahN {t t':TypeId} {x y:Operand} {a b:Bool} (f:P.underlying t=some .bool) (h:o.op=.binOp .neq t x y t'):BQ P o [(x,.d (CM a)),(y,.d (CM b))] es (.d (CM (!(a==b)))) es:=
 Hw (u:=.bool a) (v:=.bool b) (r:=.bool (!(a==b))) h (fun w=>by
  show((do pure (.bool (!(←Op.equal t (.bool a) (.bool b)))):Sem Value)).run P w=_
  simp only[ER,run_equal_bool w t a b f,EX,Ep]) ⟨rfl,rfl⟩
end
def bF {A Rr:Type} (body:(A→Option Rr)→A→Option Rr):Nat→A→Option Rr
 |0,_=>none
 |n+1,a=>body (bF body n) a
def Ee {P:Program} {σ:Ai} {Q:Exit→Ai→Prop} {j:Code} {A Rr:Type} (S:A→Ai) (body:(A→Option Rr)→A→Option Rr) (r:Rr) (a0:A) (q:Bq σ (S a0)) (h:Go.Proofs.YtolgdkhlelfpoaaGreat.bF body Ar a0=some r)
 (round:∀(J:Ai→Prop) (k:A→Option Rr),(∀σ' a,Bq σ' (S a)→k a=some r→J σ')→∀a,body k a=some r→AB P j (S a) (Ik J Q)):AB P (.loop j) σ Q:=by
 refine AB.loop (fun n s=>∃a,Bq s (S a)∧Go.Proofs.YtolgdkhlelfpoaaGreat.bF body n a=some r) Ar ⟨a0,q,h⟩ ?_;rintro n s ⟨a,f,m⟩;refine Cc f ?_;cases n with
 |zero=>cases m
 |succ n=>exact round _ (Go.Proofs.YtolgdkhlelfpoaaGreat.bF body n) (fun σ' a u z=>⟨n,UR n,a,u,z⟩) a m
def aX {A B Rr:Type} (body:(A→B→Option Rr)→A→B→Option Rr):Nat→A→B→Option Rr
 |0,_,_=>none
 |n+1,a,b=>body (aX body n) a b
def EI {P:Program} {σ:Ai} {Q:Exit→Ai→Prop} {m:Code} {A B Rr:Type} (S:A→B→Ai) (body:(A→B→Option Rr)→A→B→Option Rr) (r:Rr) (a0:A) (j:B) (u:Bq σ (S a0 j)) (h:Go.Proofs.YtolgdkhlelfpoaaGreat.aX body Ar a0 j=some r)
 (round:∀(J:Ai→Prop) (k:A→B→Option Rr),(∀σ' a b,Bq σ' (S a b)→k a b=some r→J σ')→∀a b,body k a b=some r→AB P m (S a b) (Ik J Q)):AB P (.loop m) σ Q:=by
 refine AB.loop (fun n s=>∃a b,Bq s (S a b)∧Go.Proofs.YtolgdkhlelfpoaaGreat.aX body n a b=some r) Ar ⟨a0,j,u,h⟩ ?_;rintro n s ⟨a,b,f,q⟩;refine Cc f ?_;cases n with
 |zero=>cases q
 |succ n=>exact round _ (Go.Proofs.YtolgdkhlelfpoaaGreat.aX body n) (fun σ' a b z I=>⟨n,UR n,a,b,z,I⟩) a b q
def zq {A B C Rr:Type} (body:(A→B→C→Option Rr)→A→B→C→Option Rr):Nat→A→B→C→Option Rr
 |0,_,_,_=>none
 |n+1,a,b,c=>body (zq body n) a b c
def kV {P:Program} {σ:Ai} {Q:Exit→Ai→Prop} {q:Code} {A B C Rr:Type} (S:A→B→C→Ai) (body:(A→B→C→Option Rr)→A→B→C→Option Rr) (r:Rr) (a0:A) (j:B) (m:C) (z:Bq σ (S a0 j m)) (h:Go.Proofs.YtolgdkhlelfpoaaGreat.zq body Ar a0 j m=some r)
 (round:∀(J:Ai→Prop) (k:A→B→C→Option Rr),(∀σ' a b c,Bq σ' (S a b c)→k a b c=some r→J σ')→∀a b c,body k a b c=some r→AB P q (S a b c) (Ik J Q)):AB P (.loop q) σ Q:=by
 refine AB.loop (fun n s=>∃a b c,Bq s (S a b c)∧Go.Proofs.YtolgdkhlelfpoaaGreat.zq body n a b c=some r) Ar ⟨a0,j,m,z,h⟩ ?_;rintro n s ⟨a,b,c,f,u⟩;refine Cc f ?_;cases n with
 |zero=>cases u
 |succ n=>exact round _ (Go.Proofs.YtolgdkhlelfpoaaGreat.zq body n) (fun σ' a b c I L=>⟨n,UR n,a,b,c,I,L⟩) a b c u
def UN {A B C D Rr:Type} (body:(A→B→C→D→Option Rr)→A→B→C→D→Option Rr):Nat→A→B→C→D→Option Rr
 |0,_,_,_,_=>none
 |n+1,a,b,c,d=>body (UN body n) a b c d
def AB.UN {P:Program} {σ:Ai} {Q:Exit→Ai→Prop} {u:Code} {A B C D Rr:Type} (S:A→B→C→D→Ai) (body:(A→B→C→D→Option Rr)→A→B→C→D→Option Rr) (r:Rr) (a0:A) (j:B) (m:C) (q:D) (I:Bq σ (S a0 j m q)) (h:Go.Proofs.YtolgdkhlelfpoaaGreat.UN body Ar a0 j m q=some r)
 (round:∀(J:Ai→Prop) (k:A→B→C→D→Option Rr),(∀σ' a b c d,Bq σ' (S a b c d)→k a b c d=some r→J σ')→∀a b c d,body k a b c d=some r→AB P u (S a b c d) (Ik J Q)):AB P (.loop u) σ Q:=by
 refine AB.loop (fun n s=>∃a b c d,Bq s (S a b c d)∧Go.Proofs.YtolgdkhlelfpoaaGreat.UN body n a b c d=some r) Ar ⟨a0,j,m,q,I,h⟩ ?_;rintro n s ⟨a,b,c,d,f,z⟩;refine Cc f ?_;cases n with
 |zero=>cases z
 |succ n=>exact round _ (Go.Proofs.YtolgdkhlelfpoaaGreat.UN body n) (fun σ' a b c d L M=>⟨n,UR n,a,b,c,d,L,M⟩) a b c d z
def yx {A B C D E Rr:Type} (body:(A→B→C→D→E→Option Rr)→A→B→C→D→E→Option Rr):Nat→A→B→C→D→E→Option Rr
 |0,_,_,_,_,_=>none
 |n+1,a,b,c,d,e=>body (yx body n) a b c d e
def uV {P:Program} {σ:Ai} {Q:Exit→Ai→Prop} {z:Code} {A B C D E Rr:Type} (S:A→B→C→D→E→Ai) (body:(A→B→C→D→E→Option Rr)→A→B→C→D→E→Option Rr) (r:Rr) (a0:A) (j:B) (m:C) (q:D) (u:E) (L:Bq σ (S a0 j m q u)) (h:Go.Proofs.YtolgdkhlelfpoaaGreat.yx body Ar a0 j m q u=some r)
 (round:∀(J:Ai→Prop) (k:A→B→C→D→E→Option Rr),(∀σ' a b c d e,Bq σ' (S a b c d e)→k a b c d e=some r→J σ')→∀a b c d e,body k a b c d e=some r→AB P z (S a b c d e) (Ik J Q)):AB P (.loop z) σ Q:=by
 refine AB.loop (fun n s=>∃a b c d e,Bq s (S a b c d e)∧Go.Proofs.YtolgdkhlelfpoaaGreat.yx body n a b c d e=some r) Ar ⟨a0,j,m,q,u,L,h⟩ ?_;rintro n s ⟨a,b,c,d,e,f,I⟩;refine Cc f ?_;cases n with
 |zero=>cases I
 |succ n=>exact round _ (Go.Proofs.YtolgdkhlelfpoaaGreat.yx body n) (fun σ' a b c d e M O=>⟨n,UR n,a,b,c,d,e,M,O⟩) a b c d e I
def AU {A B C D E F Rr:Type} (body:(A→B→C→D→E→F→Option Rr)→A→B→C→D→E→F→Option Rr):Nat→A→B→C→D→E→F→Option Rr
 |0,_,_,_,_,_,_=>none
 |n+1,a,b,c,d,e,f=>body (AU body n) a b c d e f
def AB.AU {P:Program} {σ:Ai} {Q:Exit→Ai→Prop} {L:Code} {A B C D E F Rr:Type} (S:A→B→C→D→E→F→Ai) (body:(A→B→C→D→E→F→Option Rr)→A→B→C→D→E→F→Option Rr) (r:Rr) (a0:A) (m:B) (q:C) (u:D) (z:E) (I:F) (O:Bq σ (S a0 m q u z I)) (h:Go.Proofs.YtolgdkhlelfpoaaGreat.AU body Ar a0 m q u z I=some r)
 (round:∀(J:Ai→Prop) (k:A→B→C→D→E→F→Option Rr),(∀σ' a b c d e f,Bq σ' (S a b c d e f)→k a b c d e f=some r→J σ')→∀a b c d e f,body k a b c d e f=some r→AB P L (S a b c d e f) (Ik J Q)):AB P (.loop L) σ Q:=by
 refine AB.loop (fun n s=>∃a b c d e f,Bq s (S a b c d e f)∧Go.Proofs.YtolgdkhlelfpoaaGreat.AU body n a b c d e f=some r) Ar ⟨a0,m,q,u,z,I,O,h⟩ ?_;rintro n s ⟨a,b,c,d,e,f,j,M⟩;refine Cc j ?_;cases n with
 |zero=>cases M
 |succ n=>exact round _ (Go.Proofs.YtolgdkhlelfpoaaGreat.AU body n) (fun σ' a b c d e f U Y=>⟨n,UR n,a,b,c,d,e,f,U,Y⟩) a b c d e f M
def UO {A B C D E F G Rr:Type} (body:(A→B→C→D→E→F→G→Option Rr)→A→B→C→D→E→F→G→Option Rr):Nat→A→B→C→D→E→F→G→Option Rr
 |0,_,_,_,_,_,_,_=>none
 |n+1,a,b,c,d,e,f,g=>body (UO body n) a b c d e f g
def AB.UO {P:Program} {σ:Ai} {Q:Exit→Ai→Prop} {M:Code} {A B C D E F G Rr:Type} (S:A→B→C→D→E→F→G→Ai) (body:(A→B→C→D→E→F→G→Option Rr)→A→B→C→D→E→F→G→Option Rr) (r:Rr) (a0:A) (m:B) (q:C) (u:D) (z:E) (I:F) (L:G) (U:Bq σ (S a0 m q u z I L)) (h:Go.Proofs.YtolgdkhlelfpoaaGreat.UO body Ar a0 m q u z I L=some r)
 (round:∀(J:Ai→Prop) (k:A→B→C→D→E→F→G→Option Rr),(∀σ' a b c d e f g,Bq σ' (S a b c d e f g)→k a b c d e f g=some r→J σ')→∀a b c d e f g,body k a b c d e f g=some r→AB P M (S a b c d e f g) (Ik J Q)):AB P (.loop M) σ Q:=by
 refine AB.loop (fun n s=>∃a b c d e f g,Bq s (S a b c d e f g)∧Go.Proofs.YtolgdkhlelfpoaaGreat.UO body n a b c d e f g=some r) Ar ⟨a0,m,q,u,z,I,L,U,h⟩ ?_;rintro n s ⟨a,b,c,d,e,f,g,j,O⟩;refine Cc j ?_;cases n with
 |zero=>cases O
 |succ n=>exact round _ (Go.Proofs.YtolgdkhlelfpoaaGreat.UO body n) (fun σ' a b c d e f g Y Z=>⟨n,UR n,a,b,c,d,e,f,g,Y,Z⟩) a b c d e f g O
section
variable {P : Program} {o : Oper} {es : List Au} {α : Type}
def akO {b:Nat} {z:α} {n c:Int} {r:List α} (h:Gy b z n c=some r):(0≤n∧n≤c∧(b:Int)*c≤140737488355328)∧r=List.replicate n.toNat z:=by
 unfold Gy at h;split at h
 ·exact⟨‹_›,(Bl h).symm⟩
 cases h
def Xx {x y:Operand} {t e:TypeId} {size f:Nat} {j:Value} {n c:Int} {r:List α} (enc:α→D) (z:α) (h:Gy f z n c=some r) (hE:Ez P t e size f) (hz:(P.info? e).bind (·.zero)=some j) (h1:j.cells.all (·.oneCell')=true) (I:j.cells.size=size)
 (m:EW j=(enc z).cells.map .d) (hb:0<f) (ho:o.op=.makeSlice t x y):BQ P o [(x,.d (AP n)),(y,.d (AP c))] es (.aP es.length) (es++[.arr e size (List.map enc r)]):=
 .eff fun C ok H a w hm hn=>by
  obtain⟨⟨h0,U,hbc⟩,rfl⟩:=akO h;have hx:=(Dt hn).1.lit;have J:=(Dt hn).2.lit;simp only at hx J;obtain⟨i,z',hi,hz',hs,Y,_⟩:=hE.info;have Z:i.zero=some j:=by rw[hi]at hz;simpa using hz
  have L:c≤9223372036854775807:=by
   have h2:(1:Int)*c≤(f:Int)*c:=Int.mul_le_mul_of_nonneg_right AA AA;omega
  have hr:=run_make (P:=P) w t e i j hE.und hi Z .i64 .i64 n c h0 U (by rw[Y];omega) L;rw[hs]at hr
  let cells:=madeCells j.cells (c.toNat*size)
  have M:=hE.pos;have q:cells.size=c.toNat*size:=size_madeCells _ _;have O:(EW j).length=size:=by simp[EW,I]
  have s:∀y∈List.map enc (List.replicate n.toNat z),y.cells.length=size:=by
   intro y J;simp only[List.map_replicate,List.mem_replicate]at J;rw[J.2,←O,m];simp
  have u:=OD s;have hlen:(List.map enc (List.replicate n.toNat z)).length=n.toNat:=BG
  rw[hlen]at u;have avp:n.toNat*size≤c.toNat*size:=Hg _ AA
  have hrs:∀{ok:Nat→Prop} {w:World} {H:List BN},Ed ok w H (flat (List.map enc (List.replicate n.toNat z))) (cells.toList.take (n.toNat*size)):=by
   intro ok w H;refine⟨by rw[u,G5,PX,q];omega,fun k hk=>?_⟩;rw[u]at hk;have hd:=rQ k size;have hq:k/size<n.toNat:=jC (by rwa [QO]at hk);have hm':k % size<size:=YI _ M;have e0:k=k/size*size+k % size:=by rw[QO];exact hd.symm
   have e1:(flat (List.map enc (List.replicate n.toNat z))).getD k .junk=.d ((enc z).cells.getD (k % size) Cb):=by
    have hg:=flat_get s (k/size) (k % size) (by rw[hlen];exact hq) hm';rw[←e0]at hg;rw[hg];congr 3;simp[List.getD,hq]
   have hcl:(enc z).cells.length=size:=by rw[←O,m];simp
   have e2:(AV.d ((enc z).cells.getD (k % size) Cb))=(EW j).getD (k % size) .junk:=by
    rw[m];have :k % size<(enc z).cells.length:=AA
    simp[List.getD,this]
   have S:k % size<j.cells.size:=AA
   have e3:(cells.toList.take (n.toNat*size)).getD k undef=j.cells[k % size]:=by
    have hk2:k<c.toNat*size:=AA
    have e:cells.toList=(List.range (c.toNat*size)).map fun i=>j.cells[i % j.cells.size]! :=by
     show(madeCells j.cells (c.toNat*size)).toList=_;simp[madeCells]
    rw[e];simp only[List.getD,Jo hk];simp[hk2,I];rw[jZ j.cells (k % size) S]
   rw[e1,e2,e3];have e4:(EW j).getD (k % size) .junk=.d (Lp j.cells[k % size]):=by simp[EW,List.getD,S]
   rw[e4];exact⟨l7 ((O7.1 h1) _ BG),.d _ _ (YT _)⟩
  obtain⟨h2,h3⟩:=hm.push (.cells cells e) ⟨.slice (some ⟨w.heap.size,0,none⟩) n.toNat c.toNat,size⟩ (.arr e size (List.map enc (List.replicate n.toNat z))) (fun b hb=>by simpa[CQ]using hb.symm) (by
   refine⟨rfl,s,cells.toList.take (n.toNat*size),⟨?_,.inr ⟨w.heap.size,c.toNat,cells,by rw[hlen],Dx _,Y5 w _,by rw[hlen];omega,wF,Zd q.symm,by rw[hlen]⟩⟩,hrs⟩
   rw[hlen,G5,PX,q];omega)
  refine⟨.slice (some ⟨w.heap.size,0,none⟩) n.toNat c.toNat,_,ok,_,.inl ?_,h3,Names.push _ _,h2,.aP _ _ _ _ size (by rw[←hm.hlen];simp)⟩;simp only[execOp,ho,hx,J,ER,hr,EX,Ep];rfl
def gCopy (l m:List α):List α:=m.take l.length++l.drop m.length
def as8 {x y:Operand} {t e:TypeId} {size bytes k:Nat} (enc:α→D) (l m:List α) (hE:Ez P t e size bytes) (hk:es[k]? =some (.arr e size (List.map enc l))) (hc:∀a,(enc a).cells.length=size) (ho:o.op=.call { callee:=.builtin .copy,args:= #[x,y],argTypes:= #[t,t] }):
 BQ P o [(x,.aP k),(y,.d (Af enc m))] es .junk (es.set k (.arr e size (List.map enc (gCopy l m)))):=
 .eff fun C ok H a w hm hn=>by
  have hx:=(Dt hn).1;have hy:=(Dt hn).2;simp only at hx hy;obtain⟨h,hh,hok⟩:=Et hm.ent hm.hlen hk;have hxv:=Me hx hh;obtain⟨i,z',hi,hz',hs,hby,_⟩:=hE.info;have hu:(underlying t).run P w=.ok (.slice e) w:=aFh
  have hsz:(sizeOf e).run P w=.ok size w:=aDI
  have O:∀(q:List α),∀y∈q.map enc,y.cells.length=size:=fun q y hy=>aBT
  have hyR:Cm ok w (.sl (m.map enc)) (a.eval y):=by cases hy with |d _ _ h=>exact h
  obtain⟨f,M,auy⟩:=Yf H hyR (O m);obtain⟨h1,h2,ys,S,hrs⟩:=hok;have U:(m.map enc).length=m.length:=BG
  have hll:(l.map enc).length=l.length:=BG
  have hnl:f.length=m.length*size:=by rw[M.len,U]
  let n:=Nat.min m.length l.length
  have Y:(Builtin.lenOf (a.eval y)).run P w=.ok m.length w:=by
   rcases M.at_ with⟨ad,c,Z,_⟩|⟨c,Z,e2⟩
   ·rw[Z];simp[Builtin.lenOf]
   rw[Z];rw[U]at e2;simp[Builtin.lenOf,e2]
  have z:(Builtin.firstCells size n (a.eval y)).run P w=.ok (f.take (n*size)).toArray w:=by
   rcases M.at_ with⟨ad,c,Z,hcells⟩|⟨c,Z,e2⟩
   ·rw[Z];refine run_firstCells_some (P:=P) w size n ad _ c (f.take (n*size)) ?_ ?_
    ·rw[G5,hnl];have :n*size≤m.length*size:=Hg _ (Nat.min_le_left _ _);omega
    intro j v hj;rw[dD]at hj;split at hj
    ·exact hcells j v hj
    cases hj
   rw[Z];rw[U]at e2;have :f=[]:=Fj (by rw[hnl,e2];simp);simp[Builtin.firstCells,this]
  have hone:∀u∈f.take (n*size),u.oneCell'=true:=fun u hu=>M.one u (aA2 hu);have hn1:n≤m.length:=Nat.min_le_left _ _;have hn2:n≤l.length:=Nat.min_le_right _ _
  have s:(f.take (n*size)).length=n*size:=by
   rw[G5,hnl];have :n*size≤m.length*size:=Hg _ hn1;omega
  have hgc:gCopy l m=m.take n++l.drop n:=by
   unfold gCopy;by_cases hle:m.length≤l.length
   ·have Z:n=m.length:=tH hle;rw[Z,P6 hle,Hy]
   have Z:n=l.length:=Nat.min_eq_right AA;rw[Z,aAG AA,Oa]
  have I:(gCopy l m).length=l.length:=by rw[hgc];simp;omega
  rcases S.2 with⟨hv,hl0⟩|⟨g,cap,J,hv,_,hg,hncap,hcm,hcs,htake⟩
  ·
   rw[hll]at hl0;have hn0:n=0:=AA
   have hl:l=[]:=Fj hl0;have hge:gCopy l m=l:=by rw[hgc,hn0];simp
   rw[hge]
   have hset:es.set k (.arr e size (List.map enc l))=es:=by
    apply Zq;intro j;by_cases hj:k=j
    ·subst hj;have hkl:=(Eb.1 hk).1;rw[List.getElem?_set_self hkl,hk]
    rw[Vq hj]
   rw[hset];refine⟨goInt n,w,ok,H,.inl ?_,.refl _ _,.refl _,hm,.junk _⟩;have e0:Nat.min m.length 0=n:=by rw[hn0];simp
   have hf0:(Builtin.firstCells size 0 (a.eval y)).run P w=.ok #[] w:=by rw[hn0]at z;simpa using z
   simp[execOp,ho,resolve,invoke,builtin,Builtin.copy_,hxv,hv,hu,Y,hsz,hf0,hn0]
  ·rw[hll]at hv hncap htake;have hlt:g<w.heap.size:=(Ei.1 hg).1
   have hfit:n*size≤J.size:=by
    exact E5 (Hg _ AA) hcs
   have hst:=aEt (P:=P) g 0 e (f.take (n*size)) 0 J w hg (by rw[s];omega) hone;have aou:∀y∈(gCopy l m).map enc,y.cells.length=size:=O _
   obtain⟨h3,h4⟩:=hm.upd (e:=.arr e size (List.map enc (gCopy l m))) (w':=w.setRow g (J.toList.take (0+0)++f.take (n*size)++J.toList.drop (0+0+(f.take (n*size)).length)).toArray) hk rfl hh (by rw[hv];rfl) rfl rfl rfl aCP (fun c hc=>aCy _ _ _ _ hc) (fun hg'=>by
    refine⟨h1,aou,f.take (n*size)++ys.drop (n*size),?_,?_⟩
    ·refine⟨?_,.inr ⟨g,cap,_,by rw[CB,I];exact hv,Dx _,gG w g J _ e (0,0) hg,by rw[CB,I];exact hncap,hcm,?_,?_⟩⟩
     ·simp only[Dk,s,J3,S.1,CB,I];have :n*size≤l.length*size:=Hg _ hn2;omega
     ·simp only[PY,xM,IC,Hz,s];simp only[Yy,Dk,s,J3,PX];rw[show n*size+(J.size-n*size)=J.size by omega];exact hcs
     simp only[PY,xM,IC,Hz,s,sF];rw[CB,I,←htake];rw[List.take_append,s,P6 (by rw[s];exact Hg _ hn2)];congr 1;rw[List.drop_take]
    have ha:=auy.mono hg' (Names.refl H);have hb:=hrs.mono hg' (Names.refl H);have auz:=OD (O l);have auA:=OD (O m);have ash:=OD aou;have avq:n*size≤l.length*size:=Hg _ hn2;have avr:n*size≤m.length*size:=Hg _ hn1;refine⟨by simp only[ash,Dk,s,J3,S.1,CB,I];omega,fun j hj=>?_⟩;rw[ash,CB,I]at hj;have hpos:=hE.pos;have e0:j=j/size*size+j % size:=by rw[QO];exact(rQ j size).symm
    have hq:j/size<l.length:=jC (by rwa [QO]at hj);have hr:j % size<size:=YI _ hpos;have hg3:=flat_get aou (j/size) (j % size) (by rw[CB,I];exact hq) hr;rw[←e0]at hg3;by_cases hjn:j<n*size
    ·have hqn:j/size<n:=jC (by rwa [QO]at hjn);have hg2:=flat_get (O m) (j/size) (j % size) (by rw[U];omega) hr;rw[←e0]at hg2
     have L:((gCopy l m).map enc).getD (j/size) Cb=(m.map enc).getD (j/size) Cb:=by
      rw[hgc];simp only[List.getD,JW];rw[FD Dp,V3,Jo hqn]
     rw[hg3,L,←hg2]
     have e5:(f.take (n*size)++ys.drop (n*size)).getD j undef=f.getD j undef:=by
      simp only[List.getD];rw[FD (by rw[s];exact hjn),Jo hjn]
     rw[e5];exact ha.2 j (by rw[auA,U];omega)
    have hqn:n≤j/size:=(Nat.le_div_iff_mul_le hpos).2 AA;have hg1:=flat_get (O l) (j/size) (j % size) (by rw[hll];exact hq) hr;rw[←e0]at hg1
    have L:((gCopy l m).map enc).getD (j/size) Cb=(l.map enc).getD (j/size) Cb:=by
     rw[hgc];have hlt':(m.take n).length=n:=Dp
     simp only[List.getD,JW];rw[Ho (by rw[CB,hlt'];exact hqn),CB,hlt',WJ,ND];congr 2;omega
    rw[hg3,L,←hg1]
    have e5:(f.take (n*size)++ys.drop (n*size)).getD j undef=ys.getD j undef:=by
     simp only[List.getD];rw[Ho (by rw[s];omega),s,ND];congr 2;omega
    rw[e5]
    exact hb.2 j (by rw[auz,hll];omega))
   refine⟨goInt n,_,ok,H,.inl ?_,h4,.refl _,h3,.junk _⟩;have e0:Nat.min m.length l.length=n:=rfl;simp[execOp,ho,resolve,invoke,builtin,Builtin.copy_,hxv,hv,hu,Y,hsz,e0,z];rw[hst];simp
end
def BR (s:ByteArray):List Int:=s.data.toList.map fun c=>(c.toNat:Int)
def Fh (s:ByteArray):(BR s).length=s.size:=by unfold BR;rw[CB,PX];rfl
section
variable {P : Program} {o : Oper} {es : List Au} {α : Type}
def zD :∀(l:List Int),flat (l.map ED)=l.map fun n=>.d (ED n)
 | []=>rfl
 |n::l=>by rw[J5,SL,zD l];rfl
def arP {w:World} {t u ty e:TypeId} {i:TypeInfo} (U:P.underlying t=some (.slice e)) (Y:P.underlying u=some .string) (hi:P.info? e=some i) (hz:i.zero=some (.int .u8 0)) (f:i.size=1) (O:i.bytes=1)
 {v:Value} {n:Nat} {xs:List Value} (j:kG w e 1 v n xs) (s:ByteArray) (J:n+s.size≤maxLen) (z:n+s.size≤140737488355328):
 ∃v' w',(Builtin.append_ #[t,u] ty #[v,.string s]).run P w=.ok v' w'∧kG w' e 1 v' (n+s.size) (xs++Lib.strCells s)∧w.grownBy w' v.ownBlock∧(∀M,CQ v'=some M→CQ v=some M∨w.heap.size≤M):=by
 have I:xs.length=n:=by simpa using j.1
 have hlen:(xs++Lib.strCells s).length=(n+s.size)*1:=by rw[Dk,I,aFy,YU]
 rcases j.2 with⟨rfl,rfl⟩|⟨g,cap,S,rfl,_,hg,hnc,L,Z,m⟩
 ·have hx:xs=[]:=Fj I;subst hx;obtain⟨v',w',q1,q2,q3,q4⟩:=Lib.run_append_own_string (P:=P) w w.heap.size t u ty e i U Y hi hz f O _ 0 [] (zK w w.heap.size e 1) s J z (Dn _);refine⟨v',w',q1,.of q2,q3,fun M h=>.inr ?_⟩;rcases q2.2 with⟨rfl,_⟩|⟨g2,_,_,rfl,hle,_⟩
  ·simp[CQ]at h
  simp[CQ]at h;subst h;exact hle
 rw[YU]at Z m;by_cases q:n+s.size≤cap
 ·have hr:=Lib.run_append_room_string (P:=P) w t u ty e i U Y hi f g n cap S hg s q AA;refine⟨_,_,hr,⟨hlen,.inr ⟨g,cap,_,rfl,Dx _,gG w g S _ e _ hg,q,L,?_,?_⟩⟩,⟨rfl,rfl,rfl,BG,fun k _ hk=>setRow_other w g k _ (fun e=>hk (by simp[Value.ownBlock,e]))⟩,fun M h=>.inl h⟩
  ·simp only[Yy,Dk,G5,J3,PX,aFy];omega
  rw[m,←hlen];exact aBB
 have hr:=Lib.run_append_grow_string (P:=P) w t u ty e i (.int .u8 0) U Y hi hz ⟨g,0,none⟩ n cap xs (by rw[f];simpa using I) (j.cells (g:=g) rfl) s AA (by unfold maxLen at J;omega) (by rw[O];exact growslice_fits AA AA);have hge:=grownCap_ge w (n+s.size) cap e;have L:grownCap w (n+s.size) cap e≤maxLen:=grownCap_le_maxLen w (n+s.size) cap e J;refine⟨_,_,hr,⟨hlen,.inr ⟨w.heap.size,_,_,rfl,Dx _,Y5 w.drew _,hge,L,Zd ?_,?_⟩⟩,⟨rfl,rfl,rfl,BG,fun k hk _=>Hl w.drew _ k hk⟩,fun M h=>.inr (by simp[CQ]at h;omega)⟩
 ·have hz1:(Value.int IntKind.u8 0).cells.size=1:=rfl;simp only[Array.size_append,Yy,size_zeroCells,hz1,I,aFy];omega
 simp only[Array.toList_append,G6];rw[←G6,←hlen];exact aBB
def arO {s x:Operand} {t u e:TypeId} {k:Nat} {l r:List Int} {f:ByteArray} (h:Ci 1 l (BR f)=some r) (hE:Ez P t e 1 1) (hz:(P.info? e).bind (·.zero)=some (.int .u8 0)) (hu:P.underlying u=some .string) (hk:es[k]? =some (.arr e 1 (List.map ED l)))
 (ho:o.op=.call { callee:=.builtin .append,args:= #[s,x],argTypes:= #[t,u] }):BQ P o [(s,.aP k),(x,.d (DT f))] es (.aP es.length) (es.set k .dead++[.arr e 1 (List.map ED r)]):=
 .eff fun C ok H a w Y hn=>by
  obtain⟨rfl,hlen⟩:=qM h;rw[Fh,YU]at hlen;have hs:=(Dt hn).1;have hx:=(Dt hn).2.lit;simp only at hs hx;obtain⟨hd,hh,Z⟩:=Et Y.ent Y.hlen hk;have hsv:=Me hs hh;obtain⟨h1,h2,ys,m,hrs⟩:=Z;obtain⟨i,z',hi,hz',hs1,hby,_⟩:=hE.info;have hz2:i.zero=some (.int .u8 0):=by rw[hi]at hz;simpa using hz
  have I:(l.map ED).length=l.length:=BG
  have J:(l.map ED).length+f.size≤maxLen:=by rw[I];unfold maxLen;omega
  obtain⟨v',w',hr,z,L,M⟩:=arP (P:=P) (ty:=o.type) hE.und hu hi hz2 hs1 hby m f J (by rw[I];exact hlen)
  obtain⟨h3,h4⟩:=Y.turn (h':=⟨v',1⟩) (e:=.arr e 1 (List.map ED (l++BR f))) hk rfl hh L.os L.tape L.output L.size (fun c hc hne=>L.block c hc (by rw[aC8 m];exact fun e=>hne e.symm)) (fun g O=>⟨ku z O,M g O⟩) (fun hgr=>by
   refine⟨rfl,fun y hy=>by obtain⟨q,_,rfl⟩:=FM.1 hy;rfl,ys++Lib.strCells f,?_,?_⟩
   ·have e:(List.map ED (l++BR f)).length=(l.map ED).length+f.size:=by simp[Fh]
    rw[e];exact z
   have S:=hrs.mono hgr (Names.push H [⟨v',1⟩]);have hfl:(flat (l.map ED)).length=l.length:=by rw[zD];simp
   have hcl:(Lib.strCells f)=(BR f).map (.int .u8):=by unfold Lib.strCells BR;rw[lu];rfl
   rw[JW,Yg,zD (BR f),hcl];refine⟨by rw[Dk,Dk,S.1,CB,CB],fun i hi=>?_⟩;by_cases j:i<(flat (l.map ED)).length
   ·have e1:(flat (l.map ED)++(BR f).map fun n=>AV.d (ED n)).getD i .junk=(flat (l.map ED)).getD i .junk:=by simp[List.getD,FD j]
    have e2:(ys++(BR f).map (Value.int .u8)).getD i undef=ys.getD i undef:=by simp[List.getD,FD (by rw[S.1];exact j:i<ys.length)]
    rw[e1,e2];exact S.2 i j
   have U:i-(flat (l.map ED)).length<(BR f).length:=by rw[Dk,CB]at hi;omega
   have e1:(flat (l.map ED)++(BR f).map fun n=>AV.d (ED n)).getD i .junk=.d (ED (BR f)[i-(flat (l.map ED)).length]):=by simp[List.getD,Ho (RZ j),U]
   have e2:(ys++(BR f).map (Value.int .u8)).getD i undef=.int .u8 (BR f)[i-(flat (l.map ED)).length]:=by simp[List.getD,Ho (by rw[S.1];omega:ys.length≤i),S.1,U]
   rw[e1,e2]
   exact⟨rfl,.d _ _ (.lit _)⟩)
  have hH:(H++[(⟨v',1⟩:BN)])[es.length]? =some ⟨v',1⟩:=by rw[←Y.hlen];simp
  refine⟨v',w',ok,_,.inl ?_,h4,Names.push _ _,h3,?_⟩
  ·simp[execOp,ho,resolve,invoke,builtin,hx,hsv,hr]
  rcases z.2 with⟨rfl,_⟩|⟨g',c',_,rfl,_⟩
  ·exact .aP _ _ _ _ 1 hH
  exact .aP _ _ _ _ 1 hH
def Dc (op:BinOp) (k:IntKind) (x y:Int):Int:=
 match op with
 | .and=>k.wrap ((BitVec.ofInt k.bits x&&& BitVec.ofInt k.bits y).toNat)
 | .or=>k.wrap ((BitVec.ofInt k.bits x|||BitVec.ofInt k.bits y).toNat)
 | .xor=>k.wrap ((BitVec.ofInt k.bits x^^^BitVec.ofInt k.bits y).toNat)
 |_=>k.wrap ((BitVec.ofInt k.bits x&&& ~~~(BitVec.ofInt k.bits y)).toNat)
def NV {t t':TypeId} {x y:Operand} {k:IntKind} {u v:Int} (f:o.op=.binOp .and t x y t'):BQ P o [(x,.d (.lit (.int k u))),(y,.d (.lit (.int k v)))] es (.d (.lit (.int k (Dc .and k u v)))) es:=
 Hw f (fun w=>aA5) ⟨rfl,rfl⟩
def TQ {t t':TypeId} {x y:Operand} {k:IntKind} {u v:Int} (f:o.op=.binOp .or t x y t'):BQ P o [(x,.d (.lit (.int k u))),(y,.d (.lit (.int k v)))] es (.d (.lit (.int k (Dc .or k u v)))) es:=
 Hw f (fun w=>aA5) ⟨rfl,rfl⟩
def asJ {t t':TypeId} {x y:Operand} {k:IntKind} {u v:Int} (f:o.op=.binOp .xor t x y t'):BQ P o [(x,.d (.lit (.int k u))),(y,.d (.lit (.int k v)))] es (.d (.lit (.int k (Dc .xor k u v)))) es:=
 Hw f (fun w=>aA5) ⟨rfl,rfl⟩
def aqW {t t':TypeId} {x y:Operand} {k:IntKind} {u v:Int} (f:o.op=.binOp .andNot t x y t'):BQ P o [(x,.d (.lit (.int k u))),(y,.d (.lit (.int k v)))] es (.d (.lit (.int k (Dc .andNot k u v)))) es:=
 Hw f (fun w=>aA5) ⟨rfl,rfl⟩
def Yn (k:IntKind) (x:Int):Int:=Dc .xor k (if k.signed then -1 else k.max) x
def alK {t:TypeId} {x:Operand} {k:IntKind} {u:Int} (f:o.op=.unOp .xor t x):BQ P o [(x,.d (.lit (.int k u)))] es (.d (.lit (.int k (Yn k u)))) es:=
 aDQ f (fun w=>by simp[Op.unary,Op.intBits,Yn,Dc])
def LY (op:BinOp) (k:IntKind) (x y:Int):Option Int:=
 if y<0 then none else some (match op with | .shl=>k.wrap (x*2^(min y.toNat k.bits))|_=>x.fdiv (2^(min y.toNat k.bits)))
def aAt {t t':TypeId} {x y:Operand} {k k':IntKind} {u v r:Int} (h:LY .shl k u v=some r) (f:o.op=.binOp .shl t x y t'):BQ P o [(x,.d (.lit (.int k u))),(y,.d (.lit (.int k' v)))] es (.d (.lit (.int k r))) es:=by
 unfold LY at h;split at h
 ·cases h
 rename_i j;obtain rfl:=Bl h;exact Hw f (fun w=>by simp[binOp,Op.shift,j]) ⟨rfl,rfl⟩
def aIi {t t':TypeId} {x y:Operand} {k k':IntKind} {u v r:Int} (h:LY .shr k u v=some r) (f:o.op=.binOp .shr t x y t'):BQ P o [(x,.d (.lit (.int k u))),(y,.d (.lit (.int k' v)))] es (.d (.lit (.int k r))) es:=by
 unfold LY at h;split at h
 ·cases h
 rename_i j;obtain rfl:=Bl h;exact Hw f (fun w=>by simp[binOp,Op.shift,j]) ⟨rfl,rfl⟩
def aEh (k:IntKind) (a b:Int):Option Int:=if b=0 then none else some (k.wrap (a.tdiv b))
def X0 (a b:Int):Option Int:=if b=0 then none else some (a.tmod b)
end
section
variable {P : Program} {o : Oper} {es : List Au} {α : Type}
def aeF {ok:Nat→Prop} {w:World} {H:List BN} {h:BN} {e size k i off:Nat} {xs:List D} {v:Value} (M:H[k]? =some h) (q:Dy ok w H h (.arr e size xs)) (hi:i<xs.length) (O:R ok w H (.jL k i off) v):
 ∃g cap f ys,h.v=.slice (some ⟨g,0,none⟩) xs.length cap∧w.heap[g]? =some (.cells f e (0,0))∧xs.length≤cap∧cap≤maxLen∧xs.length*size≤f.size∧cap*size≤f.size∧f.toList.take (xs.length*size)=ys∧ys.length=xs.length*size∧Ed ok w H (flat xs) ys∧(∀x∈xs,x.cells.length=size)∧v=.pointer (some ⟨g,i*size+off,none⟩):=by
 obtain⟨I,S,ys,⟨U,Y⟩,Z⟩:=q;rcases Y with⟨m,h7⟩|⟨g,cap,f,m,h7,h8,J,u,j,z⟩
 ·omega
 refine⟨g,cap,f,ys,m,h8,J,u,E5 (Hg _ J) j,j,z,U,Z,S,?_⟩;cases O with
 |jL _ _ _ b n c s L=>
  rw[M]at L;obtain rfl:=Bl L;simp only[aO,Io,Addr.mk.injEq]at m;simp only at I;rw[m.1.1,I]
def abV {size n i j:Nat} (hi:i<n) (f:j<size):i*size+j<n*size:=
 calc i*size+j<i*size+size:=AA
  _=(i+1)*size:=by rw[Ry]
  _≤n*size:=Hg _ hi
def V7 {x:Operand} {t:TypeId} {agg:Bool} {k n i off e size:Nat} {y:D} (enc:α→D) {l:List α} {a:α} (hy:y=NG agg (enc a).cells off n) (hk:es[k]? =some (.arr e size (List.map enc l))) (ha:l[i]? =some a) (hT:DI P t agg n) (hn:off+n≤(enc a).cells.length) (h1:agg=false→n=1)
 (ho:o.op=.load t x):BQ P o [(x,.jL k i off)] es (.d y) es:=
 .pure fun ok H ac w J hl O=>by
  have hx:=Ib O;simp only at hx;subst hy;obtain⟨h,hh,S⟩:=Et J hl hk;obtain⟨u,L⟩:=Eb.1 ha;have f:i<(List.map enc l).length:=Oe
  obtain⟨g,cap,m,ys,e1,e2,e3,e4,e5,e5',e6,e7,e8,U,Y⟩:=aeF hh S f hx;have z:(List.map enc l).getD i Cb=enc a:=by simp[List.getD,u,L]
  have hsz:(enc a).cells.length=size:=by
   refine U _ ?_;exact FM.2 ⟨a,by rw[←L];exact EU u,rfl⟩
  have Z:=OD U
  have q:∀j,j<size→w.cell? ⟨g,i*size+j,none⟩=some (ys.getD (i*size+j) undef):=by
   intro j I;have s:=abV f I;have hcur:(List.map enc l).length*size≤m.size:=e5;have h15:i*size+j<m.size:=AA
   have e11:ys.getD (i*size+j) undef=m[i*size+j]'(h15):=by
    rw[←e6];have h14:i*size+j<l.length*size:=MS
    simp[List.getD,Jo h14,show i*size+j<m.size by omega]
   rw[e11];simp[World.cell?,e2,show i*size+j<m.size by omega]
  have M:∀j,j<size→((enc a).cells.getD j Cb).leaf=true∧Cm ok w ((enc a).cells.getD j Cb) (ys.getD (i*size+j) undef):=by
   intro j I;have s:=e8.2 (i*size+j) (by rw[Z];exact abV f I);rw[flat_get U i j f I,z]at s;refine⟨s.1,?_⟩;cases s.2 with |d _ _ h=>exact h
  obtain⟨v,hr,hD⟩:=oU (ok:=ok) (w:=w) (b:=g) (p:=i*size) (cs:=(enc a).cells) hT hn h1 (fun j I=>(M j AA).1) (fun j I=>by rw[q j AA];rfl) (fun j I=>by unfold cellAt;rw[q j AA];exact(M j AA).2);exact⟨v,by simp only[execOp,ho,Y,ER,hr,EX,Ep],.d _ _ hD⟩
def y8 {t:TypeId} {x y:Operand} {k i off n e size:Nat} (enc:α→D) {l:List α} {a a':α} {v:AV} (hk:es[k]? =some (.arr e size (List.map enc l))) (ha:l[i]? =some a) (hl:v.cells.all AV.leaf=true) (hs:∀w,(sizeOf t).run P w=.ok n w) (hn:v.cells.length=n)
 (hle:off+n≤(enc a).cells.length) (hset:(enc a').cells.map AV.d=setAt ((enc a).cells.map AV.d) off v.cells) (hc:∀b,(enc b).cells.length=size) (ho:o.op=.store t x y):
 BQ P o [(x,.jL k i off),(y,v)] es .junk (es.set k (.arr e size (List.map enc (l.set i a')))):=
 .eff fun C ok H s w hm hn'=>by
  have h1:=(Dt hn').1;have h2:=(Dt hn').2;simp only at h1 h2;obtain⟨h,hh,hok⟩:=Et hm.ent hm.hlen hk;obtain⟨M,hia⟩:=Eb.1 ha;have auB:i<(List.map enc l).length:=by simpa using M
  have hok1:=hok.1;obtain⟨g,cap,f,ys,e1,e2,e3,e4,e5,e5',e6,e7,e8,e9,e10⟩:=aeF hh hok auB h1;have m:=h2.abd hl;have hll:(List.map enc l).length=l.length:=BG
  rw[hll]at e1 e3 e6 e7;have hea:(enc a).cells.length=size:=hc a;have O:(s.eval y).cells.toList.length=n:=by rw[m.1,hn]
  have hsz:(s.eval y).cells.size=n:=sW
  have hcur:l.length*size≤f.size:=by simpa using e5
  have hend:i*size+off+n≤l.length*size:=by
   have :(i+1)*size≤l.length*size:=Hg _ M;rw[Ry]at this;omega
  have hst:=aEt (P:=P) g (i*size+off) e (s.eval y).cells.toList 0 f w e2 (by rw[O];omega) (fun u hu=>by
   obtain⟨j,z,rfl⟩:=Gv hu;have h5:=m.2 j (by rw[←m.1];exact z);have :=h5.2.leaf h5.1
   rwa [xZ z]at this)
  simp only[PY]at hst;have J:∀(q:List α),∀y∈q.map enc,y.cells.length=size:=fun q y hy=>aBT
  obtain⟨h3,h4⟩:=hm.upd (e:=.arr e size (List.map enc (l.set i a'))) (w':=w.setRow g (f.toList.take (i*size+off)++(s.eval y).cells.toList++f.toList.drop (i*size+off+(s.eval y).cells.toList.length)).toArray) hk rfl hh (by rw[e1];rfl) rfl rfl rfl aCP (fun c hc=>aCy _ _ _ _ hc) (fun hg'=>by
   have esz:(setAt f.toList (i*size+off) (s.eval y).cells.toList).length=f.toList.length:=OX (by have :=f.length_toList;omega);refine⟨hok1,J _,setAt ys (i*size+off) (s.eval y).cells.toList,⟨?_,.inr ⟨g,cap,_,by simp;exact e1,Dx _,gG w g f _ e (0,0) e2,by simpa using e3,e4,?_,?_⟩⟩,?_⟩
   ·rw[OX AA];simpa using e7
   ·have h9:(setAt f.toList (i*size+off) (s.eval y).cells.toList).toArray.size=f.size:=by rw[Yy,esz];simp
    show _≤(setAt f.toList (i*size+off) (s.eval y).cells.toList).toArray.size;rw[h9];exact e5'
   ·rw[sF];show(setAt f.toList (i*size+off) (s.eval y).cells.toList).take _=_;rw[←e6];have Z:(List.map enc (l.set i a')).length=l.length:=BG
    rw[Z];apply Zq;intro j;have hcl:=f.length_toList;by_cases z:j<l.length*size
    ·have a1:((setAt f.toList (i*size+off) (s.eval y).cells.toList).take (l.length*size))[j]? =some ((setAt f.toList (i*size+off) (s.eval y).cells.toList).getD j undef):=by
      rw[Jo z];simp[List.getD,show j<(setAt f.toList (i*size+off) (s.eval y).cells.toList).length by rw[esz];omega]
     have tl:(f.toList.take (l.length*size)).length=l.length*size:=Dp
     have sl:(setAt (f.toList.take (l.length*size)) (i*size+off) (s.eval y).cells.toList).length=l.length*size:=by rw[OX AA,tl]
     have a2:(setAt (f.toList.take (l.length*size)) (i*size+off) (s.eval y).cells.toList)[j]? =some ((setAt (f.toList.take (l.length*size)) (i*size+off) (s.eval y).cells.toList).getD j undef):=by
      simp[List.getD,show j<(setAt (f.toList.take (l.length*size)) (i*size+off) (s.eval y).cells.toList).length by omega]
     rw[a1,a2,UY AA,UY AA];congr 1;split
     ·rfl
     simp[List.getD,Jo z]
    have tl:(f.toList.take (l.length*size)).length=l.length*size:=Dp
    have sl:(setAt (f.toList.take (l.length*size)) (i*size+off) (s.eval y).cells.toList).length=l.length*size:=by rw[OX AA,tl]
    rw[Jm Dp,Jm AA]
   have hb:=e8.mono hg' (Names.refl H);have hcr:=m.mono hg' (Names.refl H);have hfl:=OD (J l);have S:=OD (J (l.set i a'));refine⟨by rw[OX AA,e7,S];simp,fun j z=>?_⟩;rw[S]at z;simp only[CB,Zy]at z
   have U:0<size:=by
    rcases Xr size with h0|h0
    ·rw[h0,Nat.mul_zero]at z;omega
    exact h0
   have e0:j=j/size*size+j % size:=by rw[QO];exact(rQ j size).symm
   have hq:j/size<l.length:=jC (by rwa [QO]at z);have hr:j % size<size:=YI _ U
   have Y:j/size=i↔i*size≤j∧j<i*size+size:=by
    rw[Nat.div_eq_iff U,QO];omega
   rw[O]at hb hcr;generalize j/size=qd at e0 hq Y;generalize j % size=I at e0 hr;have hg3:=flat_get (J (l.set i a')) qd I (by simpa using hq) hr;rw[←e0]at hg3;have hg1:=flat_get (J l) qd I (by simpa using hq) hr;rw[←e0]at hg1;rw[hg3,UY AA,O];by_cases L:qd=i
   ·have hnew:(List.map enc (l.set i a')).getD (qd) Cb=enc a':=by rw[L];simp[List.getD,M]
    have hold:(List.map enc l).getD (qd) Cb=enc a:=by rw[L];simp[List.getD,M,hia]
    rw[hnew];have avt:(enc a').cells.length=size:=hc a'
    have e11:AV.d ((enc a').cells.getD (I) Cb)=(setAt ((enc a).cells.map AV.d) off v.cells).getD (I) .junk:=by
     rw[←hset];simp[List.getD,show I<(enc a').cells.length by omega]
    rw[e11,UY (by rw[CB,hn];exact hle),hn];have hji:j=i*size+I:=by rw[←L];exact e0
    by_cases hin:off≤I∧I<off+n
    ·rw[CG hin,CG AA];have :j-(i*size+off)=I-off:=AA
     rw[this];exact hcr.2 _ AA
    rw[CV hin,CV AA];have e12:((enc a).cells.map AV.d).getD (I) .junk=.d ((enc a).cells.getD (I) Cb):=by simp[List.getD,show I<(enc a).cells.length by omega]
    rw[e12,←hold,←hg1];exact hb.2 j (by rw[hfl];simpa using z)
   have hsame:(List.map enc (l.set i a')).getD (qd) Cb=(List.map enc l).getD (qd) Cb:=by
    simp[List.getD,Vq (Ne.symm L)]
   have hnot:¬(i*size+off≤j∧j<i*size+off+n):=by
    rintro⟨ha1,ha2⟩;exact L (Y.2 ⟨AA,AA⟩)
   rw[CV hnot,hsame,←hg1]
   exact hb.2 j (by rw[hfl];simpa using z))
  refine⟨undef,_,ok,H,.inr ⟨rfl,?_⟩,h4,.refl _,h3,.junk _⟩;simp only[execOp,ho,e10,Instr.storeAt,Instr.sureAddr,storeVar,ER,Ep,EX,hs,hsz,ne_eq,not_true_eq_false,Ic,hst]
end
def AV.NP (k:Nat) (cs:List D):AV→AV
 | .ptr j off=>if j=k then .d (.ref cs off)else .ptr j off
 |x=>x
def Ai.NP (σ:Ai) (k:Nat) (cs:List D):Ai:=⟨σ.slots.map (AV.NP k cs),σ.ents.set k .dead,σ.base⟩
def Qb {σ:Ai} (k:Nat) {cs:List AV} (Z:σ.ents[k]? =some (.box cs)) (hd:cs.all AV.wX=true):∀C ok H a w,Holds C ok H σ a w→∃ok',Holds C ok' H (σ.NP k (GY cs)) a w:=by
 intro C ok H a w f;obtain⟨h,J,hok⟩:=Et f.mem.ent f.mem.hlen Z;have q:k<σ.ents.length:=(Eb.1 Z).1;obtain⟨b0,L,hf,hx,hc⟩:=aBU hok hd
 let ok':Nat→Prop:=fun b=>ok b∨CQ h.v=some b
 have I:=fun b m=>f.mem.blk k _ h b Z rfl J m;have hg:Df ok w ok' w:=fun b m=>⟨.inl m,rfl⟩
 refine⟨ok',⟨f.mem.fr,fun b m=>.inl (f.mem.uD b m),?_,?_,f.mem.names,by simp[Ai.NP,f.mem.hlen],?_,?_,?_⟩,by simp[Ai.NP,f.size],f.defers.mono hg,f.base,?_⟩
 ·rintro b (m|m)
  ·exact f.mem.uF b m
  exact .inr (I b m).2.2
 ·rintro b (m|m)
  ·exact f.mem.jl b m
  exact(I b m).2.1
 ·intro j e' h' he u;rcases JY q he with⟨rfl,rfl⟩|⟨_,z⟩
  ·trivial
  exact(f.mem.ent j e' h' z u).mono hg (.refl _) (fun _ _ _=>rfl)
 ·intro j e' h' b he hl u m;rcases JY q he with⟨rfl,rfl⟩|⟨hne,z⟩
  ·cases hl
  have h3:=f.mem.blk j e' h' b z hl u m;refine⟨fun n=>?_,h3.2⟩;rcases n with n|n
  ·exact h3.1 n
  exact hne (f.mem.Az j k e' _ h' h b z Z hl rfl u J m n)
 ·intro i j e1 e2 h1 h2 b he1 he2 M O hh1 hh2 hb1 hb2;rcases JY q he1 with⟨rfl,rfl⟩|⟨_,S⟩
  ·cases M
  rcases JY q he2 with⟨rfl,rfl⟩|⟨_,U⟩
  ·cases O
  exact f.mem.Az i j e1 e2 h1 h2 b S U M O hh1 hh2 hb1 hb2
 intro t ht;simp only[Ai.NP,CB]at ht
 have e1:(σ.NP k (GY cs)).slots.getD t .junk=(σ.slots.getD t .junk).NP k (GY cs):=by
  simp only[Ai.NP];exact Qs _ _ _ ht
 rw[e1];have Y:=(f.slot t ht).mono hg (Names.refl H);generalize σ.slots.getD t .junk=x at Y ⊢;generalize a.tmps.getD t undef=v at Y ⊢;cases x with
 |ptr j off=>
  simp only[AV.NP];split
  ·rename_i hj;subst hj;cases Y with
   |ptr _ _ b s hH=>
    rw[J]at hH;obtain rfl:=Bl hH;simp at L;subst L;have :=Cm.ref (ok:=ok') (w:=w) (GY cs) off b 0 (fun _=>.inr rfl) hf hx (fun j hj=>(hc j hj).mono hg);rw[Hz]at this;exact .d _ _ this
  exact Y
 |_=>exact Y
section
variable {P : Program} {o : Oper} {es : List Au} {α β γ : Type}
def dB {ok:Nat→Prop} {w:World} {H:List BN} {a:Act}:∀{xs:List Operand} {vs:List AV},xs.length=vs.length→(∀n∈EM xs vs,R ok w H n.2 (a.eval n.1))→∀i,i<vs.length→R ok w H (vs.getD i .junk) ((xs.map a.eval).getD i undef)
 | [],[],_,_,i,hi=>KP
 | [],_::_,h,_,_,_=>Fq
 |_::_,[],h,_,_,_=>Fq
 |x::xs,v::vs,h,f,0,_=>by simpa using f (x,v) (by simp[EM])
 |x::xs,v::vs,h,f,i+1,hi=>by
  have :=dB Hf (fun n j=>f n (by simp[EM,j])) i Ey;simpa using this
def TI {fn:Fn} {f:Array Operand} (j:List D) (m:f.toList.length=j.length) (s:o.op=.makeFunc fn #[] f):BQ P o (EM f.toList (j.map .d)) es (.d (.fn fn [] j)) es:=
 .pure fun ok H a w _ _ u=>by
  refine⟨.func fn #[] (f.map a.eval),by simp[execOp,s,Instr.makeFunc],.d _ _ (.fn fn [] j #[] _ rfl Zt (fun i hi=>KP) (fun i hi=>?_))⟩;have q:=dB (xs:=f.toList) (vs:=j.map .d) Zt u i Ey;have z:(j.map AV.d).getD i .junk=.d (j.getD i Cb):=Jc
  have n:i<f.size:=by have :f.size=j.length:=Zt
                      omega
  have I:(f.toList.map a.eval).getD i undef=(f.map a.eval).getD i undef:=by simp[List.getD,Array.getD,n]
  rw[z,I]at q;cases q with |d _ _ h=>exact h
def aJo {f:FuncId} {C:DZ} {ok:Nat→Prop} {H:List BN} {w:World} (I:Bo C ok H es w) {q:List D} {n:AV} (S:Aw P f (q.map .d) [] n []) (m:Array Value) (U:m.size=q.length) (L:∀i,i<q.length→Cm ok w (q.getD i Cb) (m.getD i undef)) (u:n.up [] es.length=n):
 Calls P f m w fun e w'=>∃v ok' H',e=.returned v∧Df ok w ok' w'∧Names H H'∧Bo C ok' H' es w'∧R ok' w' H' n v:=by
 have M:Bo ⟨w,ok,[],[]⟩ ok [] [] w:=
  ⟨.refl _ _,fun _ h=>h,fun _ h=>.inl h,I.jl,.refl _,rfl,fun k e h s _=>fC,fun k e h b s=>fC,fun k k' e e' h h' b s=>fC⟩
 refine(S ok [] [] w m M dF (fun i hi=>?_)).mono ?_
 ·have z:i<q.length:=Ey
  have Y:(q.map AV.d).getD i .junk=.d (q.getD i Cb):=by simp[List.getD,z]
  rw[Y];exact .d _ _ (L i z)
 rintro e w' ⟨v,ok',H',rfl,j,Z⟩;have O:H'=[]:=Fj j.hlen
 obtain⟨h1,h2⟩:=I.change (ok':=ok') (H':=H) (es':=es) (w':=w') (fun _=>False) j.fr.os j.fr.tape j.fr.output j.fr.size (fun b J _=>j.fr.block b J BG) (fun _ h=>h.elim) j.uD (fun b J=>by
  rcases j.uF b J with h|h|h
  ·exact .inl h
  ·exact .inr ⟨h,j.jl b J⟩
  simp at h) (.refl _) I.hlen (fun k e h s hh=>.inl ⟨s,hh,fun _ _ _ h=>h⟩)
 refine⟨v,ok',H,rfl,h2,.refl _,h1,?_⟩;have :=aHf (srcs:=[]) (H:=H) (Hc:=[]) (H':=H') rfl (fun i k h=>Fq) (fun k v L=>by simp at L) Z;rw[I.hlen,u,O]at this;simpa using this
def adt {f:FuncId} {x:Operand} {ops:Array Operand} {ats:Array TypeId} (j cs:List D) {m:AV} (hr:Aw P f ((j++cs).map .d) [] m []) (hf:DC P f=true) (Z:ops.toList.length=j.length) (z:m.up [] es.length=m)
 (ho:o.op=.call { callee:=.value x,args:=ops,argTypes:=ats }):BQ P o ((x,.d (.fn (.func f) [] cs))::EM ops.toList (j.map .d)) es m es:=by
 intro C ok H a w Q hm hn;have L:=hn (x,.d (.fn (.func f) [] cs)) BG;simp only at L;have s:=dB (xs:=ops.toList) (vs:=j.map .d) Yi (fun n M=>hn n (Gq _ M));generalize hv:a.eval x=v at L;cases L with
 |d _ _ h=>
  cases h with
  |fn _ _ _ vs us O S h1 h2=>
   have U:vs= #[]:=XO sW;subst U;unfold Oper.wp
   have he:(execOp a.eval o).run P w=.ok (.enter f ((ops.map a.eval)++us)) w:=by
    have :=Py hf (ops.map a.eval++us) w;simp[execOp,ho,resolve,hv,Deferred.ofValue,invoke,this]
   rw[he,WY];have I:(ops.map a.eval).size=j.length:=Yi
   refine(aJo hm hr _ (by simp[I,S]) (fun i hi=>?_) z).mono ?_
   ·by_cases q:i<j.length
    ·have J:=s i Qw;have e1:(j.map AV.d).getD i .junk=.d (j.getD i Cb):=aAW
     have u:i<ops.size:=adr
     have e2:(ops.toList.map a.eval).getD i undef=(ops.map a.eval++us).getD i undef:=by
      simp[List.getD,FU,Y9,u]
     have Y:(j++cs).getD i Cb=j.getD i Cb:=by simp[List.getD,FD q]
     rw[e1,e2]at J;rw[Y];cases J with |d _ _ h=>exact h
    have u:i-j.length<cs.length:=aBh
    have Y:(j++cs).getD i Cb=cs.getD (i-j.length) Cb:=by simp[List.getD,Ho (RZ q)]
    have e4:(ops.map a.eval++us).getD i undef=us.getD (i-j.length) undef:=by
     simp only[FU];rw[aC6 AA,I]
    rw[Y,e4];exact h2 _ u
   rintro e w' ⟨v,ok',H',rfl,J,h4,h5,h6⟩;exact⟨v,ok',H',rfl,J,h4,h5,h6⟩
def PV (P:Program) (h:α→D) (j:β→D) (d:D) (g:α→Option β):Prop:=∃f cs,d=.fn (.func f) [] cs∧DC P f=true∧∀a b,g a=some b→Aw P f (([h a]++cs).map .d) [] (.d (j b)) []
def Ui (P:Program) (h:α→D) (j:β→D) (m:γ→D) (d:D) (g:α→β→Option γ):Prop:=∃f cs,d=.fn (.func f) [] cs∧DC P f=true∧∀a b c,g a b=some c→Aw P f (([h a,j b]++cs).map .d) [] (.d (m c)) []
def jD {x y:Operand} {ats:Array TypeId} {j:α→D} {m:β→D} {d:D} {g:α→Option β} {a:α} {b:β} (hd:PV P j m d g) (h:g a=some b) (n:o.op=.call { callee:=.value x,args:= #[y],argTypes:=ats }):
 BQ P o [(x,.d d),(y,.d (j a))] es (.d (m b)) es:=by
 obtain⟨f,cs,rfl,q,s⟩:=hd;exact adt [j a] cs (s a b h) q rfl rfl n
def X3 {x y z:Operand} {ats:Array TypeId} {j:α→D} {m:β→D} {n:γ→D} {d:D} {g:α→β→Option γ} {a:α} {b:β} {c:γ} (hd:Ui P j m n d g) (h:g a b=some c) (q:o.op=.call { callee:=.value x,args:= #[y,z],argTypes:=ats }):
 BQ P o [(x,.d d),(y,.d (j a)),(z,.d (m b))] es (.d (n c)) es:=by
 obtain⟨f,cs,rfl,s,u⟩:=hd;exact adt [j a,m b] cs (u a b c h) s rfl rfl q
end
end Go.Proofs.YtolgdkhlelfpoaaGreat
end
