/- Part 1 of what the laws' proofs lean on: states of the walk, typed functions of the program and their laws (short forms written by wip/shrink.py; no condition). -/
import Derived.Test.YtolgdkhlelfpoaaGreatRows
import Derived.WalkKit
import Derived.WalkSpells
import Derived.WalkLawsBesides
import Derived.Lib.Hide
import Derived.Laws.AppendOwnNone
import Derived.Laws.CopyOwn
import Derived.Lib.AppendStr
import Derived.Laws.IdiomStrings
import Derived.Laws.BitsAllLaws
import Derived.OrdersIn
import Derived.ControlIn
import Derived.TacticsIn
import Derived.ArgAppend
import Derived.RangeFuncLeaves
import Derived.RangeFuncRecord
import Derived.Laws.StructEq
import Derived.Laws.BytesString
import Derived.Lib.OwnBridge
import Derived.Sort.OwnSortedInts
import Derived.Lib.SliceRun
import Derived.ProofKit
import Derived.Deep.Slices
import Derived.Lib.SlicesCompact
import Derived.Test.YtolgdkhlelfpoaaGreatProg
import Derived.Shelf.Small.Bits
import Derived.Shelf.Small.Strs
import Derived.Shelf.Small.Wraps
import Derived.Shelf.Strconv.Itoa0
import Derived.Shelf.Strings.Search1
import Derived.Shelf.Strings.Search2
import Derived.Shelf.Strings.Cut
import Derived.Shelf.LaysM
import Derived.Shelf.Strings.Shaped
import Derived.Shelf.Sort.Plain
import Derived.Shelf.Slices.Turned
import Derived.Ground.Names2Prog
import Derived.Shelf.Slices.Clone
import Derived.Shelf.Slices.CompactI
import Derived.Shelf.Slices.SearchI
import Derived.Shelf.Slices.Cells
import Derived.Shelf.Slices.In.SortNone
import Derived.Shelf.Slices.Empties
import Derived.Ground.SlgnProg
import Derived.Shelf.SlicesE.Clone
import Derived.RangeFuncIn
import Derived.Scope
import Derived.Tactics
import Derived.Tactics2
import Derived.Defers
import Derived.Recover
import Derived.Laws.Pointers
import Derived.Shelf.SlLaysF0
import Derived.Shelf.SlSortCmp.NoneTotal
import Derived.Laws.IdiomRangeMap
import Derived.Laws.Small
import Derived.Laws.Bits64
import Derived.Lib.Bytealg
set_option linter.defProp false
set_option linter.unusedVariables false
set_option linter.unusedSimpArgs false
namespace Go.Proofs.YtolgdkhlelfpoaaGreat
open Go.RowKit
def Aa:=@Option.bind_some
def BM:=@cond_false
def Ba:=@cond_true
def BR:=@congrArg
def Dx:=@List.getElem?_eq_getElem
def Dh:=@Nat.le_of_ble_eq_true
def D8:=@List.length_map
def ES:=@List.length_append
def Cx:=@Option.some.inj
def DL:=@Bool.and_eq_true
def Ou:=@List.length_singleton
def FN:=@List.getElem?_eq_some_iff
def EH:=@Go.Proofs.Tryz.underlying3
def Fv:=@Array.getElem?_eq_some_iff
def EZ:=@List.all_eq_true
def H9:=@List.eq_nil_of_length_eq_zero
def GZ:=@List.getElem?_append_left
def Eb:=@List.getElem_mem
def Gx:=@Array.getD_eq_getD_getElem?
def EM:=@Bool.not_true
def FK:=@Go.Result.andThen_ok
def GV:=@List.mem_map
def EG:=@Nat.le_refl
def GH:=@List.length_take
def Ei:=@Nat.le_trans
def Gi:=@List.take_length
def KW:=@Array.getElem?_setIfInBounds_ne
def O5:=@Nat.add_assoc
def GI:=@List.length_cons
def II:=@List.getElem?_eq_none
def D9:=@if_pos
def Fb:=@List.foldl_cons
def F9:=@List.mem_cons
def Jh:=@List.getElem?_append_right
def G7:=@List.not_mem_nil
def Eh:=@Nat.zero_le
def DN:=@if_neg
def IY:=@List.mem_cons_of_mem
def FB:=@Go.Sem.run_bind
def FX:=@Bool.true_and
def H6:=@decide_eq_true_eq
def Hy:=@List.mem_cons_self
def SX:=@Nat.add_comm
def Hd:=@List.any_eq_true
def Js:=@List.length_filter_le
def Ky:=@List.pairwise_iff_getElem
def LY:=@List.drop_eq_getElem_cons
def Hl:=@Go.Proofs.Tryz.underlying9
def Hu:=@List.nil_append
def IQ:=@Go.Proofs.Tryz.underlying55
def JJ:=@List.getElem_of_mem
def Hf:=@List.mem_filter
def G6:=@Go.Sem.run_pure
def P5:=@List.take_succ_eq_append_getElem
def J7:=@List.append_assoc
def IJ:=@decide_eq_false
def ML:=@List.length_nil
def Ht:=@decide_eq_true
def QI:=@Array.all_eq_true_iff_forall_mem
def JZ:=@List.getElem?_map
def Ie:=@Option.map_some
def Ia:=@List.mem_append
def Jk:=@of_decide_eq_false
def IX:=@Bool.not_false
def Lc:=@Nat.mul_le_mul_right
def Jp:=@Go.Proofs.Tryz.underlying30
def Ol:=@List.getElem?_take_of_lt
def Ju:=@Go.RowKit.Below.heap_alloc
def La:=@Go.Proofs.Tryz.underlying49
def Jv:=@List.map_append
def MW:=@List.mem_singleton
def MI:=@Option.some.injEq
def LZ:=@Bool.not_eq_true
def N9:=@Go.Proofs.Tryz.underlying51
def RH:=@Option.isSome_iff_exists
def QJ:=@Array.getElem?_modify
def Qp:=@List.take_of_length_le
def RU:=@Go.MapKept.run_getObj_map
def L9:=@Bool.or_false
def OH:=@Option.getD_some
abbrev Aw:=IntKind.i64.wrap
def Zy (n:Int):Aw n=(n+9223372036854775808)%18446744073709551616-9223372036854775808:=Go.IntKind.wrap_i64 n
def OM:=@beq_self_eq_true
def NM:=@List.nodup_cons
def Oi:=@List.flatMap_cons
def PZ:=@List.filter_append
def KG:=@Nat.zero_add
def PY:=@List.pairwise_cons
def MG:=@Bool.false_or
def Ld:=@List.map_cons
def Lj:=@Bool.and_true
def Oe:=@List.drop_length
def Qb:=@Option.toList_some
def Qs:=@List.filterMap_cons
def PS:=@Go.Proofs.Tryz.underlying4
def UU:=@Option.map_eq_some_iff
def RD:=@Bool.false_eq_true
def cO:=@Array.eq_empty_of_size_eq_zero
def Ov:=@Go.run_equalIn_int
def Ph:=@Bool.eq_iff_iff
def SH:=@List.filter_sublist
def Q9:=@List.length_drop
def Ym:=@Array.getElem?_append_left
def QK:=@List.filter_cons
def RY:=@Bool.not_eq_true'
def Xq:=@Classical.byContradiction
def Ti:=@List.mem_filterMap
def W9:=@Go.World.putObj_heap_same
def V4:=@Array.length_toList
def TK:=@of_decide_eq_true
def St:=@List.findIdx_cons
def SG:=@List.take_add_one
def Xw:=@Go.World.putObj_heap_other
def Qa:=@Go.Oper.wpIn_mono
def bZ:=@List.getElem?_set_ne
def Vj:=@List.mem_of_getElem?
def Oo:=@Nat.add_zero
def RZ:=@List.append_nil
def OO:=@Bool.or_true
def Jq:=@if_false
def Zv:=@List.mem_of_find?_eq_some
def Uc:=@List.foldl_append
def Un:=@Go.Proofs.Tryz.underlying60
def Ty:=@Go.Proofs.Tryz.underlying94
def VT:=@List.getElem?_drop
def VP:=@Nat.lt_of_lt_of_le
def Tz:=@Nat.le_of_not_lt
def U5:=@List.getElem_map
def UK:=@List.foldlM_cons
def Rs:=@Prod.mk.injEq
def vP:=@List.takeWhile_append_dropWhile
def Jj:=@if_true
def Vu:=@bne_self_eq_false
def dG:=@List.take_append_drop
def Vo:=@List.mem_flatMap
def XO:=@Nat.eq_zero_or_pos
def PV:=@Go.wpS_region
def gW:=@Option.bind_eq_some_iff
def lJ:=@decide_eq_false_iff_not
def YX:=@Go.Proofs.Tryz.underlying24
def Y2:=@Int.toNat_natCast
def YL:=@Go.Proofs.Tryz.underlying92
def Xr:=@Nat.lt_succ_self
def lT:=@List.filterMap_append
def qL:=@Array.getElem?_eq_getElem
def eM:=@Array.toArray_toList
def Rk:=@beq_iff_eq
def Ud:=@Nat.succ_mul
def Ur:=@Nat.mul_comm
def l7:=@Go.World.alloc_heap_new
def jZ:=@List.mem_append_left
def l9:=@List.length_pos_iff
def Y9:=@Go.heap_alloc_new
def aN:=@List.cons_append
def qA:=@List.findIdx_lt_length
def kX:=@Go.Proofs.Tryz.underlying173
def kC:=@Go.Proofs.Tryz.underlying208
def rQ:=@Array.getElem?_toList
def ZQ:=@Go.Oper.upon_enter
def aX:=@Go.Proofs.Tryz.zeroValue3
def Z7:=@List.find?_cons
def fF:=@Go.Value.slice.injEq
def fG:=@List.size_toArray
def lX:=@List.ext_getElem?
def eL:=@Go.Proofs.Tryz.underlying44
def jB:=@Go.Proofs.Tryz.underlying53
def iI:=@Go.Proofs.Tryz.underlying96
def wL:=@Nat.div_lt_of_lt_mul
def xK:=@List.mem_of_mem_take
def vS:=@Bool.or_eq_false_iff
def aKJ:=@List.set_eq_take_append_cons_drop
def Zt:=@List.nodup_nil
def PX:=@Go.wpS_seq
def ZH:=@Go.wp_region_list
def eY:=@List.ext_getElem
def aC4:=@Bool.eq_false_or_eq_true
def jI:=@Go.IntKind.wrap_u64
def iq:=@decide_eq_decide
def qE:=@List.filter_eq_self
def wQ:=@beq_eq_false_iff_ne
def cD:=@List.map_take
def kH:=@List.length_set
def UQ:=@Go.wpIn_mono
def iC:=@Bool.or_eq_true
def iY:=@Go.Proofs.Tryz.zeroValue4
def wJ:=@Array.ext_getElem?
def lR:=@beq_false_of_ne
def jJ:=@Go.IntKind.wrap_u8
def aCt:=@List.filter_eq_nil_iff
def aDq:=@List.findIdx_le_length
def pK:=@Function.comp_def
def dA:=@Go.Proofs.Tryz.sizeOf3
def aKB:=@Array.getElem?_setIfInBounds
def aEA:=@List.mem_append_right
def aMg:=@Array.getElem?_append_right
def aC5:=@List.pairwise_append
def tV:=@Go.Proofs.Tryz.underlying5
def eB:=@Go.Oper.semAt_eq
def eS:=@List.map_drop
def mM:=@List.any_cons
def Zo:=@Nat.mul_one
def Zj:=@Go.Proofs.Tryz.isAgg3
def aEb:=@List.toList_toArray
def aMq:=@Array.mapM_eq_mapM_toList
def qp:=@Go.Proofs.Tryz.zeroValue5
def yE:=@Go.Proofs.Tryz.zeroValue9
def kV:=@Nat.le_of_eq
def aOJ:=@List.getElem_append_left
def jc:=@Go.Proofs.Tryz.sizeOf4
def aD4:=@Go.Proofs.Tryz.underlying226
def zk:=@Go.run_equalIn_string
def aAh:=@List.find?_eq_none
def tH:=@List.mem_range
def xX:=@List.drop_zero
def aMX:=@Nat.exists_eq_add_of_le
def aHo:=@List.getElem?_replicate
def aHq:=@List.getElem?_cons_succ
def aGc:=@Go.World.ownsRow_nil
def aHE:=@Go.Proofs.Tryz.underlying89
def aDS:=@Go.Proofs.Tryz.zeroValue226
def aEQ:=@Nat.lt_trichotomy
def aD7:=@List.nodup_append
def aDJ:=@List.getElem_take
def aEH:=@List.find?_append
def aEJ:=@Go.Proofs.Tryz.underlying45
def aH4:=@Go.Proofs.Tryz.underlying22
def aQK:=@List.findIdx?_eq_some_iff_getElem
def jY:=@Nat.add_mul
def aJG:=@List.drop_of_length_le
def aHa:=@List.dropWhile_sublist
def gq:=@Go.Proofs.Tryz.isAgg4
def aMk:=@ByteArray.size_extract
def aC3:=@Go.Proofs.Tryz.zeroValue89
def aDZ:=@List.perm_middle
def aJc:=@Nat.eq_of_beq_eq_true
def aFB:=@Go.wpIn_region_any
def aDF:=@Nat.div_add_mod
def lS:=@Nat.mod_lt
def uz:=@List.map_map
def aN3:=@Array.ext'
def oQ:=@getElem!_pos
def nK:=@Go.Proofs.Tryz.sizeOf5
def qV:=@Go.Proofs.Tryz.sizeOf9
def aPI:=@List.Nodup.length_le_of_subset
def aMA:=@List.findIdx_getElem
def vW:=@Bool.not_not
def aL8:=@Go.callsIn_of_wp_marks
def aOA:=@Go.Lib.strCells_length
def aPF:=@List.reverse_append
def aDg:=@List.take_zero
def aB1:=@Go.Proofs.Tryz.sizeOf226
def aH5:=@Nat.mul_le_mul
def nR:=@Go.setRow_heap
def xP:=@Go.Sem.run_map
def xq:=@Go.Proofs.Tryz.isAgg5
def uM:=@Go.Proofs.Tryz.isAgg9
def lG:=@Array.ext
def aKL:=@Int.natCast_nonneg
def aK2:=@Go.MapKept.heap_alloc
def aHK:=@Nat.eq_or_lt_of_le
def aPx:=@Array.toList_setIfInBounds
def ac4:=@List.dropWhile_cons_of_pos
def aUt:=@List.dropWhile_cons_of_neg
def aCY:=@Go.callsD_of_wpS
def abw:=@Int.fdiv_eq_ediv_of_nonneg
def acQ:=@List.nodup_iff_pairwise_ne
def aSq:=@Int.tmod_eq_emod_of_nonneg
def aKr:=@Bool.not_eq_false
def aKf:=@Go.run_storeCells_at
def aKQ:=@List.pairwise_map
def aSj:=@List.getElem_append_right
def aQn:=@List.getElem?_zip_eq_some
def aK9:=@Go.wpIn_region_list
def aIa:=@List.take_append
def nC:=@or_false
def aK7:=@Go.World.size_alloc
def aCj:=@List.map_set
def kF:=@Go.wpS_cond
def zh:=@Nat.lt_or_ge
def aMH:=@List.getElem_zip
def aHv:=@List.map_reverse
def aJL:=@Nat.min_le_left
def aO8:=@Nat.min_eq_left
def aLc:=@List.cons.injEq
def aKH:=@List.find?_some
def aIu:=@List.any_append
def aIz:=@List.take_left
def aOV:=@List.drop_drop
end Go.Proofs.YtolgdkhlelfpoaaGreat
namespace Go.Proofs.YtolgdkhlelfpoaaGreat
open Go.RowKit
abbrev BO:=Value.int .i64
end Go.Proofs.YtolgdkhlelfpoaaGreat
namespace Go.Proofs.YtolgdkhlelfpoaaGreat
open Go.RowKit
def A8 {p:Prop} (h:p:=by kernel_rfl):p:=h
def AA {p:Prop} (h:p:=by omega):p:=h
def CV {p:Prop} (h:p:=by cases h;exact .ret (Et [])):p:=h
def C9 {p:Prop} (h:p:=by cases h;kernel_rfl):p:=h
def BQ {p:Prop} (h:p:=by decide):p:=h
def BP {p:Prop} (h:p:=by simp):p:=h
def QX {p:Prop} (h:p:=by cases h;exact .ret (Et [(0,true)])):p:=h
def E5 {p:Prop} (h:p:=by simp;omega):p:=h
def FZ {p:Prop} (h:p:=by simp only[Ou];omega):p:=h
def Jm {p:Prop} (h:p:=by cases h;exact .ret (Et [(2,true)])):p:=h
def Nk {p:Prop} (h:p:=by simpa using n):p:=h
def LV {p:Prop} (h:p:=by cases h;exact .ret (Et [(1,true)])):p:=h
def Fp {p:Prop} (h:p:=by simpa using hi):p:=h
def Uy {p:Prop} (h:p:=by have :=I (k+1) y (by simpa using n);simpa[O5,SX 1 k]using this):p:=h
def Xy {p:Prop} (h:p:=by rw[←CS h];exact⟨[],[(0,true)],trivial,by kernel_rfl,by kernel_rfl,by kernel_rfl⟩):p:=h
def aRN {p:Prop} (h:p:=by rintro s ⟨f,j,h⟩;exact CQ j<|AU<|AB.ret<|by rw[←CS h];exact⟨[Gz f],[],⟨⟨0,Af (E9 f),true,9,by kernel_rfl,by kernel_rfl,by kernel_rfl,Yn,Dh (by kernel_rfl),(by intro m;cases m),by kernel_rfl⟩,trivial⟩,by kernel_rfl,by kernel_rfl,by kernel_rfl⟩):p:=h
def KE {p:Prop} (h:p:=by intro hh;cases hh):p:=h
def aSr {p:Prop} (h:p:=by rw[←CS h];exact⟨[DR F7,Ae false],[],⟨⟨0,Af (Aq F7),true,29,by kernel_rfl,by kernel_rfl,by kernel_rfl,D5,Dh (by kernel_rfl),(by intro j;cases j),by kernel_rfl⟩,LK (by kernel_rfl),trivial⟩,by kernel_rfl,by kernel_rfl,by kernel_rfl⟩):p:=h
def aUc {p:Prop} (h:p:=by rw[←CS h];exact⟨[DR n,Ae true],[],⟨⟨0,Af (Aq n),true,29,by kernel_rfl,by kernel_rfl,by kernel_rfl,D5,Dh (by kernel_rfl),(by intro j;cases j),by kernel_rfl⟩,LK (by kernel_rfl),trivial⟩,by kernel_rfl,by kernel_rfl,by kernel_rfl⟩):p:=h
def ath {p:Prop} (h:p:=by rw[←CS h];exact⟨[Gz f],[],⟨⟨0,Af (E9 f),true,9,by kernel_rfl,by kernel_rfl,by kernel_rfl,Yn,Dh (by kernel_rfl),(by intro m;cases m),by kernel_rfl⟩,trivial⟩,by kernel_rfl,by kernel_rfl,by kernel_rfl⟩):p:=h
def QD {p:Prop} (h:p:=by obtain⟨a,_,rfl⟩:=GV.1 f;rfl):p:=h
def Jc {p:Prop} (h:p:=by simpa using h):p:=h
def MX {p:Prop} (h:p:=by simp[List.getD,hi]):p:=h
def Hr {p:Prop} (h:p:=by simp at h):p:=h
def Nv {p:Prop} (h:p:=by decide+kernel):p:=h
def KT {p:Prop} (h:p:=by rw[ES];omega):p:=h
def LJ {p:Prop} (h:p:=by simpa using f):p:=h
def JF {p:Prop} (h:p:=by rw[f];rfl):p:=h
def qy {p:Prop} (h:p:=by have :=z (k+1) y (by simpa using n);simpa[O5,SX 1 k]using this):p:=h
def qN {p:Prop} (h:p:=by have :=O (k+1) y (by simpa using n);simpa[O5,SX 1 k]using this):p:=h
def qh {p:Prop} (h:p:=by have :=J (k+1) y (by simpa using n);simpa[O5,SX 1 k]using this):p:=h
def xC {p:Prop} (h:p:=by have :=S (k+1) y (by simpa using n);simpa[O5,SX 1 k]using this):p:=h
def He {p:Prop} (h:p:=by cases h):p:=h
def yO {p:Prop} (h:p:=by have :=z (k+1) (by simpa using hk);simpa[O5,SX 1 k]using this):p:=h
def uQ {p:Prop} (h:p:=by cases h;exact .ret (Et [(0,true),(1,true),(2,true),(3,true)])):p:=h
def UZ {p:Prop} (h:p:=by simp only[ES,Ou];omega):p:=h
def VJ {p:Prop} (h:p:=by obtain⟨a,_,rfl⟩:=GV.1 hx;rfl):p:=h
def fC {p:Prop} (h:p:=by cases h;exact .ret (Et [(0,false),(1,true)])):p:=h
def dn {p:Prop} (h:p:=by have :Ap=9223372036854775808:=rfl;omega):p:=h
def Oh {p:Prop} (h:p:=by simpa using j):p:=h
def U6 {p:Prop} (h:p:=by simp only[ML];omega):p:=h
def Rl {p:Prop} (h:p:=by intro f;cases f):p:=h
def XJ {p:Prop} (h:p:=by first|exact q|kernel_rfl):p:=h
def ae5 {p:Prop} (h:p:=by unfold Func.isWrapper;first|(rw[D9 (by decide+kernel)];kernel_rfl)|(rw[DN (by decide+kernel)];exact⟨rfl,rfl⟩)):p:=h
def rV {p:Prop} (h:p:=by have :=u (k+1);simpa[O5,SX 1 k]using this):p:=h
def Pg {p:Prop} (h:p:=by simpa using s):p:=h
def Q7 {p:Prop} (h:p:=by simpa using e):p:=h
def adS {p:Prop} (h:p:=by rw[←CS h];exact⟨[],[(0,true),(1,true),(2,true),(3,true)],trivial,by kernel_rfl,by kernel_rfl,by kernel_rfl⟩):p:=h
def Tf {p:Prop} (h:p:=by simp at s;omega):p:=h
def fZ {p:Prop} (h:p:=by simp[Act.eval,Array.replicate]):p:=h
def Nl {p:Prop} (h:p:=by simp at hi):p:=h
def aRX {p:Prop} (h:p:=by subst e;have h:=i;exact .a 2<|AO h fun s m h=>.mg 12 3 (Ae s) (.bi m)<|.aW<|by cases h;kernel_rfl):p:=h
def RF {p:Prop} (h:p:=by simpa using u):p:=h
def WS {p:Prop} (h:p:=by rw[H7]at h;exact h):p:=h
def PW {p:Prop} (h:p:=by rw[ape];rfl):p:=h
def jd {p:Prop} (h:p:=by intro m;cases m):p:=h
def V3 {p:Prop} (h:p:=by simpa using q):p:=h
def uT {p:Prop} (h:p:=by simpa using(z 0 (by simp)).symm):p:=h
def aEv {p:Prop} (h:p:=by simp[Array.getD,hil]at hf ⊢;exact hf):p:=h
def xZ {p:Prop} (h:p:=by obtain⟨a,_,rfl⟩:=GV.1 j;rfl):p:=h
def aF6 {p:Prop} (h:p:=by cases h;exact .ret (Et [(3,true)])):p:=h
def QY {p:Prop} (h:p:=by simp[hi]):p:=h
def bG {p:Prop} (h:p:=by simp[Ap];omega):p:=h
def aMI {p:Prop} (h:p:=by rw[alloc_eq_grow,alloc_eq_grow,grow_grow];rfl):p:=h
def aMr {p:Prop} (h:p:=by rw[ha];exact Ei (Js _ _) (by rw[GH];omega)):p:=h
def YT {p:Prop} (h:p:=by rw[D8];omega):p:=h
def aNz {p:Prop} (h:p:=by by_cases h:(s.size:Int)>32<;>simp[h]<;>omega):p:=h
def zA {p:Prop} (h:p:=by simpa using n.lt x (by simp[hx])):p:=h
def aMV {p:Prop} (h:p:=by cases h;exact .ret (Et [(0,true),(1,true)])):p:=h
def aHp {p:Prop} (h:p:=by by_cases h:(s.size:Int)<1<;>simp[h]<;>omega):p:=h
def iZ {p:Prop} (h:p:=by rw[H7];exact wC f):p:=h
def Yc {p:Prop} (h:p:=by rw[Zy];omega):p:=h
def SPr {p:Prop} (h:p:=by rw[ES];simp only[Ou];omega):p:=h
def mD {p:Prop} (h:p:=by rw[aNK f z];simp):p:=h
def xF {p:Prop} (h:p:=by simpa using(u 0).symm):p:=h
def aCx {p:Prop} (h:p:=by simpa using z 0 x (by simp)):p:=h
def UJ {p:Prop} (h:p:=by simp at f):p:=h
def aCz {p:Prop} (h:p:=by simpa using I 0 x (by simp)):p:=h
def nD {p:Prop} (h:p:=by intro n;cases n):p:=h
def aaH {p:Prop} (h:p:=by intro j;cases j):p:=h
def iV {p:Prop} (h:p:=by intro O;cases O):p:=h
def ZY {p:Prop} (h:p:=by simpa using m):p:=h
def aMw {p:Prop} (h:p:=by obtain⟨b,_,rfl⟩:=GV.1 hy;exact hc b):p:=h
def ZF {p:Prop} (h:p:=by simpa using S):p:=h
def sO {p:Prop} (h:p:=by rw[ha,D8,GH];omega):p:=h
def aBd {p:Prop} (h:p:=by simp[binOp,Op.intBits,EX]):p:=h
def aFL {p:Prop} (h:p:=by simp only[GI];simp;omega):p:=h
def aIv {p:Prop} (h:p:=by rw[J rfl b (by rw[j];rfl)];exact n):p:=h
def aNu {p:Prop} (h:p:=by cases h;exact .ret (Et [(4,true)])):p:=h
def abj {p:Prop} (h:p:=by rw[D8]at hi;rw[Ro _ _ _ hi];exact UE m j q (h i hi)):p:=h
def aPV {p:Prop} (h:p:=by subst e;have h:=i;exact DX.aW<|by cases h;kernel_rfl):p:=h
def atZ {p:Prop} (h:p:=by rw[GH];omega):p:=h
def aMD {p:Prop} (h:p:=by simpa using I 0 σ.ents (by simp)):p:=h
def aLw {p:Prop} (h:p:=by simpa using J 0 σ.ents (by simp)):p:=h
def ZW {p:Prop} (h:p:=by rw[ha,Gi]):p:=h
def mG {p:Prop} (h:p:=by simpa using z):p:=h
def aTb {p:Prop} (h:p:=by rw[D8]at hi;rw[Ro _ _ _ hi];exact(h i hi).uX π):p:=h
def o7 {p:Prop} (h:p:=by simp[List.getD,j]):p:=h
def aC7 {p:Prop} (h:p:=by simp[Op.bytesLess]at h):p:=h
def aQc {p:Prop} (h:p:=by simp only[aH8,dec_lt h,Ba,CB h,Aa,OM,EM,BM]):p:=h
def oH {p:Prop} (h:p:=by intro h;cases h):p:=h
def Wh {p:Prop} (h:p:=by simp[f]):p:=h
def aQ4 {p:Prop} (h:p:=by simpa using(by omega:i<(ops.map a.eval).size)):p:=h
def aDn {p:Prop} (h:p:=by rw[World.cell?,f];rfl):p:=h
def aGS {p:Prop} (h:p:=by constructor<;>omega):p:=h
def qK {p:Prop} (h:p:=by simpa using he):p:=h
def atj {p:Prop} (h:p:=by simpa using hk):p:=h
def aPd {p:Prop} (h:p:=by cases h;exact .ret (Et [(0,false),(5,true)])):p:=h
def aSs {p:Prop} (h:p:=by rw[ha];exact Ei (zJ _ _) (by rw[GH];omega)):p:=h
def aTO {p:Prop} (h:p:=by rw[L]at Z;obtain rfl:=Cx Z;exact(M m hm).1):p:=h
def aCG {p:Prop} (h:p:=by rw[map_take hi,ha]):p:=h
def Yy {p:Prop} (h:p:=by simp[flat]):p:=h
def aPD {p:Prop} (h:p:=by simp[sizeOf,typeInfo,hi,hs]):p:=h
def aQ9 {p:Prop} (h:p:=by have :=gQ s ⟨k,key,0⟩;unfold En at *;omega):p:=h
def uZ {p:Prop} (h:p:=by simpa using q2):p:=h
def Xl {p:Prop} (h:p:=by rw[m,←q]):p:=h
def aUV {p:Prop} (h:p:=by have :=hinj j j' o o' t s ho' q hd';omega):p:=h
def aJa {p:Prop} (h:p:=by rw[aoH];exact hdf.mono hgr):p:=h
def oM {p:Prop} (h:p:=by simpa using Z):p:=h
def oJ {p:Prop} (h:p:=by simpa using U):p:=h
def aPz {p:Prop} (h:p:=by simp[Value.cells,List.getD,Array.getD,z]):p:=h
def aIt {p:Prop} (h:p:=by have :=eq_of_beq h;omega):p:=h
def aC1 {p:Prop} (h:p:=by simp[List.getD,q]):p:=h
def Yu {p:Prop} (h:p:=by simp at J):p:=h
def bM {p:Prop} (h:p:=by simp at n):p:=h
def aBS {p:Prop} (h:p:=by rw[←f.hlen];simp):p:=h
def acD {p:Prop} (h:p:=by have :=hinj j j' o o' t s Z q hd';omega):p:=h
def aMO {p:Prop} (h:p:=by rw[hb1];exact(FN.1 M).1):p:=h
def aK3 {p:Prop} (h:p:=by rw[BN.aeo]at J;exact J):p:=h
def aDW {p:Prop} (h:p:=by rw[←h.hlen];simp):p:=h
def aFk {p:Prop} (h:p:=by rw[f]at h;exact h):p:=h
def dB {p:Prop} (h:p:=by simp[u]):p:=h
def aOR {p:Prop} (h:p:=by simp[Array.getD,h1,hi']):p:=h
def aM3 {p:Prop} (h:p:=by simp[underlying,hE.und]):p:=h
def adf {p:Prop} (h:p:=by obtain⟨a,_,rfl⟩:=GV.1 hy;exact hc a):p:=h
def aRn {p:Prop} (h:p:=by unfold KF at f;rw[Dx m]at f;exact f):p:=h
def aY {p:Prop} (h:p:=by cases h'):p:=h
def aAB {p:Prop} (h:p:=by simp[Array.getD]):p:=h
def aHl {p:Prop} (h:p:=by rw[size_put];exact hsz):p:=h
def aav {p:Prop} (h:p:=by simp[stepG,stepG.exec,Frame.atR]):p:=h
def ab5 {p:Prop} (h:p:=by rw[wY];exact fuel_lt (by decide)):p:=h
def aKO {p:Prop} (h:p:=by simp[List.getD,bZ e]):p:=h
def aCw {p:Prop} (h:p:=by simpa using I):p:=h
def aOi {p:Prop} (h:p:=by simp[ev,List.getD,hy]):p:=h
def aG3 {p:Prop} (h:p:=by simpa using hi1):p:=h
def aEV {p:Prop} (h:p:=by simp[flat]at hi):p:=h
def aLy {p:Prop} (h:p:=by simp[List.getD,GZ e]):p:=h
def aJi {p:Prop} (h:p:=by simpa[Dq]using h.symm):p:=h
def aBb {p:Prop} (h:p:=by rw[Hu];omega):p:=h
def adL {p:Prop} (h:p:=by rw[j];rfl):p:=h
def aHD {p:Prop} (h:p:=by simpa using h2):p:=h
def aJ2 {p:Prop} (h:p:=by simp[r,List.getD,hy]):p:=h
def aJt {p:Prop} (h:p:=by rw[aEq];exact hh.base):p:=h
def aIW {p:Prop} (h:p:=by simp[World.setRow]):p:=h
def aHJ {p:Prop} (h:p:=by simp only[aH8,DT,BM]):p:=h
def aAH {p:Prop} (h:p:=by simpa using L):p:=h
def zl {p:Prop} (h:p:=by apply aN3;simp):p:=h
def aEw {p:Prop} (h:p:=by simpa using O):p:=h
def aCb {p:Prop} (h:p:=by simp[go_sem]):p:=h
def aCU {p:Prop} (h:p:=by rw[H7];exact h):p:=h
def aIR {p:Prop} (h:p:=by rw[ES];simp;omega):p:=h
def aM8 {p:Prop} (h:p:=by simp[execOp,f];rfl):p:=h
def aEj {p:Prop} (h:p:=by simpa using M):p:=h
def aI3 {p:Prop} (h:p:=by simp[underlying,h]):p:=h
def aLE {p:Prop} (h:p:=by rw[ES]at hi;omega):p:=h
def aJS {p:Prop} (h:p:=by simp[underlying,Z]):p:=h
def aOn {p:Prop} (h:p:=by rw[Zy];simp;omega):p:=h
def aIB {p:Prop} (h:p:=by simpa using this):p:=h
def aMG {p:Prop} (h:p:=by rw[D8];exact hi):p:=h
def aHf {p:Prop} (h:p:=by simpa using hee):p:=h
def aFC {p:Prop} (h:p:=by simp[vT,e]):p:=h
def oN {p:Prop} (h:p:=by simp at s):p:=h
def aLp {p:Prop} (h:p:=by intro q;cases q):p:=h
def aI0 {p:Prop} (h:p:=by intro L;cases L):p:=h
def wB {p:Prop} (h:p:=by simp[h]):p:=h
end Go.Proofs.YtolgdkhlelfpoaaGreat
namespace Go.Proofs.YtolgdkhlelfpoaaGreat
open Go.RowKit
def Bd {p:Prop} (h:p:=by exact fun h=>AU<|CV):p:=h
def EL {p:Prop} (h:p:=by exact AB.exit<|AU<|CV):p:=h
def NG {p:Prop} (h:p:=by exact AB.skip<|AU<|CV):p:=h
def Hq {p:Prop} (h:p:=by exact AB.exit<|AU<|QX):p:=h
def aAS {p:Prop} (h:p:=by exact .nil<|Or.inl ⟨(),(CS h).symm,(⟨[],[],trivial,A8,A8,A8⟩)⟩):p:=h
def aaU {p:Prop} (h:p:=by exact .aW<|AU<|AB.ret<|by rw[←CS h];exact⟨[DR ({ aQ with Content:=f })],[],⟨⟨1,Af (Aq ({ aQ with Content:=f })),true,29,A8,A8,A8,D5,Dh A8,jd,A8⟩,trivial⟩,A8,A8,A8⟩):p:=h
def vN {p:Prop} (h:p:=by exact QN A8<|QN A8<|QN A8<|QN A8<|trivial):p:=h
def aUU {p:Prop} (h:p:=by exact fun h=>AB.ret<|⟨.inr rfl,(SP j).slots,(.ready,none),.normal,A8,rfl,(K3 _ ⟨q,u,AZ 16 32 [(2,true),(6,true)],h⟩)⟩):p:=h
def aR3 {p:Prop} (h:p:=by exact AB.ret<|⟨.inr rfl,(TD iJ f).slots,(.ready,none),.normal,A8,rfl,(K3 _ ⟨L,v8,AZ 21 80 [(0,true),(1,true)],h⟩)⟩):p:=h
def yx {p:Prop} (h:p:=by exact .nil<|j _ _ _ (AZ 16 449 [(0,true)]) h):p:=h
def Zx {p:Prop} (h:p:=by exact AU<|AU<|CV):p:=h
def mJ {p:Prop} (h:p:=by exact fun h=>AU<|QX):p:=h
def aKl {p:Prop} (h:p:=by exact fun h=>AB.exit<|K4 _ ⟨AZ 18 2 [],h⟩):p:=h
def aTy {p:Prop} (h:p:=by exact AB.skip<|Or.inl ⟨(),(CS h).symm,(⟨[],[],trivial,A8,A8,A8⟩)⟩):p:=h
def aNy {p:Prop} (h:p:=by exact .nil<|f _ _ (AZ 26 35 []) h):p:=h
def OV {p:Prop} (h:p:=by exact .aV<|Ac h Bd fun h=>NG):p:=h
def gu {p:Prop} (h:p:=by exact AU<|Ac h Bd fun h=>NG):p:=h
end Go.Proofs.YtolgdkhlelfpoaaGreat
section
namespace Go.Proofs.YtolgdkhlelfpoaaGreat
open Go.RowKit
def addr_add (b o j:Nat):(⟨b,o,none⟩:Addr).add j=⟨b,o+j,none⟩:=by
 unfold Addr.add;split<;>simp_all
section
variable {P : Program} {ops : Array Oper} {rest : List Oper} {o : Oper} {a : Act} {w : World} {Q : Exit → Act → World → Prop}
def amO (w:World) (ty:TypeId) (b off:Nat) (cs:Array Value) (n:(isAgg ty).run P w=.ok true w) (q:(sizeOf ty).run P w=.ok cs.size w)
 (s:∀j,j<cs.size→w.cell? ⟨b,off+j,none⟩=some (cs.getD j undef)):(loadVar ty ⟨b,off,none⟩).run P w=.ok (.agg cs) w:=by
 have h:(loadCells ⟨b,off,none⟩ cs.toList.length).run P w=.ok cs.toList.toArray w:=
  run_loadCells_list (P:=P) w ⟨b,off,none⟩ cs.toList (fun j v f=>by
   rw[addr_add]
   have m:j<cs.size:=by
    have :=(FN.1 f).1;simpa using this
   rw[s j m];simp only[rQ]at f;simp[Array.getD,m]at f ⊢
   exact f)
 simp only[V4,eM]at h;simp only[loadVar,FB,n,q,FK,Jj,h,G6]
end
inductive D where
 |lit (v:Value)
 |agg (cs:List D)
 |sl (es:List D)
 |ref (cs:List D) (off:Nat)
 |fn (f:Fn) (first cap:List D)
 |PD (t:TypeId) (x:D)
def D.cells:D→List D
 | .agg cs=>cs
 |x=>[x]
def D.leaf:D→Bool
 | .lit v=>v.oneCell'
 | .agg _=>false
 |_=>true
abbrev Dn :D:=.lit undef
abbrev cellAt (w:World) (b o:Nat):Value:=(w.cell? ⟨b,o,none⟩).getD undef
inductive Dz (ok:Nat→Prop) (w:World):D→Value→Prop
 |lit (v:Value):Dz ok w (.lit v) v
 |agg (cs:List D) (vs:Array Value) (hl:vs.size=cs.length) (hf:∀i,i<cs.length→(cs.getD i Dn).leaf=true)
  (h:∀i,i<cs.length→Dz ok w (cs.getD i Dn) (vs.getD i undef)):Dz ok w (.agg cs) (.agg vs)
 |sl0 (ad:Option Addr) (cap:Nat):Dz ok w (.sl []) (.slice ad 0 cap)
 |sl (es:List D) (b off cap size:Nat) (hcap:es.length≤cap) (hok:0<es.length→0<size→ok b) (hs:∀i,i<es.length→(es.getD i Dn).cells.length=size)
  (hf:∀i,i<es.length→∀j,j<size→((es.getD i Dn).cells.getD j Dn).leaf=true)
  (hx:∀i,i<es.length→∀j,j<size→(w.cell? ⟨b,off+(i*size+j),none⟩).isSome=true)
  (hc:∀i,i<es.length→∀j,j<size→Dz ok w ((es.getD i Dn).cells.getD j Dn) (cellAt w b (off+(i*size+j)))):
  Dz ok w (.sl es) (.slice (some ⟨b,off,none⟩) es.length cap)
 |ref (cs:List D) (off b o:Nat) (hok:0<cs.length→ok b) (hf:∀i,i<cs.length→(cs.getD i Dn).leaf=true)
  (hx:∀j,j<cs.length→(w.cell? ⟨b,o+j,none⟩).isSome=true)
  (hc:∀j,j<cs.length→Dz ok w (cs.getD j Dn) (cellAt w b (o+j))):Dz ok w (.ref cs off) (.pointer (some ⟨b,o+off,none⟩))
 |fn (f:Fn) (first cap:List D) (vs us:Array Value) (hl:vs.size=first.length) (hm:us.size=cap.length)
  (h:∀i,i<first.length→Dz ok w (first.getD i Dn) (vs.getD i undef)) (h':∀i,i<cap.length→Dz ok w (cap.getD i Dn) (us.getD i undef)):
  Dz ok w (.fn f first cap) (.func f vs us)
 |PD (t:TypeId) (x:D) (v:Value) (h:Dz ok w x v):Dz ok w (.PD t x) (.iface t v)
def EU (ok:Nat→Prop) (w:World) (ok':Nat→Prop) (w':World):Prop:=∀b,ok b→ok' b∧w'.heap[b]? =w.heap[b]?
def EU.refl (ok:Nat→Prop) (w:World):EU ok w ok w:=fun _ h=>⟨h,rfl⟩
def EU.trans {ok f j:Nat→Prop} {w n q:World} (h:EU ok w f n) (k:EU f n j q):EU ok w j q:=
 fun b m=>⟨(k b (h b m).1).1,((k b (h b m).1).2).trans (h b m).2⟩
def EU.cell {ok ok':Nat→Prop} {w w':World} (h:EU ok w ok' w') {b o:Nat} (f:ok b):w'.cell? ⟨b,o,none⟩=w.cell? ⟨b,o,none⟩:=
 World.cell?_of_block (w:=w) (a:=⟨b,o,none⟩) (h b f).2
def Dz.mono {ok ok':Nat→Prop} {w w':World} (s:EU ok w ok' w') {x:D} {v:Value} (h:Dz ok w x v):Dz ok' w' x v:=by
 induction h with
 |lit v=>exact .lit v
 |agg cs vs I u _ q=>exact .agg cs vs I u q
 |sl0 ad cap=>exact .sl0 ad cap
 |sl es b off cap size z m S u J _ q=>
  have O:∀i j,i<es.length→j<size→ok b:=fun i j hi n=>m AA AA;refine .sl es b off cap size z (fun L U=>(s b (m L U)).1) S u (fun i hi j n=>?_) (fun i hi j n=>?_)
  ·rw[s.cell (O i j hi n)];exact J i hi j n
  unfold cellAt;rw[s.cell (O i j hi n)];exact q i hi j n
 |ref cs off b o m u J _ q=>
  refine .ref cs off b o (fun L=>(s b (m L)).1) u (fun j n=>?_) (fun j n=>?_)
  ·rw[s.cell (m AA)];exact J j n
  unfold cellAt;rw[s.cell (m AA)];exact q j n
 |fn f first cap vs us I Y _ _ q M=>exact .fn f first cap vs us I Y q M
 |PD t x v _ q=>exact .PD t x v q
def Dz.shrink {ok ok':Nat→Prop} {w:World} (L:∀b o,ok b→(w.cell? ⟨b,o,none⟩).isSome=true→ok' b) {x:D} {v:Value} (h:Dz ok w x v):Dz ok' w x v:=by
 induction h with
 |lit v=>exact .lit v
 |agg cs vs z n _ j=>exact .agg cs vs z n j
 |sl0 ad cap=>exact .sl0 ad cap
 |sl es b off cap size q m I n s _ j=>exact .sl es b off cap size q (fun u M=>L b _ (m u M) (s 0 u 0 M)) I n s j
 |ref cs off b o m n s _ j=>exact .ref cs off b o (fun u=>L b _ (m u) (s 0 u)) n s j
 |fn f first cap vs us z O _ _ j J=>exact .fn f first cap vs us z O j J
 |PD t x v _ j=>exact .PD t x v j
def Dz.leaf {ok:Nat→Prop} {w:World} {x:D} {v:Value} (h:Dz ok w x v) (f:x.leaf=true):v.oneCell'=true:=by
 cases h<;>first|rfl|exact f|(simp[D.leaf]at f)
inductive Ag where
 |d (x:D)
 |ptr (k off:Nat)
 |aO (k:Nat)
 |lQ (k i off:Nat)
 |fn (f:Fn) (first cap:List Ag)
 |mp (k:Nat)
 |clip (xs:List D)
 |xu (k:Nat)
 |gy (vs:List Ag)
 |ag (vs:List Ag)
 |junk
def Ag.leaf:Ag→Bool
 | .d x=>x.leaf
 | .gy _| .ag _| .junk=>false
 |_=>true
def Ag.cells:Ag→List Ag
 | .d x=>x.cells.map .d
 | .ag xs=>xs
 |x=>[x]
inductive BN where
 |dead
 |box (cs:List Ag)
 |arr (e:TypeId) (size:Nat) (es:List D)
 |map (es:List (Value×D))
 |dL (es:List (Value×D))
 |iter (es:List (Value×D)) (vis:List Nat)
 |loop (tm:Array Value) (slots:List Ag) (rc:Array Tmp×Code×Code) (st:LoopState) (pe:Option Code)
def BN.live:BN→Bool
 | .dead=>false
 |_=>true
structure Bj where
 v:Value
 size:Nat:=0
inductive R (ok:Nat→Prop) (w:World) (H:List Bj):Ag→Value→Prop
 |d (x:D) (v:Value) (h:Dz ok w x v):R ok w H (.d x) v
 |ptr (k off b s:Nat) (h:H[k]? =some ⟨.pointer (some ⟨b,0,none⟩),s⟩):R ok w H (.ptr k off) (.pointer (some ⟨b,off,none⟩))
 |aO (k:Nat) (ad:Option Addr) (n cap s:Nat) (h:H[k]? =some ⟨.slice ad n cap,s⟩):R ok w H (.aO k) (.slice ad n cap)
 |lQ (k i off b n cap s:Nat) (h:H[k]? =some ⟨.slice (some ⟨b,0,none⟩) n cap,s⟩):R ok w H (.lQ k i off) (.pointer (some ⟨b,i*s+off,none⟩))
 |fn (f:Fn) (first cap:List Ag) (vs us:Array Value) (hl:vs.size=first.length) (hm:us.size=cap.length) (h:∀i,i<first.length→R ok w H (first.getD i .junk) (vs.getD i undef))
  (h':∀i,i<cap.length→R ok w H (cap.getD i .junk) (us.getD i undef)):R ok w H (.fn f first cap) (.func f vs us)
 |mp (k:Nat) (v:Value) (s:Nat) (hl:v.oneCell'=true) (h:H[k]? =some ⟨v,s⟩):R ok w H (.mp k) v
 |clip (xs:List D) (ad:Option Addr) (h:Dz ok w (.sl xs) (.slice ad xs.length xs.length)):R ok w H (.clip xs) (.slice ad xs.length xs.length)
 |xu (k:Nat) (ad:Option Addr) (n cap s:Nat) (h:H[k]? =some ⟨.slice ad n cap,s⟩):R ok w H (.xu k) (.slice ad n n)
 |gy (xs:List Ag) (vs:Array Value) (hl:vs.size=xs.length) (h:∀i,i<xs.length→R ok w H (xs.getD i .junk) (vs.getD i undef)):R ok w H (.gy xs) (.tuple vs)
 |ag (xs:List Ag) (vs:Array Value) (hl:vs.size=xs.length) (hf:∀i,i<xs.length→(xs.getD i .junk).leaf=true) (h:∀i,i<xs.length→R ok w H (xs.getD i .junk) (vs.getD i undef)):R ok w H (.ag xs) (.agg vs)
 |junk (v:Value):R ok w H .junk v
def Names (H H':List Bj):Prop:=∀(k:Nat) (v:Bj),H[k]? =some v→H'[k]? =some v
def Names.refl (H:List Bj):Names H H:=fun _ _ h=>h
def Names.trans {H H1 H2:List Bj} (h:Names H H1) (k:Names H1 H2):Names H H2:=fun i v f=>k i v (h i v f)
def Names.push (H H':List Bj):Names H (H++H'):=fun k v h=>by
 rw[GZ (FN.1 h).1];exact h
def R.mono {ok ok':Nat→Prop} {w w':World} {H H':List Bj} (z:EU ok w ok' w') (m:Names H H') {x:Ag} {v:Value} (h:R ok w H x v):R ok' w' H' x v:=by
 induction h with
 |d x v h=>exact .d x v (h.mono z)
 |ptr k off b s h=>exact .ptr k off b s (m _ _ h)
 |aO k ad n cap s h=>exact .aO k ad n cap s (m _ _ h)
 |lQ k i off b n cap s h=>exact .lQ k i off b n cap s (m _ _ h)
 |fn f first cap vs us j I _ _ q u=>exact .fn f first cap vs us j I q u
 |mp k v s j h=>exact .mp k v s j (m _ _ h)
 |clip xs ad h=>exact .clip xs ad (h.mono z)
 |xu k ad n cap s h=>exact .xu k ad n cap s (m _ _ h)
 |gy xs vs j _ q=>exact .gy xs vs j q
 |ag xs vs j J _ q=>exact .ag xs vs j J q
 |junk v=>exact .junk v
def R.shrink {ok ok':Nat→Prop} {w:World} (u:∀b o,ok b→(w.cell? ⟨b,o,none⟩).isSome=true→ok' b) {H:List Bj} {x:Ag} {v:Value} (h:R ok w H x v):R ok' w H x v:=by
 induction h with
 |d x v h=>exact .d x v (h.shrink u)
 |ptr k off b s h=>exact .ptr k off b s h
 |aO k ad n cap s h=>exact .aO k ad n cap s h
 |lQ k i off b n cap s h=>exact .lQ k i off b n cap s h
 |fn f first cap vs us j z _ _ m q=>exact .fn f first cap vs us j z m q
 |mp k v s j h=>exact .mp k v s j h
 |clip xs ad h=>exact .clip xs ad (h.shrink u)
 |xu k ad n cap s h=>exact .xu k ad n cap s h
 |gy xs vs j _ m=>exact .gy xs vs j m
 |ag xs vs j I _ m=>exact .ag xs vs j I m
 |junk v=>exact .junk v
def R.leaf {ok:Nat→Prop} {w:World} {H:List Bj} {x:Ag} {v:Value} (h:R ok w H x v) (f:x.leaf=true):v.oneCell'=true:=by
 cases h with
 |d x v h=>exact h.leaf f
 |gy=>simp[Ag.leaf]at f
 |ag=>simp[Ag.leaf]at f
 |junk=>simp[Ag.leaf]at f
 |mp k v s f h=>exact f
 |_=>rfl
def Gf (ok:Nat→Prop) (w:World) (H:List Bj) (xs:List Ag) (vs:List Value):Prop:=
 vs.length=xs.length∧∀i,i<xs.length→(xs.getD i .junk).leaf=true∧R ok w H (xs.getD i .junk) (vs.getD i undef)
def Gf.mono {ok ok':Nat→Prop} {w w':World} {H H':List Bj} (f:EU ok w ok' w') (j:Names H H') {xs:List Ag} {vs:List Value} (h:Gf ok w H xs vs):Gf ok' w' H' xs vs:=
 ⟨h.1,fun i hi=>⟨(h.2 i hi).1,(h.2 i hi).2.mono f j⟩⟩
def Gf.shrink {ok ok':Nat→Prop} {w:World} (f:∀b o,ok b→(w.cell? ⟨b,o,none⟩).isSome=true→ok' b) {H:List Bj} {xs:List Ag} {vs:List Value} (h:Gf ok w H xs vs):Gf ok' w H xs vs:=
 ⟨h.1,fun i hi=>⟨(h.2 i hi).1,(h.2 i hi).2.shrink f⟩⟩
def flat (es:List D):List Ag:=es.flatMap fun x=>x.cells.map .d
def qF (w:World) (e:TypeId) (size:Nat) (v:Value) (n:Nat) (xs:List Value):Prop:=
 xs.length=n*size∧
 ((v=.slice none 0 0∧n=0)∨
  ∃g cap f,v=.slice (some ⟨g,0,none⟩) n cap∧0≤g∧w.heap[g]? =some (.cells f e (0,0))∧n≤cap∧cap≤maxLen∧cap*size≤f.size∧f.toList.take (n*size)=xs)
def qF.of {w:World} {base:Nat} {e:TypeId} {size:Nat} {v:Value} {n:Nat} {xs:List Value} (h:w.ownsRow base e size v n xs):qF w e size v n xs:=by
 refine⟨h.1,?_⟩;rcases h.2 with f|⟨g,cap,j,f,I,m,q,s,u,z⟩
 ·exact .inl f
 exact .inr ⟨g,cap,j,f,Eh _,m,q,s,kV u.symm,z⟩
def qF.cells {w:World} {e:TypeId} {size:Nat} {v:Value} {n:Nat} {xs:List Value} (h:qF w e size v n xs) {g:Nat} (s:v.ownBlock=some g):∀j u,xs[j]? =some u→w.cell? ((⟨g,0,none⟩:Addr).add j)=some u:=by
 intro j u q;rcases h.2 with⟨rfl,_⟩|⟨z,cap,I,rfl,_,J,_,_,_,f⟩
 ·simp[Value.ownBlock]at s
 simp[Value.ownBlock]at s;subst s;have m:(⟨z,0,none⟩:Addr).add j=⟨z,j,none⟩:=by unfold Addr.add;split<;>simp_all
 rw[m,cell_of_row w z j I e (0,0) J];rw[←f,List.getElem?_take]at q;split at q
 ·simpa using q
 cases q
structure KI (ok:Nat→Prop) (w:World) (es:List (Value×D)) (ms:Array MapEntry) (clock:Nat):Prop where
 len:ms.size=es.length
 ent:∀(i:Nat) (e:Value×D) (m:MapEntry),es[i]? =some e→ms[i]? =some m→m.key=e.1∧Dz ok w e.2 m.val∧m.born<clock
 inc:∀(i j:Nat) (m n:MapEntry),i<j→ms[i]? =some m→ms[j]? =some n→m.born<n.born
def RN (ms:Array MapEntry) (clock:Nat):Prop:=clock=ms.size∧∀(i:Nat) (e:MapEntry),ms[i]? =some e→e.born=i
def Eo (ok:Nat→Prop) (w:World) (H:List Bj) (h:Bj):BN→Prop
 | .dead=>True
 | .box cs=>∃b vs T,h.v=.pointer (some ⟨b,0,none⟩)∧w.heap[b]? =some (.cells vs T (0,0))∧Gf ok w H cs vs.toList
 | .arr e size es=>h.size=size∧(∀x∈es,x.cells.length=size)∧∃xs,qF w e size h.v es.length xs∧Gf ok w H (flat es) xs
 | .map es=>∃b ms clock,h.v=.map (some b)∧w.heap[b]? =some (.map ms clock)∧KI ok w es ms clock
 | .dL es=>∃b ms clock,h.v=.map (some b)∧w.heap[b]? =some (.map ms clock)∧KI ok w es ms clock∧RN ms clock
 | .iter es vis=>∃bi f ms clock seen,h.v=.pointer (some ⟨bi,0,none⟩)∧w.heap[bi]? =some (.mapIter (some f) clock seen clock)∧ok f∧w.heap[f]? =some (.map ms clock)∧KI ok w es ms clock∧
  seen.size=vis.length∧∀(j i:Nat),vis[j]? =some i→∃e,ms[i]? =some e∧seen[j]? =some e.born
 | .loop tm slots rc st m=>∃l fn D,h.v=.func (.yield l) #[] #[]∧w.heap[l]? =some (.loop { state:=st,pending:=m,fn,tmps:=tm,params:=rc.1,assign:=rc.2.1,body:=rc.2.2,defers:=D })∧tm.size=slots.length∧∀t,t<slots.length→R ok w H (slots.getD t .junk) (tm.getD t undef)
def Dq :Value→Option Nat
 | .pointer (some a)=>some a.block
 | .slice (some a) _ _=>some a.block
 | .map (some b)=>some b
 | .func (.yield l) _ _=>some l
 |_=>none
structure sB (w0:World) (X:List Nat) (w:World):Prop where
 os:w.os=w0.os
 tape:w.tape=w0.tape
 output:w.output=w0.output
 size:w0.heap.size≤w.heap.size
 block:∀k,k<w0.heap.size→k∉X→w.heap[k]? =w0.heap[k]?
def sB.refl (w:World) (X:List Nat):sB w X w:=⟨rfl,rfl,rfl,EG _,fun _ _ _=>rfl⟩
def sB.below {w0 w:World} (h:sB w0 [] w):Below w0.heap.size w0 w:=⟨h.os,h.tape,h.output,h.size,fun k f=>h.block k f BP⟩
structure EW where
 w0:World
 ok0:Nat→Prop
 X:List Nat
 H0:List Bj
structure DI (C:EW) (ok:Nat→Prop) (H:List Bj) (es:List BN) (w:World):Prop where
 fr:sB C.w0 C.X w
 xU:∀b,C.ok0 b→ok b
 xW:∀b,ok b→C.ok0 b∨C.w0.heap.size≤b∨b∈C.X
 kW:∀b,ok b→b<w.heap.size
 names:Names C.H0 H
 hlen:H.length=es.length
 ent:∀(k:Nat) (e:BN) (h:Bj),es[k]? =some e→H[k]? =some h→Eo ok w H h e
 blk:∀(k:Nat) (e:BN) (h:Bj) (b:Nat),es[k]? =some e→e.live=true→H[k]? =some h→Dq h.v=some b→¬ok b∧b<w.heap.size∧(C.w0.heap.size≤b∨b∈C.X)
 DU:∀(k k':Nat) (e e':BN) (h h':Bj) (b:Nat),es[k]? =some e→es[k']? =some e'→e.live=true→e'.live=true→H[k]? =some h→H[k']? =some h'→Dq h.v=some b→Dq h'.v=some b→k=k'
def Eo.mono {ok ok':Nat→Prop} {w w':World} {H H':List Bj} {h:Bj} {e:BN} (z:EU ok w ok' w') (O:Names H H') (J:e.live=true→∀b,Dq h.v=some b→w'.heap[b]? =w.heap[b]?) (L:Eo ok w H h e):Eo ok' w' H' h e:=by
 cases e with
 |dead=>trivial
 |box cs=>
  obtain⟨b,vs,T,j,n,f⟩:=L;exact⟨b,vs,T,j,aIv,f.mono z O⟩
 |arr e s es=>
  obtain⟨j,n,xs,⟨f,u⟩,I⟩:=L;refine⟨j,n,xs,⟨f,?_⟩,I.mono z O⟩;rcases u with u|⟨g,cap,S,M,U,Z,h9⟩
  ·exact .inl u
  exact .inr ⟨g,cap,S,M,U,by rw[J rfl g (by rw[M];rfl)];exact Z,h9⟩
 |map es=>
  obtain⟨b,ms,clock,j,n,f⟩:=L;exact⟨b,ms,clock,j,aIv,f.len,fun i e m hi q=>⟨(f.ent i e m hi q).1,(f.ent i e m hi q).2.1.mono z,(f.ent i e m hi q).2.2⟩,f.inc⟩
 |dL es=>
  obtain⟨b,ms,clock,j,n,f,u⟩:=L;exact⟨b,ms,clock,j,aIv,⟨f.len,fun i e m hi q=>⟨(f.ent i e m hi q).1,(f.ent i e m hi q).2.1.mono z,(f.ent i e m hi q).2.2⟩,f.inc⟩,u⟩
 |iter es vis=>
  obtain⟨bi,Y,ms,clock,seen,j,n,f,u,I,M,U⟩:=L;exact⟨bi,Y,ms,clock,seen,j,by rw[J rfl bi adL];exact n,(z Y f).1,by rw[(z Y f).2];exact u,⟨I.len,fun i e m hi q=>⟨(I.ent i e m hi q).1,(I.ent i e m hi q).2.1.mono z,(I.ent i e m hi q).2.2⟩,I.inc⟩,M,U⟩
 |loop tm slots rc st pe=>
  obtain⟨l,fn,D,j,n,f,u⟩:=L;exact⟨l,fn,D,j,by rw[J rfl l adL];exact n,f,fun t ht=>(u t ht).mono z O⟩
def Eo.shrink {ok ok':Nat→Prop} {w:World} (z:∀b o,ok b→(w.cell? ⟨b,o,none⟩).isSome=true→ok' b) (L:∀(b:Nat) (ms:Array MapEntry) (c:Nat),ok b→w.heap[b]? =some (.map ms c)→ok' b) {H:List Bj} {h:Bj} {e:BN} (I:Eo ok w H h e):Eo ok' w H h e:=by
 cases e with
 |dead=>trivial
 |box cs=>
  obtain⟨b,vs,T,j,n,f⟩:=I;exact⟨b,vs,T,j,n,f.shrink z⟩
 |arr e s es=>
  obtain⟨j,n,xs,f,u⟩:=I;exact⟨j,n,xs,f,u.shrink z⟩
 |map es=>
  obtain⟨b,ms,clock,j,n,f⟩:=I;exact⟨b,ms,clock,j,n,f.len,fun i e m hi q=>⟨(f.ent i e m hi q).1,(f.ent i e m hi q).2.1.shrink z,(f.ent i e m hi q).2.2⟩,f.inc⟩
 |dL es=>
  obtain⟨b,ms,clock,j,n,f,J⟩:=I;exact⟨b,ms,clock,j,n,⟨f.len,fun i e m hi q=>⟨(f.ent i e m hi q).1,(f.ent i e m hi q).2.1.shrink z,(f.ent i e m hi q).2.2⟩,f.inc⟩,J⟩
 |iter es vis=>
  obtain⟨bi,M,ms,clock,seen,j,n,f,J,u,O,S⟩:=I;exact⟨bi,M,ms,clock,seen,j,n,L M ms clock f J,J,⟨u.len,fun i e m hi q=>⟨(u.ent i e m hi q).1,(u.ent i e m hi q).2.1.shrink z,(u.ent i e m hi q).2.2⟩,u.inc⟩,O,S⟩
 |loop tm slots rc st Y=>
  obtain⟨l,fn,D,j,n,f,J⟩:=I;exact⟨l,fn,D,j,n,f,fun t U=>(J t U).shrink z⟩
def Eo.drew {ok:Nat→Prop} {w:World} {H:List Bj} {h:Bj} {e:BN} {n:Nat} (f:Eo ok w H h e):Eo ok { w with drawn:=n } H h e:=
 Eo.mono (w:=w) (ok:=ok) (fun _ j=>⟨j,rfl⟩) (.refl _) (fun _ _ _=>rfl) f
def Bl (P:Program) (o:Oper) (ns:List (Operand×Ag)) (es:List BN) (x:Ag) (es':List BN):Prop:=
 ∀(C:EW) (ok:Nat→Prop) (H:List Bj) (a:Act) (w:World) (Q:Exit→Act→World→Prop),
  DI C ok H es w→(∀n∈ns,R ok w H n.2 (a.eval n.1))→
  o.wp P a w (fun a' w'=>∃v ok' H',a'=a.put o.dst v∧EU ok w ok' w'∧Names H H'∧DI C ok' H' es' w'∧R ok' w' H' x v) Q
def Bl.pure {P:Program} {o:Oper} {ns:List (Operand×Ag)} {es:List BN} {x:Ag}
 (h:∀(ok:Nat→Prop) (H:List Bj) (a:Act) (w:World),(∀(k:Nat) (e:BN) (h:Bj),es[k]? =some e→H[k]? =some h→Eo ok w H h e)→H.length=es.length→(∀n∈ns,R ok w H n.2 (a.eval n.1))→∃v,(execOp a.eval o).run P w=.ok (.value v) w∧R ok w H x v):Bl P o ns es x es:=by
 intro C ok H a w Q f j;obtain⟨v,m,q⟩:=h ok H a w f.ent f.hlen j;unfold Oper.wp;rw[m];exact⟨v,ok,H,rfl,.refl _ _,.refl _,f,q⟩
structure BI where
 slots:List Ag
 ents:List BN
 base:Nat:=0
def BI.get (σ:BI):Operand→Ag
 | .tmp t=>σ.slots.getD t .junk
 | .const v=>.d (.lit v)
 | .global g=>.d (.lit (.pointer (some ⟨g,0,none⟩)))
 | .func f=>.d (.fn (.func f) [] [])
def BI.put (σ:BI) (d:Option Tmp) (x:Ag) (es:List BN):BI:=
 ⟨match d with |some t=>σ.slots.set t x|none=>σ.slots,es,σ.base⟩
def BI.sF (σ:BI) (d:Option Tmp) (x:Ag):BI:=
 ⟨match d with |some t=>σ.slots.set t x|none=>σ.slots,σ.ents,σ.base⟩
def BI.YQ (σ:BI) (d:Option Tmp) (x:Ag):σ.sF d x=σ.put d x σ.ents:=rfl
def Marks (C:EW) (ok:Nat→Prop) (w:World) (f:List Deferred):Prop:=
 ∃Ds:List Nat,f=Ds.map (fun D=>{ target:=.collected D,args:= #[] })∧Ds.Nodup∧∀D∈Ds,ok D∧C.w0.heap.size≤D∧w.heap[D]? =some (.deferred (some []))
def Marks.nil (C:EW) (ok:Nat→Prop) (w:World):Marks C ok w []:=⟨[],rfl,Zt,fun _ h=>He⟩
def Marks.mono {C:EW} {ok ok':Nat→Prop} {w w':World} {m:List Deferred} (h:Marks C ok w m) (n:EU ok w ok' w'):Marks C ok' w' m:=by
 obtain⟨Ds,q,s,f⟩:=h;exact⟨Ds,q,s,fun D j=>⟨(n D (f D j).1).1,(f D j).2.1,((n D (f D j).1).2).trans (f D j).2.2⟩⟩
structure Holds (C:EW) (ok:Nat→Prop) (H:List Bj) (σ:BI) (a:Act) (w:World):Prop where
 mem:DI C ok H σ.ents w
 size:a.tmps.size=σ.slots.length
 defers:Marks C ok w a.defers
 base:C.H0.length=σ.base
 slot:∀t,t<σ.slots.length→R ok w H (σ.slots.getD t .junk) (a.tmps.getD t undef)
def jv {l:List Ag} {t:Nat} (h:¬t<l.length):l.getD t .junk=.junk:=by
 simp[List.getD,II (Tz h)]
def Holds.get {C:EW} {ok:Nat→Prop} {H:List Bj} {σ:BI} {a:Act} {w:World} (h:Holds C ok H σ a w) (x:Operand):R ok w H (σ.get x) (a.eval x):=by
 cases x with
 |tmp t=>
  show R ok w H (σ.slots.getD t .junk) (a.tmps.getD t undef);by_cases j:t<σ.slots.length
  ·exact h.slot t j
  rw[jv j];exact .junk _
 |const v=>exact .d _ _ (.lit v)
 |global g=>exact .d _ _ (.lit _)
 |func f=>exact .d _ _ (.fn (.func f) [] [] #[] #[] rfl rfl (fun i hi=>Nl) (fun i hi=>Nl))
def Holds.put {C:EW} {ok ok':Nat→Prop} {H H':List Bj} {σ:BI} {a:Act} {w w':World} (h:Holds C ok H σ a w) (d:Option Tmp) {x:Ag} {v:Value} {es':List BN}
 (j:EU ok w ok' w') (q:Names H H') (s:DI C ok' H' es' w') (u:R ok' w' H' x v):Holds C ok' H' (σ.put d x es') (a.put d v) w':=by
 cases d with
 |none=>exact⟨s,h.size,h.defers.mono j,h.base,fun t f=>(h.slot t f).mono j q⟩
 |some d=>
  refine⟨s,by simp[BI.put,Act.put,h.size],h.defers.mono j,h.base,fun t f=>?_⟩;simp only[BI.put,kH]at f;simp only[BI.put,Act.put];by_cases e:d=t
  ·subst e;have m:(σ.slots.set d x).getD d .junk=x:=by simp[List.getD,f]
   have n:(a.tmps.setIfInBounds d v).getD d undef=v:=by simp[Array.getD,h.size,f]
   rw[m,n];exact u
  have m:(σ.slots.set d x).getD t .junk=σ.slots.getD t .junk:=aKO
  have n:(a.tmps.setIfInBounds d v).getD t undef=a.tmps.getD t undef:=by simp[Gx,KW e]
  rw[m,n];exact(h.slot t f).mono j q
def Ag.uX (π:List (Nat×Bool)):Ag→Ag
 | .d x=>.d x
 | .ptr k off=>match π.idxOf? (k,true)with |some j=>.ptr j off|none=>.junk
 | .aO k=>match π.idxOf? (k,true)with |some j=>.aO j|none=>.junk
 | .lQ k i off=>match π.idxOf? (k,true)with |some j=>.lQ j i off|none=>.junk
 | .mp k=>match π.idxOf? (k,true)with |some j=>.mp j|none=>.junk
 | .xu k=>match π.idxOf? (k,true)with |some j=>.xu j|none=>.junk
 | .clip xs=>.clip xs
 |_=>.junk
def Ag.back (π:List (Nat×Bool)):Ag→Ag
 | .fn f first cap=>.fn f (first.map (Ag.uX π)) (cap.map (Ag.uX π))
 | .gy vs=>.gy (vs.map (Ag.uX π))
 |x=>x.uX π
def BN.back (π:List (Nat×Bool)):BN→BN
 | .dead=>.dead
 | .box cs=>.box (cs.map (Ag.uX π))
 | .arr e s es=>.arr e s es
 | .map es=>.map es
 | .dL es=>.dL es
 | .iter es vis=>.iter es vis
 | .loop tm slots rc st f=>.loop tm (slots.map (Ag.back π)) rc st f
def sK {π:List (Nat×Bool)} {H:List Bj} {k j:Nat} {h:Bj} (m:π.idxOf? (k,true)=some j) (n:H[k]? =some h):(π.map fun p=>H.getD p.1 ⟨undef,0⟩)[j]? =some h:=by
 rw[List.idxOf?,aQK]at m;obtain⟨f,q, -⟩:=m;have e:π[j]=(k,true):=V3
 simp[f,e,List.getD,n]
def R.uX {ok:Nat→Prop} {w:World} {H:List Bj} (π:List (Nat×Bool)) {x:Ag} {v:Value} (h:R ok w H x v):R ok w (π.map fun p=>H.getD p.1 ⟨undef,0⟩) (x.uX π) v:=by
 cases h with
 |d x v h=>exact .d x v h
 |ptr k off b s h=>
  simp only[Ag.uX];split<;>rename_i j m
  ·exact .ptr _ off b s (sK m h)
  exact .junk _
 |aO k ad n cap s h=>
  simp only[Ag.uX];split<;>rename_i j m
  ·exact .aO _ ad n cap s (sK m h)
  exact .junk _
 |lQ k i off b n cap s h=>
  simp only[Ag.uX];split<;>rename_i j m
  ·exact .lQ _ i off b n cap s (sK m h)
  exact .junk _
 |mp k v s q h=>
  simp only[Ag.uX];split<;>rename_i j m
  ·exact .mp _ v s q (sK m h)
  exact .junk _
 |clip xs ad h=>exact .clip xs ad h
 |xu k ad n cap s h=>
  simp only[Ag.uX];split<;>rename_i j m
  ·exact .xu _ ad n cap s (sK m h)
  exact .junk _
 |fn f first cap vs us q u h h'=>exact .junk _
 |gy xs vs q h=>exact .junk _
 |ag xs vs q z h=>exact .junk _
 |junk v=>exact .junk _
def Ro (f:Ag→Ag) (l:List Ag) (i:Nat) (h:i<l.length):(l.map f).getD i .junk=f (l.getD i .junk):=by
 simp[List.getD,h]
def R.back {ok:Nat→Prop} {w:World} {H:List Bj} (π:List (Nat×Bool)) {x:Ag} {v:Value} (h:R ok w H x v):R ok w (π.map fun p=>H.getD p.1 ⟨undef,0⟩) (x.back π) v:=by
 cases h with
 |fn f first cap vs us j m h h'=>
  exact .fn f _ _ vs us (by simp[j]) (by simp[m]) (fun i hi=>aTb) (fun i hi=>by rw[D8]at hi;rw[Ro _ _ _ hi];exact(h' i hi).uX π)
 |gy xs vs j h=>exact .gy _ vs (by simp[j]) (fun i hi=>aTb)
 |ag xs vs j q h=>exact .junk _
 |d x v h=>exact(R.d x v h).uX π
 |ptr k off b s h=>exact(R.ptr k off b s h).uX π
 |aO k ad n cap s h=>exact(R.aO k ad n cap s h).uX π
 |lQ k i off b n cap s h=>exact(R.lQ k i off b n cap s h).uX π
 |mp k v s j h=>exact(R.mp k v s j h).uX π
 |clip xs ad h=>exact(R.clip xs ad h).uX π
 |xu k ad n cap s h=>exact(R.xu k ad n cap s h).uX π
 |junk v=>exact .junk _
def BN.backOk (π:List (Nat×Bool)):BN→Bool
 | .box cs=>cs.all fun x=>(x.uX π).leaf
 |_=>true
def UF (base:Nat) (es:List BN) (π:List (Nat×Bool)):Bool:=
 π.all (fun p=>decide (p.1<es.length))&&decide ((π.filterMap fun p=>if p.2 then some p.1 else none).Nodup)&&((π.take base).map (·.1)==List.range base)&&π.all fun p=>(es.getD p.1 .dead).backOk π
def Qu (es:List BN) (π:List (Nat×Bool)):List BN:=π.map fun p=>if p.2 then(es.getD p.1 .dead).back π else .dead
def aRT :∀{π:List (Nat×Bool)},(π.filterMap fun p=>if p.2 then some p.1 else none).Nodup→∀(i j k:Nat),π[i]? =some (k,true)→π[j]? =some (k,true)→i=j
 | [],_,i,j,k,h,_=>Hr
 |p::π,f,i,j,k,hi,q=>by
  have m:∀(n:Nat),π[n]? =some (k,true)→k∈π.filterMap fun p=>if p.2 then some p.1 else none:=fun n h=>by
   rw[Ti];exact⟨_,Vj h,rfl⟩
  have s:(π.filterMap fun p=>if p.2 then some p.1 else none).Nodup:=by
   rw[Qs]at f;split at f
   ·exact f
   exact(NM.1 f).2
  match i,j with
  |0,0=>rfl
  |0,j+1=>
   simp at hi q;subst hi;simp only[Qs,Jj]at f;exact absurd (m j q) (NM.1 f).1
  |i+1,0=>
   simp at hi q;subst q;simp only[Qs,Jj]at f;exact absurd (m i hi) (NM.1 f).1
  |i+1,j+1=>rw[aRT s i j k Fp V3]
def Eo.back {ok:Nat→Prop} {w:World} {H:List Bj} {h:Bj} {e:BN} (π:List (Nat×Bool)) (J:e.backOk π=true) (f:Eo ok w H h e):Eo ok w (π.map fun p=>H.getD p.1 ⟨undef,0⟩) h (e.back π):=by
 cases e with
 |dead=>trivial
 |box cs=>
  obtain⟨b,vs,T,j,m,n,q⟩:=f;refine⟨b,vs,T,j,m,Nk,fun i hi=>?_⟩;rw[D8]at hi;rw[Ro _ _ _ hi];refine⟨?_,(q i hi).2.uX π⟩;simp only[BN.backOk,EZ]at J;exact J _ MX
 |arr e s es=>
  obtain⟨j,m,xs,n,q,L⟩:=f;refine⟨j,m,xs,n,q,fun i hi=>⟨(L i hi).1,?_⟩⟩;have u:=(L i hi).2;have z:(flat es).getD i .junk∈flat es:=MX
  unfold flat at z ⊢;simp only[Vo,GV]at z;obtain⟨x,_,y,_,M⟩:=z;unfold flat at u;rw[←M]at u ⊢;cases u with |d _ _ h=>exact .d _ _ h
 |map es=>exact f
 |dL es=>exact f
 |iter es vis=>exact f
 |loop tm slots rc st O=>
  obtain⟨l,fn,D,j,m,n,q⟩:=f;refine⟨l,fn,D,j,m,Nk,fun t I=>?_⟩;rw[D8]at I;rw[Ro _ _ _ I];exact(q t I).back π
def adM {π:List (Nat×Bool)} {e:BN}:(e.back π).live=e.live:=by cases e<;>rfl
def DI.norm {C:EW} {ok:Nat→Prop} {H:List Bj} {es:List BN} {w:World} (I:DI C ok H es w) (π:List (Nat×Bool)) (M:UF C.H0.length es π=true):
 DI C ok (π.map fun p=>H.getD p.1 ⟨undef,0⟩) (Qu es π) w:=by
 unfold UF at M;simp only[DL,H6,Rk,EZ]at M;obtain⟨⟨⟨hlt,hnd⟩,Y⟩,hbk⟩:=M
 have n:∀(j:Nat) (h:Bj),(π.map fun p=>H.getD p.1 ⟨undef,0⟩)[j]? =some h→∃p,π[j]? =some p∧p.1<es.length∧H[p.1]? =some h:=by
  intro j h f;rw[JZ]at f;cases m:π[j]? with
  |none=>rw[m]at f;simp at f
  |some p=>
   rw[m]at f;have q:p.1<es.length:=hlt p (Vj m);refine⟨p,rfl,q,?_⟩;have hkH:p.1<H.length:=by rw[I.hlen];exact q
   simp[List.getD,hkH]at f ⊢;exact f
 have s:∀(j:Nat) (p:Nat×Bool) (e:BN),(Qu es π)[j]? =some e→π[j]? =some p→p.1<es.length→(p.2=false∧e=.dead)∨(p.2=true∧∃J,es[p.1]? =some J∧e=J.back π∧p∈π):=by
  intro j p e f m q;unfold Qu at f;rw[JZ,m]at f;cases U:p.2 with
  |false=>simp[U]at f;exact .inl ⟨rfl,f.symm⟩
  |true=>
   simp[U,List.getD,q]at f;exact .inr ⟨rfl,es[p.1],by simp[q],f.symm,Vj m⟩
 refine⟨I.fr,I.xU,I.xW,I.kW,?_,by simp[Qu],?_,?_,?_⟩
 ·intro k v hv;have q:k<C.H0.length:=(FN.1 hv).1;have Z:((π.take C.H0.length).map (·.1))[k]? =some k:=by rw[Y];simp[q]
  rw[JZ,Ol q]at Z;have h2:=I.names k v hv;cases m:π[k]? with
  |none=>rw[m]at Z;simp at Z
  |some p=>
   rw[m]at Z;have hpk:p.1=k:=oM
   rw[JZ,m];simp[List.getD,hpk,h2]
 ·intro j e h f hh;obtain⟨p,m,q,hH⟩:=n j h hh;rcases s j p e f m q with⟨_,rfl⟩|⟨_,J,u,rfl,z⟩
  ·trivial
  refine(I.ent p.1 J h u hH).back π ?_;have :=hbk p z;simpa[List.getD,u]using this
 ·intro j e h b f O hh U;obtain⟨p,m,q,hH⟩:=n j h hh;rcases s j p e f m q with⟨_,rfl⟩|⟨_,J,u,rfl,z⟩
  ·cases O
  rw[adM]at O;exact I.blk p.1 J h b u O hH U
 intro j j' e e' h h' b f hj' O S hh hh' U hb';obtain⟨p,m,q,hH⟩:=n j h hh;obtain⟨p',hp',hk',hH'⟩:=n j' h' hh';rcases s j p e f m q with⟨_,rfl⟩|⟨hpt,J,u,rfl,z⟩
 ·cases O
 rcases s j' p' e' hj' hp' hk' with⟨_,rfl⟩|⟨L,e0',aFQ,rfl,hmem'⟩
 ·cases S
 rw[adM]at O S;have hkk:=I.DU p.1 p'.1 J e0' h h' b u aFQ O S hH hH' U hb';obtain⟨k,bb⟩:=p;obtain⟨k',bb'⟩:=p';simp only at hkk hpt L;subst hkk;subst hpt;subst L;exact aRT hnd j j' k m hp'
def LU (π:List (Nat×Bool)):List Bool→List Ag→List Ag
 |_,[]=>[]
 |true::m,x::xs=>x.back π::LU π m xs
 |false::m,_::xs=>.junk::LU π m xs
 | [],_::xs=>.junk::LU π [] xs
def aDm (π:List (Nat×Bool)):∀(m:List Bool) (l:List Ag),(LU π m l).length=l.length
 |_,[]=>by unfold LU;rfl
 |true::m,x::xs=>by simp[LU,aDm π m xs]
 |false::m,x::xs=>by simp[LU,aDm π m xs]
 | [],x::xs=>by simp[LU,aDm π [] xs]
def aAl (π:List (Nat×Bool)):∀(m:List Bool) (l:List Ag) (t:Nat),(LU π m l).getD t .junk=(l.getD t .junk).back π∨(LU π m l).getD t .junk=.junk
 |_,[],t=>by unfold LU;right;simp
 |true::m,x::xs,0=>by left;simp[LU]
 |false::m,x::xs,0=>by right;simp[LU]
 | [],x::xs,0=>by right;simp[LU]
 |true::m,x::xs,t+1=>by simpa[LU]using aAl π m xs t
 |false::m,x::xs,t+1=>by simpa[LU]using aAl π m xs t
 | [],x::xs,t+1=>by simpa[LU]using aAl π [] xs t
def aC9 (σ S:BI):Prop:=∃(m:List Bool) (π:List (Nat×Bool)),UF σ.base σ.ents π=true∧S=⟨LU π m σ.slots,Qu σ.ents π,σ.base⟩
def Holds.aFR {C:EW} {ok:Nat→Prop} {H:List Bj} {σ S:BI} {a:Act} {w:World} (h:Holds C ok H σ a w) (j:aC9 σ S):∃H',Holds C ok H' S a w:=by
 obtain⟨m,π,f,rfl⟩:=j;refine⟨π.map fun p=>H.getD p.1 ⟨undef,0⟩,h.mem.norm π (h.base▸f),by simp[aDm,h.size],h.defers,h.base,fun t n=>?_⟩;rcases aAl π m σ.slots t with e|e
 ·simp only[e];exact(h.get (.tmp t)).back π
 simp only[e];exact .junk _
def Bv (σ S:BI):Prop:=∀(C:EW) (ok:Nat→Prop) (H:List Bj) (a:Act) (w:World),Holds C ok H σ a w→∃ok' H',Holds C ok' H' S a w
def aC9.sub {σ S:BI} (h:aC9 σ S):Bv σ S:=fun _ ok _ _ _ f=>let⟨H',h'⟩:=f.aFR h;⟨ok,H',h'⟩
def alV {σ S:BI} (f:BI) (h:∀C ok H a w,Holds C ok H σ a w→∃ok',Holds C ok' H f a w) (k:Bv f S):Bv σ S:=fun C _ H a w j=>let⟨ok',h'⟩:=h C _ H a w j;k C ok' H a w h'
section
variable {P : Program} {ops : Array Oper} {Q : Exit → Act → World → Prop}
def toCome (f:Array Bool):Nat:=(f.toList.filter (!·)).length
def toCome_set {f:Array Bool} {i:Nat} (hi:i<f.size) (h:f.getD i true=false):toCome (f.setIfInBounds i true)+1=toCome f:=by
 unfold toCome;have j:f.toList[i]' Fp=false:=by simpa[Array.getD,hi]using h
 have e:f.toList=f.toList.take i++false::f.toList.drop (i+1):=by
  rw[←j,List.getElem_cons_drop,dG]
 have m:(f.setIfInBounds i true).toList=f.toList.take i++true::f.toList.drop (i+1):=by
  rw[aPx,aKJ,D9 Fp]
 rw[m]
 conv=>rhs;rw[e]
 simp[PZ];omega
def written (ops:Array Oper):List Tmp:=ops.toList.filterMap (·.dst)
def Vf (ops:Array Oper):Bool:=(List.range ops.size).all fun i=>(List.range ops.size).all fun j=>i==j||match(ops[i]?).bind (·.dst),(ops[j]?).bind (·.dst)with
 |some d,some f=>d != f
 |_,_=>true
def UC (ops:Array Oper) (n:Nat):Bool:=(written ops).all fun d=>decide (d<n)
def aOE (h:Vf ops=true):∀(i j:Nat) (o f:Oper) (d:Tmp),ops[i]? =some o→ops[j]? =some f→o.dst=some d→f.dst=some d→i=j:=by
 intro i j o f d m n q s;unfold Vf at h;rw[EZ]at h;have hi:i<ops.size:=(Fv.1 m).1;have u:j<ops.size:=(Fv.1 n).1;have :=h i Fp;rw[EZ]at this;have :=this j RF;rw[m,n]at this;simp[q,s]at this;exact this
def aJK {i:Nat} {o:Oper} {d:Tmp} (h:ops[i]? =some o) (hd:o.dst=some d):d∈written ops:=by
 unfold written;rw[Ti]
 exact⟨o,by
  have⟨hi,f⟩:=Fv.1 h
  rw[←f];exact Array.getElem_mem_toList hi,hd⟩
def aN7 {a:Act} {d:Tmp} {v:Value} (h:d<a.tmps.size):(a.put (some d) v).tmps.getD d undef=v:=by
 simp[Act.put,Array.getD,h]
def aKq {a:Act} {d t:Tmp} {v:Value} (h:d≠t):(a.put (some d) v).tmps.getD t undef=a.tmps.getD t undef:=by
 simp[Act.put,Gx,KW h]
def size_put {a:Act} {d:Option Tmp} {v:Value}:(a.put d v).tmps.size=a.tmps.size:=by cases d<;>simp[Act.put]
def aoH {a:Act} {d:Option Tmp} {v:Value}:(a.put d v).defers=a.defers:=by cases d<;>rfl
end
def X3 (ops:Array Oper) (σ:BI) (g:Option (Nat×Bool)):Prop:=g=none∨
 ∃j f d b,g=some (j,f)∧(ops[j]?).bind (·.dst)=some d∧σ.slots.getD d .junk=.d (.lit (.bool b))∧b=f
def X8 (ops:Array Oper) (σ:BI) (g:Option (Nat×Bool)):Prop:=
 ∃j f d v,g=some (j,f)∧(ops[j]?).bind (·.dst)=some d∧σ.slots.getD d .junk=.d (.lit v)∧(v=.bool (!f)∨v=undef)
def anh {ops:Array Oper} {σ:BI} {g:Option (Nat×Bool)} (j:Nat) (f:Bool) (d:Nat) (b:Bool) (h:g=some (j,f)) (hd:(ops[j]?).bind (·.dst)=some d) (m:σ.slots.getD d .junk=.d (.lit (.bool b))) (n:b= !f):X8 ops σ g:=⟨j,f,d,_,h,hd,m,.inl (by rw[n])⟩
def apM {ops:Array Oper} {σ:BI} {g:Option (Nat×Bool)} (j:Nat) (f:Bool) (d:Nat) (h:g=some (j,f)) (hd:(ops[j]?).bind (·.dst)=some d) (m:σ.slots.getD d .junk=.d (.lit undef)):X8 ops σ g:=⟨j,f,d,_,h,hd,m,.inr rfl⟩
def R.bool {ok:Nat→Prop} {w:World} {H:List Bj} {u v:Value} (h:R ok w H (.d (.lit u)) v):v=u:=by
 cases h with |d _ _ h=>cases h;rfl
def agO {C:EW} {ok:Nat→Prop} {H:List Bj} {σ:BI} {a:Act} {w:World} (h:Holds C ok H σ a w) {ops:Array Oper} {j d:Nat} {v:Value}
 (n:(ops[j]?).bind (·.dst)=some d) (f:σ.slots.getD d .junk=.d (.lit v)):yielded ops a.tmps j=(match v with | .bool b=>some b|_=>none):=by
 have hd:d<σ.slots.length:=by
  apply Xq;intro q;rw[jv q]at f;cases f
 have m:=(f▸h.slot d hd).bool
 have s:a.tmps[d]? =some v:=by
  have :d<a.tmps.size:=by rw[h.size];exact hd
  simp[Array.getD,this]at m;simp[this,m]
 unfold yielded;rw[n];simp only[Aa,s];cases v<;>rfl
def ajS {C:EW} {ok:Nat→Prop} {H:List Bj} {σ:BI} {a:Act} {w:World} (h:Holds C ok H σ a w) {ops:Array Oper} {j d:Nat} {b:Bool}
 (n:(ops[j]?).bind (·.dst)=some d) (f:σ.slots.getD d .junk=.d (.lit (.bool b))):yielded ops a.tmps j=some b:=by
 have hd:d<σ.slots.length:=by
  apply Xq;intro q;rw[jv q]at f;cases f
 have m:=(f▸h.slot d hd).bool
 have s:a.tmps[d]? =some (.bool b):=by
  have :d<a.tmps.size:=by rw[h.size];exact hd
  simp[Array.getD,this]at m;simp[this,m]
 unfold yielded;rw[n];simp only[Aa,s]
def Pv {C:EW} {ok:Nat→Prop} {H:List Bj} {σ:BI} {a:Act} {w:World} (h:Holds C ok H σ a w) {ops:Array Oper} {o:Oper} (f:X3 ops σ o.guard):Region.wanted o (yielded ops a.tmps)=true:=by
 unfold Region.wanted;rcases f with f|⟨j,m,d,b,f,n,q,rfl⟩
 ·rw[f]
 rw[f];show(yielded ops a.tmps j==some b)=true;rw[ajS h n q];simp
def aNK {C:EW} {ok:Nat→Prop} {H:List Bj} {σ:BI} {a:Act} {w:World} (h:Holds C ok H σ a w) {ops:Array Oper} {o:Oper} (m:X8 ops σ o.guard):Region.wanted o (yielded ops a.tmps)=false:=by
 unfold Region.wanted;obtain⟨j,f,d,v,m,n,q,s⟩:=m;rw[m];show(yielded ops a.tmps j==some f)=false;rw[agO h n q];rcases s with rfl|rfl
 ·simp
 rfl
def needs (σ:BI):List (Operand×Ag)→Prop
 | []=>True
 |n::ns=>σ.get n.1=n.2∧needs σ ns
def PG {σ:BI}:∀{ns:List (Operand×Ag)},needs σ ns→∀n∈ns,σ.get n.1=n.2
 | [],_,n,h=>Hr
 |m::ns,f,n,h=>by
  rcases F9.1 h with rfl|h
  ·exact f.1
  exact PG f.2 n h
def tmpsOf (o:Oper):List Tmp:=o.op.operands.toList.filterMap fun | .tmp t=>some t|_=>none
def Nc (ns:List (Operand×Ag)):List Tmp:=ns.filterMap fun n=>match n.1 with | .tmp t=>some t|_=>none
def Qq (P:Program) (ops:Array Oper) (σ:BI) (x:Ag) (E:List BN) (bar:Bool) (o:Oper):Prop:=
 ((∃ns,Bl P o ns σ.ents x E∧needs σ ns∧(Nc ns).all (tmpsOf o).contains=true∧X3 ops σ o.guard)∨(x=.d (.lit undef)∧E=σ.ents∧X8 ops σ o.guard))∧(bar=false→E=σ.ents)
def abL {P:Program} {ops:Array Oper} {σ:BI} {x:Ag} {o:Oper} {ns:List (Operand×Ag)} (h:Bl P o ns σ.ents x σ.ents) (f:needs σ ns) (j:X3 ops σ o.guard) (m:(Nc ns).all (tmpsOf o).contains=true):Qq P ops σ x σ.ents false o:=
 ⟨.inl ⟨ns,h,f,m,j⟩,fun _=>rfl⟩
def J6 (ro:Option Nat):Fence:={ fn:=fun _=>True,depth:=none,alive:=false,round:=ro }
def aDa {ro:Option Nat} {n:Nat} {P:Program} {f:FuncId} {args:Array Value} {w:World} {R:Ending→World→Prop}:CallsIn (J6 ro) n P f args w R↔Calls P f args w R:=
 callsIn_wide (n:=n)
def apF {ro:Option Nat} {n:Nat} {P:Program} {f:String} {args:Array Value} {w:World} {R:Value→World→Prop} (h:Rows P f args w R):RowsIn (J6 ro) n P f args w R:=
 fun c cs _=>let⟨v,w',r,s⟩:=h c cs;⟨v,w',r,(stepsIn_wide (P:=P)).2 s⟩
def Bl.aCl {P:Program} {o:Oper} {ns:List (Operand×Ag)} {es es':List BN} {x:Ag} (h:Bl P o ns es x es') {C:EW} {ok:Nat→Prop} {H:List Bj} {a:Act} {w:World} (m:DI C ok H es w) (q:∀n∈ns,R ok w H n.2 (a.eval n.1)):∀c,o.op≠ .defer c:=by
 intro c s;have f:=h C ok H a w (fun _ _ _=>False) m q;unfold Oper.wp execOp at f;rw[s]at f;simp only[FB]at f;cases j:(resolve a.eval c o.type).run P w with
 |ok d w'=>
  rw[j]at f;simp only[Result.andThen]at f;obtain⟨v,_,_,u,_⟩:=f;have :=BR (fun a=>a.defers.length) u;cases z:o.dst<;>simp[Act.put,z]at this
 |halt x w'=>
  rw[j]at f;cases x<;>exact f
def Bl.inR {P:Program} {o:Oper} {ns:List (Operand×Ag)} {es es':List BN} {x:Ag} (h:Bl P o ns es x es') (ro:Option Nat) (C:EW) (ok:Nat→Prop) (H:List Bj) (a:Act) (w:World) (Q:Exit→Act→World→Prop)
 (j:DI C ok H es w) (m:∀n∈ns,R ok w H n.2 (a.eval n.1)):
 o.wpIn (J6 ro) 0 P a w (fun a' w'=>∃v ok' H',a'=a.put o.dst v∧EU ok w ok' w'∧Names H H'∧DI C ok' H' es' w'∧R ok' w' H' x v) Q:=by
 have f:=h C ok H a w Q j m;refine⟨fun _ _=>trivial,?_⟩;rw[eB _ _ _ (h.aCl j m)];unfold Oper.wp at f;generalize(execOp a.eval o).run P w=r at f;cases r with
 |ok n w'=>
  cases n<;>first
   |exact f
   |exact f.elim
   |exact⟨fun h=>He,aDa.2 f⟩
   |exact⟨fun h=>He,apF f⟩
 |halt x w'=>cases x<;>exact f
inductive Chain (P:Program) (ops:Array Oper):List Oper→BI→BI→Prop
 |nil (σ:BI):Chain P ops [] σ σ
 |op {o:Oper} {rest:List Oper} {σ σ':BI} {ns:List (Operand×Ag)} {x:Ag} (d:Option Tmp) (h:Bl P o ns σ.ents x σ.ents) (hn:needs σ ns) (hg:X3 ops σ o.guard) (hd:o.dst=d)
  (k:Chain P ops rest (σ.sF d x) σ'):Chain P ops (o::rest) σ σ'
 |oe {o:Oper} {rest:List Oper} {σ σ':BI} {ns:List (Operand×Ag)} {x:Ag} {es':List BN} (d:Option Tmp) (E:List BN) (h:Bl P o ns σ.ents x es') (he:es'=E) (hn:needs σ ns) (hg:X3 ops σ o.guard) (hd:o.dst=d)
  (k:Chain P ops rest (σ.put d x E) σ'):Chain P ops (o::rest) σ σ'
 |skip {o:Oper} {rest:List Oper} {σ σ':BI} (d:Option Tmp) (hg:X8 ops σ o.guard) (hd:o.dst=d) (k:Chain P ops rest (σ.sF d (.d (.lit undef))) σ'):Chain P ops (o::rest) σ σ'
 |any {o:Oper} {rest:List Oper} {σ σ':BI} {x:Ag} (d:Option Tmp) (h:Qq P ops σ x σ.ents false o) (hd:o.dst=d) (k:Chain P ops rest (σ.sF d x) σ'):Chain P ops (o::rest) σ σ'
 |afD {o:Oper} {rest:List Oper} {σ σ':BI} {x:Ag} {E:List BN} {bar:Bool} (d:Option Tmp) (h:Qq P ops σ x E bar o) (hd:o.dst=d) (k:Chain P ops rest (σ.put d x E) σ'):Chain P ops (o::rest) σ σ'
 |conv {rest:List Oper} {σ σ':BI} (σ2:BI) (h:∀C ok H a w,Holds C ok H σ a w→∃ok',Holds C ok' H σ2 a w) (k:Chain P ops rest σ2 σ'):Chain P ops rest σ σ'
def Chain.sound {P:Program} {ops:Array Oper} {l:List Oper} {σ σ':BI} (h:Chain P ops l σ σ') {ro:Option Nat} {C:EW} {H0:List Bj} {Q:Exit→Act→World→Prop}:
 ∀{ok:Nat→Prop} {H:List Bj} {a:Act} {w:World},Holds C ok H σ a w→Names H0 H→(∀ok' H' a' w',Holds C ok' H' σ' a' w'→Names H0 H'→Q .normal a' w')→wpListIn (J6 ro) 0 P ops Q l a w:=by
 induction h with
 |nil σ=>intro ok H a w f J q;exact q ok H a w f J
 | @op o rest σ σ' ns x d L J z hd k I=>
   intro ok H a w f j q;subst hd;unfold wpListIn;rw[D9 (Pv f z)];refine Qa ?_ (L.inR ro C ok H a w Q f.mem (fun n s=>PG J n s▸f.get n.1));rintro a' w' ⟨v,ok',H',rfl,u,m,M,O⟩;exact I (f.put o.dst u m M O) (j.trans m) q
 | @oe o rest σ σ' ns x es' d E L Y J z hd k I=>
   intro ok H a w f j q;subst hd;subst Y;unfold wpListIn;rw[D9 (Pv f z)];refine Qa ?_ (L.inR ro C ok H a w Q f.mem (fun n s=>PG J n s▸f.get n.1));rintro a' w' ⟨v,ok',H',rfl,u,m,M,O⟩;exact I (f.put o.dst u m M O) (j.trans m) q
 | @skip o rest σ σ' d z hd k I=>
   intro ok H a w f j q;subst hd;unfold wpListIn;rw[DN mD];exact⟨fun _ _=>trivial,I (f.put o.dst (.refl _ _) (.refl _) f.mem (.d _ _ (.lit _))) j q⟩
 | @any o rest σ σ' x d S hd k I=>
   intro ok H a w f j q;subst hd;unfold wpListIn;rcases S.1 with⟨ns,L,J,_,z⟩|⟨rfl,_,z⟩
   ·rw[D9 (Pv f z)];refine Qa ?_ (L.inR ro C ok H a w Q f.mem (fun n s=>PG J n s▸f.get n.1));rintro a' w' ⟨v,ok',H',rfl,u,m,M,O⟩;exact I (f.put o.dst u m M O) (j.trans m) q
   rw[DN mD];exact⟨fun _ _=>trivial,I (f.put o.dst (.refl _ _) (.refl _) f.mem (.d _ _ (.lit _))) j q⟩
 | @afD o rest σ σ' x E bar d S hd k I=>
   intro ok H a w f j q;subst hd;unfold wpListIn;rcases S.1 with⟨ns,L,J,_,z⟩|⟨rfl,rfl,z⟩
   ·rw[D9 (Pv f z)];refine Qa ?_ (L.inR ro C ok H a w Q f.mem (fun n s=>PG J n s▸f.get n.1));rintro a' w' ⟨v,ok',H',rfl,u,m,M,O⟩;exact I (f.put o.dst u m M O) (j.trans m) q
   rw[DN mD];exact⟨fun _ _=>trivial,I (f.put o.dst (.refl _ _) (.refl _) f.mem (.d _ _ (.lit _))) j q⟩
 |conv σ2 Z k I=>
  intro ok H a w f j q;obtain⟨ok',U⟩:=Z C ok H a w f;exact I U j q
def PE :Code→Bool
 | .seq a b=>PE a&&PE b
 | .cond _ a b=>PE a&&PE b
 | .block _ a=>PE a
 | .loop a=>PE a
 | .scope a=>PE a
 | .rangeFunc .. =>false
 |_=>true
def qJ (ro:Option Nat) (c:Code):Prop:=ro=none∨PE c=true
def qJ.two {ro:Option Nat} {c x y:Code} (h:qJ ro c) (e:PE c=(PE x&&PE y)):qJ ro x∧qJ ro y:=by
 rcases h with h|h
 ·exact⟨.inl h,.inl h⟩
 rw[e,DL]at h;exact⟨.inr h.1,.inr h.2⟩
def amR (P:Program) (c:Code) (σ:BI) (Q:Exit→BI→Prop):Prop:=
 ∀(ro:Option Nat),qJ ro c→∀(C:EW) (ok:Nat→Prop) (H:List Bj) (a:Act) (w:World),Holds C ok H σ a w→c.wpIn (J6 ro) 0 P (fun e a' w'=>∃ok' H' σ',Holds C ok' H' σ' a' w'∧Q e σ') a w
structure AB (P:Program) (c:Code) (σ:BI) (Q:Exit→BI→Prop):Prop where
 run:amR P c σ Q
section
variable {P : Program} {σ σ' : BI} {Q : Exit → BI → Prop}
def AB.mono {c:Code} {Q':Exit→BI→Prop} (h:AB P c σ Q) (f:∀e σ,Q e σ→Q' e σ):AB P c σ Q':=
 ⟨fun ro j C ok H a w m=>UQ (h.run ro j C ok H a w m) fun _ _ _ ⟨ok',H',σ',n,q⟩=>⟨ok',H',σ',n,f _ _ q⟩⟩
def AB.region {id:Nat} {ops:Array Oper} (h:Chain P ops ops.toList σ σ') (f:Q .normal σ'):AB P (.region id ops false) σ Q:=⟨fun ro _ C ok H a w j=>
 aK9 (h.sound j (.refl H) fun ok' H' a' w' m _=>⟨ok',H',σ',m,f⟩)⟩
def AB.skip (h:Q .normal σ):AB P .skip σ Q:=⟨fun _ _ _ ok H a w f=>wpIn_skip ⟨ok,H,σ,f,h⟩⟩
def AB.label {l:Nat} (h:Q .normal σ):AB P (.label l) σ Q:=⟨fun _ _ _ ok H a w f=>wpIn_label ⟨ok,H,σ,f,h⟩⟩
def AB.exit {i:Nat} (h:Q (.exit i) σ):AB P (.exit i) σ Q:=⟨fun _ _ _ ok H a w f=>wpIn_exit ⟨ok,H,σ,f,h⟩⟩
def AB.ret (h:Q .ret σ):AB P .ret σ Q:=⟨fun _ _ _ ok H a w f=>wpIn_ret ⟨ok,H,σ,f,h⟩⟩
def L6 (K:BI→Prop) (Q:Exit→BI→Prop):Exit→BI→Prop
 | .normal,σ=>K σ
 |e,σ=>Q e σ
def AB.seq {x y:Code} (K:BI→Prop) (m:AB P x σ (L6 K Q)) (n:∀σ',K σ'→AB P y σ' Q):AB P (.seq x y) σ Q:=⟨fun ro f C ok H a w q=>
 wpIn_seq (UQ (m.run ro (f.two rfl).1 C ok H a w q) (by
  rintro e a' w' ⟨ok',H',σ',h,j⟩;cases e with
  |normal=>exact(n σ' j).run ro (f.two rfl).2 C ok' H' a' w' h
  |_=>exact⟨ok',H',σ',h,j⟩))⟩
def AB.seq1 {x y:Code} (f:BI) (h:AB P x σ (L6 (fun σ'=>σ'=f) Q)) (j:AB P y f Q):AB P (.seq x y) σ Q:=AB.seq _ h (fun _ e=>e▸j)
def AB.cond {c:Operand} {x y:Code} (b:Bool) (m:σ.get c=.d (.lit (.bool b))) (n:b=true→AB P x σ Q) (q:b=false→AB P y σ Q):AB P (.cond c x y) σ Q:=by
 refine⟨fun ro j C ok H a w f=>?_⟩;have e:=(m▸f.get c).bool;exact wpIn_cond_split e (fun h=>(n h).run ro (j.two rfl).1 C ok H a w f) (fun h=>(q h).run ro (j.two rfl).2 C ok H a w f)
def acY (i:Nat) (Q:Exit→BI→Prop):Exit→BI→Prop
 | .exit j,σ=>if j=i then Q .normal σ else Q (.exit j) σ
 |e,σ=>Q e σ
def AB.block {i:Nat} {c:Code} (h:AB P c σ (acY i Q)):AB P (.block i c) σ Q:=⟨fun ro q C ok H a w s=>
 wpIn_block (UQ (h.run ro q C ok H a w s) (by
  rintro e a' w' ⟨ok',H',σ',m,f⟩;cases e with
  |exit j=>
   show if j=i then _ else _
   simp only[acY]at f;split<;>rename_i n
   ·rw[D9 n]at f;exact⟨ok',H',σ',m,f⟩
   rw[DN n]at f;exact⟨ok',H',σ',m,f⟩
  |_=>exact⟨ok',H',σ',m,f⟩))⟩
def ao3 {ro:Option Nat} {P:Program} {Q:Exit→Act→World→Prop} {c:Code} (I:Nat→Act→World→Prop)
 (round:∀n a w,I n a w→c.wpIn (J6 ro) 0 P (Exit.then (fun a' w'=>∃m,m<n∧I m a' w') Q) a w):∀n a w,I n a w→(Code.loop c).wpIn (J6 ro) 0 P Q a w:=by
 intro n a w O b k cs s u z
 have key:∀n a w,I n a w→∃e a' w',Q e a' w'∧ArrivesIn (Machine.fenced P (J6 ro)) P (lone (b.atR a (.code c::.inLoop c::k)) cs w) b k cs e a' w':=by
  intro n
  induction n using Nat.strongRecOn with
  |_ n S=>
   intro a w U;obtain⟨e,j,q,f,harr⟩:=round n a w U b (.inLoop c::k) cs s u z;cases e with
   |normal=>
    obtain⟨m,J,L⟩:=f;obtain⟨Y,Z,w₂,M,h⟩:=S m J j q L;exact⟨Y,Z,w₂,M,.of_steps (StepsIn.trans harr (.one (fenced_calm u z rfl) stepR_inLoop)) h⟩
   |exit id=>exact⟨_,j,q,f,.pass (x:=.inLoop c) rfl (fun _ _=>.inl BP) harr⟩
   |goto l=>exact⟨_,j,q,f,.pass (x:=.inLoop c) rfl (fun _ _=>.inl BP) harr⟩
   |ret=>exact⟨_,j,q,f,.pass (x:=.inLoop c) rfl (fun _ _=>.inl BP) harr⟩
   |panic ch=>exact⟨_,j,q,f,.pass (x:=.inLoop c) rfl (fun _ _=>.inl BP) harr⟩
   |outgrown=>exact⟨_,j,q,f,.pass (x:=.inLoop c) rfl (fun _ _=>.inl BP) harr⟩
 obtain⟨e,a',w',f,harr⟩:=key n a w O;exact⟨e,a',w',f,.of_steps (.one (fenced_calm u z rfl) stepR_loop) harr⟩
def AB.loop {c:Code} (I:Nat→BI→Prop) (n:Nat) (h:I n σ) (round:∀n σ,I n σ→AB P c σ (L6 (fun σ'=>∃m,m<n∧I m σ') Q)):AB P (.loop c) σ Q:=by
 refine⟨fun ro u C ok H a w f=>?_⟩;refine ao3 (fun n a w=>∃ok H σ,Holds C ok H σ a w∧I n σ) ?_ n a w ⟨ok,H,σ,f,h⟩;rintro n a w ⟨ok,H,σ,f,z⟩;refine UQ ((round n σ z).run ro u C ok H a w f) ?_;rintro e a' w' ⟨ok',H',σ',q,s⟩;cases e with
 |normal=>obtain⟨m,J,j⟩:=s;exact⟨m,J,ok',H',σ',q,j⟩
 |_=>exact⟨ok',H',σ',q,s⟩
end
def CQ {P:Program} {σ S:BI} {Q:Exit→BI→Prop} {c:Code} (f:Bv σ S) (h:AB P c S Q):AB P c σ Q:=⟨fun ro j C ok H a w m=>by
 obtain⟨ok',H',h'⟩:=f C ok H a w m
 exact h.run ro j C ok' H' a w h'⟩
section
variable {P : Program} {ops : Array Oper} {Q : Exit → Act → World → Prop}
def aEO {F:Fence} {n:Nat} (I:Array Bool→Act→World→Prop) (f:∀l a w,I l a w→l.size=ops.size)
 (q:∀l a w,I l a w→∀i,i∈Region.ready .any ops l→wpOpIn F n P ops Q i (fun a' w'=>I (l.setIfInBounds i true) a' w') a w)
 (m:∀l a w,I l a w→Region.ready .any ops l=[]→Q .normal a w):
 ∀(Ap:Nat) l a w,toCome l≤Ap→I l a w→wpAnyIn F n P .any ops Q Ap l a w:=by
 intro Ap
 induction Ap with
 |zero=>
  intro l a w J u
  have L:Region.ready .any ops l=[]:=by
   unfold Region.ready;rw[aCt];intro i hi;have s:i<l.size:=by rw[f l a w u];simpa using hi
   have M:l.toList.filter (!·)=[]:=H9 (by unfold toCome at J;omega);rw[aCt]at M;have :=M (l[i]) BP;have z:l[i]=true:=aIB
   simp[Array.getD,s,z]
  exact⟨L,m l a w u L⟩
 |succ Ap O=>
  intro l a w J u;refine⟨m l a w u,fun i hi=>?_⟩;have j:=hi;unfold Region.ready at j;rw[Hf]at j;have s:i<l.size:=by rw[f l a w u];simpa using j.1
  have S:l.getD i true=false:=by
   have :=j.2;simp only[DL,RY]at this;exact this.1
  have U:=toCome_set s S;exact wpOpIn_mono (fun a' w' h=>O _ a' w' AA h) (q l a w u i hi)
end
def GK (o:Oper) (j:Nat):Bool:=o.after.toList.any fun e=>decide (e.on=j)&&Region.binds .any e
def Wu (ops:Array Oper):Bool:=(List.range ops.size).all fun i=>match ops[i]? with
 |some o=>((List.range ops.size).all fun j=>match(ops[j]?).bind (·.dst)with
  |some d=> !(tmpsOf o).contains d||GK o j||(match ops[j]? with |some f=>GK f i|none=>false)
  |none=>true)&&(match o.guard with |some (j,_)=>GK o j|none=>true)
 |none=>true
inductive FH (P:Program) (ops:Array Oper):List Oper→BI→List Ag→List (List BN)→List Bool→BI→Prop
 |nil (σ:BI):FH P ops [] σ [] [] [] σ
 |op {o:Oper} {rest:List Oper} {σ σ':BI} {ns:List (Operand×Ag)} {x:Ag} {rs:List Ag} {ess:List (List BN)} {bs:List Bool} (d:Option Tmp) (h:Bl P o ns σ.ents x σ.ents) (hn:needs σ ns)
  (hg:X3 ops σ o.guard) (hd:o.dst=d) (ht:(Nc ns).all (tmpsOf o).contains=true) (k:FH P ops rest (σ.sF d x) rs ess bs σ'):FH P ops (o::rest) σ (x::rs) (σ.ents::ess) (false::bs) σ'
 |oe {o:Oper} {rest:List Oper} {σ σ':BI} {ns:List (Operand×Ag)} {x:Ag} {es':List BN} {rs:List Ag} {ess:List (List BN)} {bs:List Bool} (d:Option Tmp) (E:List BN) (h:Bl P o ns σ.ents x es') (he:es'=E) (hn:needs σ ns)
  (hg:X3 ops σ o.guard) (hd:o.dst=d) (ht:(Nc ns).all (tmpsOf o).contains=true) (k:FH P ops rest (σ.put d x E) rs ess bs σ'):FH P ops (o::rest) σ (x::rs) (E::ess) (true::bs) σ'
 |any {o:Oper} {rest:List Oper} {σ σ':BI} {x:Ag} {rs:List Ag} {ess:List (List BN)} {bs:List Bool} (d:Option Tmp) (h:Qq P ops σ x σ.ents false o) (hd:o.dst=d) (k:FH P ops rest (σ.sF d x) rs ess bs σ'):FH P ops (o::rest) σ (x::rs) (σ.ents::ess) (false::bs) σ'
 |afD {o:Oper} {rest:List Oper} {σ σ':BI} {x:Ag} {E:List BN} {bar:Bool} {rs:List Ag} {ess:List (List BN)} {bs:List Bool} (d:Option Tmp) (h:Qq P ops σ x E bar o) (hd:o.dst=d) (k:FH P ops rest (σ.put d x E) rs ess bs σ'):FH P ops (o::rest) σ (x::rs) (E::ess) (bar::bs) σ'
 |skip {o:Oper} {rest:List Oper} {σ σ':BI} {rs:List Ag} {ess:List (List BN)} {bs:List Bool} (d:Option Tmp) (hg:X8 ops σ o.guard) (hd:o.dst=d) (k:FH P ops rest (σ.sF d (.d (.lit undef))) rs ess bs σ'):FH P ops (o::rest) σ (.d (.lit undef)::rs) (σ.ents::ess) (false::bs) σ'
section
variable {P : Program} {ops : Array Oper} {es : List BN}
def Ed (ops:Array Oper) (σ0:BI) (r:Nat→Ag) (ev:Nat→List BN):Nat→BI
 |0=>σ0
 |i+1=>match ops[i]? with
  |some o=>(Ed ops σ0 r ev i).put o.dst (r i) (ev i)
  |none=>Ed ops σ0 r ev i
def FH.facts {l:List Oper} {σ σ':BI} {rs:List Ag} {ess:List (List BN)} {bs:List Bool} (h:FH P ops l σ rs ess bs σ') (σ0:BI) (r:Nat→Ag) (ev:Nat→List BN) (bar:Nat→Bool):∀i,(∀k:Nat,l[k]? =ops[i+k]?)→i+l.length=ops.size→σ=Ed ops σ0 r ev i→
 (∀(k:Nat) y,rs[k]? =some y→r (i+k)=y)→(∀(k:Nat) y,ess[k]? =some y→ev (i+k)=y)→(∀(k:Nat) y,bs[k]? =some y→bar (i+k)=y)→
 (∀j (o:Oper),i≤j→ops[j]? =some o→Qq P ops (Ed ops σ0 r ev j) (r j) (ev j) (bar j) o)∧σ'=Ed ops σ0 r ev ops.size:=by
 induction h with
 |nil σ=>
  intro i u s q z _ _;have :i=ops.size:=Pg
  subst this;refine⟨fun j o M ho=>?_,q⟩;have :=(Fv.1 ho).1;omega
 | @op o rest σ σ' ns x rs ess bs d ho hn hg hd ht k S=>
   intro i u s q z I O;subst hd;have J:ops[i]? =some o:=xF
   have L:r i=x:=aCx
   have m:ev i=σ.ents:=aMD
   obtain⟨U,Y⟩:=S (i+1) (fun k=>rV) Tf (by
    rw[BI.YQ];simp only[Ed,J,L,m];rw[←q]) (fun k y n=>qy)
    (fun k y n=>Uy) (fun k y n=>qN)
   refine⟨fun j Z M f=>?_,Y⟩;by_cases e:i=j
   ·subst e;rw[J]at f;obtain rfl:=Cx f;exact⟨.inl ⟨ns,by rw[L,m,←q];exact ho,q▸hn,ht,q▸hg⟩,fun _=>Xl⟩
   exact U j Z AA f
 | @oe o rest σ σ' ns x es' rs ess bs d E ho hE hn hg hd ht k S=>
   intro i u s q z I O;subst hd;subst hE;have J:ops[i]? =some o:=xF
   have L:r i=x:=aCx
   have m:ev i=es':=by simpa using I 0 es' BP
   have hbr:bar i=true:=by simpa using O 0 true BP
   obtain⟨U,Y⟩:=S (i+1) (fun k=>rV) Tf (by
    simp only[Ed,J,L,m];rw[←q]) (fun k y n=>qy)
    (fun k y n=>Uy) (fun k y n=>qN)
   refine⟨fun j Z M f=>?_,Y⟩;by_cases e:i=j
   ·subst e;rw[J]at f;obtain rfl:=Cx f;exact⟨.inl ⟨ns,by rw[L,m,←q];exact ho,q▸hn,ht,q▸hg⟩,fun hf=>by rw[hbr]at hf;cases hf⟩
   exact U j Z AA f
 | @any o rest σ σ' x rs ess bs d hs hd k S=>
   intro i u s q z I O;subst hd;have J:ops[i]? =some o:=xF
   have L:r i=x:=aCx
   have m:ev i=σ.ents:=aMD
   obtain⟨U,Y⟩:=S (i+1) (fun k=>rV) Tf (by
    rw[BI.YQ];simp only[Ed,J,L,m];rw[←q]) (fun k y n=>qy)
    (fun k y n=>Uy) (fun k y n=>qN)
   refine⟨fun j Z M f=>?_,Y⟩;by_cases e:i=j
   ·subst e;rw[J]at f;obtain rfl:=Cx f;refine⟨?_,fun _=>Xl⟩;rw[L,m,←q];exact hs.1
   exact U j Z AA f
 | @afD o rest σ σ' x E br rs ess bs d hs hd k S=>
   intro i u s q z I O;subst hd;have J:ops[i]? =some o:=xF
   have L:r i=x:=aCx
   have m:ev i=E:=by simpa using I 0 E BP
   have hbr:bar i=br:=by simpa using O 0 br BP
   obtain⟨U,Y⟩:=S (i+1) (fun k=>rV) Tf (by
    simp only[Ed,J,L,m];rw[←q]) (fun k y n=>qy)
    (fun k y n=>Uy) (fun k y n=>qN)
   refine⟨fun j Z M f=>?_,Y⟩;by_cases e:i=j
   ·subst e;rw[J]at f;obtain rfl:=Cx f;rw[L,m,hbr,←q];exact hs
   exact U j Z AA f
 | @skip o rest σ σ' rs ess bs d hg hd k S=>
   intro i u s q z I O;subst hd;have J:ops[i]? =some o:=xF
   have L:r i=.d (.lit undef):=by simpa using z 0 (.d (.lit undef)) BP
   have m:ev i=σ.ents:=aMD
   obtain⟨U,Y⟩:=S (i+1) (fun k=>rV) Tf (by
    rw[BI.YQ];simp only[Ed,J,L,m];rw[←q]) (fun k y n=>qy)
    (fun k y n=>Uy) (fun k y n=>qN)
   refine⟨fun j Z M f=>?_,Y⟩;by_cases e:i=j
   ·subst e;rw[J]at f;obtain rfl:=Cx f;exact⟨.inr ⟨L,Xl,q▸hg⟩,fun _=>Xl⟩
   exact U j Z AA f
def SS {σ0:BI} {r:Nat→Ag} {ev:Nat→List BN} {t:Nat}:∀i,(∀j (o:Oper),j<i→ops[j]? =some o→o.dst≠some t)→(Ed ops σ0 r ev i).slots.getD t .junk=σ0.slots.getD t .junk
 |0,_=>rfl
 |i+1,h=>by
  have f:=SS (σ0:=σ0) (r:=r) (ev:=ev) i (fun j o s m=>h j o AA m);simp only[Ed];split
  ·rename_i o m;have n:=h i o AA m;cases hd:o.dst with
   |none=>exact f
   |some d=>
    have q:d≠t:=fun e=>n (by rw[hd,e]);show((Ed ops σ0 r ev i).slots.set d (r i)).getD t .junk=_;rw[←f];simp[List.getD,bZ q]
  exact f
def VE {σ0:BI} {r:Nat→Ag} {ev:Nat→List BN}:∀i,(Ed ops σ0 r ev i).slots.length=σ0.slots.length
 |0=>rfl
 |i+1=>by
  simp only[Ed];split
  ·rename_i o f;cases hd:o.dst with
   |none=>exact VE i
   |some d=>show((Ed ops σ0 r ev i).slots.set d (r i)).length=_;rw[kH];exact VE i
  exact VE i
def aEq {σ0:BI} {r:Nat→Ag} {ev:Nat→List BN}:∀i,(Ed ops σ0 r ev i).base=σ0.base
 |0=>rfl
 |i+1=>by
  simp only[Ed];split
  ·exact aEq i
  exact aEq i
def Ue {σ0:BI} {r:Nat→Ag} {ev:Nat→List BN} (f:∀(i j:Nat) (o m:Oper) (d:Tmp),ops[i]? =some o→ops[j]? =some m→o.dst=some d→m.dst=some d→i=j) {t j:Nat} {o:Oper} (n:ops[j]? =some o) (hd:o.dst=some t) (I:t<σ0.slots.length):
 ∀i,j<i→(Ed ops σ0 r ev i).slots.getD t .junk=r j
 |0,h=>AA
 |i+1,h=>by
  by_cases e:j=i
  ·subst e;simp only[Ed,n,hd];have J:t<(Ed ops σ0 r ev j).slots.length:=by rw[VE];exact I
   show((Ed ops σ0 r ev j).slots.set t (r j)).getD t .junk=_;simp[List.getD,J]
  have q:=Ue (r:=r) (ev:=ev) f n hd I i AA;simp only[Ed];split
  ·rename_i m s;cases u:m.dst with
   |none=>exact q
   |some d=>
    have z:d≠t:=fun e'=>e (f j i o m t n s hd (by rw[u,e']));show((Ed ops σ0 r ev i).slots.set d (r i)).getD t .junk=_;rw[←q];simp[List.getD,bZ z]
  exact q
def aJh (h:Wu ops=true):∀(i:Nat) (o:Oper),ops[i]? =some o→(∀(j:Nat) (n:Oper) (d:Tmp),ops[j]? =some n→n.dst=some d→d∈tmpsOf o→GK o j=true∨GK n i=true)∧(∀j b,o.guard=some (j,b)→GK o j=true):=by
 intro i o s;unfold Wu at h;rw[EZ]at h;have hi:i<ops.size:=(Fv.1 s).1;have q:=h i Fp;rw[s]at q;simp only[DL,EZ]at q;refine⟨fun j n d m hd u=>?_,fun j b z=>?_⟩
 ·have I:j<ops.size:=(Fv.1 m).1;have f:=q.1 j aCw;rw[m]at f;simp only[Aa,hd,iC,RY]at f;rcases f with(f|f)|f
  ·have :(tmpsOf o).contains d=true:=RF
   rw[this]at f;cases f
  ·exact .inl f
  exact .inr f
 have f:=q.2;rw[z]at f;exact f
def XQ (ops:Array Oper) (bs:List Bool):Bool:=(List.range ops.size).all fun i=> !(bs.getD i false)||
 (((List.range i).all fun j=>(List.range (i+1)).any fun m=>decide (j<m)&&(match ops[m]? with |some o=>GK o j|none=>false))&&
  ((List.range ops.size).all fun k=> !decide (i<k)||(List.range k).any fun m=>decide (i≤m)&&(match ops[k]? with |some o=>GK o m|none=>false)))
def Wv {bs:List Bool} (h:XQ ops bs=true) {i:Nat} (hi:i<ops.size) (L:bs.getD i false=true) {D:Nat→Prop} (hd:∀(j:Nat) (o:Oper),ops[j]? =some o→D j→∀m,GK o m=true→D m)
 (M:∀(o:Oper),ops[i]? =some o→∀m,GK o m=true→D m):∀j,j<i→D j:=by
 unfold XQ at h;rw[EZ]at h;have u:=h i Fp;simp only[L,EM,MG,DL,EZ]at u
 have key:∀n j,i-j≤n→j<i→D j:=by
  intro n
  induction n with
  |zero=>intro j O z;omega
  |succ n S=>
   intro j O z;have I:=u.1 j mG;rw[Hd]at I;obtain⟨m,U,J⟩:=I;simp only[tH]at U;simp only[DL,H6]at J;obtain⟨Z,f⟩:=J;have q:m<ops.size:=AA
   have s:ops[m]? =some ops[m]:=by simp[q]
   rw[s]at f;by_cases e:m=i
   ·subst e;exact M _ s j f
   exact hd m _ s (S m AA AA) j f
 exact fun j Y=>key (i-j) j (EG _) Y
def aA8 {bs:List Bool} (h:XQ ops bs=true) {i:Nat} (hi:i<ops.size) (O:bs.getD i false=true) {D:Nat→Prop} (hd:∀(j:Nat) (o:Oper),ops[j]? =some o→D j→∀m,GK o m=true→D m):
 ∀k,i<k→∀(o:Oper),ops[k]? =some o→(∀m,GK o m=true→D m)→D i:=by
 unfold XQ at h;rw[EZ]at h;have z:=h i Fp;simp only[O,EM,MG,DL,EZ]at z;intro k
 induction k using Nat.strongRecOn with
 |_ k S=>
  intro s o I f;have U:k<ops.size:=(Fv.1 I).1;have J:=z.2 k oJ;simp only[s,decide_true,EM,MG,Hd]at J;obtain⟨m,L,M⟩:=J;simp only[tH]at L;simp only[DL,H6,I]at M;obtain⟨Z,Y⟩:=M;have n:=f m Y;by_cases e:m=i
  ·subst e;exact n
  have u:m<ops.size:=AA
  have q:ops[m]? =some ops[m]:=dB
  exact S m L AA _ q (hd m _ q n)
def Wj (ops:Array Oper):Bool:=(List.range ops.size).all fun i=>match ops[i]? with
 |some o=>o.after.toList.all fun(e:Edge)=> !Region.binds .any e||decide (e.on<i)
 |none=>true
def aHy (h:Wj ops=true):∀(i:Nat) (o:Oper),ops[i]? =some o→∀e∈o.after.toList,Region.binds .any e=true→e.on<i:=by
 intro i o f e j m;unfold Wj at h;rw[EZ]at h;have hi:i<ops.size:=(Fv.1 f).1;have :=h i Fp;rw[f]at this;rw[EZ]at this;have :=this e j;simpa[m]using this
def AB.draw {id:Nat} {σ σ':BI} {Q:Exit→BI→Prop} {rs:List Ag} {ess:List (List BN)} {bs:List Bool} (hm:P.follows .mixedOrders=true) (S:(Wj ops&&Vf ops&&UC ops σ.slots.length&&Wu ops)=true) (Y:XQ ops bs=true)
 (h:FH P ops ops.toList σ rs ess bs σ') (hQ:Q .normal σ'):AB P (.region id ops true) σ Q:=by
 refine⟨fun ro _ C ok H a w hh=>?_⟩;simp only[DL]at S;obtain⟨⟨⟨he,hd⟩,hs⟩,hc⟩:=S;have PI:=aHy he;have hinj:=aOE hd;have S:=aJh hc
 have Ii:∀(i:Nat) (o:Oper) (d:Tmp),ops[i]? =some o→o.dst=some d→d<σ.slots.length:=by
  intro i o d h1 h2;unfold UC at hs;rw[EZ]at hs;simpa using hs d (aJK h1 h2)
 let r:Nat→Ag:=fun i=>rs.getD i .junk
 let ev:Nat→List BN:=fun i=>ess.getD i []
 let bar:Nat→Bool:=fun i=>bs.getD i false
 obtain⟨IW,hend⟩:=h.facts σ r ev bar 0 (fun k=>BP) BP rfl (fun k y hy=>aJ2) (fun k y hy=>aOi) (fun k y hy=>by simp[bar,List.getD,hy])
 let U:Nat→BI:=Ed ops σ r ev
 have hU:∀i,i<ops.size→(U (i+1)).ents=ev i:=by
  intro i hi;have M:ops[i]? =some ops[i]:=QY
  show(Ed ops σ r ev (i+1)).ents=_;simp only[Ed,M];rfl
 have hconst:∀n lo,(∀b,lo≤b→b<lo+n→bar b=false)→lo+n≤ops.size→(U (lo+n)).ents=(U lo).ents:=by
  intro n
  induction n with
  |zero=>intro lo _ _;rfl
  |succ n ih=>
   intro lo z hle;have h1:=ih lo (fun b h1 h2=>z b h1 AA) AA;have hi:lo+n<ops.size:=AA
   have M:ops[lo+n]? =some ops[lo+n]:=QY
   have h2:=(IW (lo+n) _ AA M).2 (z (lo+n) AA AA);rw[←O5,hU _ hi,h2];exact h1
 have J:∀lo hi,lo≤hi→hi≤ops.size→(∀b,lo≤b→b<hi→bar b=false)→(U hi).ents=(U lo).ents:=by
  intro lo hi h1 h2 h3;obtain⟨n,rfl⟩:=aMX h1;exact hconst n lo h3 h2
 refine aFB hm ?_
 let I:Array Bool→Act→World→Prop:=fun l a w=>l.size=ops.size∧∃ok H m,m≤ops.size∧(∀b,bar b=true→b<ops.size→(l.getD b false=true↔b<m))∧DI C ok H (U m).ents w∧a.tmps.size=σ.slots.length∧Marks C ok w a.defers∧
  (∀t,t<σ.slots.length→(∀(j:Nat) (o:Oper),ops[j]? =some o→o.dst=some t→l.getD j false=false)→R ok w H (σ.slots.getD t .junk) (a.tmps.getD t undef))∧
  (∀(i:Nat) (o:Oper) (d:Tmp),ops[i]? =some o→o.dst=some d→l.getD i false=true→R ok w H (r i) (a.tmps.getD d undef))∧
  (∀(j:Nat) (o:Oper),ops[j]? =some o→l.getD j false=true→∀i,GK o i=true→l.getD i false=true)
 refine aEO I (fun l a w h=>h.1) ?_ ?_ ops.size _ _ _ ?_ ?_
 ·rintro l a w ⟨h1,ok,H,m,LD,u,hmem0,hsz,hdf,h5,h6,h7⟩ i hi;unfold Region.ready at hi;rw[Hf]at hi;obtain⟨hi1,hi2⟩:=hi;have hi':i<ops.size:=aG3
  have M:ops[i]? =some ops[i]:=by simp[hi']
  simp only[DL]at hi2;have PK:=hi2.2;rw[M]at PK;simp only[Ie,OH]at PK;have ahO:=fun e he=>(QI.1 PK) e he
  have Z:∀j,GK ops[i] j=true→l.getD j false=true∧j<i:=by
   intro j s;unfold GK at s;rw[Hd]at s;obtain⟨e,hee,s⟩:=s;simp only[DL,H6]at s;have :=ahO e aHf;simp only[s.2,EM,MG]at this;rw[s.1]at this;exact⟨this,s.1▸PI i _ M e hee s.2⟩
  have L:l.getD i false=false:=by
   have h8:=hi2.1;have hil:i<l.size:=AA
   simp[Array.getD,hil]at h8 ⊢;exact h8
  have O:∀(j:Nat) (o:Oper),ops[j]? =some o→l.getD j false=true→∀m,GK o m=true→l.getD m false=true:=fun j o s hl m hm=>h7 j o s hl m hm
  have hmem:DI C ok H (U i).ents w:=by
   have hE:(U i).ents=(U m).ents:=by
    by_cases him:i≤m
    ·refine(J i m him LD (fun b h2 h3=>?_)).symm;rw[←LZ];intro z;have hbl:=(u b z AA).2 h3;by_cases e:b=i
     ·subst e;rw[L]at hbl;cases hbl
     have hob:ops[b]? =some (ops[b]' AA):=by simp[show b<ops.size by omega]
     have :=Wv Y (show b<ops.size by omega) z (D:=fun j=>l.getD j false=true) O (fun o M m hm=>O b o M hbl m hm) i AA;rw[L]at this;cases this
    refine J m i AA AA (fun b h2 h3=>?_);rw[←LZ];intro z;have :=aA8 Y (show b<ops.size by omega) z (D:=fun j=>l.getD j false=true) O i h3 _ M (fun m hm=>(Z m hm).1);exact absurd ((u b z AA).1 this) AA
   rw[hE];exact hmem0
  have hread:∀t,t∈tmpsOf ops[i]→R ok w H ((Ed ops σ r ev i).slots.getD t .junk) (a.tmps.getD t undef):=by
   intro t ht;by_cases hw:∃(j:Nat) (o:Oper),ops[j]? =some o∧o.dst=some t
   ·obtain⟨j,o,s,q⟩:=hw;rcases(S i _ M).1 j o t s q ht with hce|hce
    ·obtain⟨hdj,hji⟩:=Z j hce;rw[Ue hinj s q (Ii j o t s q) i hji];exact h6 j o t s q hdj
    have hij:i<j:=by
     unfold GK at hce;rw[Hd]at hce;obtain⟨e,hee,hce⟩:=hce;simp only[DL,H6]at hce;exact hce.1▸PI j _ s e hee hce.2
    rw[SS i (fun j' o' hj' ho' hd'=>aUV)];refine h5 t (Ii j o t s q) (fun j' o' ho' hd'=>?_);have hjj:=hinj j j' o o' t s ho' q hd';subst hjj;rw[←LZ];intro hd;rw[h7 j o s hd i hce]at L;cases L
   have hw':∀(j:Nat) (o:Oper),ops[j]? =some o→o.dst≠some t:=fun j o h1 h2=>hw ⟨j,o,h1,h2⟩;rw[SS i (fun j o _ s=>hw' j o s)];by_cases htn:t<σ.slots.length
   ·exact h5 t htn (fun j o s q=>absurd q (hw' j o s))
   rw[jv htn];exact .junk _
  have VF:∀j d v,GK ops[i] j=true→(ops[j]?).bind (·.dst)=some d→(Ed ops σ r ev i).slots.getD d .junk=.d (.lit v)→yielded ops a.tmps j=(match v with | .bool b=>some b|_=>none):=by
   intro j d v s q z;cases hoj:ops[j]? with
   |none=>rw[hoj]at q;simp at q
   |some oj=>
    rw[hoj]at q;simp only[Aa]at q;obtain⟨hdj,hji⟩:=Z j s;have hdn:=Ii j oj d hoj q;rw[Ue hinj hoj q hdn i hji]at z;have hv:=(z▸h6 j oj d hoj q hdj).bool
    have hs:a.tmps[d]? =some v:=by
     have :d<a.tmps.size:=by rw[hsz];exact hdn
     simp[Array.getD,this]at hv;simp[this,hv]
    unfold yielded;rw[hoj];simp only[Aa,q,hs];cases v<;>rfl
  have hput:∀(x:Ag) (v:Value) (ok':Nat→Prop) (H':List Bj) (w':World),x=r i→EU ok w ok' w'→Names H H'→DI C ok' H' (ev i) w'→R ok' w' H' x v→I (l.setIfInBounds i true) (a.put ops[i].dst v) w':=by
   intro x v ok' H' w' hx hgr hnm hmem' hR;subst hx
   have hother:∀(d t:Nat),ops[i].dst=some d→d≠t→(a.put ops[i].dst v).tmps.getD t undef=a.tmps.getD t undef:=by
    intro d t hd hne;rw[hd];exact aKq hne
   obtain⟨m',am0,aek,am1⟩:∃m',m'≤ops.size∧(∀b,bar b=true→b<ops.size→((l.setIfInBounds i true).getD b false=true↔b<m'))∧DI C ok' H' (U m').ents w':=by
    have hget:∀b,b≠i→(l.setIfInBounds i true).getD b false=l.getD b false:=fun b z=>by
     simp only[Gx,KW (Ne.symm z)]
    have am2:(l.setIfInBounds i true).getD i false=true:=aOR
    cases hbi:bar i with
    |false=>
     refine⟨m,LD,fun b z hbs=>?_,?_⟩
     ·have hne:b≠i:=fun e=>by subst e;rw[hbi]at z;cases z
      rw[hget b hne];exact u b z hbs
     have h2:=(IW i _ AA M).2 hbi;rw[h2]at hmem'
     have hE:(U i).ents=(U m).ents:=by
      by_cases him:i≤m
      ·refine(J i m him LD (fun b h2 h3=>?_)).symm;rw[←LZ];intro z;have hbl:=(u b z AA).2 h3;by_cases e:b=i
       ·subst e;rw[L]at hbl;cases hbl
       have :=Wv Y (show b<ops.size by omega) z (D:=fun j=>l.getD j false=true) O (fun o M m hm=>O b o M hbl m hm) i AA;rw[L]at this;cases this
      refine J m i AA AA (fun b h2 h3=>?_);rw[←LZ];intro z;have :=aA8 Y (show b<ops.size by omega) z (D:=fun j=>l.getD j false=true) O i h3 _ M (fun m hm=>(Z m hm).1);exact absurd ((u b z AA).1 this) AA
     rw[←hE];exact hmem'
    |true=>
     refine⟨i+1,AA,fun b z hbs=>?_,by rw[hU i hi'];exact hmem'⟩;by_cases e:b=i
     ·subst e;rw[am2];simp
     rw[hget b e];constructor
     ·intro hbl;apply Xq;intro hn;have :=Wv Y hbs z (D:=fun j=>l.getD j false=true) O (fun o M m hm=>O b o M hbl m hm) i AA;rw[L]at this;cases this
     intro hlt;exact Wv Y hi' hbi (D:=fun j=>l.getD j false=true) O (fun o ho' m hm=>by rw[M]at ho';obtain rfl:=Cx ho';exact(Z m hm).1) b AA
   refine⟨by simp[h1],ok',H',m',am0,aek,am1,aHl,aJa,?_,?_,?_⟩
   ·intro t ht hno
    have hne:ops[i].dst≠some t:=by
     intro e;have :=hno i _ M e;simp[Array.getD,h1,hi']at this
    have hold:(a.put ops[i].dst v).tmps.getD t undef=a.tmps.getD t undef:=by
     cases hdi:ops[i].dst with
     |none=>rfl
     |some d=>exact hdi▸hother d t hdi (fun e=>hne (by rw[hdi,e]))
    rw[hold];refine(h5 t ht (fun j o s q=>?_)).mono hgr hnm;have hij:i≠j:=fun e=>by subst e;rw[M]at s;obtain rfl:=Cx s;exact hne q
    have :=hno j o s q;simpa only[Gx,KW hij]using this
   ·intro k o d hk hkd hl;by_cases hik:i=k
    ·subst hik;rw[M]at hk;obtain rfl:=Cx hk;rw[hkd,aN7 (by rw[hsz];exact Ii i _ d M hkd)];exact hR
    have hl':l.getD k false=true:=by
     simp only[Gx,KW hik]at hl ⊢;exact hl
    have :=(h6 k o d hk hkd hl').mono hgr hnm;cases hdst:ops[i].dst with
    |none=>exact this
    |some d'=>
     have hne:d'≠d:=fun e=>hik (hinj i k _ _ d' M hk hdst (e▸hkd));rw[←hdst,hother d' d hdst hne];exact this
   intro j o s hl k hk;have hil:i<l.size:=AA
   by_cases hik:i=k
   ·subst hik;simp[Array.getD,hil]
   have hkk:l.getD k false=true:=by
    by_cases hij:i=j
    ·subst hij;rw[M]at s;obtain rfl:=Cx s;exact(Z k hk).1
    have hl':l.getD j false=true:=by
     simp only[Gx,KW hij]at hl ⊢;exact hl
    exact h7 j o s hl' k hk
   simp only[Gx,KW hik]at hkk ⊢;exact hkk
  unfold wpOpIn;rw[M];show if Region.wanted ops[i] (yielded ops a.tmps)=true then _ else _
  rcases(IW i ops[i] AA M).1 with⟨ns,hop,afE,hnt,hg⟩|⟨hx,hev,hg⟩
  ·have hwant:Region.wanted ops[i] (yielded ops a.tmps)=true:=by
    unfold Region.wanted;rcases hg with hg|⟨j,want,d,b,hg,s,z,rfl⟩
    ·rw[hg]
    rw[hg];show(yielded ops a.tmps j==some b)=true;rw[VF j d _ ((S i _ M).2 j b hg) s z];simp
   rw[D9 hwant];refine Qa ?_ (hop.inR ro C ok H a w _ hmem (fun n hn=>?_))
   ·rintro a' w' ⟨v,ok',H',rfl,hgr,hnn,hm',hx⟩;exact hput _ v ok' H' w' rfl hgr hnn hm' hx
   have hnv:=PG afE n hn;obtain⟨x,y⟩:=n;simp only at hnv ⊢;subst hnv;cases x with
   |tmp t=>
    refine hread t ?_;rw[EZ]at hnt
    have :t∈Nc ns:=by
     unfold Nc;rw[Ti];exact⟨_,hn,rfl⟩
    simpa using hnt t this
   |const v=>exact .d _ _ (.lit v)
   |global g=>exact .d _ _ (.lit _)
   |func f=>exact .d _ _ (.fn (.func f) [] [] #[] #[] rfl rfl (fun i hi=>Nl) (fun i hi=>Nl))
  have hwant:Region.wanted ops[i] (yielded ops a.tmps)=false:=by
   unfold Region.wanted;obtain⟨j,want,d,v,hg,s,z,hv⟩:=hg;rw[hg];show(yielded ops a.tmps j==some want)=false;rw[VF j d _ ((S i _ M).2 j want hg) s z];rcases hv with rfl|rfl
   ·simp
   rfl
  rw[DN (by rw[hwant];simp)];exact⟨fun _ _=>trivial,hput _ _ ok H w hx.symm (.refl _ _) (.refl _) (by rw[hev];exact hmem) (.d _ _ (.lit _))⟩
 ·rintro l a w ⟨h1,ok,H,m,LD,u,hmem,hsz,hdf,h5,h6,h7⟩ hr
  have hall:∀n i,i<n→i<ops.size→l.getD i false=true:=by
   intro n
   induction n with
   |zero=>intro i hi;omega
   |succ n ih=>
    intro i hi hi2;by_cases hn:i<n
    ·exact ih i hn hi2
    have hin:i=n:=AA
    subst hin;rw[←aKr];intro hf;have M:ops[i]? =some ops[i]:=by simp[hi2]
    have hmem:i∈Region.ready .any ops l:=by
     unfold Region.ready;rw[Hf];refine⟨by simpa using hi2,?_⟩;have hil:i<l.size:=AA
     have hf':l.getD i true=false:=aEv
     rw[hf',M];simp only[IX,FX,Ie,OH];rw[QI];intro e he;cases hbe:Region.binds .any e with
     |false=>simp
     |true=>
      have hlt:=PI i _ M e qK hbe;rw[ih e.on AA AA];simp
    rw[hr]at hmem;simp at hmem
  refine⟨ok,H,σ',?_,hQ⟩;subst hend
  have hE:(U ops.size).ents=(U m).ents:=J m ops.size LD (EG _) (fun b h2 h3=>by
   rw[←LZ];intro z
   exact absurd ((u b z h3).1 (hall (b+1) b AA h3)) AA)
  refine⟨by show DI C ok H (U ops.size).ents w;rw[hE];exact hmem,by rw[VE];exact hsz,hdf,aJt,fun t ht=>?_⟩;rw[VE]at ht;by_cases hw:∃(j:Nat) (o:Oper),ops[j]? =some o∧o.dst=some t
  ·obtain⟨j,o,s,q⟩:=hw;have hjn:j<ops.size:=(Fv.1 s).1;rw[Ue hinj s q ht ops.size hjn];exact h6 j o t s q (hall (j+1) j AA hjn)
  have hw':∀(j:Nat) (o:Oper),ops[j]? =some o→o.dst≠some t:=fun j o h1 h2=>hw ⟨j,o,h1,h2⟩;rw[SS ops.size (fun j o _ s=>hw' j o s)];exact h5 t ht (fun j o s q=>absurd q (hw' j o s))
 ·unfold toCome;simp
 refine⟨BP,ok,H,0,Eh _,fun b z _=>aAB,?_,hh.size,hh.defers.mono (fun b z=>⟨z,rfl⟩),fun t ht _=>?_,fun i o d _ _ hl=>?_,fun j o _ hl=>?_⟩
 ·exact⟨⟨hh.mem.fr.os,hh.mem.fr.tape,hh.mem.fr.output,hh.mem.fr.size,hh.mem.fr.block⟩,hh.mem.xU,hh.mem.xW,hh.mem.kW,hh.mem.names,hh.mem.hlen,fun k e h h1 h2=>(hh.mem.ent k e h h1 h2).drew,hh.mem.blk,hh.mem.DU⟩
 ·exact R.mono (w:=w) (ok:=ok) (w':={ w with drawn:=w.drawn+1 }) (fun b z=>⟨z,rfl⟩) (.refl _) (hh.slot t ht)
 ·simp[Array.getD]at hl
 simp[Array.getD]at hl
end
def Ak (P:Program) (f:FuncId) (args:List Ag) (E:List BN) (j:Ag) (E':List BN):Prop:=
 ∀(ok:Nat→Prop) (X:List Nat) (H:List Bj) (w:World) (h:Array Value),DI ⟨w,ok,X,H⟩ ok H E w→h.size=args.length→(∀i,i<args.length→R ok w H (args.getD i .junk) (h.getD i undef))→
  Calls P f h w fun e w'=>∃v ok' H',e=.returned v∧DI ⟨w,ok,X,H⟩ ok' H' E' w'∧R ok' w' H' j v
def Holds.awh {C:EW} {ok:Nat→Prop} {H:List Bj} {σ:BI} {a:Act} {w:World} (h:Holds C ok H σ a w) (t:Nat):R ok w H (σ.slots.getD t .junk) (a.tmps.getD t undef):=h.get (.tmp t)
def BI.enter (args:List Ag) (n:Nat) (E:List BN):BI:=⟨args++List.replicate (n-args.length) .junk,E,E.length⟩
def R.lit {ok:Nat→Prop} {w:World} {H:List Bj} {u v:Value} (h:R ok w H (.d (.lit u)) v):v=u:=by
 cases h with |d _ _ h=>cases h;rfl
structure EF (P:Program) (t:TypeId) (agg:Bool) (size:Nat):Prop where
 agg:∀w,(isAgg t).run P w=.ok agg w
 size:∀w,(sizeOf t).run P w=.ok size w
def aOB (P:Program) (t:TypeId) (agg:Bool) (size:Nat):Bool:=
 (match P.underlying t with |some (.struct _)|some (.array _ _)=>agg|some _=> !agg|none=>false)&&(match P.info? t with |some i=>decide (i.size=size)|none=>false)
def FI {P:Program} {t:TypeId} {agg:Bool} {size:Nat} (h:aOB P t agg size=true):EF P t agg size:=by
 unfold aOB at h;simp only[DL]at h;refine⟨fun w=>?_,fun w=>?_⟩
 ·have j:=h.1;cases m:P.underlying t with
  |none=>rw[m]at j;cases j
  |some d=>
   rw[m]at j;have e:(underlying t).run P w=.ok d w:=by simp[underlying,m]
   simp only[isAgg,FB,e,FK];cases d<;>cases agg<;>simp_all
 have f:=h.2;cases hi:P.info? t with
 |none=>rw[hi]at f;cases f
 |some i=>
  rw[hi]at f;have :i.size=size:=LJ
  simp[sizeOf,typeInfo,hi,this]
section
variable {P : Program} {o : Oper} {es : List BN}
def Kt {α:Type} {p:α→Prop} {a:α} (h:∀n∈[a],p n):p a:=h a BP
def El {α:Type} {p:α→Prop} {a b:α} (h:∀n∈[a,b],p n):p a∧p b:=⟨h a BP,h b BP⟩
def ajG {x:Operand} {v:Ag} (f:o.op=.move x):Bl P o [(x,v)] es v es:=
 .pure fun _ _ a _ _ _ h=>⟨a.eval x,by simp[execOp,f],h (x,v) BP⟩
def aee {x:Operand} {v:Ag} (f:o.op=.assign x):Bl P o [(x,v)] es v es:=
 .pure fun _ _ a _ _ _ h=>⟨a.eval x,by simp[execOp,f],h (x,v) BP⟩
def akr {c x y:Operand} {v:Ag} (b:Bool) (h:b=true) (j:o.op=.pick c x y):Bl P o [(c,.d (.lit (.bool b))),(x,v)] es v es:=
 .pure fun _ _ a _ _ _ f=>⟨a.eval x,by
  have :=(El f).1.lit;simp only at this
  simp[execOp,j,this,asBool,h],(El f).2⟩
def alI {c x y:Operand} {v:Ag} (b:Bool) (h:b=false) (j:o.op=.pick c x y):Bl P o [(c,.d (.lit (.bool b))),(y,v)] es v es:=
 .pure fun _ _ a _ _ _ f=>⟨a.eval y,by
  have :=(El f).1.lit;simp only at this
  simp[execOp,j,this,asBool,h],(El f).2⟩
def Gv {op:BinOp} {t t':TypeId} {x y:Operand} {u v r:Value} (n:o.op=.binOp op t x y t') (h:∀w,(binOp op t u v).run P w=.ok r w) (q:u.oneCell'=true∧u matches .int _ _| .string _| .bool _):
 Bl P o [(x,.d (.lit u)),(y,.d (.lit v))] es (.d (.lit r)) es:=
 .pure fun _ _ a w _ _ f=>⟨r,by
  have j:=(El f).1.lit;have m:=(El f).2.lit;simp only at j m
  have s:(eqGuard op t x y u v).run P w=.ok () w:=by
   unfold eqGuard;cases u<;>simp at q<;>(cases op<;>simp[pure,Sem.run_pure'])
  simp only[execOp,n,j,m,FB,s,h w,FK,G6],.d _ _ (.lit _)⟩
def aMK {op:UnOp} {t:TypeId} {x:Operand} {u r:Value} (j:o.op=.unOp op t x) (h:∀w,(Op.unary op u).run P w=.ok r w):Bl P o [(x,.d (.lit u))] es (.d (.lit r)) es:=
 .pure fun _ _ a w _ _ m=>⟨r,by
  have f:=(Kt m).lit;simp only at f
  simp only[execOp,j,f,FB,h w,FK,G6],.d _ _ (.lit _)⟩
def aSc {s t:TypeId} {x:Operand} {u r:Value} (j:o.op=.convert s t x) (h:∀w,(convert s t u).run P w=.ok r w):Bl P o [(x,.d (.lit u))] es (.d (.lit r)) es:=
 .pure fun _ _ a w _ _ m=>⟨r,by
  have f:=(Kt m).lit;simp only at f
  simp only[execOp,j,f,FB,h w,FK,G6],.d _ _ (.lit _)⟩
def arD {x:Operand} {i:Nat} {xs:List Ag} {v:Ag} (q:o.op=.extract x i) (s:xs[i]? =some v):Bl P o [(x,.gy xs)] es v es:=
 .pure fun ok H a w _ _ z=>by
  have j:=Kt z;simp only at j;generalize I:a.eval x=u at j;cases j with
  |gy _ vs M h=>
   obtain⟨hi,m⟩:=FN.1 s;have n:=h i hi;have J:xs.getD i .junk=v:=by simp[List.getD,hi,m]
   have f:i<vs.size:=AA
   have L:vs.getD i undef=vs[i]:=by simp[Array.getD,f]
   rw[J,L]at n;exact⟨vs[i],by simp[execOp,q,I,Instr.extract,f],n⟩
def aqH {x:Operand} {t e:TypeId} {xs:List D} (q:P.underlying t=some (.slice e)) (j:o.op=.call { callee:=.builtin .len,args:= #[x],argTypes:= #[t] }):
 Bl P o [(x,.d (.sl xs))] es (.d (.lit (.int .i64 xs.length))) es:=
 .pure fun ok H a w _ _ s=>by
  have f:=Kt s;simp only at f;generalize m:a.eval x=u at f;have n:(underlying t).run P w=.ok (.slice e) w:=by simp[underlying,q]
  refine⟨_,?_,.d _ _ (.lit _)⟩;cases f with
  |d _ _ h=>
   cases h with
   |sl0 ad cap=>simp[execOp,j,resolve,invoke,builtin,Builtin.len_,m,n,goInt]
   |sl _ b off cap size=>simp[execOp,j,resolve,invoke,builtin,Builtin.len_,m,n,goInt]
def amH {x:Operand} {t:TypeId} {s:ByteArray} (h:P.underlying t=some .string) (j:o.op=.call { callee:=.builtin .len,args:= #[x],argTypes:= #[t] }):
 Bl P o [(x,.d (.lit (.string s)))] es (.d (.lit (.int .i64 s.size))) es:=
 .pure fun ok H a w _ _ m=>by
  have f:=(Kt m).lit;simp only at f;have n:(underlying t).run P w=.ok .string w:=aI3
  exact⟨_,by simp[execOp,j,resolve,invoke,builtin,Builtin.len_,f,n,goInt],.d _ _ (.lit _)⟩
def GU {es:List BN} {H:List Bj} {ok:Nat→Prop} {w:World} (m:∀(k:Nat) (e:BN) (h:Bj),es[k]? =some e→H[k]? =some h→Eo ok w H h e) (n:H.length=es.length) {k:Nat} {e:BN} (j:es[k]? =some e):
 ∃h,H[k]? =some h∧Eo ok w H h e:=by
 have f:k<H.length:=by rw[n];exact(FN.1 j).1
 exact⟨H[k],Wh,m k e _ j Wh⟩
def aft {x:Operand} {t e e':TypeId} {k s:Nat} {xs:List D} (M:es[k]? =some (.arr e' s xs)) (O:P.underlying t=some (.slice e)) (S:o.op=.call { callee:=.builtin .len,args:= #[x],argTypes:= #[t] }):
 Bl P o [(x,.aO k)] es (.d (.lit (.int .i64 xs.length))) es:=
 .pure fun ok H a w f U Y=>by
  have j:=Kt Y;simp only at j;generalize Z:a.eval x=u at j;have hu:(underlying t).run P w=.ok (.slice e) w:=by simp[underlying,O]
  obtain⟨h,hh,m⟩:=GU f U M;refine⟨_,?_,.d _ _ (.lit _)⟩;cases j with
  |aO _ ad n cap s' J=>
   rw[hh]at J;obtain rfl:=Cx J;obtain⟨_,_,ys,⟨_,q⟩,_⟩:=m
   have z:n=xs.length:=by
    rcases q with⟨I,h3⟩|⟨g,L,cur,I,_⟩
    ·simp at I;omega
    simp at I;omega
   subst z;simp[execOp,S,resolve,invoke,builtin,Builtin.len_,Z,hu,goInt]
structure Dk (P:Program) (t:TypeId) (f off:Nat):Prop where
 run:∀(b o:Nat) w,(Instr.fieldAt t (.pointer (some ⟨b,o,none⟩)) f).run P w=.ok (.pointer (some ⟨b,o+off,none⟩)) w
def aUo (P:Program) (t:TypeId) (f off:Nat):Bool:=
 match P.underlying t with
 |some (.struct j)=>match j[f]? with
  |some h=>decide (h.offset=off)&&(match P.info? h.type with |some i=>decide (i.size≠0)|none=>false)
  |none=>false
 |_=>false
def Dp {P:Program} {t:TypeId} {f off:Nat} (h:aUo P t f off=true):Dk P t f off:=by
 unfold aUo at h;refine⟨fun b o w=>?_⟩;split at h
 ·rename_i n q;split at h
  ·rename_i s u;simp only[DL,H6]at h;obtain⟨z,j⟩:=h;split at j
   ·rename_i i hi;have I:(sizeOf s.type).run P w=.ok i.size w:=by simp[sizeOf,typeInfo,hi]
    have J:i.size≠0:=Oh
    have m:(underlying t).run P w=.ok (.struct n) w:=by simp[underlying,q]
    simp[Instr.fieldAt,m,u,Instr.sureAddr,fieldPlace,I,J,addr_add,z]
   cases j
  cases h
 cases h
def ana {x:Operand} {t:TypeId} {f off j:Nat} {cs:List D} (s:Dk P t f off) (z:o.op=.fieldAddr t x f):Bl P o [(x,.d (.ref cs j))] es (.d (.ref cs (j+off))) es:=
 .pure fun ok H a w _ _ I=>by
  have m:=Kt I;simp only at m;generalize J:a.eval x=u at m;cases m with
  |d _ _ h=>
   cases h with
   |ref _ _ b p n q L M=>
    refine⟨.pointer (some ⟨b,p+(j+off),none⟩),?_,.d _ _ (.ref cs (j+off) b p n q L M)⟩;simp only[execOp,z,J,FB,s.run,FK,G6,O5]
def akY {x:Operand} {t:TypeId} {f off k j:Nat} (n:Dk P t f off) (q:o.op=.fieldAddr t x f):Bl P o [(x,.ptr k j)] es (.ptr k (j+off)) es:=
 .pure fun ok H a w _ _ z=>by
  have m:=Kt z;simp only at m;generalize I:a.eval x=u at m;cases m with
  |ptr _ _ b s h=>
   refine⟨.pointer (some ⟨b,j+off,none⟩),?_,.ptr _ _ b s h⟩;simp only[execOp,q,I,FB,n.run,FK,G6]
def aoz {x:Operand} {t:TypeId} {f off k i j:Nat} (q:Dk P t f off) (z:o.op=.fieldAddr t x f):Bl P o [(x,.lQ k i j)] es (.lQ k i (j+off)) es:=
 .pure fun ok H a w _ _ I=>by
  have m:=Kt I;simp only at m;generalize J:a.eval x=u at m;cases m with
  |lQ _ _ _ b n cap s h=>
   refine⟨.pointer (some ⟨b,i*s+(j+off),none⟩),?_,.lQ _ _ _ b n cap s h⟩;simp only[execOp,z,J,FB,q.run,FK,G6,O5]
def aqP {x y:Operand} {t e:TypeId} {k:IntKind} {i:Int} {xs:List D} {q:D} {agg:Bool} {size:Nat} (Y:P.underlying t=some (.slice e)) (Z:EF P e agg size) (h0:0≤i) (hi:xs[i.toNat]? =some q) (s:q.cells.length=size)
 (ho:o.op=.indexAddr t x y):Bl P o [(x,.d (.sl xs)),(y,.d (.lit (.int k i)))] es (.d (.ref q.cells 0)) es:=
 .pure fun ok H a w _ _ O=>by
  have z:=(El O).1;have S:=(El O).2.lit;simp only at z S;generalize he:a.eval x=u at z;have hu:(underlying t).run P w=.ok (.slice e) w:=by simp[underlying,Y]
  obtain⟨m,I⟩:=FN.1 hi;cases z with
  |d _ _ h=>
   cases h with
   |sl0 ad cap=>simp at m
   |sl _ b off cap f U J L hf hx hc=>
    have hd:xs.getD i.toNat Dn=q:=by simp[List.getD,m,I]
    have M:f=size:=by rw[←L _ m,hd,s]
    subst M;refine⟨.pointer (some ⟨b,off+i.toNat*f+0,none⟩),?_,.d _ _ (.ref q.cells 0 b (off+i.toNat*f) (fun h=>J AA (by rw[s]at h;exact h)) ?_ ?_ ?_)⟩
    ·have hlen:0≤i∧i<(xs.length:Int):=⟨h0,AA⟩
     simp only[execOp,ho,he,S,Instr.indexAt,asIntOf,FB,G6,hu,FK,Sem.run_ite,hlen,and_self,Jj,Z.size,addr_add,Oo]
    ·intro j n;rw[s]at n;rw[←hd];exact hf _ m j n
    ·intro j n;rw[s]at n;rw[O5];exact hx _ m j n
    intro j n;rw[s]at n;rw[O5,←hd];exact hc _ m j n
def ajB {x y:Operand} {t e e':TypeId} {kd:IntKind} {i:Int} {k size:Nat} {xs:List D} {agg:Bool} (S:es[k]? =some (.arr e' size xs)) (U:P.underlying t=some (.slice e)) (Y:EF P e agg size) (Z:0≤i) (hi:i.toNat<xs.length)
 (ho:o.op=.indexAddr t x y):Bl P o [(x,.aO k),(y,.d (.lit (.int kd i)))] es (.lQ k i.toNat 0) es:=
 .pure fun ok H a w j hl z=>by
  have m:=(El z).1;have I:=(El z).2.lit;simp only at m I;generalize he:a.eval x=u at m;have hu:(underlying t).run P w=.ok (.slice e) w:=by simp[underlying,U]
  obtain⟨h,J,q⟩:=GU j hl S;cases m with
  |aO _ ad n cap s' L=>
   rw[J]at L;obtain rfl:=Cx L;obtain⟨M,_,ys,⟨_,s⟩,_⟩:=q;simp only at M;subst M;rcases s with⟨f,h3⟩|⟨g,O,cur,f,_⟩
   ·omega
   simp only[fF]at f;obtain⟨rfl,rfl,rfl⟩:=f;refine⟨.pointer (some ⟨g,i.toNat*s'+0,none⟩),?_,.lQ _ _ _ _ _ _ _ J⟩;have hlen:0≤i∧i<(xs.length:Int):=⟨Z,AA⟩
   simp only[execOp,ho,he,I,Instr.indexAt,asIntOf,FB,G6,hu,FK,Sem.run_ite,hlen,and_self,Jj,Y.size,addr_add,KG,Oo]
def aqe {x y:Operand} {t:TypeId} {k:IntKind} {i:Int} {s:ByteArray} {c:UInt8} (m:P.underlying t=some .string) (n:0≤i) (hi:s[i.toNat]? =some c) (q:o.op=.index t x y):
 Bl P o [(x,.d (.lit (.string s))),(y,.d (.lit (.int k i)))] es (.d (.lit (.int .u8 c.toNat))) es:=
 .pure fun ok H a w _ _ f=>by
  have h:=(El f).1.lit;have j:=(El f).2.lit;simp only at h j;have u:(underlying t).run P w=.ok .string w:=by simp[underlying,m]
  exact⟨_,by simp only[execOp,q,h,j,Instr.index,asIntOf,FB,G6,u,FK,n,Jj,hi],.d _ _ (.lit _)⟩
def J3 (l:List Ag):List D:=l.map fun | .d x=>x|_=>Dn
def Ag.Ar:Ag→Bool
 | .d _=>true
 |_=>false
def R.toD {ok:Nat→Prop} {w:World} {H:List Bj} {x:Ag} {v:Value} (h:R ok w H x v) (hd:x.Ar=true):Dz ok w ((fun | .d x=>x|_=>Dn) x) v:=by
 cases h with
 |d _ _ h=>exact h
 |_=>simp[Ag.Ar]at hd
def PN (agg:Bool) (cs:List D) (off n:Nat):D:=if agg then .agg ((cs.drop off).take n)else cs.getD off Dn
def aCf {P:Program} {ok:Nat→Prop} {w:World} {t:TypeId} {agg:Bool} {n b p off:Nat} {cs:List D} (I:EF P t agg n) (U:off+n≤cs.length) (L:agg=false→n=1)
 (M:∀i,i<cs.length→(cs.getD i Dn).leaf=true) (O:∀j,j<cs.length→(w.cell? ⟨b,p+j,none⟩).isSome=true) (J:∀j,j<cs.length→Dz ok w (cs.getD j Dn) (cellAt w b (p+j))):
 ∃v,(Instr.loadAt t (.pointer (some ⟨b,p+off,none⟩))).run P w=.ok v w∧Dz ok w (PN agg cs off n) v:=by
 have f:∀j,j<cs.length→w.cell? ⟨b,p+j,none⟩=some (cellAt w b (p+j)):=by
  intro j q;have :=O j q;obtain⟨u,S⟩:=RH.1 this;simp[cellAt,S]
 cases agg with
 |false=>
  have :=L rfl;subst this;refine⟨cellAt w b (p+off),?_,J off AA⟩;have z:=f off AA;simp[Instr.loadAt,Instr.sureAddr,loadVar,I.agg,z]
 |true=>
  let vs:Array Value:=((List.range n).map fun j=>cellAt w b (p+(off+j))).toArray
  have m:vs.size=n:=by simp[vs]
  have s:∀j,j<n→vs.getD j undef=cellAt w b (p+(off+j)):=by
   intro j q;simp[vs,Array.getD,q]
  refine⟨.agg vs,?_,?_⟩
  ·simp only[Instr.loadAt,Instr.sureAddr,FB,G6,FK]
   have h:=amO (P:=P) w t b (p+off) vs (I.agg w) (by rw[m];exact I.size w) (fun j q=>by
    rw[m]at q;rw[s j q,O5]
    exact f (off+j) AA)
   exact h
  simp only[PN,Jj];have hlen:((cs.drop off).take n).length=n:=E5
  have z:∀i,i<n→((cs.drop off).take n).getD i Dn=cs.getD (off+i) Dn:=by
   intro i hi;simp[List.getD,Ol hi,VT]
  refine .agg _ vs (by rw[hlen,m]) (fun i hi=>?_) (fun i hi=>?_)
  ·rw[hlen]at hi;rw[z i hi];exact M _ AA
  rw[hlen]at hi;rw[z i hi,s i hi];exact J _ AA
def aer {x:Operand} {t:TypeId} {agg:Bool} {n off:Nat} {cs:List D} (m:EF P t agg n) (q:off+n≤cs.length) (s:agg=false→n=1) (z:o.op=.load t x):
 Bl P o [(x,.d (.ref cs off))] es (.d (PN agg cs off n)) es:=
 .pure fun ok H a w _ _ j=>by
  have f:=Kt j;simp only at f;generalize I:a.eval x=u at f;cases f with
  |d _ _ h=>
   cases h with
   |ref _ _ b p J L M O=>
    obtain⟨v,S,hd⟩:=aCf m q s L M O;exact⟨v,by simp only[execOp,z,I,FB,S,FK,G6],.d _ _ hd⟩
def yH (l:List Ag):(J3 l).length=l.length:=by simp[J3]
def abP {l:List Ag} {i:Nat} (h:i<l.length):(J3 l).getD i Dn=(fun | .d x=>x|_=>Dn) (l.getD i .junk):=by
 simp[J3,List.getD,h]
def aMm {ok:Nat→Prop} {w:World} {H:List Bj} {h:Bj} {cs:List Ag} (I:Eo ok w H h (.box cs)) (hd:cs.all Ag.Ar=true):
 ∃b,h.v=.pointer (some ⟨b,0,none⟩)∧(∀i,i<(J3 cs).length→((J3 cs).getD i Dn).leaf=true)∧(∀j,j<(J3 cs).length→(w.cell? ⟨b,0+j,none⟩).isSome=true)∧(∀j,j<(J3 cs).length→Dz ok w ((J3 cs).getD j Dn) (cellAt w b (0+j))):=by
 obtain⟨b,vs,T,J,L,M,q⟩:=I;rw[EZ]at hd
 have f:∀j,j<cs.length→w.cell? ⟨b,0+j,none⟩=some (vs.toList.getD j undef):=by
  intro j m;rw[KG];have n:j<vs.size:=by simpa using(by omega:j<vs.toList.length)
  simp[World.cell?,L,n,List.getD]
 refine⟨b,J,fun i hi=>?_,fun j m=>?_,fun j m=>?_⟩
 ·rw[yH]at hi;rw[abP hi];have s:=(q i hi).1;have u:=hd (cs.getD i .junk) MX;cases z:cs.getD i .junk with
  |d x=>rw[z]at s;exact s
  |_=>rw[z]at u;simp[Ag.Ar]at u
 ·rw[yH]at m;rw[f j m];rfl
 rw[yH]at m;rw[abP m];unfold cellAt;rw[f j m];exact(q j m).2.toD (hd (cs.getD j .junk) (by simp[List.getD,m]))
def agT {x:Operand} {t:TypeId} {agg:Bool} {k n off:Nat} {cs:List Ag} (L:es[k]? =some (.box cs)) (hd:cs.all Ag.Ar=true) (M:EF P t agg n) (O:off+n≤cs.length) (S:agg=false→n=1) (U:o.op=.load t x):
 Bl P o [(x,.ptr k off)] es (.d (PN agg (J3 cs) off n)) es:=
 .pure fun ok H a w j Y m=>by
  have f:=Kt m;simp only at f;generalize Z:a.eval x=u at f;obtain⟨h,hh,q⟩:=GU j Y L;obtain⟨b,z,hf,hx,hc⟩:=aMm q hd;cases f with
  |ptr _ _ b' s I=>
   rw[hh]at I;obtain rfl:=Cx I;simp at z;subst z;obtain⟨v,J,hD⟩:=aCf M (by rw[yH];exact O) S hf hx hc;rw[KG]at J;exact⟨v,by simp only[execOp,U,Z,FB,J,FK,G6],.d _ _ hD⟩
def aVc {x:Operand} {t:TypeId} {k off:Nat} {cs:List Ag} {v:Ag} (M:es[k]? =some (.box cs)) (O:cs[off]? =some v) (S:EF P t false 1) (U:o.op=.load t x):Bl P o [(x,.ptr k off)] es v es:=
 .pure fun ok H a w m Y q=>by
  have j:=Kt q;simp only at j;generalize Z:a.eval x=u at j;obtain⟨h,hh,b,vs,T,I,h2,h3,h4⟩:=GU m Y M;cases j with
  |ptr _ _ b' s J=>
   rw[hh]at J;obtain rfl:=Cx J;simp at I;subst I;obtain⟨n,z⟩:=FN.1 O;have L:=(h4 off n).2;have e1:cs.getD off .junk=v:=by simp[List.getD,n,z]
   have f:off<vs.size:=by simpa using(by omega:off<vs.toList.length)
   have e2:vs.toList.getD off undef=vs[off]:=by simp[List.getD,f]
   rw[e1,e2]at L;refine⟨vs[off],?_,L⟩;have hc:w.cell? ⟨b',off,none⟩=some vs[off]:=by simp[World.cell?,h2,f]
   simp[execOp,U,Z,Instr.loadAt,Instr.sureAddr,loadVar,S.agg,hc]
end
def DI.change {C:EW} {ok ok':Nat→Prop} {H H':List Bj} {es es':List BN} {w w':World} (j:DI C ok H es w) (B:Nat→Prop)
 (hos:w'.os=w.os) (L:w'.tape=w.tape) (hout:w'.output=w.output) (m:w.heap.size≤w'.heap.size)
 (z:∀b,b<w.heap.size→¬B b→w'.heap[b]? =w.heap[b]?) (hB:∀b,B b→b<w.heap.size→¬ok b∧(C.w0.heap.size≤b∨b∈C.X))
 (hok:∀b,ok b→ok' b) (I:∀b,ok' b→ok b∨(w.heap.size≤b∧b<w'.heap.size)) (q:Names H H') (hlen:H'.length=es'.length)
 (s:∀(k:Nat) (e:BN) (h:Bj),es'[k]? =some e→H'[k]? =some h→
  (es[k]? =some e∧H[k]? =some h∧(e.live=true→∀b,Dq h.v=some b→¬B b))∨
  (Eo ok' w' H' h e∧(e.live=true→∀b,Dq h.v=some b→¬ok' b∧b<w'.heap.size∧(C.w0.heap.size≤b∨b∈C.X)∧
   ∀(k':Nat) (e':BN) (h':Bj),k'≠k→es'[k']? =some e'→e'.live=true→H'[k']? =some h'→Dq h'.v≠some b))):
 DI C ok' H' es' w'∧EU ok w ok' w':=by
 have hg:EU ok w ok' w':=fun b f=>⟨hok b f,z b (j.kW b f) (fun n=>(hB b n (j.kW b f)).1 f)⟩
 refine⟨⟨⟨hos.trans j.fr.os,L.trans j.fr.tape,hout.trans j.fr.output,Ei j.fr.size m,fun k hk hx=>?_⟩,fun b f=>hok b (j.xU b f),?_,?_,j.names.trans q,hlen,?_,?_,?_⟩,hg⟩
 ·have hkw:k<w.heap.size:=VP hk j.fr.size;rw[z k hkw (fun f=>(hB k f hkw).2.elim (fun h=>AA) hx)];exact j.fr.block k hk hx
 ·intro b f;rcases I b f with h|⟨h,_⟩
  ·exact j.xW b h
  exact .inr (.inl (Ei j.fr.size h))
 ·intro b f;rcases I b f with h|⟨_,h⟩
  ·exact VP (j.kW b h) m
  exact h
 ·intro k e h U Y;rcases s k e h U Y with⟨u,Z,h3⟩|⟨u,_⟩
  ·exact(j.ent k e h u Z).mono hg q (fun J b f=>z b (j.blk k e h b u J Z f).2.1 (h3 J b f))
  exact u
 ·intro k e h b U J Y f;rcases s k e h U Y with⟨u,Z,h3⟩|⟨_,u⟩
  ·have :=j.blk k e h b u J Z f;refine⟨fun n=>?_,VP this.2.1 m,this.2.2⟩;rcases I b n with h4|⟨h4,_⟩
   ·exact this.1 h4
   omega
  exact⟨(u J b f).1,(u J b f).2.1,(u J b f).2.2.1⟩
 intro k k' e e' h h' b U he' J M Y hh' f n;apply Xq;intro O;rcases s k e h U Y with⟨u,Z,h3⟩|⟨_,u⟩
 ·rcases s k' e' h' he' hh' with⟨S,h2',h3'⟩|⟨_,S⟩
  ·exact O (j.DU k k' e e' h h' b u S J M Z h2' f n)
  exact(S M b n).2.2.2 k e h O U J Y f
 exact(u J b f).2.2.2 k' e' h' (fun e=>O e.symm) he' M hh' n
def aFs {α:Type} {l:List α} {i:Nat} {z:α} (h:i<l.length):l.getD i z=l[i]:=by simp[List.getD,h]
def VN {α:Type} {l:List α} {a x:α} {k:Nat} (h:(l++[a])[k]? =some x):l[k]? =some x∨(k=l.length∧x=a):=by
 by_cases j:k<l.length
 ·rw[GZ j]at h;exact .inl h
 have f:=(FN.1 h).1;simp at f;have :k=l.length:=AA
 subst this;simp at h;exact .inr ⟨rfl,h.symm⟩
def DI.push {C:EW} {ok:Nat→Prop} {H:List Bj} {es:List BN} {w:World} (f:DI C ok H es w) (o:Obj) (h:Bj) (e:BN) (u:∀b,Dq h.v=some b→b=w.heap.size)
 (Y:Eo ok (w.alloc o) (H++[h]) h e):DI C ok (H++[h]) (es++[e]) (w.alloc o)∧EU ok w ok (w.alloc o):=by
 refine f.change (fun _=>False) rfl rfl rfl BP (fun b u _=>Ju _ _ _ u) (fun _ h=>h.elim) (fun _ h=>h) (fun _ h=>.inl h) (Names.push _ _) (by simp[f.hlen]) ?_;intro k e' h' z m;rcases VN z with s|⟨s,Z⟩
 ·left;refine⟨s,?_,fun _ _ _ h=>h⟩;have I:k<H.length:=by rw[f.hlen];exact(FN.1 s).1
  rwa [GZ I]at m
 subst Z;have I:k=H.length:=by rw[f.hlen];exact s
 subst I;simp at m;subst m;refine .inr ⟨Y,fun _ b J=>?_⟩;obtain rfl:=u b J;refine⟨fun n=>absurd (f.kW _ n) AA,BP,.inl f.fr.size,fun k' L M O S hl j q=>?_⟩;rcases VN S with n|⟨n,_⟩
 ·have U:k'<H.length:=by rw[f.hlen];exact(FN.1 n).1
  rw[GZ U]at j;exact absurd (f.blk k' L M _ n hl j q).2.1 AA
 rw[←f.hlen]at n;exact O n
def DI.fresh {C:EW} {ok:Nat→Prop} {H:List Bj} {es:List BN} {w:World} (f:DI C ok H es w) (o:Obj):
 DI C (fun b=>ok b∨b=w.heap.size) H es (w.alloc o)∧EU ok w (fun b=>ok b∨b=w.heap.size) (w.alloc o):=by
 refine f.change (fun _=>False) rfl rfl rfl BP (fun b j _=>Ju _ _ _ j) (fun _ h=>h.elim) (fun _ h=>.inl h) (fun b h=>?_) (.refl _) f.hlen ?_
 ·rcases h with h|rfl
  ·exact .inl h
  exact .inr ⟨EG _,BP⟩
 intro k e h m n;exact .inl ⟨m,n,fun _ _ _ h=>h⟩
def DI.drew {C:EW} {ok:Nat→Prop} {H:List Bj} {es:List BN} {w:World} (f:DI C ok H es w):DI C ok H es w.drew∧EU ok w ok w.drew:=
 f.change (fun _=>False) rfl rfl rfl (EG _) (fun _ _ _=>rfl) (fun _ h=>h.elim) (fun _ h=>h) (fun _ h=>.inl h) (.refl _) f.hlen fun _ _ _ j m=>.inl ⟨j,m,fun _ _ _ h=>h⟩
def Eo.dead {ok:Nat→Prop} {w:World} {H:List Bj} {h:Bj}:Eo ok w H h .dead:=trivial
def R.aj0 {ok:Nat→Prop} {w:World} {H:List Bj} {x:Ag} {v:Value} (h:R ok w H x v) (u:x.cells.all Ag.leaf=true):Gf ok w H x.cells v.cells.toList:=by
 rw[EZ]at u;cases h with
 |d x v h=>
  cases h with
  |agg cs vs O L S=>
   refine⟨by simp[Ag.cells,D.cells,Value.cells,O],fun i hi=>?_⟩;simp only[Ag.cells,D.cells,D8]at hi;have U:(Ag.cells (.d (.agg cs))).getD i .junk=.d (cs.getD i Dn):=by simp[Ag.cells,D.cells,List.getD,hi]
   have z:i<vs.size:=AA
   have M:(Value.cells (.agg vs)).toList.getD i undef=vs.getD i undef:=aPz
   rw[U,M];exact⟨L i hi,.d _ _ (S i hi)⟩
  |lit v=>
   have m:=u (.d (.lit v)) (by simp[Ag.cells,D.cells]);have e:v.cells= #[v]:=by cases v<;>first|rfl|(simp[Ag.leaf,D.leaf,Value.oneCell']at m)
   refine⟨by simp[Ag.cells,D.cells,e],fun i hi=>?_⟩;simp[Ag.cells,D.cells]at hi;subst hi;rw[e];exact⟨m,.d _ _ (.lit v)⟩
  |sl0 ad cap=>
   refine⟨rfl,fun i hi=>?_⟩;simp[Ag.cells,D.cells]at hi;subst hi;exact⟨rfl,.d _ _ (.sl0 ad cap)⟩
  |sl es b off cap size m q I J Y Z=>
   refine⟨rfl,fun i hi=>?_⟩;simp[Ag.cells,D.cells]at hi;subst hi;exact⟨rfl,.d _ _ (.sl es b off cap size m q I J Y Z)⟩
  |ref cs off b o m q I J=>
   refine⟨rfl,fun i hi=>?_⟩;simp[Ag.cells,D.cells]at hi;subst hi;exact⟨rfl,.d _ _ (.ref cs off b o m q I J)⟩
  |fn f first cap vs us m q I J=>
   refine⟨rfl,fun i hi=>?_⟩;simp[Ag.cells,D.cells]at hi;subst hi;exact⟨rfl,.d _ _ (.fn f first cap vs us m q I J)⟩
  |PD t x v m=>
   refine⟨rfl,fun i hi=>?_⟩;simp[Ag.cells,D.cells]at hi;subst hi;exact⟨rfl,.d _ _ (.PD t x v m)⟩
 |ptr k off b s h=>
  exact⟨rfl,fun i hi=>by simp[Ag.cells]at hi;subst hi;exact⟨rfl,.ptr k off b s h⟩⟩
 |aO k ad n cap s h=>
  exact⟨rfl,fun i hi=>by simp[Ag.cells]at hi;subst hi;exact⟨rfl,.aO k ad n cap s h⟩⟩
 |lQ k i off b n cap s h=>
  exact⟨rfl,fun j hi=>by simp[Ag.cells]at hi;subst hi;exact⟨rfl,.lQ k i off b n cap s h⟩⟩
 |fn f first cap vs us m q I J=>
  exact⟨rfl,fun i hi=>by simp[Ag.cells]at hi;subst hi;exact⟨rfl,.fn f first cap vs us m q I J⟩⟩
 |mp k v s u h=>
  have e:v.cells= #[v]:=by cases v<;>first|rfl|(simp[Value.oneCell']at u)
  exact⟨by simp[Ag.cells,e],fun j hi=>by simp[Ag.cells]at hi;subst hi;rw[e];exact⟨rfl,.mp k v s u h⟩⟩
 |clip xs ad h=>exact⟨rfl,fun i hi=>by simp[Ag.cells]at hi;subst hi;exact⟨rfl,.clip xs ad h⟩⟩
 |xu k ad n cap s h=>exact⟨rfl,fun i hi=>by simp[Ag.cells]at hi;subst hi;exact⟨rfl,.xu k ad n cap s h⟩⟩
 |gy xs vs m q=>have :=u (.gy xs) (by simp[Ag.cells]);simp[Ag.leaf]at this
 |ag xs vs m L q=>
  refine⟨by simp[Ag.cells,Value.cells,m],fun i hi=>?_⟩;have z:i<vs.size:=by rw[m];exact hi
  have M:(Value.cells (.agg vs)).toList.getD i undef=vs.getD i undef:=aPz
  rw[M];exact⟨L i hi,q i hi⟩
 |junk v=>have :=u .junk (by simp[Ag.cells]);simp[Ag.leaf]at this
section
variable {P : Program} {o : Oper} {es : List BN}
def aE5 (w:World):∀b,Dq (Bj.v ⟨.pointer (some ⟨w.heap.size,0,none⟩),0⟩)=some b→b=w.heap.size:=fun b f=>by simpa[Dq]using f.symm
def Bl.eff {ns:List (Operand×Ag)} {x:Ag} {es':List BN}
 (h:∀(C:EW) (ok:Nat→Prop) (H:List Bj) (a:Act) (w:World),DI C ok H es w→(∀n∈ns,R ok w H n.2 (a.eval n.1))→
  ∃v w' ok' H',((execOp a.eval o).run P w=.ok (.value v) w'∨(v=undef∧(execOp a.eval o).run P w=.ok .skip w'))∧EU ok w ok' w'∧Names H H'∧DI C ok' H' es' w'∧R ok' w' H' x v):Bl P o ns es x es':=by
 intro C ok H a w Q u z;obtain⟨v,w',ok',H',f,j,m,q,s⟩:=h C ok H a w u z;unfold Oper.wp;rcases f with f|⟨rfl,f⟩
 ·rw[f];exact⟨v,ok',H',rfl,j,m,q,s⟩
 rw[f];exact⟨undef,ok',H',rfl,j,m,q,s⟩
def aix {t:TypeId} {x:Operand} {v:Ag} (m:v.cells.all Ag.leaf=true) (n:o.op=.box t x):Bl P o [(x,v)] es (.ptr es.length 0) (es++[.box v.cells]):=
 .eff fun C ok H a w h q=>by
  have j:=Kt q;simp only at j
  have f:Eo ok (w.alloc (.cells (a.eval x).cells t)) (H++[⟨.pointer (some ⟨w.heap.size,0,none⟩),0⟩]) ⟨.pointer (some ⟨w.heap.size,0,none⟩),0⟩ (.box v.cells):=
   ⟨w.heap.size,(a.eval x).cells,t,rfl,Y9 w _,(j.aj0 m).mono (fun b f=>⟨f,Ju _ _ _ (h.kW b f)⟩) (Names.push _ _)⟩
  obtain⟨s,u⟩:=h.push (.cells (a.eval x).cells t) ⟨.pointer (some ⟨w.heap.size,0,none⟩),0⟩ _ (aE5 w) f;refine⟨_,_,ok,_,.inl ?_,u,Names.push _ _,s,.ptr _ _ w.heap.size 0 aDW⟩;simp[execOp,n,Instr.box,newVar,newRow]
def Oj :Value→D
 | .slice none 0 0=>.sl []
 |v=>.lit v
def jC {ok:Nat→Prop} {w:World} (v:Value):Dz ok w (Oj v) v:=by
 unfold Oj;split
 ·exact .sl0 none 0
 exact .lit v
def rY {v:Value} (h:v.oneCell'=true):(Oj v).leaf=true:=by
 unfold Oj;split
 ·rfl
 exact h
def FP (z:Value):List Ag:=z.cells.toList.map fun v=>.d (Oj v)
def aoC {t:TypeId} {z:Value} (j:(P.info? t).bind (·.zero)=some z) (m:z.cells.all (·.oneCell')=true) (n:o.op=.alloc t):Bl P o [] es (.ptr es.length 0) (es++[.box (FP z)]):=
 .eff fun C ok H a w h L=>by
  have q:Eo ok (w.alloc (.cells z.cells t)) (H++[⟨.pointer (some ⟨w.heap.size,0,none⟩),0⟩]) ⟨.pointer (some ⟨w.heap.size,0,none⟩),0⟩ (.box (FP z)):=by
   refine⟨w.heap.size,z.cells,t,rfl,Y9 w _,by simp[FP],fun i hi=>?_⟩;simp only[FP,D8,V4]at hi;have s:(FP z).getD i .junk=.d (Oj z.cells[i]):=by simp[FP,List.getD,hi]
   have u:z.cells.toList.getD i undef=z.cells[i]:=MX
   rw[s,u];exact⟨rY ((QI.1 m) _ BP),.d _ _ (jC _)⟩
  obtain⟨I,J⟩:=h.push (.cells z.cells t) ⟨.pointer (some ⟨w.heap.size,0,none⟩),0⟩ _ (aE5 w) q;refine⟨_,_,ok,_,.inl ?_,J,Names.push _ _,I,.ptr _ _ w.heap.size 0 aDW⟩;obtain⟨i,hi,f⟩:=gW.1 j;simp[execOp,n,Instr.alloc,zeroValue,typeInfo,hi,f,newVar,newRow]
def Kz {l:List BN} {k j:Nat} {a x:BN} (f:k<l.length) (h:(l.set k a)[j]? =some x):(j=k∧x=a)∨(j≠k∧l[j]? =some x):=by
 by_cases e:k=j
 ·subst e;simp[f]at h;exact .inl ⟨rfl,h.symm⟩
 rw[bZ e]at h;exact .inr ⟨fun h'=>e h'.symm,h⟩
def DI.upd {C:EW} {ok:Nat→Prop} {H:List Bj} {w w':World} (z:DI C ok H es w) {k:Nat} {I e:BN} {h:Bj} {b:Nat} (Z:es[k]? =some I) (q:I.live=true) (hh:H[k]? =some h) (hb:Dq h.v=some b)
 (hos:w'.os=w.os) (s:w'.tape=w.tape) (J:w'.output=w.output) (hsize:w'.heap.size=w.heap.size)
 (n:∀c,c≠b→w'.heap[c]? =w.heap[c]?) (he:EU ok w ok w'→Eo ok w' H h e):DI C ok H (es.set k e) w'∧EU ok w ok w':=by
 have L:=z.blk k I h b Z q hh hb;have hg:EU ok w ok w':=fun c f=>⟨f,n c (fun e=>L.1 (e▸f))⟩
 refine z.change (fun c=>c=b) hos s J AA (fun c _ f=>n c f) (fun c f _=>by subst f;exact⟨L.1,L.2.2⟩) (fun _ h=>h) (fun _ h=>.inl h) (.refl _) (by simp[z.hlen]) ?_;intro j e' h' hj m;have M:k<es.length:=(FN.1 Z).1;rcases Kz M hj with⟨rfl,rfl⟩|⟨u,O⟩
 ·rw[hh]at m;obtain rfl:=Cx m;refine .inr ⟨he hg,fun _ c f=>?_⟩;rw[hb]at f;obtain rfl:=Cx f;refine⟨L.1,AA,L.2.2,fun k' e'' h'' u hk' hl' S U=>u ?_⟩;rcases Kz M hk' with⟨rfl,_⟩|⟨_,Y⟩
  ·rfl
  exact z.DU k' j e'' I h'' h b Y Z hl' q S hh U hb
 refine .inl ⟨O,m,fun hl c f hcb=>u ?_⟩;subst hcb;exact z.DU j k e' I h' h c O Z hl q m hh f hb
def aL5 (w:World) (g:Nat) (cs:Array Value) (k:Nat) (h:k≠g):(w.setRow g cs).heap[k]? =w.heap[k]? :=setRow_other w g k cs h
def setAt {α:Type} (cs:List α) (off:Nat) (ys:List α):List α:=cs.take off++ys++cs.drop (off+ys.length)
def S9 {α:Type} {cs ys:List α} {off:Nat} (h:off+ys.length≤cs.length):(setAt cs off ys).length=cs.length:=by simp[setAt];omega
def Xn {α:Type} {cs ys:List α} {off:Nat} (h:off+ys.length≤cs.length) (i:Nat) (z:α):(setAt cs off ys).getD i z=if off≤i∧i<off+ys.length then ys.getD (i-off) z else cs.getD i z:=by
 unfold setAt;have f:(cs.take off).length=off:=E5
 by_cases hi:i<off
 ·rw[DN AA];simp only[List.getD];rw[J7,GZ AA,Ol hi]
 by_cases j:i<off+ys.length
 ·rw[D9 AA];simp only[List.getD];rw[J7,Jh AA,f,GZ AA]
 rw[DN AA];simp only[List.getD];rw[Jh E5,VT];congr 2;simp;omega
def aPM {t:TypeId} {x y:Operand} {k off n:Nat} {cs:List Ag} {v:Ag} (Z:es[k]? =some (.box cs)) (hl:v.cells.all Ag.leaf=true) (hs:∀w,(sizeOf t).run P w=.ok n w) (hn:v.cells.length=n) (hle:off+n≤cs.length) (ho:o.op=.store t x y):
 Bl P o [(x,.ptr k off),(y,v)] es .junk (es.set k (.box (setAt cs off v.cells))):=
 .eff fun C ok H a w M q=>by
  have O:=(El q).1;have h2:=(El q).2;simp only at O h2;generalize he:a.eval x=u at O;obtain⟨h,hh,S⟩:=GU M.ent M.hlen Z;obtain⟨b,vs,T,hb,j,z,I⟩:=S;have f:=h2.aj0 hl;cases O with
  |ptr _ _ J s hH=>
   rw[hh]at hH;obtain rfl:=Cx hH;simp at hb;subst hb;have m:(a.eval y).cells.toList.length=n:=by rw[f.1,hn]
   have aGD:vs.size=cs.length:=mG
   have U:(a.eval y).cells.size=n:=ZY
   have hst:=aKf (P:=P) J off T (a.eval y).cells.toList 0 vs w j (by rw[m];omega) (fun u hu=>by
    obtain⟨i,hi,rfl⟩:=JJ hu;have L:=f.2 i (by rw[←f.1];exact hi);have :=L.2.leaf L.1
    rwa [aFs hi]at this)
   simp only[Oo]at hst;have hlt:J<w.heap.size:=(Fv.1 j).1
   obtain⟨h3,h4⟩:=M.upd (e:=.box (setAt cs off v.cells)) (w':=w.setRow J (vs.toList.take off++(a.eval y).cells.toList++vs.toList.drop (off+(a.eval y).cells.toList.length)).toArray) Z rfl hh rfl rfl rfl rfl aIW (fun c hc=>aL5 _ _ _ _ hc) (fun hg=>by
    refine⟨J,_,T,rfl,nR w J vs _ T (0,0) j,?_,fun i hi=>?_⟩
    ·have Y:(vs.toList.take off++(a.eval y).cells.toList++vs.toList.drop (off+(a.eval y).cells.toList.length))=setAt vs.toList off (a.eval y).cells.toList:=rfl;rw[Y,aEb,S9 (by have :=vs.length_toList;omega),S9 AA];simpa using z
    have Y:(vs.toList.take off++(a.eval y).cells.toList++vs.toList.drop (off+(a.eval y).cells.toList.length))=setAt vs.toList off (a.eval y).cells.toList:=rfl;rw[S9 AA]at hi;rw[Y,aEb,Xn (by have :=vs.length_toList;omega),Xn AA,m,hn];split
    ·have L:=f.2 (i-off) AA;exact⟨L.1,L.2.mono hg (.refl _)⟩
    exact⟨(I i hi).1,(I i hi).2.mono hg (.refl _)⟩)
   refine⟨undef,_,ok,H,.inr ⟨rfl,?_⟩,h4,.refl _,h3,.junk _⟩;simp only[execOp,ho,he,Instr.storeAt,Instr.sureAddr,storeVar,FB,G6,FK,hs,U,ne_eq,not_true_eq_false,Jq,hst]
end
def je (x:D) (es:List D):flat (x::es)=x.cells.map .d++flat es:=Yy
def aEz (xs ys:List D):flat (xs++ys)=flat xs++flat ys:=Yy
def RJ {size:Nat}:∀{es:List D},(∀x∈es,x.cells.length=size)→(flat es).length=es.length*size
 | [],_=>Yy
 |x::es,h=>by
  rw[je,ES,D8,h x BP,RJ (fun y f=>h y (IY _ f)),GI,Ud,SX]
def flat_get {size:Nat}:∀{es:List D},(∀x∈es,x.cells.length=size)→∀i j,i<es.length→j<size→(flat es).getD (i*size+j) .junk=.d ((es.getD i Dn).cells.getD j Dn)
 | [],_,i,j,hi,_=>Nl
 |x::es,h,0,j,_,m=>by
  have f:=h x BP;rw[je,Nat.zero_mul,KG];simp only[List.getD];rw[GZ (by simp[f,m])];have n:j<x.cells.length:=AA
  simp[n]
 |x::es,h,i+1,j,hi,m=>by
  have f:=h x BP;have q:=flat_get (fun y s=>h y (IY _ s)) i j Fp m;rw[je];simp only[List.getD]at q ⊢;rw[Jh (by simp[f,Ud];omega)];have e:(i+1)*size+j-(x.cells.map Ag.d).length=i*size+j:=by simp[f,Ud];omega
  rw[e,q];simp
section
variable {P : Program} {o : Oper} {es : List BN}
structure Xz (w:World) (v:Value) (m size:Nat) (news:List Value):Prop where
 len:news.length=m*size
 one:∀u∈news,u.oneCell'=true
 at_:(∃ad c,v=.slice (some ad) m c∧∀(j:Nat) (u:Value),news[j]? =some u→w.cell? (ad.add j)=some u)∨(∃c,v=.slice none 0 c∧m=0)
def Yp {ok:Nat→Prop} {w:World} (H:List Bj) {ys:List D} {v:Value} {size:Nat} (h:Dz ok w (.sl ys) v) (S:∀x∈ys,x.cells.length=size):
 ∃m,Xz w v ys.length size m∧Gf ok w H (flat ys) m:=by
 cases h with
 |sl0 ad cap=>
  refine⟨[],⟨BP,BP,?_⟩,Yy,fun i hi=>aEV⟩;cases ad with
  |none=>exact .inr ⟨cap,rfl,rfl⟩
  |some ad=>exact .inl ⟨ad,cap,rfl,fun j u h=>Hr⟩
 |sl _ b off cap f hcap hok U hf hx hc=>
  by_cases hy:ys=[]
  ·subst hy;refine⟨[],⟨BP,BP,.inl ⟨⟨b,off,none⟩,cap,rfl,fun j u h=>Hr⟩⟩,Yy,fun i hi=>aEV⟩
  have q:0<ys.length:=l9.2 hy;have Y:f=size:=by rw[←U 0 q];exact S _ aC1
  subst Y;have hl:=RJ S
  have key:∀k,k<ys.length*f→∃i j,k=i*f+j∧i<ys.length∧j<f:=by
   intro k n
   have hp:0<f:=by
    rcases XO f with Z|Z
    ·rw[Z,Nat.mul_zero]at n;omega
    exact Z
   exact⟨k/f,k % f,by rw[Ur];exact(aDF k f).symm,wL (by rwa [Ur]at n),lS _ hp⟩
  let m:List Value:=(List.range (ys.length*f)).map fun k=>cellAt w b (off+k)
  have s:m.length=ys.length*f:=by simp[m]
  have I:∀k,k<ys.length*f→m.getD k undef=cellAt w b (off+k):=by
   intro k n;simp[m,List.getD,n]
  have z:Gf ok w H (flat ys) m:=by
   refine⟨by rw[s,hl],fun k n=>?_⟩;rw[hl]at n;obtain⟨i,j,rfl,hi,J⟩:=key k n;rw[flat_get S i j hi J,I _ n];exact⟨hf i hi j J,.d _ _ (hc i hi j J)⟩
  refine⟨m,⟨s,fun u hu=>?_,.inl ⟨⟨b,off,none⟩,cap,rfl,fun k u n=>?_⟩⟩,z⟩
  ·obtain⟨k,n,rfl⟩:=JJ hu;have h5:=z.2 k (by rw[←z.1];exact n);have :=h5.2.leaf h5.1
   rwa [aFs n]at this
  obtain⟨L,rfl⟩:=FN.1 n;rw[addr_add];have M:k<ys.length*f:=by rw[←s];exact L
  obtain⟨i,j,e,hi,J⟩:=key k M;have O:=hx i hi j J;rw[←e]at O;obtain⟨u',hu'⟩:=RH.1 O;have :=I k M;rw[aFs L]at this;rw[this];simp[cellAt,hu']
structure G8 (P:Program) (t e:TypeId) (size bytes:Nat):Prop where
 und:P.underlying t=some (.slice e)
 info:∃i z,P.info? e=some i∧i.zero=some z∧i.size=size∧i.bytes=bytes∧z.cells.size=size
 pos:0<size
def aQi (P:Program) (t e size f:Nat):Bool:=
 (match P.underlying t with |some (.slice e')=>decide (e'=e)|_=>false)&&(match P.info? e with |some i=>decide (i.size=size)&&decide (i.bytes=f)&&(match i.zero with |some z=>decide (z.cells.size=size)|none=>false)|none=>false)&&decide (0<size)
def MQ {P:Program} {t e size f:Nat} (h:aQi P t e size f=true):G8 P t e size f:=by
 unfold aQi at h;simp only[DL,H6]at h;obtain⟨⟨j,m⟩,q⟩:=h;refine⟨?_,?_,q⟩
 ·split at j
  ·rename_i e' s;rw[s];simp at j;rw[j]
  cases j
 split at m
 ·rename_i i hi;simp only[DL,H6]at m;obtain⟨⟨u,I⟩,n⟩:=m;split at n
  ·rename_i z J;exact⟨i,z,hi,J,u,I,Nk⟩
  cases n
 cases m
def ajs {w:World} {t e:TypeId} {ty:TypeId} {size J:Nat} (hE:G8 P t e size J) {v:Value} {n:Nat} {xs:List Value} (s:w.ownsRow 0 e size v n xs) {x:Value} {m:Nat} {h:List Value} (f:Xz w x m size h)
 (hb:(n+m)*J≤140737488355328) (hn:n+m≤maxLen):
 ∃v' w',(Builtin.append_ #[t,t] ty #[v,x]).run P w=.ok v' w'∧w'.ownsRow 0 e size v' (n+m) (xs++h)∧w.grownBy w' v.ownBlock∧(∀g,Dq v'=some g→Dq v=some g∨w.heap.size≤g):=by
 obtain⟨i,z,hi,hz,Z,O,hzs⟩:=hE.info;rcases f.at_ with⟨ad,c,rfl,q⟩|⟨c,rfl,rfl⟩
 ·obtain⟨v',w',hr,ho',hg,hnil⟩:=run_append_own (P:=P) w 0 t ty e i z size J hE.und hi hz Z O hzs hE.pos v n xs s ad m c h f.len q f.one hn hb (Eh _);refine⟨v',w',hr,ho',hg,fun g L=>?_⟩;rcases s.2 with⟨rfl,rfl⟩|⟨g0,cap,S,rfl,hbg,hg0,hnc,hcm,hcs,htake⟩
  ·have hx:xs=[]:=H9 (by simpa using s.1);subst hx;obtain⟨v2,w2,I,ho2,_,_⟩:=run_append_own (P:=P) w w.heap.size t ty e i z size J hE.und hi hz Z O hzs hE.pos _ 0 [] (aGc w w.heap.size e size) ad m c h f.len q f.one hn hb (EG _);rw[hr]at I;simp only[Result.ok.injEq]at I;obtain⟨rfl,rfl⟩:=I;rcases ho2.2 with⟨rfl,_⟩|⟨g',_,_,rfl,hle,_⟩
   ·simp[Dq]at L
   simp[Dq]at L;subst L;exact .inr hle
  by_cases M:n+m≤cap
  ·have hfit:n*i.size+h.length≤S.size:=by rw[f.len,hcs,Z,←jY];exact Lc _ M
   have I:=run_append_room (P:=P) w t ty e i hE.und hi g0 n cap S hg0 ad m c h (by rw[Z];exact f.len) q f.one M hfit;rw[hr]at I;simp only[Result.ok.injEq]at I;obtain⟨rfl,rfl⟩:=I;exact .inl L
  have U:∀(j:Nat) (u:Value),xs[j]? =some u→w.cell? ((⟨g0,0,none⟩:Addr).add j)=some u:=s.cells (g:=g0) rfl;have I:=run_append_grow (P:=P) w t ty e i z hE.und hi hz ⟨g0,0,none⟩ n cap xs (by rw[Z];exact s.1) U ad m c h (by rw[Z];exact f.len) q AA (by unfold maxLen at hn;omega) (growslice_fits AA (by rw[O];exact hb));rw[hr]at I;simp only[Result.ok.injEq]at I;obtain⟨rfl,rfl⟩:=I;simp[Dq]at L;subst L;exact .inr (EG _)
 have Y:h=[]:=H9 (by simpa using f.len);subst Y;refine⟨v,w,?_,Pg,⟨rfl,rfl,rfl,EG _,fun _ _ _=>rfl⟩,fun g hg=>.inl hg⟩;rcases s.2 with⟨rfl,rfl⟩|⟨g,cap,S,rfl,_,_,hnc,_⟩
 ·simp[Builtin.append_,run_underlying hE.und,sizeOf,typeInfo,hi,Builtin.lenOf,Builtin.firstCells]
 simp[Builtin.append_,run_underlying hE.und,sizeOf,typeInfo,hi,Builtin.lenOf,Builtin.firstCells,hnc,storeCells]
def adI {w:World} {t e:TypeId} {ty:TypeId} {size s:Nat} (hE:G8 P t e size s) {v:Value} {n:Nat} {xs:List Value} (q:qF w e size v n xs) {x:Value} {m:Nat} {j:List Value} (f:Xz w x m size j)
 (hb:(n+m)*s≤140737488355328) (hn:n+m≤maxLen):
 ∃v' w',(Builtin.append_ #[t,t] ty #[v,x]).run P w=.ok v' w'∧qF w' e size v' (n+m) (xs++j)∧w.grownBy w' v.ownBlock∧(∀g,Dq v'=some g→Dq v=some g∨w.heap.size≤g):=by
 rcases q.2 with h|⟨g,cap,M,rfl,h0,Y,hnc,hcm,hcs,O⟩
 ·obtain⟨v',w',h1,h2,S,h4⟩:=ajs (ty:=ty) hE ⟨q.1,.inl h⟩ f hb hn;exact⟨v',w',h1,.of h2,S,h4⟩
 obtain⟨i,z,hi,hz,hs,hby,hzs⟩:=hE.info;have hlen:(xs++j).length=(n+m)*size:=by rw[ES,q.1,f.len,jY]
 rcases f.at_ with⟨ad,c,rfl,I⟩|⟨c,rfl,rfl⟩
 ·by_cases u:n+m≤cap
  ·have L:n*i.size+j.length≤M.size:=by
    rw[f.len,hs,←jY];exact Ei (Lc _ u) hcs
   have hr:=run_append_room (P:=P) w t ty e i hE.und hi g n cap M Y ad m c j (by rw[hs];exact f.len) I f.one u L;rw[hs]at hr L;refine⟨_,_,hr,⟨hlen,.inr ⟨g,cap,_,rfl,Eh _,nR w g M _ e _ Y,u,hcm,?_,?_⟩⟩,⟨rfl,rfl,rfl,BP,fun k _ hk=>setRow_other w g k _ (fun e=>hk (by simp[Value.ownBlock,e]))⟩,fun g' J=>.inl J⟩
   ·simp only[fG,ES,GH,Q9,V4];omega
   rw[O,←hlen];exact aIz
  obtain⟨v',w',h1,h2,S⟩:=run_append_arg_grows (P:=P) w t ty e i z size s hE.und hi hz hs hby hzs hE.pos ⟨g,0,none⟩ n cap xs q.1 (q.cells (g:=g) rfl) ad m c j f.len I AA hn hb;refine⟨v',w',h1,.of h2,⟨S.os,S.tape,S.output,S.size,fun k hk _=>S.block k hk BP⟩,fun g' J=>.inr ?_⟩;rcases h2.2 with⟨rfl,_⟩|⟨g2,_,_,rfl,Z,_⟩
  ·simp[Dq]at J
  simp[Dq]at J;subst J;exact Z
 have U:j=[]:=H9 (by simpa using f.len);subst U;refine⟨.slice (some ⟨g,0,none⟩) n cap,w,?_,V3,⟨rfl,rfl,rfl,EG _,fun _ _ _=>rfl⟩,fun g hg=>.inl hg⟩;simp[Builtin.append_,run_underlying hE.und,sizeOf,typeInfo,hi,Builtin.lenOf,Builtin.firstCells,hnc,storeCells]
def DI.turn {C:EW} {ok:Nat→Prop} {H:List Bj} {w w':World} (f:DI C ok H es w) {k:Nat} {S e:BN} {h h':Bj} (hk:es[k]? =some S) (I:S.live=true) (hh:H[k]? =some h)
 (hos:w'.os=w.os) (J:w'.tape=w.tape) (U:w'.output=w.output) (L:w.heap.size≤w'.heap.size)
 (u:∀c,c<w.heap.size→Dq h.v≠some c→w'.heap[c]? =w.heap[c]?) (hb':∀g,Dq h'.v=some g→g<w'.heap.size∧(Dq h.v=some g∨w.heap.size≤g))
 (he:EU ok w ok w'→Eo ok w' (H++[h']) h' e):DI C ok (H++[h']) (es.set k .dead++[e]) w'∧EU ok w ok w':=by
 have Y:=fun b hb=>f.blk k S h b hk I hh hb;have Z:k<es.length:=(FN.1 hk).1;have hg:EU ok w ok w':=fun c s=>⟨s,u c (f.kW c s) (fun e=>(Y c e).1 s)⟩
 refine f.change (fun c=>Dq h.v=some c) hos J U L u (fun c s _=>⟨(Y c s).1,(Y c s).2.2⟩) (fun _ h=>h) (fun _ h=>.inl h) (Names.push _ _) (by simp[f.hlen]) ?_;intro j e' hj' hj n;rcases VN hj with h1|⟨h1,h2⟩
 ·have hjl:j<H.length:=by rw[f.hlen];simpa using(FN.1 h1).1
  rw[GZ hjl]at n;rcases Kz Z h1 with⟨rfl,rfl⟩|⟨M,h3⟩
  ·exact .inr ⟨trivial,fun h=>He⟩
  refine .inl ⟨h3,n,fun hl c s hcb=>M ?_⟩;exact f.DU j k e' S hj' h c h3 hk hl I n hh s hcb
 subst h2;have hk2:j=H.length:=by rw[f.hlen];simpa using h1
 subst hk2;simp at n;subst n;refine .inr ⟨he hg,fun _ c s=>?_⟩;obtain⟨h3,m⟩:=hb' c s;refine⟨fun hok=>?_,h3,?_,fun k' e'' h'' M hk' O q z=>?_⟩
 ·rcases m with m|m
  ·exact(Y c m).1 hok
  have :=f.kW c hok;omega
 ·rcases m with m|m
  ·exact(Y c m).2.2
  exact .inl (Ei f.fr.size m)
 rcases VN hk' with h5|⟨h5,_⟩
 ·have hkl':k'<H.length:=by rw[f.hlen];simpa using(FN.1 h5).1
  rw[GZ hkl']at q;rcases Kz Z h5 with⟨rfl,rfl⟩|⟨hne',h6⟩
  ·cases O
  rcases m with m|m
  ·exact hne' (f.DU k' k e'' S h'' h c h6 hk O I q hh z m)
  have :=(f.blk k' e'' h'' c h6 O q z).2.1;omega
 simp at h5;exact M (by rw[h5,f.hlen])
def zQ {w:World} {e size n:Nat} {v:Value} {xs:List Value} (h:qF w e size v n xs) {g:Nat} (f:Dq v=some g):g<w.heap.size:=by
 rcases h.2 with⟨rfl,_⟩|⟨m,_,_,rfl,_,j,_⟩
 ·simp[Dq]at f
 simp[Dq]at f;subst f;exact(Fv.1 j).1
def aOW {w:World} {e size n:Nat} {v:Value} {xs:List Value} (h:qF w e size v n xs):v.ownBlock=Dq v:=by
 rcases h.2 with⟨rfl,_⟩|⟨f,_,_,rfl,_⟩<;>rfl
def Qi {ok:Nat→Prop} {w:World} {H:List Bj} {k:Nat} {v:Value} {h:Bj} (j:R ok w H (.aO k) v) (m:H[k]? =some h):v=h.v:=by
 cases j with
 |aO _ ad n cap s f=>rw[m]at f;rw[Cx f]
def asN {C:EW} {ok:Nat→Prop} {H:List Bj} {w:World} (S:DI C ok H es w) {t ty e:TypeId} {size j k:Nat} {xs ys:List D} (hE:G8 P t e size j) (hk:es[k]? =some (.arr e size xs))
 {v x:Value} (hv:R ok w H (.aO k) v) {f:List Value} (z:Xz w x ys.length size f) (q:Gf ok w H (flat ys) f) (U:∀y∈ys,y.cells.length=size) (hb:(xs.length+ys.length)*j≤140737488355328) (hn:xs.length+ys.length≤maxLen):
 ∃v' w' H',(Builtin.append_ #[t,t] ty #[v,x]).run P w=.ok v' w'∧EU ok w ok w'∧Names H H'∧DI C ok H' (es.set k .dead++[.arr e size (xs++ys)]) w'∧R ok w' H' (.aO es.length) v':=by
 obtain⟨h,hh,Y⟩:=GU S.ent S.hlen hk;obtain rfl:=Qi hv hh;obtain⟨h1,h2,u,n,Z⟩:=Y;obtain⟨v',w',hr,s,I,J⟩:=adI (P:=P) (ty:=ty) hE n z hb hn
 obtain⟨h3,h4⟩:=S.turn (h':=⟨v',size⟩) (e:=.arr e size (xs++ys)) hk rfl hh I.os I.tape I.output I.size (fun c hc hne=>I.block c hc (by rw[aOW n];exact fun e=>hne e.symm)) (fun g L=>⟨zQ s L,J g L⟩) (fun M=>by
  refine⟨rfl,fun y hy=>?_,u++f,Pg,?_⟩
  ·rcases Ia.1 hy with h|h
   ·exact h2 y h
   exact U y h
  have O:=Z.mono M (Names.push H [⟨v',size⟩]);have a2:=q.mono M (Names.push H [⟨v',size⟩]);rw[aEz];refine⟨by rw[ES,ES,O.1,a2.1],fun i hi=>?_⟩;by_cases m:i<(flat xs).length
  ·have e1:(flat xs++flat ys).getD i .junk=(flat xs).getD i .junk:=by simp[List.getD,GZ m]
   have e2:(u++f).getD i undef=u.getD i undef:=by simp[List.getD,GZ (by rw[O.1];exact m:i<u.length)]
   rw[e1,e2];exact O.2 i m
  have hi3:i-(flat xs).length<(flat ys).length:=aLE
  have e1:(flat xs++flat ys).getD i .junk=(flat ys).getD (i-(flat xs).length) .junk:=by simp[List.getD,Jh (Tz m)]
  have e2:(u++f).getD i undef=f.getD (i-(flat xs).length) undef:=by simp[List.getD,Jh (by rw[O.1];omega:u.length≤i),O.1]
  rw[e1,e2];exact a2.2 _ hi3)
 refine⟨v',w',_,hr,h4,Names.push _ _,h3,?_⟩;have hH:(H++[(⟨v',size⟩:Bj)])[es.length]? =some ⟨v',size⟩:=by rw[←S.hlen];simp
 rcases s.2 with⟨rfl,_⟩|⟨g',c',_,rfl,_⟩
 ·exact .aO _ _ _ _ size hH
 exact .aO _ _ _ _ size hH
def akz {s x:Operand} {t e:TypeId} {size f k:Nat} {xs ys:List D} (hE:G8 P t e size f) (L:es[k]? =some (.arr e size xs)) (j:∀y∈ys,y.cells.length=size)
 (M:(xs.length+ys.length)*f≤140737488355328) (O:xs.length+ys.length≤maxLen) (S:o.op=.call { callee:=.builtin .append,args:= #[s,x],argTypes:= #[t,t] }):
 Bl P o [(s,.aO k),(x,.d (.sl ys))] es (.aO es.length) (es.set k .dead++[.arr e size (xs++ys)]):=
 .eff fun C ok H a w U m=>by
  have z:=(El m).1;have I:=(El m).2;simp only at z I;have q:Dz ok w (.sl ys) (a.eval x):=by cases I with |d _ _ h=>exact h
  obtain⟨J,n,u⟩:=Yp H q j;obtain⟨v',w',H',Y,Z,r2,r3,r4⟩:=asN (ty:=o.type) U hE L z n u j M O;refine⟨v',w',ok,H',.inl ?_,Z,r2,r3,r4⟩;simp[execOp,S,resolve,invoke,builtin,Y]
def aJ7 {C:EW} {ok:Nat→Prop} {H:List Bj} {w:World} (j:DI C ok H es w) (e:TypeId) (size:Nat):
 DI C ok (H++[⟨.slice none 0 0,size⟩]) (es++[.arr e size []]) w∧R ok w (H++[⟨.slice none 0 0,size⟩]) (.aO es.length) (.slice none 0 0):=by
 obtain⟨h,_⟩:=j.change (ok':=ok) (w':=w) (H':=H++[⟨.slice none 0 0,size⟩]) (es':=es++[.arr e size []]) (fun _=>False) rfl rfl rfl (EG _) (fun _ _ _=>rfl) (fun _ h=>h.elim) (fun _ h=>h) (fun _ h=>.inl h) (Names.push _ _) (by simp[j.hlen]) (by
  intro k e' h' n f;rcases VN n with m|⟨m,s⟩
  ·have q:k<H.length:=by rw[j.hlen];exact(FN.1 m).1
   rw[GZ q]at f;exact .inl ⟨m,f,fun _ _ _ h=>h⟩
  subst s;have q:k=H.length:=by rw[j.hlen];exact m
  subst q;simp at f;subst f
  exact .inr ⟨⟨rfl,BP,[],⟨BP,.inl ⟨rfl,rfl⟩⟩,Yy,fun i hi=>aEV⟩,fun _ b u=>by simp[Dq]at u⟩)
 exact⟨h,.aO _ _ _ _ size (by rw[←j.hlen];simp)⟩
def CO (e:TypeId) (size:Nat) (f:o.op=.assign (.const (.slice none 0 0))):Bl P o [] es (.aO es.length) (es++[.arr e size []]):=
 .eff fun C ok H a w h _=>by
  obtain⟨j,m⟩:=aJ7 h e size;exact⟨.slice none 0 0,w,ok,_,.inl aM8,.refl _ _,Names.push _ _,j,m⟩
def aiR (f:o.op=.assign (.const (.slice none 0 0))):Bl P o [] es (.d (.sl [])) es:=
 .pure fun _ _ a w _ _ _=>⟨.slice none 0 0,aM8,.d _ _ (.sl0 none 0)⟩
def agQ (f:o.op=.move (.const (.slice none 0 0))):Bl P o [] es (.d (.sl [])) es:=
 .pure fun _ _ a w _ _ _=>⟨.slice none 0 0,aM8,.d _ _ (.sl0 none 0)⟩
end
def aUi (off:Nat):∀(vs:List Value) (i:Nat) (cells:Array Value),off+i+vs.length≤cells.size→
 ((vs.zipIdx i).foldl (fun cs (p:Value×Nat)=>cs.setIfInBounds (off+p.2) p.1) cells).toList=setAt cells.toList (off+i) vs
 | [],i,cells,h=>by simp[setAt]
 |v::vs,i,cells,h=>by
  simp only[GI]at h;rw[List.zipIdx_cons,Fb];rw[aUi off vs (i+1) _ E5];simp only[aPx];have f:off+i<cells.toList.length:=E5
  unfold setAt;rw[aKJ,D9 f];have j:(cells.toList.take (off+i)).length=off+i:=E5
  have m:(List.take (off+i) cells.toList++v::List.drop (off+i+1) cells.toList).take (off+(i+1))=cells.toList.take (off+i)++[v]:=by
   rw[aIa,j,Qp AA];have :off+(i+1)-(off+i)=1:=AA
   rw[this];simp
  have n:(List.take (off+i) cells.toList++v::List.drop (off+i+1) cells.toList).drop (off+(i+1)+vs.length)=cells.toList.drop (off+i+(vs.length+1)):=by
   rw[List.drop_append,j,aJG AA];have :off+(i+1)+vs.length-(off+i)=vs.length+1:=AA
   rw[this];simp[aOV];congr 1;omega
  rw[m,n];simp
def NU :List (Nat×Operand)→List Ag→List (Operand×Ag)
 |(_,x)::f,v::vs=>(x,v)::NU f vs
 |_,_=>[]
def NI (place:Nat→Option (Nat×Nat)) (n:Nat):List (Nat×Operand)→List Ag→Bool
 |(i,_)::f,v::vs=>(match place i with |some (off,s)=>decide (v.cells.length=s)&&decide (off+s≤n)&&v.cells.all Ag.leaf|none=>false)&&NI place n f vs
 | [],[]=>true
 |_,_=>false
def Jz (place:Nat→Option (Nat×Nat)):List Ag→List (Nat×Operand)→List Ag→List Ag
 |cs,(i,_)::f,v::vs=>Jz place (setAt cs ((place i).getD (0,0)).1 v.cells) f vs
 |cs,_,_=>cs
def Gf.setAt {ok:Nat→Prop} {w:World} {H:List Bj} {cs ys:List Ag} {vs us:List Value} {off:Nat} (h:Gf ok w H cs vs) (k:Gf ok w H ys us) (f:off+ys.length≤cs.length):Gf ok w H (setAt cs off ys) (setAt vs off us):=by
 refine⟨by rw[S9 (by rw[h.1,k.1];exact f),S9 f,h.1],fun i hi=>?_⟩;rw[S9 f]at hi;rw[Xn f,Xn (by rw[h.1,k.1];exact f),k.1];split
 ·exact k.2 _ AA
 exact h.2 i hi
def wI {ok:Nat→Prop} {w:World} {H:List Bj} {place:Nat→Option (Nat×Nat)} {a:Act}:∀(j:List (Nat×Operand)) (vs:List Ag) (cs:List Ag) (cells:Array Value),Gf ok w H cs cells.toList→NI place cs.length j vs=true→
 (∀n∈NU j vs,R ok w H n.2 (a.eval n.1))→∃f,Instr.fill place cells (j.map fun p=>(p.1,a.eval p.2))=some f∧Gf ok w H (Jz place cs j vs) f.toList
 | [],[],cs,cells,z,_,_=>⟨cells,rfl,z⟩
 | [],_::_,_,_,_,h,_=>by simp[NI]at h
 |_::_,[],_,_,_,h,_=>by simp[NI]at h
 |(i,x)::j,v::vs,cs,cells,z,h,L=>by
  simp only[NI,DL]at h;obtain⟨m,S⟩:=h;cases I:place i with
  |none=>rw[I]at m;cases m
  |some os=>
   obtain⟨off,s⟩:=os;rw[I]at m;simp only[DL,H6]at m;obtain⟨⟨h3,h4⟩,U⟩:=m;have M:Gf ok w H v.cells (a.eval x).cells.toList:=(L (x,v) (by simp[NU])).aj0 U;have Y:(a.eval x).cells.size=s:=by have :=M.1;simp at this;omega
   have O:cells.size=cs.length:=by simpa using z.1
   have q:((a.eval x).cells.zipIdx.foldl (fun cs (p:Value×Nat)=>cs.setIfInBounds (off+p.2) p.1) cells).toList=setAt cells.toList off (a.eval x).cells.toList:=by
    rw[←Array.foldl_toList,Array.toList_zipIdx];exact aUi off (a.eval x).cells.toList 0 cells E5
   have u:=z.setAt M (off:=off) AA;rw[←q]at u;obtain⟨f,Z,hR⟩:=wI j vs (setAt cs off v.cells) _ u (by rw[S9 AA];exact S) (fun n J=>L n (by simp[NU,J]));refine⟨f,?_,?_⟩
   ·simp only[Ld,Instr.fill,I];rw[DN E5];exact Z
   simp only[Jz,I,OH];exact hR
def Qh (z:Value) (n:Nat):List Ag:=(List.range n).map fun k=>(FP z).getD (k % z.cells.size) .junk
def alO {ok:Nat→Prop} {w:World} {H:List Bj} {z:Value} {n:Nat} (j:z.cells.all (·.oneCell')=true) (m:0<z.cells.size):Gf ok w H (Qh z n) (((Array.range n).map (z.cells[· % z.cells.size]!)).toList):=by
 refine⟨by simp[Qh],fun i hi=>?_⟩;have f:i<n:=by simpa[Qh]using hi
 have h:i % z.cells.size<z.cells.size:=lS _ m;have q:(Qh z n).getD i .junk=.d (Oj z.cells[i % z.cells.size]):=by simp[Qh,FP,List.getD,f,h]
 have s:(((Array.range n).map (z.cells[· % z.cells.size]!)).toList).getD i undef=z.cells[i % z.cells.size]:=by simp[List.getD,f,h]
 rw[q,s];exact⟨rY ((QI.1 j) _ BP),.d _ _ (jC _)⟩
def aMj {ok:Nat→Prop} {w:World} {H:List Bj} {z:Value} (f:z.cells.all (·.oneCell')=true):Gf ok w H (FP z) z.cells.toList:=by
 refine⟨by simp[FP],fun i hi=>?_⟩;simp only[FP,D8,V4]at hi;have h:(FP z).getD i .junk=.d (Oj z.cells[i]):=by simp[FP,List.getD,hi]
 have j:z.cells.toList.getD i undef=z.cells[i]:=MX
 rw[h,j];exact⟨rY ((QI.1 f) _ BP),.d _ _ (jC _)⟩
def aOv {P:Program} {w:World}:∀(l:List Field),(∀f∈l,(P.info? f.type).isSome=true)→
 (l.mapM fun f=>(do pure (f.offset,←sizeOf f.type):Sem (Nat×Nat))).run P w=.ok (l.map fun f=>(f.offset,P.cellsOf f.type)) w
 | [],_=>rfl
 |f::l,h=>by
  obtain⟨i,hi⟩:=RH.1 (h f BP);have j:=aOv (P:=P) (w:=w) l (fun g m=>h g (by simp[m]));have n:(sizeOf f.type).run P w=.ok i.size w:=by simp[sizeOf,typeInfo,hi]
  have q:P.cellsOf f.type=i.size:=by simp[Program.cellsOf,hi]
  simp only[List.mapM_cons,FB,n,FK,G6,j,Ld,q]
structure Iy (P:Program) (t:TypeId) (places:List (Nat×Nat)) (z:Value):Prop where
 fields:∃fs,P.underlying t=some (.struct fs)∧(∀f∈fs.toList,(P.info? f.type).isSome=true)∧(fs.toList.map fun f=>(f.offset,P.cellsOf f.type))=places
 zero:(P.info? t).bind (·.zero)=some z
 one:z.cells.all (·.oneCell')=true
def aTa (P:Program) (t:TypeId) (h:List (Nat×Nat)):Bool:=
 match P.underlying t with
 |some (.struct j)=>j.toList.all (fun f=>(P.info? f.type).isSome)&&decide ((j.toList.map fun f=>(f.offset,P.cellsOf f.type))=h)
 |_=>false
def LP {P:Program} {t:TypeId} {f:List (Nat×Nat)} {z:Value} (h:aTa P t f=true) (j:(P.info? t).bind (·.zero)=some z) (m:z.cells.all (·.oneCell')=true):Iy P t f z:=by
 unfold aTa at h;split at h
 ·rename_i n q;simp only[DL,EZ,H6]at h;exact⟨⟨n,q,h.1,h.2⟩,j,m⟩
 cases h
section
variable {P : Program} {o : Oper} {es : List BN}
def aCa {t:TypeId} {z:Value} (h:(P.info? t).bind (·.zero)=some z) (w:World):(zeroValue t).run P w=.ok z w:=by
 obtain⟨i,hi,f⟩:=gW.1 h;simp[zeroValue,typeInfo,hi,f]
def abN {l:List Ag} (h:l.all Ag.Ar=true):l=(J3 l).map .d:=by
 rw[EZ]at h;unfold J3;rw[uz]
 conv=>lhs;rw[←List.map_id l]
 refine List.map_congr_left fun x f=>?_;have :=h x f;cases x<;>first|rfl|(simp[Ag.Ar]at this)
def ap0 {t:TypeId} {j:Array (Nat×Operand)} {h:List (Nat×Nat)} {z:Value} (O:Iy P t h z) (vs:List Ag) (S:NI (fun(i:Nat)=>h[i]?) (FP z).length j.toList vs=true) (U:o.op=.build t j):
 Bl P o (NU j.toList vs) es (.ag (Jz (fun(i:Nat)=>h[i]?) (FP z) j.toList vs)) es:=
 .pure fun ok H a w _ _ Y=>by
  obtain⟨⟨L,Z,hf,q⟩,hz,h1⟩:=O;have s:=aCa (P:=P) hz w;have u:(underlying t).run P w=.ok (.struct L) w:=aJS
  have hm:(L.mapM fun f=>(do pure (f.offset,←sizeOf f.type):Sem (Nat×Nat))).run P w=.ok h.toArray w:=by
   rw[aMq];rw[xP,aOv _ hf,q];rfl
  obtain⟨m,hc,n⟩:=wI (place:=fun(i:Nat)=>h[i]?) j.toList vs (FP z) z.cells (aMj (ok:=ok) (w:=w) (H:=H) h1) S Y;refine⟨.agg m,?_,.ag _ _ (by simpa using n.1) (fun i hi=>(n.2 i hi).1) (fun i hi=>?_)⟩
  rotate_left
  ·have M:=(n.2 i hi).2;have I:i<m.size:=by have :=n.1;simp at this;omega
   have J:m.toList.getD i undef=m.getD i undef:=by simp[List.getD,Array.getD,I]
   rw[J]at M;exact M
  have e:(j.map fun(i,x)=>(i,a.eval x)).toList=j.toList.map fun p=>(p.1,a.eval p.2):=BP
  have J:(fun(i:Nat)=>h.toArray[i]?)=(fun(i:Nat)=>h[i]?):=by funext i;simp
  simp only[execOp,U,Instr.build,FB,s,u,hm,FK];rw[e,J,hc];rfl
def afx {t:TypeId} {m:Array (Nat×Operand)} {j:List (Nat×Nat)} {z:Value} (Z:Iy P t j z) (vs:List Ag) (hp:NI (fun(i:Nat)=>j[i]?) (FP z).length m.toList vs=true)
 (hd:(Jz (fun(i:Nat)=>j[i]?) (FP z) m.toList vs).all Ag.Ar=true) (ho:o.op=.build t m):
 Bl P o (NU m.toList vs) es (.d (.agg (J3 (Jz (fun(i:Nat)=>j[i]?) (FP z) m.toList vs)))) es:=
 .pure fun ok H a w _ _ hn=>by
  obtain⟨⟨S,hu,hf,q⟩,hz,h1⟩:=Z;have s:=aCa (P:=P) hz w;have u:(underlying t).run P w=.ok (.struct S) w:=by simp[underlying,hu]
  have hm:(S.mapM fun f=>(do pure (f.offset,←sizeOf f.type):Sem (Nat×Nat))).run P w=.ok j.toArray w:=by
   rw[aMq];rw[xP,aOv _ hf,q];rfl
  obtain⟨n,hc,I⟩:=wI (place:=fun(i:Nat)=>j[i]?) m.toList vs (FP z) z.cells (aMj (ok:=ok) (w:=w) (H:=H) h1) hp hn;refine⟨.agg n,?_,.d _ _ ?_⟩
  ·have e:(m.map fun(i,x)=>(i,a.eval x)).toList=m.toList.map fun p=>(p.1,a.eval p.2):=BP
   have e2:(fun(i:Nat)=>j.toArray[i]?)=(fun(i:Nat)=>j[i]?):=by funext i;simp
   simp only[execOp,ho,Instr.build,FB,s,u,hm,FK];rw[e,e2,hc];rfl
  rw[abN hd]at I;generalize J3 (Jz (fun(i:Nat)=>j[i]?) (FP z) m.toList vs)=xs at I ⊢;obtain⟨U,J⟩:=I;simp only[D8]at U J
  have Y:∀i,i<xs.length→(xs.map Ag.d).getD i .junk=.d (xs.getD i Dn):=by
   intro i hi;simp[List.getD,hi]
  have L:n.size=xs.length:=oJ
  refine .agg xs n L ?_ ?_<;>intro i hi
  ·have :=(J i hi).1;rw[Y i hi]at this;exact this
  have M:=(J i hi).2;rw[Y i hi]at M;have O:i<n.size:=AA
  have e:n.toList.getD i undef=n.getD i undef:=by simp[List.getD,Array.getD,O]
  rw[e]at M;cases M with |d _ _ h=>exact h
def ais {ok:Nat→Prop} {w:World} {H:List Bj} {ys:List D} {size b:Nat} {cells:Array Value} {e:TypeId} {fr:Nat×Nat} (m:∀y∈ys,y.cells.length=size) (J:w.heap[b]? =some (.cells cells e fr)) (n:ok b) (q:Gf ok w H (flat ys) cells.toList):
 Dz ok w (.sl ys) (.slice (some ⟨b,0,none⟩) ys.length ys.length):=by
 have z:=RJ m;have s:cells.size=ys.length*size:=by have :=q.1;simp at this;omega
 have L:∀i,i<ys.length→ys.getD i Dn∈ys:=fun i hi=>MX
 have u:∀i j,i<ys.length→j<size→i*size+j<ys.length*size:=by
  intro i j hi f
  calc i*size+j<i*size+size:=AA
   _=(i+1)*size:=by rw[Ud]
   _≤ys.length*size:=Lc _ hi
 have I:∀i j,i<ys.length→j<size→w.cell? ⟨b,0+(i*size+j),none⟩=some (cells.toList.getD (i*size+j) undef):=by
  intro i j hi f;have :=u i j hi f;rw[KG];simp[World.cell?,J,s,this,List.getD]
 refine .sl ys b 0 ys.length size (EG _) (fun _ _=>n) (fun i hi=>m _ (L i hi)) (fun i hi j f=>?_) (fun i hi j f=>?_) (fun i hi j f=>?_)
 ·have :=(q.2 (i*size+j) (by rw[z];exact u i j hi f)).1;rw[flat_get m i j hi f]at this;exact this
 ·rw[I i j hi f];rfl
 have :=(q.2 (i*size+j) (by rw[z];exact u i j hi f)).2;rw[flat_get m i j hi f]at this;unfold cellAt;rw[I i j hi f];cases this with |d _ _ h=>exact h
def aaM {t e:TypeId} {size j len:Nat} {z:Value} (hE:G8 P t e size j) (Z:(P.info? e).bind (·.zero)=some z) (h1:z.cells.all (·.oneCell')=true) (L:z.cells.size=size) (hlen:len*size≤16777216) {f:Array (Nat×Operand)} {vs:List Ag}
 (hp:NI (fun i=>some (i*size,size)) (len*size) f.toList vs=true) {ok:Nat→Prop} {w:World} {H:List Bj} {a:Act} (hn:∀n∈NU f.toList vs,R ok w H n.2 (a.eval n.1)):
 ∃cells,(Instr.buildSlice t len (f.map fun(i,x)=>(i,a.eval x))).run P w=.ok (.slice (some ⟨w.heap.size,0,none⟩) len len) (w.alloc (.cells cells e))∧Gf ok w H (Jz (fun i=>some (i*size,size)) (Qh z (len*size)) f.toList vs) cells.toList:=by
 obtain⟨i,z',hi,_,hs,_,_⟩:=hE.info;have M:=aCa (P:=P) Z w;have m:(sizeOf e).run P w=.ok size w:=aPD
 have q:(underlying t).run P w=.ok (.slice e) w:=aM3
 have Y:(f.map fun(i,x)=>(i,a.eval x)).toList=f.toList.map fun p=>(p.1,a.eval p.2):=BP
 have O:(Qh z (len*size)).length=len*size:=by simp[Qh]
 have s:0<z.cells.size:=by rw[L];exact hE.pos
 obtain⟨h,S,hR⟩:=wI (place:=fun i=>some (i*size,size)) f.toList vs (Qh z (len*size)) _ (alO (ok:=ok) (w:=w) (H:=H) (n:=len*size) h1 s) (by rw[O];exact hp) hn;refine⟨h,?_,hR⟩;have u:¬(len*size>2^24):=AA
 by_cases I:len*size=0
 ·have U:(Array.range (len*size)).map (fun k=>(z.cells[k % z.cells.size]! :Value))= #[]:=by rw[I];simp
  rw[U]at S;have J:(Array.range (len*size)).map (fun k=>((#[]:Array Value)[k % (#[]:Array Value).size]! :Value))= #[]:=by rw[I];simp
  simp only[Instr.buildSlice,FB,q,FK,m,u,Jq,Sem.run_ite,I,Jj,G6];simp only[I]at J;rw[J,Y,S];rfl
 simp only[Instr.buildSlice,FB,q,FK,m,u,Jq,Sem.run_ite,I,M,G6];rw[Y,S];rfl
def iP {t e:TypeId} {size h len:Nat} {z:Value} (hE:G8 P t e size h) (u:(P.info? e).bind (·.zero)=some z) (I:z.cells.all (·.oneCell')=true) (n:z.cells.size=size) (hlen:len*size≤16777216) {f:Array (Nat×Operand)} (vs:List Ag) (ys:List D)
 (J:NI (fun i=>some (i*size,size)) (len*size) f.toList vs=true) (q:Jz (fun i=>some (i*size,size)) (Qh z (len*size)) f.toList vs=flat ys) (L:ys.length=len) (j:ys.all (fun y=>decide (y.cells.length=size))=true) (M:o.op=.buildSlice t len f):
 Bl P o (NU f.toList vs) es (.d (.sl ys)) es:=
 .eff fun C ok H a w O S=>by
  obtain⟨cells,U,m⟩:=aaM hE u I n hlen J S;rw[q]at m;obtain⟨Y,s⟩:=O.fresh (.cells cells e);refine⟨.slice (some ⟨w.heap.size,0,none⟩) len len,_,_,H,.inl ?_,s,.refl _,Y,.d _ _ ?_⟩
  ·simp only[execOp,M,FB,U,FK,G6]
  rw[←L];exact ais (H:=H) (fun y q=>by rw[EZ]at j;simpa using j y q) (Y9 w _) (.inr rfl) (m.mono s (.refl _))
def aLo {t e:TypeId} {size h len:Nat} {z:Value} (hE:G8 P t e size h) (S:(P.info? e).bind (·.zero)=some z) (U:z.cells.all (·.oneCell')=true) (I:z.cells.size=size) (hlen:len*size≤16777216) {f:Array (Nat×Operand)} (vs:List Ag) (ys:List D)
 (Y:NI (fun i=>some (i*size,size)) (len*size) f.toList vs=true) (J:Jz (fun i=>some (i*size,size)) (Qh z (len*size)) f.toList vs=flat ys) (L:ys.length=len) (m:ys.all (fun y=>decide (y.cells.length=size))=true) (Z:o.op=.buildSlice t len f):
 Bl P o (NU f.toList vs) es (.aO es.length) (es++[.arr e size ys]):=
 .eff fun C ok H a w M hn=>by
  obtain⟨cells,hr,j⟩:=aaM hE S U I hlen Y hn;rw[J]at j;have n:∀y∈ys,y.cells.length=size:=fun y J=>by rw[EZ]at m;simpa using m y J
  have hfl:=RJ n;have q:cells.size=ys.length*size:=by have :=j.1;simp at this;omega
  have s:=hE.pos
  have O:ys.length≤16777216:=by
   have :ys.length*1≤ys.length*size:=Nat.mul_le_mul_left _ s;rw[L]at this ⊢;omega
  obtain⟨h2,h3⟩:=M.push (.cells cells e) ⟨.slice (some ⟨w.heap.size,0,none⟩) len len,size⟩ (.arr e size ys) (fun b u=>by simpa[Dq]using u.symm) (by
   refine⟨rfl,n,cells.toList,⟨V3,.inr ⟨w.heap.size,len,cells,by rw[L],Eh _,Y9 w _,AA,by unfold maxLen;omega,kV (by rw[q,L]),?_⟩⟩,?_⟩
   ·rw[Qp E5]
   exact j.mono (fun b u=>⟨u,Ju _ _ _ (M.kW b u)⟩) (Names.push _ _))
  refine⟨.slice (some ⟨w.heap.size,0,none⟩) len len,_,ok,_,.inl ?_,h3,Names.push _ _,h2,.aO _ _ _ _ size (by rw[←M.hlen];simp)⟩;simp only[execOp,Z,FB,hr,FK,G6]
end
section
variable {P : Program} {ops : Array Oper} {Q : Exit → Act → World → Prop} {φ : Nat → Value → World → Prop} {W : World} {a0 : Act} {i : Nat}
variable {d : Option Tmp} {t : TypeId} {p : String} {af : Array Edge} {g : Option (Nat × Bool)}
def Enters (P:Program) (f:FuncId):Prop:=∀args w,(callFunc f args).run P w=.ok (.enter f args) w
def enters_of {f:FuncId} {fn:Func} {c:Code} (j:P.funcs[f]? =some fn) (h:(fn.name== "runtime.NumGoroutine")=false) (m:fn.body=some c):Enters P f:=by
 intro args w;have n:fn.name≠ "runtime.NumGoroutine" :=Jc
 simp[callFunc,j,n,m]
def Dw (P:Program) (f:FuncId):Bool:=match P.funcs[f]? with
 |some fn=> !(fn.name== "runtime.NumGoroutine")&&fn.body.isSome
 |none=>false
def TF {f:FuncId} (h:Dw P f=true):Enters P f:=by
 unfold Dw at h;cases j:P.funcs[f]? with
 |none=>rw[j]at h;cases h
 |some fn=>
  rw[j]at h;simp only[DL,RY]at h;obtain⟨c,m⟩:=RH.1 h.2;exact enters_of j h.1 m
def nJ {o:Oper} {a:Act} {f:FuncId} {ats:Array TypeId} {aGI:Array Operand} (h:o.op=.call { callee:=.value (.func f),args:=aGI,argTypes:=ats }):execOp a.eval o=callFunc f (aGI.map a.eval):=by
 have j:a.eval (.func f)=.func (.func f) #[] #[]:=rfl;unfold execOp;simp[h,resolve,Deferred.ofValue,invoke,j]
end
inductive Dy where
 |ent (k:Nat)
 |nil (size:Nat)
def Dy.hd (H:List Bj):Dy→Bj
 | .ent k=>H.getD k ⟨undef,0⟩
 | .nil s=>⟨.slice none 0 0,s⟩
def Ag.VG (srcs:List Dy) (n:Nat):Ag→Ag
 | .d x=>.d x
 | .ptr k off=>match srcs[k]? with |some (.ent j)=>.ptr j off|some (.nil _)=>.junk|none=>.ptr (n+(k-srcs.length)) off
 | .aO k=>match srcs[k]? with |some (.ent j)=>.aO j|some (.nil _)=>.junk|none=>.aO (n+(k-srcs.length))
 | .lQ k i off=>match srcs[k]? with |some (.ent j)=>.lQ j i off|some (.nil _)=>.junk|none=>.lQ (n+(k-srcs.length)) i off
 | .mp k=>match srcs[k]? with |some (.ent j)=>.mp j|some (.nil _)=>.junk|none=>.mp (n+(k-srcs.length))
 | .xu k=>match srcs[k]? with |some (.ent j)=>.xu j|some (.nil _)=>.junk|none=>.xu (n+(k-srcs.length))
 | .clip xs=>.clip xs
 |_=>.junk
def Ag.up (srcs:List Dy) (n:Nat):Ag→Ag
 | .gy xs=>.gy (xs.map (Ag.VG srcs n))
 | .fn f fi ca=>.fn f (fi.map (Ag.VG srcs n)) (ca.map (Ag.VG srcs n))
 |x=>x.VG srcs n
def aLT (srcs:List Dy):Ag→Ag→Prop
 | .d x,y=>y=.d x
 | .ptr k off,y=>∃i,y=.ptr i off∧srcs[i]? =some (.ent k)
 | .mp k,y=>∃i,y=.mp i∧srcs[i]? =some (.ent k)
 |_,_=>False
def yN (srcs:List Dy):List Ag→List Ag→Prop
 |x::xs,y::ys=>aLT srcs x y∧yN srcs xs ys
 | [],[]=>True
 |_,_=>False
def rZ {srcs:List Dy}:∀{xs ys:List Ag},yN srcs xs ys→xs.length=ys.length
 | [],[],_=>rfl
 |_::xs,_::ys,h=>by simp[rZ h.2]
 | [],_::_,h=>h.elim
 |_::_,[],h=>h.elim
def aKR {srcs:List Dy}:∀{xs ys:List Ag},yN srcs xs ys→∀i,i<ys.length→aLT srcs (xs.getD i .junk) (ys.getD i .junk)
 | [],[],_,i,hi=>Nl
 |_::xs,_::ys,h,0,_=>by simpa using h.1
 |_::xs,_::ys,h,i+1,hi=>by simpa using aKR h.2 i Fp
 | [],_::_,h,_,_=>h.elim
 |_::_,[],h,_,_=>h.elim
def aQD (srcs:List Dy):Ag→Ag→Prop
 | .fn f fi ca,y=>∃h j,y=.fn f h j∧yN srcs fi h∧yN srcs ca j
 | .d x,y=>y=.d x∨(∃i s,x=.lit (.slice none 0 0)∧y=.aO i∧srcs[i]? =some (.nil s))∨(x=.lit (.slice none 0 0)∧y=.d (.sl []))
 | .aO k,y=>∃i,y=.aO i∧srcs[i]? =some (.ent k)
 | .ptr k off,y=>∃i,y=.ptr i off∧srcs[i]? =some (.ent k)
 | .mp k,y=>∃i,y=.mp i∧srcs[i]? =some (.ent k)
 |_,_=>False
def BN.closed:BN→Bool
 | .box cs=>cs.all Ag.Ar
 | .loop .. =>false
 |_=>true
def Eo.any {ok:Nat→Prop} {w:World} {H H2:List Bj} {h:Bj} {e:BN} (j:Eo ok w H h e) (q:e.closed=true):Eo ok w H2 h e:=by
 cases e with
 |dead=>trivial
 |box cs=>
  obtain⟨b,vs,T,u,z,I,n⟩:=j;refine⟨b,vs,T,u,z,I,fun i hi=>⟨(n i hi).1,?_⟩⟩;have m:=(n i hi).2;simp only[BN.closed,EZ]at q;have f:=q (cs.getD i .junk) MX;cases L:cs.getD i .junk with
  |d x=>rw[L]at m;cases m with |d _ _ h=>exact .d _ _ h
  |_=>rw[L]at f;simp[Ag.Ar]at f
 |arr e s es=>
  obtain⟨u,z,xs,I,n,m⟩:=j;refine⟨u,z,xs,I,n,fun i hi=>⟨(m i hi).1,?_⟩⟩;have f:=(m i hi).2;have J:(flat es).getD i .junk∈flat es:=MX
  unfold flat at J ⊢;simp only[Vo,GV]at J;obtain⟨x,_,y,_,M⟩:=J;unfold flat at f;rw[←M]at f ⊢;cases f with |d _ _ h=>exact .d _ _ h
 |map es=>exact j
 |dL es=>exact j
 |iter es vis=>exact j
 |loop=>cases q
def BN.up (srcs:List Dy) (n:Nat):BN→BN
 | .box cs=>.box (cs.map (Ag.VG srcs n))
 |e=>e
def Ag.arO (srcs:List Dy):Ag→Bool
 | .d _=>true
 | .mp k=>match srcs[k]? with |some (.ent _)=>true|_=>false
 | .ptr k _=>match srcs[k]? with |some (.ent _)=>true|_=>false
 |_=>false
def BN.am4 (srcs:List Dy):BN→Bool
 | .box cs=>cs.all (Ag.arO srcs)
 | .loop .. =>false
 |_=>true
def BN.aoU (srcs:List Dy) (n:Nat):BN→Bool
 | .box cs=>cs.all fun x=>x.Ar||(x.VG srcs n).leaf
 | .loop .. =>false
 |_=>true
def BN.aeo (srcs:List Dy) (n:Nat) (e:BN):(e.up srcs n).live=e.live:=by cases e<;>rfl
def aVf {srcs:List Dy} {n:Nat} {x:Ag} (h:x.Ar=true):x.VG srcs n=x:=by cases x<;>first|rfl|cases h
def BN.ayC {srcs:List Dy} {n:Nat} {e:BN} (h:e.closed=true):e.up srcs n=e:=by
 cases e with
 |box cs=>
  simp only[BN.closed,EZ]at h;show BN.box (cs.map (Ag.VG srcs n))=BN.box cs
  rw[show cs.map (Ag.VG srcs n)=cs from by
   conv=>rhs;rw[←List.map_id cs]
   exact List.map_congr_left fun x f=>aVf (h x f)]
 |_=>rfl
def aSB {srcs:List Dy} {n:Nat}:∀{E:List BN},E.all BN.closed=true→E.map (BN.up srcs n)=E
 | [],_=>rfl
 |e::E,h=>by
  simp only[List.all_cons,DL]at h;rw[Ld,BN.ayC h.1,aSB h.2]
def afR {srcs:List Dy} {n:Nat} {e:BN} (h:e.closed=true):e.aoU srcs n=true:=by
 cases e with
 |box cs=>
  simp only[BN.closed,BN.aoU,EZ]at h ⊢;intro x f;rw[h x f];rfl
 |loop=>cases h
 |_=>rfl
def Eo.down {ok:Nat→Prop} {w:World} {H Hc:List Bj} {h:Bj} {srcs:List Dy} {n:Nat} {e:BN} (J:∀(j:Nat) (s:Dy),srcs[j]? =some s→Hc[j]? =some (Dy.hd H s)) (hd:e.am4 srcs=true) (u:Eo ok w H h (e.up srcs n)):Eo ok w Hc h e:=by
 cases e with
 |dead=>trivial
 |arr=>exact u.any rfl
 |map=>exact u
 |dL=>exact u
 |iter=>exact u
 |loop=>cases hd
 |box cs=>
  obtain⟨b,vs,T,L,M,O,S⟩:=u;refine⟨b,vs,T,L,M,by rw[O,D8],fun i hi=>?_⟩;obtain⟨z,m⟩:=S i aMG;rw[Ro _ _ _ hi]at m z;simp only[BN.am4,EZ]at hd;have f:=hd (cs.getD i .junk) MX;generalize cs.getD i .junk=x at m f z ⊢;generalize vs.toList.getD i undef=v at m ⊢;cases x with
  |d x=>exact⟨z,by cases m with |d _ _ h=>exact .d _ _ h⟩
  |mp k=>
   refine⟨rfl,?_⟩;simp only[Ag.arO]at f;simp only[Ag.VG]at m;cases q:srcs[k]? with
   |none=>rw[q]at f;cases f
   |some s=>
    cases s with
    |nil _=>rw[q]at f;cases f
    |ent j=>
     rw[q]at m;cases m with
     |mp _ _ s U I=>
      refine .mp k _ s U ?_;rw[J k _ q];simp[Dy.hd,List.getD,I]
  |ptr k off=>
   refine⟨rfl,?_⟩;simp only[Ag.arO]at f;simp only[Ag.VG]at m;cases q:srcs[k]? with
   |none=>rw[q]at f;cases f
   |some s=>
    cases s with
    |nil _=>rw[q]at f;cases f
    |ent j=>
     rw[q]at m;cases m with
     |ptr _ _ b s I=>
      refine .ptr k off b s ?_;rw[J k _ q];simp[Dy.hd,List.getD,I]
  |_=>simp[Ag.arO]at f
def MF (srcs:List Dy) (es E':List BN):List BN:=
 (es.zipIdx.map fun(e,j)=>match srcs.findIdx? (fun s=>match s with | .ent k=>k==j| .nil _=>false)with |some i=>(E'.getD i .dead).up srcs es.length|none=>e)++(E'.drop srcs.length).map (BN.up srcs es.length)
def RP (srcs:List Dy) (es E E':List BN):Bool:=
 decide (srcs.length=E.length)&&decide (srcs.length≤E'.length)&&E.all (BN.am4 srcs)&&E'.all (BN.aoU srcs es.length)&&
 decide ((srcs.filterMap fun s=>match s with | .ent k=>some k| .nil _=>none).Nodup)&&
 ((srcs.zip E').all fun p=>match p.1 with | .ent _=>true| .nil _=> !p.2.live)&&(srcs.all fun s=>match s with | .ent k=>decide (k<es.length)&&(es.getD k .dead).live| .nil _=>true)
def sW (srcs:List Dy) (es:List BN):List BN→Prop
 |E=>∀(i:Nat) (s:Dy),srcs[i]? =some s→match s with | .ent k=>(E[i]?).map (BN.up srcs es.length)=es[k]? | .nil sz=>∃e,E[i]? =some (.arr e sz [])
def UE {ok:Nat→Prop} {w:World} {H Hc H':List Bj} {srcs:List Dy} {x:Ag} {v:Value} (S:Hc=srcs.map (Dy.hd H)) (J:∀(i k:Nat),srcs[i]? =some (.ent k)→k<H.length) (U:Names Hc H') (h:R ok w H' x v):R ok w (H++H'.drop srcs.length) (x.VG srcs H.length) v:=by
 have key:∀(k:Nat) (hd:Bj),H'[k]? =some hd→(∀(j:Nat),srcs[k]? =some (.ent j)→(H++H'.drop srcs.length)[j]? =some hd)∧(srcs[k]? =none→(H++H'.drop srcs.length)[H.length+(k-srcs.length)]? =some hd):=by
  intro k hd M;refine⟨fun j O=>?_,fun L=>?_⟩
  ·have z:=J k j O;have u:Hc[k]? =some (H.getD j ⟨undef,0⟩):=by rw[S,JZ,O];rfl
   have q:=U _ _ u;rw[M]at q;rw[GZ z];simp[List.getD,z]at q;simp[z,q]
  have Y:srcs.length≤k:=aAH
  rw[Jh AA,VT];have :srcs.length+(H.length+(k-srcs.length)-H.length)=k:=AA
  rw[this,M]
 cases h with
 |d x v h=>exact .d x v h
 |ptr k off b s h=>
  obtain⟨u,q⟩:=key k _ h;simp only[Ag.VG];split<;>rename_i m
  ·exact .ptr _ off b s (u _ m)
  ·exact .junk _
  exact .ptr _ off b s (q m)
 |aO k ad n cap s h=>
  obtain⟨u,q⟩:=key k _ h;simp only[Ag.VG];split<;>rename_i m
  ·exact .aO _ ad n cap s (u _ m)
  ·exact .junk _
  exact .aO _ ad n cap s (q m)
 |lQ k i off b n cap s h=>
  obtain⟨u,q⟩:=key k _ h;simp only[Ag.VG];split<;>rename_i m
  ·exact .lQ _ i off b n cap s (u _ m)
  ·exact .junk _
  exact .lQ _ i off b n cap s (q m)
 |mp k v s I h=>
  obtain⟨u,q⟩:=key k _ h;simp only[Ag.VG];split<;>rename_i m
  ·exact .mp _ v s I (u _ m)
  ·exact .junk _
  exact .mp _ v s I (q m)
 |clip xs ad h=>exact .clip xs ad h
 |xu k ad n cap s h=>
  obtain⟨u,q⟩:=key k _ h;simp only[Ag.VG];split<;>rename_i m
  ·exact .xu _ ad n cap s (u _ m)
  ·exact .junk _
  exact .xu _ ad n cap s (q m)
 |fn f first cap vs us I Z h h'=>exact .junk _
 |gy xs vs I h=>exact .junk _
 |ag xs vs I hf h=>exact .junk _
 |junk v=>exact .junk _
def aQQ {ok:Nat→Prop} {w:World} {H Hc H':List Bj} {srcs:List Dy} {x:Ag} {v:Value} (m:Hc=srcs.map (Dy.hd H)) (j:∀(i k:Nat),srcs[i]? =some (.ent k)→k<H.length) (q:Names Hc H') (h:R ok w H' x v):R ok w (H++H'.drop srcs.length) (x.up srcs H.length) v:=by
 cases h with
 |gy xs vs u h=>exact .gy _ vs dB (fun i hi=>abj)
 |ag xs vs u I h=>exact .junk _
 |d x v h=>exact UE m j q (.d x v h)
 |ptr k off b s h=>exact UE m j q (.ptr k off b s h)
 |aO k ad n cap s h=>exact UE m j q (.aO k ad n cap s h)
 |lQ k i off b n cap s h=>exact UE m j q (.lQ k i off b n cap s h)
 |mp k v s u h=>exact UE m j q (.mp k v s u h)
 |clip xs ad h=>exact UE m j q (.clip xs ad h)
 |xu k ad n cap s h=>exact UE m j q (.xu k ad n cap s h)
 |fn f first cap vs us u z h h'=>exact .fn f _ _ vs us dB (by simp[z]) (fun i hi=>abj) (fun i hi=>by rw[D8]at hi;rw[Ro _ _ _ hi];exact UE m j q (h' i hi))
 |junk v=>exact .junk _
def Eo.upw {ok:Nat→Prop} {w:World} {H Hc H':List Bj} {h:Bj} {srcs:List Dy} {n:Nat} {e:BN} (s:Hc=srcs.map (Dy.hd H)) (m:∀(i k:Nat),srcs[i]? =some (.ent k)→k<H.length) (u:Names Hc H') (z:H.length=n) (q:e.aoU srcs n=true) (f:Eo ok w H' h e):
 Eo ok w (H++H'.drop srcs.length) h (e.up srcs n):=by
 cases e with
 |dead=>trivial
 |arr=>exact f.any rfl
 |map=>exact f
 |dL=>exact f
 |iter=>exact f
 |loop=>cases q
 |box cs=>
  obtain⟨b,vs,T,I,J,L,M⟩:=f;refine⟨b,vs,T,I,J,by rw[L,D8],fun i hi=>?_⟩;rw[D8]at hi;obtain⟨O,S⟩:=M i hi;simp only[BN.aoU,EZ]at q;have j:=q (cs.getD i .junk) MX;rw[Ro _ _ _ hi];refine⟨?_,by have :=UE s m u S;rwa [z]at this⟩;rcases Bool.or_eq_true_iff.1 j with j|j
  ·rw[aVf j];exact O
  exact j
def F8 :List Operand→List Ag→List (Operand×Ag)
 |x::xs,v::vs=>(x,v)::F8 xs vs
 |_,_=>[]
def NH (srcs:List Dy):List Ag→List Ag→Prop
 |x::xs,y::ys=>aQD srcs x y∧NH srcs xs ys
 | [],[]=>True
 |_,_=>False
def aTr {srcs:List Dy}:∀{xs ys:List Ag},NH srcs xs ys→xs.length=ys.length
 | [],[],_=>rfl
 |_::xs,_::ys,h=>by simp[aTr h.2]
 | [],_::_,h=>h.elim
 |_::_,[],h=>h.elim
def aks {srcs:List Dy} {ops:List Operand}:∀{xs ys:List Ag},ops.length=xs.length→NH srcs xs ys→∀i,i<ys.length→∃o x,ops[i]? =some o∧(o,x)∈F8 ops xs∧aQD srcs x (ys.getD i .junk):=by
 induction ops with
 |nil=>
  intro xs ys f h i hi;cases xs with
  |nil=>cases ys with |nil=>simp at hi|cons _ _=>exact h.elim
  |cons _ _=>simp at f
 |cons o ops j=>
  intro xs ys f h i hi;cases xs with
  |nil=>simp at f
  |cons x xs=>
   cases ys with
   |nil=>exact h.elim
   |cons y ys=>
    cases i with
    |zero=>exact⟨o,x,rfl,by simp[F8],h.1⟩
    |succ i=>
     obtain⟨m,n,q,s,u⟩:=j LJ h.2 i Fp;exact⟨m,n,V3,by simp[F8,s],RF⟩
def asP {srcs:List Dy} {H:List Bj} {b:Nat}:b∈(srcs.filterMap fun s=>match s with | .ent k=>Dq (H.getD k ⟨undef,0⟩).v| .nil _=>none)↔∃k,.ent k∈srcs∧Dq (H.getD k ⟨undef,0⟩).v=some b:=by
 rw[Ti];constructor
 ·rintro⟨s,f,h⟩;cases s with
  |ent k=>exact⟨k,f,h⟩
  |nil _=>cases h
 rintro⟨k,f,h⟩;exact⟨_,f,h⟩
section
variable {P : Program} {o : Oper} {es : List BN}
def aPr :∀{srcs:List Dy},(srcs.filterMap fun s=>match s with | .ent k=>some k| .nil _=>none).Nodup→∀(i j k:Nat),srcs[i]? =some (.ent k)→srcs[j]? =some (.ent k)→i=j
 | [],_,i,j,k,h,_=>Hr
 |s::srcs,m,i,j,k,hi,q=>by
  have f:∀(n:Nat),srcs[n]? =some (.ent k)→k∈srcs.filterMap fun s=>match s with | .ent k=>some k| .nil _=>none:=fun n h=>by
   rw[Ti];exact⟨_,Vj h,rfl⟩
  have u:(srcs.filterMap fun s=>match s with | .ent k=>some k| .nil _=>none).Nodup:=by
   cases s with
   |ent k'=>simp only[Qs]at m;exact(NM.1 m).2
   |nil _=>simpa only[Qs]using m
  match i,j with
  |0,0=>rfl
  |0,j+1=>
   simp at hi q;subst hi;simp only[Qs]at m;exact absurd (f j q) (NM.1 m).1
  |i+1,0=>
   simp at hi q;subst q;simp only[Qs]at m;exact absurd (f i hi) (NM.1 m).1
  |i+1,j+1=>rw[aPr u i j k Fp V3]
def aQs {f:FuncId} {C:EW} {ok:Nat→Prop} {H:List Bj} {w:World} (Y:DI C ok H es w) (srcs:List Dy) {eU fV:List Ag} {E E':List BN} {res:Ag} (hr:Ak P f fV E res E')
 (hb:RP srcs es E E'=true) (hE:sW srcs es E) (ha:NH srcs eU fV) {ops:List Operand} (hl:ops.length=eU.length) {a:Act} (hn:∀n∈F8 ops eU,R ok w H n.2 (a.eval n.1)):
 Calls P f (ops.map a.eval).toArray w fun e w'=>∃v ok' H',e=.returned v∧EU ok w ok' w'∧Names H H'∧DI C ok' H' (MF srcs es E') w'∧R ok' w' H' (res.up srcs es.length) v:=by
 unfold RP at hb;simp only[DL,H6,EZ]at hb;obtain⟨⟨⟨⟨⟨⟨hb1,hb2⟩,hb3⟩,hb4⟩,hb5⟩,hb6⟩,hb7⟩:=hb;have hidx:=aPr hb5
 let Hc:=srcs.map (Dy.hd H)
 let X:=srcs.filterMap fun s=>match s with | .ent k=>Dq (H.getD k ⟨undef,0⟩).v| .nil _=>none
 have hX:∀b,b∈X↔∃k,.ent k∈srcs∧Dq (H.getD k ⟨undef,0⟩).v=some b:=fun b=>asP
 have S:∀(i k:Nat),srcs[i]? =some (.ent k)→k<es.length∧(es.getD k .dead).live=true:=by
  intro i k hi;have :=hb7 _ (Vj hi);simpa using this
 have hlt:∀(i k:Nat),srcs[i]? =some (.ent k)→k<H.length:=fun i k hi=>by rw[Y.hlen];exact(S i k hi).1
 have hHk:∀(k:Nat),k<H.length→H[k]? =some (H.getD k ⟨undef,0⟩):=fun k hk=>by simp[List.getD,hk]
 have aoV:∀(k:Nat),k<es.length→es[k]? =some (es.getD k .dead):=fun k hk=>by simp[List.getD,hk]
 have L:∀b,b∈X→∃(i k:Nat),srcs[i]? =some (.ent k)∧Dq (H.getD k ⟨undef,0⟩).v=some b∧¬ok b∧b<w.heap.size∧(C.w0.heap.size≤b∨b∈C.X):=by
  intro b hb;obtain⟨k,hk,hbk⟩:=(hX b).1 hb;obtain⟨i,hi,M⟩:=JJ hk;have hi':srcs[i]? =some (.ent k):=by simp[hi,M]
  have :=Y.blk k _ _ b (aoV k (S i k hi').1) (S i k hi').2 (hHk k (hlt i k hi')) hbk;exact⟨i,k,hi',hbk,this⟩
 have hmc:DI ⟨w,ok,X,Hc⟩ ok Hc E w:=by
  refine⟨.refl _ _,fun _ h=>h,fun _ h=>.inl h,Y.kW,.refl _,by simp[Hc,hb1],?_,?_,?_⟩
  ·intro i e h M I;have hi:i<srcs.length:=aMO
   have hcl:e.am4 srcs=true:=hb3 e (Vj M);have aFS:∀(j:Nat) (s:Dy),srcs[j]? =some s→Hc[j]? =some (Dy.hd H s):=fun j s m=>by simp[Hc,m]
   have m:srcs[i]? =some srcs[i]:=QY
   have hd:=hE i _ m;simp only[Hc,JZ,m,Ie,MI]at I;cases hsi:srcs[i]with
   |ent k=>
    rw[hsi]at hd I m;simp only[Dy.hd]at I;subst I;simp only at hd;rw[M,Ie]at hd;exact Eo.down aFS hcl (Y.ent k _ _ hd.symm (hHk k (hlt i k m)))
   |nil sz=>
    rw[hsi]at hd I;simp only[Dy.hd]at I;subst I;obtain⟨e',he'⟩:=hd;rw[M]at he';obtain rfl:=Cx he';exact⟨rfl,BP,[],⟨BP,.inl ⟨rfl,rfl⟩⟩,Yy,fun i hi=>aEV⟩
  ·intro i e h b M J I z;have hi:i<srcs.length:=aMO
   have m:srcs[i]? =some srcs[i]:=QY
   simp only[Hc,JZ,m,Ie,MI]at I;cases hsi:srcs[i]with
   |ent k=>
    rw[hsi]at I m;simp only[Dy.hd]at I;subst I;have hbX:b∈X:=(hX b).2 ⟨k,Vj m,z⟩;obtain⟨_,_,_,_,O,U,_⟩:=L b hbX;exact⟨O,U,.inr hbX⟩
   |nil sz=>
    rw[hsi]at I;simp only[Dy.hd]at I;subst I;simp[Dq]at z
  intro i j e e' h h' b M he' J Z I hh' z alT;have hi:i<srcs.length:=aMO
  have hj:j<srcs.length:=by rw[hb1];exact(FN.1 he').1
  have m:srcs[i]? =some srcs[i]:=QY
  have hs':srcs[j]? =some srcs[j]:=by simp[hj]
  simp only[Hc,JZ,m,Ie,MI]at I;simp only[Hc,JZ,hs',Ie,MI]at hh';cases hsi:srcs[i]with
  |nil sz=>rw[hsi]at I;simp only[Dy.hd]at I;subst I;simp[Dq]at z
  |ent k=>
   cases hsj:srcs[j]with
   |nil sz=>rw[hsj]at hh';simp only[Dy.hd]at hh';subst hh';simp[Dq]at alT
   |ent k'=>
    rw[hsi]at I m;rw[hsj]at hh' hs';simp only[Dy.hd]at I hh';subst I;subst hh';have hkk:=Y.DU k k' _ _ _ _ b (aoV k (S i k m).1) (aoV k' (S j k' hs').1) (S i k m).2 (S j k' hs').2 (hHk k (hlt i k m)) (hHk k' (hlt j k' hs')) z alT;subst hkk;exact hidx i j k m hs'
 have hargs:∀i,i<fV.length→R ok w Hc (fV.getD i .junk) ((ops.map a.eval).toArray.getD i undef):=by
  intro i hi;obtain⟨op,x,ho,hmem,harg⟩:=aks hl ha i hi;have hR:=hn _ hmem
  have e:(ops.map a.eval).toArray.getD i undef=a.eval op:=by
   obtain⟨O,U⟩:=FN.1 ho;simp[Array.getD,O,U]
  rw[e];simp only at hR;generalize fV.getD i .junk=y at harg ⊢;generalize a.eval op=u at hR ⊢;have hHc:∀(j:Nat) (s:Dy),srcs[j]? =some s→Hc[j]? =some (Dy.hd H s):=fun j s m=>by simp[Hc,m]
  cases x with
  |d x=>
   rcases harg with rfl|⟨j,s,rfl,rfl,m⟩|⟨rfl,rfl⟩
   ·cases hR with |d _ _ h=>exact .d _ _ h
   ·have :=hR.lit;rw[this];exact .aO j none 0 0 s (hHc j _ m)
   have :=hR.lit;rw[this];exact .d _ _ (.sl0 none 0)
  |aO k=>
   obtain⟨j,rfl,m⟩:=harg;cases hR with
   |aO _ ad n cap s hH=>
    refine .aO j ad n cap s ?_;rw[hHc j _ m];simp[Dy.hd,List.getD,hH]
  |ptr k off=>
   obtain⟨j,rfl,m⟩:=harg;cases hR with
   |ptr _ _ b s hH=>
    refine .ptr j off b s ?_;rw[hHc j _ m];simp[Dy.hd,List.getD,hH]
  |mp k=>
   obtain⟨j,rfl,m⟩:=harg;cases hR with
   |mp _ _ s hl hH=>
    refine .mp j _ s hl ?_;rw[hHc j _ m];simp[Dy.hd,List.getD,hH]
  |fn f fi ca=>
   obtain⟨fi',ca',rfl,O,U⟩:=harg
   have one:∀(x y:Ag) (v:Value),aLT srcs x y→R ok w H x v→R ok w Hc y v:=by
    intro x y v hxy hx;cases x with
    |d x=>obtain rfl:=hxy;cases hx with |d _ _ h=>exact .d _ _ h
    |mp k=>
     obtain⟨j,rfl,m⟩:=hxy;cases hx with
     |mp _ _ s hl hH=>
      refine .mp j _ s hl ?_;rw[hHc j _ m];simp[Dy.hd,List.getD,hH]
    |ptr k off=>
     obtain⟨j,rfl,m⟩:=hxy;cases hx with
     |ptr _ _ b s hH=>
      refine .ptr j off b s ?_;rw[hHc j _ m];simp[Dy.hd,List.getD,hH]
    |_=>exact hxy.elim
   cases hR with
   |fn _ _ _ vs us hl1 hl2 h3 h4=>
    refine .fn f fi' ca' vs us (by rw[hl1,rZ O]) (by rw[hl2,rZ U]) (fun i hi=>?_) (fun i hi=>?_)
    ·exact one _ _ _ (aKR O i hi) (h3 i (by rw[rZ O];exact hi))
    exact one _ _ _ (aKR U i hi) (h4 i (by rw[rZ U];exact hi))
  |_=>exact harg.elim
 refine(hr ok X Hc w _ hmc (by simp[hl,aTr ha]) hargs).mono ?_;rintro e w' ⟨v,ok',H',rfl,q,hR⟩;have hgr:EU ok w ok' w':=fun b hb=>⟨q.xU b hb,q.fr.block b (Y.kW b hb) (fun hbX=>by obtain⟨_,_,_,_,O,_⟩:=L b hbX;exact O hb)⟩
 have aGC:srcs.length≤H'.length:=by rw[q.hlen];exact hb2
 refine⟨v,ok',H++H'.drop srcs.length,rfl,hgr,Names.push _ _,?_,by have :=aQQ rfl hlt q.names hR;rwa [Y.hlen]at this⟩
 let idx:Nat→Option Nat:=fun j=>srcs.findIdx? (fun s=>match s with | .ent k=>k==j| .nil _=>false)
 have aEW:∀(j i:Nat),idx j=some i→srcs[i]? =some (.ent j):=by
  intro j i h;simp only[idx,aQK]at h;obtain⟨O,U,_⟩:=h;have :srcs[i]? =some srcs[i]:=by simp[O]
  cases m:srcs[i]with
  |ent k=>rw[m]at U this;simp at U;rw[this,U]
  |nil _=>rw[m]at U;simp at U
 have aEX:∀(j:Nat),idx j=none→∀(i:Nat),srcs[i]? ≠some (.ent j):=by
  intro j h i hi;simp only[idx,List.findIdx?_eq_none_iff]at h;have :=h _ (Vj hi);simp at this
 have hlow:∀(j:Nat),j<es.length→(MF srcs es E')[j]? =some (match idx j with |some i=>(E'.getD i .dead).up srcs es.length|none=>es.getD j .dead):=by
  intro j hj;unfold MF;rw[GZ (by simpa using hj)];simp only[JZ,List.getElem?_zipIdx,aoV j hj,Ie,KG];rfl
 have aDL:(MF srcs es E').length=es.length+(E'.length-srcs.length):=by simp[MF]
 have hhigh:∀(j:Nat),es.length≤j→(MF srcs es E')[j]? =(E'[srcs.length+(j-es.length)]?).map (BN.up srcs es.length):=by
  intro j hj;unfold MF;rw[Jh (by simpa using hj),JZ,VT];simp
 have aEY:∀(j:Nat),j<es.length→(H++H'.drop srcs.length)[j]? =H[j]? :=fun j hj=>GZ (by rw[Y.hlen];exact hj)
 have aDM:∀(j:Nat),es.length≤j→(H++H'.drop srcs.length)[j]? =H'[srcs.length+(j-es.length)]? :=by
  intro j hj;rw[Jh (by rw[Y.hlen];exact hj),VT,Y.hlen]
 have hcls:∀(j:Nat) (e:BN) (h:Bj),(MF srcs es E')[j]? =some e→e.live=true∨True→(H++H'.drop srcs.length)[j]? =some h→
  (∃(i:Nat) (e0:BN),e=e0.up srcs es.length∧E'[i]? =some e0∧H'[i]? =some h∧((j<es.length∧srcs[i]? =some (.ent j))∨(es.length≤j∧i=srcs.length+(j-es.length))))∨(j<es.length∧es[j]? =some e∧H[j]? =some h∧∀(i:Nat),srcs[i]? ≠some (.ent j)):=by
  intro j e h M _ I;by_cases hj:j<es.length
  ·rw[hlow j hj]at M;rw[aEY j hj]at I;cases hi:idx j with
   |none=>
    rw[hi]at M;simp only[MI]at M;exact .inr ⟨hj,by rw[aoV j hj,M],I,aEX j hi⟩
   |some i=>
    rw[hi]at M;simp only[MI]at M;have m:=aEW j i hi;have hil:i<srcs.length:=(FN.1 m).1;have hiE:i<E'.length:=AA
    refine .inl ⟨i,_,M.symm,by simp[List.getD,hiE],?_,.inl ⟨hj,m⟩⟩;refine q.names i h ?_;simp only[Hc,JZ,m,Ie,Dy.hd];simp[List.getD,I]
  rw[hhigh j AA]at M;rw[aDM j AA]at I;rw[UU]at M;obtain⟨e0,M,rfl⟩:=M;exact .inl ⟨_,_,rfl,M,I,.inr ⟨AA,rfl⟩⟩
 have hold:∀(j:Nat) (e:BN) (h:Bj) (b:Nat),es[j]? =some e→H[j]? =some h→(∀(i:Nat),srcs[i]? ≠some (.ent j))→e.live=true→Dq h.v=some b→b<w.heap.size∧b∉X∧¬ok b∧(C.w0.heap.size≤b∨b∈C.X):=by
  intro j e h b M I hno J z;have O:=Y.blk j e h b M J I z;refine⟨O.2.1,fun hbX=>?_,O.1,O.2.2⟩;obtain⟨i,k,m,hbk,_⟩:=L b hbX;have :=Y.DU j k e _ h _ b M (aoV k (S i k m).1) J (S i k m).2 I (hHk k (hlt i k m)) z hbk;subst this;exact hno i m
 have aoW:∀(i:Nat) (e:BN) (h:Bj) (b:Nat),E'[i]? =some e→H'[i]? =some h→e.live=true→Dq h.v=some b→¬ok' b∧b<w'.heap.size∧(w.heap.size≤b∨b∈X):=fun i e h b M I J z=>q.blk i e h b M J I z;refine⟨⟨q.fr.os.trans Y.fr.os,q.fr.tape.trans Y.fr.tape,q.fr.output.trans Y.fr.output,Ei Y.fr.size q.fr.size,fun k hk hx=>?_⟩,fun b hb=>q.xU b (Y.xU b hb),?_,q.kW,Y.names.trans (Names.push _ _),?_,?_,?_,?_⟩
 ·have hkw:k<w.heap.size:=VP hk Y.fr.size
  rw[q.fr.block k hkw (fun hkX=>by
   obtain⟨_,_,_,_,_,_,h⟩:=L k hkX;rcases h with h|h
   ·omega
   exact hx h)]
  exact Y.fr.block k hk hx
 ·intro b hb;rcases q.xW b hb with h|h|h
  ·exact Y.xW b h
  ·exact .inr (.inl (Ei Y.fr.size h))
  obtain⟨_,_,_,_,_,_,h⟩:=L b h;exact .inr h
 ·rw[aDL,ES,Q9,Y.hlen,q.hlen]
 ·intro j e h M I;rcases hcls j e h M (.inr trivial) I with⟨i,e0,rfl,O,U,_⟩|⟨_,O,U,h3⟩
  ·exact Eo.upw rfl hlt q.names Y.hlen (hb4 e0 (Vj O)) (q.ent i e0 h O U)
  refine(Y.ent j e h O U).mono hgr (Names.push _ _) (fun J b z=>?_);have h4:=hold j e h b O U h3 J z;exact q.fr.block b h4.1 h4.2.1
 ·intro j e h b M J I z;rcases hcls j e h M (.inr trivial) I with⟨i,e0,rfl,O,U,_⟩|⟨_,O,U,h3⟩
  ·have h4:=aoW i e0 h b O U aK3 z;refine⟨h4.1,h4.2.1,?_⟩;rcases h4.2.2 with h5|h5
   ·exact .inl (Ei Y.fr.size h5)
   obtain⟨_,_,_,_,_,_,h⟩:=L b h5;exact h
  have h4:=hold j e h b O U h3 J z;refine⟨fun hok'=>?_,VP h4.1 q.fr.size,h4.2.2.2⟩;rcases q.xW b hok' with h5|h5|h5
  ·exact h4.2.2.1 h5
  ·have :w.heap.size≤b:=h5;omega
  exact h4.2.1 h5
 intro j j' e e' h h' b M he' J Z I hh' z alT;rcases hcls j e h M (.inr trivial) I with⟨i,e0,rfl,O,U,h3⟩|⟨_,O,U,h3⟩
 ·rcases hcls j' e' h' he' (.inr trivial) hh' with⟨i',e0',rfl,h1',h2',h3'⟩|⟨_,h1',h2',h3'⟩
  ·have hii:=q.DU i i' e0 e0' h h' b O h1' aK3 (by rw[BN.aeo]at Z;exact Z) U h2' z alT;subst hii;rcases h3 with⟨_,h4⟩|⟨h4,h5⟩
   ·rcases h3' with⟨_,h4'⟩|⟨h4',h5'⟩
    ·rw[h4]at h4';simpa using h4'
    have :=(FN.1 h4).1;omega
   rcases h3' with⟨_,h4'⟩|⟨h4',h5'⟩
   ·have :=(FN.1 h4').1;omega
   omega
  have h4:=hold j' e' h' b h1' h2' h3' Z alT;rcases(aoW i e0 h b O U aK3 z).2.2 with h5|h5
  ·omega
  exact absurd h5 h4.2.1
 rcases hcls j' e' h' he' (.inr trivial) hh' with⟨i',e0',rfl,h1',h2',h3'⟩|⟨_,h1',h2',h3'⟩
 ·have h4:=hold j e h b O U h3 J z;rcases(aoW i' e0' h' b h1' h2' (by rw[BN.aeo]at Z;exact Z) alT).2.2 with h5|h5
  ·omega
  exact absurd h5 h4.2.1
 exact Y.DU j j' e e' h h' b O h1' J Z U h2' z alT
def ad8 {f:FuncId} {ops:Array Operand} {ats:Array TypeId} (srcs:List Dy) {eU fV:List Ag} {E E':List BN} {h:Ag} (j:Ak P f fV E h E') (m:Dw P f=true) (n:RP srcs es E E'=true) (hE:sW srcs es E) (ha:NH srcs eU fV) (q:ops.toList.length=eU.length)
 (s:o.op=.call { callee:=.value (.func f),args:=ops,argTypes:=ats }):Bl P o (F8 ops.toList eU) es (h.up srcs es.length) (MF srcs es E'):=by
 intro C ok H a w Q u z;unfold Oper.wp;rw[nJ s,TF m,ZQ];have e:ops.map a.eval=(ops.toList.map a.eval).toArray:=zl
 rw[e];refine(aQs u srcs j n hE ha q z).mono ?_;rintro e w' ⟨v,ok',H',rfl,I,J,L,M⟩;exact⟨v,ok',H',rfl,I,J,L,M⟩
end
def AY (n:Int):D:=.lit (.int .i64 n)
def DC (n:Int):D:=.lit (.int .u8 n)
def D7 (b:Bool):D:=.lit (.bool b)
def Cm (s:ByteArray):D:=.lit (.string s)
def BD {α:Type} (e:α→D) (l:List α):D:=.sl (l.map e)
def Af (x:D):List Ag:=x.cells.map .d
def Aj {α:Type} (l:List α) (i:Int):Option α:=if 0≤i then l[i.toNat]? else none
def CY {α:Type} (f:Nat) (l m:List α):Option (List α):=if(l.length+m.length)*f≤140737488355328 then some (l++m)else none
def Gq (s:ByteArray) (i:Int):Option Int:=if 0≤i then(s[i.toNat]?).map fun c=>(c.toNat:Int)else none
def HY {α:Type} (l:List α) (lo hi:Int):Option (List α):=if 0≤lo∧lo≤hi∧hi≤l.length then some ((l.drop lo.toNat).take (hi.toNat-lo.toNat))else none
def NV (s:ByteArray) (lo hi:Int):Option ByteArray:=if 0≤lo∧lo≤hi∧hi≤s.size then some (s.extract lo.toNat hi.toNat)else none
def JR {α:Type} (f:Nat) (z:α) (n c:Int):Option (List α):=if 0≤n∧n≤c∧(f:Int)*c≤140737488355328 then some (List.replicate n.toNat z)else none
def FT {α:Type} {l:List α} {i:Int} {x:α} (h:Aj l i=some x):0≤i∧l[i.toNat]? =some x:=by
 unfold Aj at h;split at h
 ·exact⟨‹_›,h⟩
 cases h
def ahb {α β:Type} {l:List α} {i:Nat} {x:α} (f:α→β) (h:l[i]? =some x):(l.map f)[i]? =some (f x):=wB
def MK {α:Type} {b:Bool} {x y z:α} (f:b=true) (h:(bif b then x else y)=z):x=z:=by subst f;exact h
def Lp {α:Type} {b:Bool} {x y z:α} (f:b=false) (h:(bif b then x else y)=z):y=z:=by subst f;exact h
def DK {α β:Type} {x:Option α} {f:α→Option β} {z:β} (h:x.bind f=some z):∃a,x=some a∧f a=some z:=gW.1 h
def Ap :Nat:=9223372036854775808
section
variable {P : Program} {o : Oper} {es : List BN} {α : Type}
def BK {x:Operand} {t e:TypeId} (enc:α→D) (l:List α) (f:P.underlying t=some (.slice e)) (h:o.op=.call { callee:=.builtin .len,args:= #[x],argTypes:= #[t] }):
 Bl P o [(x,.d (BD enc l))] es (.d (AY l.length)) es:=by
 have :=aqH (es:=es) (xs:=l.map enc) f h;rw[D8]at this;exact this
def Ip {x:Operand} {t e e':TypeId} {k s:Nat} (enc:α→D) (l:List α) (f:es[k]? =some (.arr e' s (l.map enc))) (h:P.underlying t=some (.slice e)) (j:o.op=.call { callee:=.builtin .len,args:= #[x],argTypes:= #[t] }):
 Bl P o [(x,.aO k)] es (.d (AY l.length)) es:=by
 have :=aft f h j;rw[D8]at this;exact this
def alW {x:Operand} {t:TypeId} (s:ByteArray) (f:P.underlying t=some .string) (h:o.op=.call { callee:=.builtin .len,args:= #[x],argTypes:= #[t] }):
 Bl P o [(x,.d (Cm s))] es (.d (AY s.size)) es:=amH f h
def iD {x y:Operand} {t e:TypeId} {k:IntKind} {i:Int} {agg:Bool} {size:Nat} (enc:α→D) {l:List α} {a:α} (h:Aj l i=some a) (f:P.underlying t=some (.slice e)) (j:EF P e agg size) (m:(enc a).cells.length=size) (n:o.op=.indexAddr t x y):
 Bl P o [(x,.d (BD enc l)),(y,.d (.lit (.int k i)))] es (.d (.ref (enc a).cells 0)) es:=
 aqP f j (FT h).1 (ahb enc (FT h).2) m n
def GN {x y:Operand} {t e e':TypeId} {kd:IntKind} {i:Int} {k size:Nat} {agg:Bool} (enc:α→D) {l:List α} {a:α} (h:Aj l i=some a) (f:es[k]? =some (.arr e' size (l.map enc))) (j:P.underlying t=some (.slice e)) (m:EF P e agg size) (n:o.op=.indexAddr t x y):
 Bl P o [(x,.aO k),(y,.d (.lit (.int kd i)))] es (.lQ k i.toNat 0) es:=
 ajB f j m (FT h).1 (by have :=(FN.1 (FT h).2).1;simpa using this) n
def ajn {s:ByteArray} {i n:Int} (h:Gq s i=some n):∃c,0≤i∧s[i.toNat]? =some c∧n=c.toNat:=by
 unfold Gq at h;split at h
 ·rename_i f;rw[UU]at h;obtain⟨c,j,m⟩:=h;exact⟨c,f,j,m.symm⟩
 cases h
def JL {x y:Operand} {t:TypeId} {k:IntKind} {i n:Int} {s:ByteArray} (h:Gq s i=some n) (f:P.underlying t=some .string) (j:o.op=.index t x y):
 Bl P o [(x,.d (Cm s)),(y,.d (.lit (.int k i)))] es (.d (DC n)) es:=by
 obtain⟨c,m,q,rfl⟩:=ajn h;exact aqe f m q j
def yQ {b:Nat} {l m r:List α} (h:CY b l m=some r):r=l++m∧(l.length+m.length)*b≤140737488355328:=by
 unfold CY at h;split at h
 ·exact⟨(Cx h).symm, ‹_›⟩
 cases h
def aFh {n b:Nat} (f:0<b) (h:n*b≤140737488355328):n≤maxLen:=by
 have :n*1≤n*b:=Nat.mul_le_mul_left _ f;unfold maxLen;omega
def DY {s x:Operand} {t e:TypeId} {size f k:Nat} (enc:α→D) {l m r:List α} (h:CY f l m=some r) (hE:G8 P t e size f) (n:es[k]? =some (.arr e size (l.map enc))) (q:∀a,(enc a).cells.length=size) (u:0<f)
 (z:o.op=.call { callee:=.builtin .append,args:= #[s,x],argTypes:= #[t,t] }):
 Bl P o [(s,.aO k),(x,.d (BD enc m))] es (.aO es.length) (es.set k .dead++[.arr e size (r.map enc)]):=by
 obtain⟨rfl,j⟩:=yQ h;have :=akz (ys:=m.map enc) hE n (fun y I=>by obtain⟨a,_,rfl⟩:=GV.1 I;exact q a) Oh (by simpa using aFh u j) z;rw[←Jv]at this;exact this
def asR {s r:ByteArray} {lo hi:Int} (h:NV s lo hi=some r):(0≤lo∧lo≤hi∧hi≤s.size)∧r=s.extract lo.toNat hi.toNat:=by
 unfold NV at h;split at h
 ·exact⟨‹_›,(Cx h).symm⟩
 cases h
def vT (x:Option Operand) (n:Int):List (Operand×Ag):=match x with |some y=>[(y,.d (AY n))]|none=>[]
def kP {t:TypeId} {x:Operand} {lo hi:Option Operand} {l h:Int} {s r:ByteArray} (U:NV s l h=some r) (Y:lo=none→l=0) (O:hi=none→h=s.size) (Z:P.underlying t=some .string) (q:o.op=.slice t x lo hi none):
 Bl P o ((x,.d (Cm s))::(vT lo l++vT hi h)) es (.d (Cm r)) es:=
 .pure fun ok H a w _ _ I=>by
  obtain⟨⟨J,h1,h2⟩,rfl⟩:=asR U;have j:=(I (x,.d (Cm s)) BP).lit;simp only at j;have u:(underlying t).run P w=.ok .string w:=aJS
  refine⟨.string (s.extract l.toNat h.toNat),?_,.d _ _ (.lit _)⟩;have m:∀y,lo=some y→a.eval y=.int .i64 l:=fun y e=>(I (y,.d (AY l)) aFC).lit;have n:∀y,hi=some y→a.eval y=.int .i64 h:=fun y e=>(I (y,.d (AY h)) aFC).lit;have S:((0:Int)≤h∧h≤(s.size:Int)):=⟨AA,h2⟩
  have e2:((0:Int)≤l∧l≤(h.toNat:Int)):=⟨J,AA⟩
  cases lo with
  |none=>
   have L:=Y rfl;subst L;cases hi with
   |none=>
    have f:=O rfl;subst f;simp[execOp,q,j,Instr.sliceAt,Instr.slice,u,Instr.sliceBounds]
   |some y=>
    simp[execOp,q,j,Instr.sliceAt,Instr.slice,u,Instr.sliceBounds,Instr.sliceBound,n y rfl,asIntOf,S]
  |some z=>
   cases hi with
   |none=>
    have f:=O rfl;subst f;have M:((0:Int)≤l∧l≤(s.size:Int)):=⟨J,AA⟩
    simp[execOp,q,j,Instr.sliceAt,Instr.slice,u,Instr.sliceBounds,Instr.sliceBound,m z rfl,asIntOf,M]
   |some y=>
    simp[execOp,q,j,Instr.sliceAt,Instr.slice,u,Instr.sliceBounds,Instr.sliceBound,m z rfl,n y rfl,asIntOf,S];intro hc;have :=hc J;omega
def adz {l r:List α} {lo hi:Int} (h:HY l lo hi=some r):(0≤lo∧lo≤hi∧hi≤l.length)∧r=(l.drop lo.toNat).take (hi.toNat-lo.toNat):=by
 unfold HY at h;split at h
 ·exact⟨‹_›,(Cx h).symm⟩
 cases h
def aa9 {ok:Nat→Prop} {w:World} {xs:List D} {ad:Option Addr} {cap size l h:Nat} (M:Dz ok w (.sl xs) (.slice ad xs.length cap)) (Z:∀x∈xs,x.cells.length=size) (O:l≤h) (S:h≤xs.length):
 Dz ok w (.sl ((xs.drop l).take (h-l))) (.slice (if cap=l then ad else ad.map (·.add (l*size))) (h-l) (cap-l)):=by
 have hlen:((xs.drop l).take (h-l)).length=h-l:=E5
 by_cases U:h-l=0
 ·have :(xs.drop l).take (h-l)=[]:=by rw[U];rfl
  rw[this,U];exact .sl0 _ _
 have q:0<xs.length:=AA
 generalize hn:xs.length=n at M;cases M with
 |sl0=>simp at q
 |sl _ b off _ f Y z s hf hx hc=>
  have I:f=size:=by
   rw[←s 0 q];exact Z _ aC1
  subst I;have J:cap≠l:=AA
  rw[DN J];simp only[Ie,addr_add]
  have L:∀i,i<h-l→((xs.drop l).take (h-l)).getD i Dn=xs.getD (l+i) Dn:=by
   intro i hi;simp[List.getD,Ol hi,VT]
  have m:∀i j,off+l*f+(i*f+j)=off+((l+i)*f+j):=by
   intro i j;rw[jY];omega
  have :=Dz.sl ((xs.drop l).take (h-l)) b (off+l*f) (cap-l) f (ok:=ok) (w:=w) (by rw[hlen];omega) (fun O S=>z (by rw[hlen]at O;omega) S) (fun i hi=>by rw[hlen]at hi;rw[L i hi];exact s _ AA)
   (fun i hi j u=>by rw[hlen]at hi;rw[L i hi];exact hf _ AA j u) (fun i hi j u=>by rw[hlen]at hi;rw[m];exact hx _ AA j u)
   (fun i hi j u=>by rw[hlen]at hi;rw[L i hi,m];exact hc _ AA j u)
  rw[hlen]at this;exact this
def TS {t e:TypeId} {agg:Bool} {size:Nat} {x:Operand} {lo hi:Option Operand} {l h:Int} (enc:α→D) {xs r:List α} (hr:HY xs l h=some r) (hl:lo=none→l=0) (hh:hi=none→h=xs.length) (ht:P.underlying t=some (.slice e)) (I:EF P e agg size)
 (hc:∀a,(enc a).cells.length=size) (J:o.op=.slice t x lo hi none):Bl P o ((x,.d (BD enc xs))::(vT lo l++vT hi h)) es (.d (BD enc r)) es:=
 .pure fun ok H a w _ _ O=>by
  obtain⟨⟨h0,h1,h2⟩,rfl⟩:=adz hr;have S:=O (x,.d (BD enc xs)) BP;simp only at S;generalize L:a.eval x=v at S;have M:(underlying t).run P w=.ok (.slice e) w:=by simp[underlying,ht]
  have s:∀y,lo=some y→a.eval y=.int .i64 l:=fun y e=>(O (y,.d (AY l)) aFC).lit;have u:∀y,hi=some y→a.eval y=.int .i64 h:=fun y e=>(O (y,.d (AY h)) aFC).lit;have m:Dz ok w (.sl (xs.map enc)) v:=by cases S with |d _ _ h=>exact h
  have n:∃ad cap,v=.slice ad (xs.map enc).length cap∧(xs.map enc).length≤cap:=by
   generalize hys:xs.map enc=ys at m;cases m with
   |sl0 ad cap=>exact⟨ad,cap,rfl,Eh _⟩
   |sl _ b off cap size f=>exact⟨_,cap,rfl,f⟩
  obtain⟨ad,cap,rfl,f⟩:=n;have j:=aa9 (l:=l.toNat) (h:=h.toNat) m (size:=size) (fun y hy=>aMw) AA E5;rw[←eS,←cD]at j;rw[D8]at f;refine⟨_,?_,.d _ _ j⟩;have e1:((0:Int)≤h∧h≤(cap:Int)):=⟨AA,AA⟩
  cases lo with
  |none=>
   have U:=hl rfl;subst U;cases hi with
   |none=>
    have q:=hh rfl;subst q;simp[execOp,J,L,Instr.sliceAt,Instr.slice,M,Instr.sliceBounds,I.size]
   |some y=>
    simp[execOp,J,L,Instr.sliceAt,Instr.slice,M,Instr.sliceBounds,Instr.sliceBound,u y rfl,asIntOf,e1,I.size]
  |some z=>
   cases hi with
   |none=>
    have q:=hh rfl;subst q;have Y:((0:Int)≤l∧l≤(xs.length:Int)):=⟨h0,AA⟩
    simp[execOp,J,L,Instr.sliceAt,Instr.slice,M,Instr.sliceBounds,Instr.sliceBound,s z rfl,asIntOf,Y,I.size]
   |some y=>
    simp[execOp,J,L,Instr.sliceAt,Instr.slice,M,Instr.sliceBounds,Instr.sliceBound,s z rfl,u y rfl,asIntOf,e1,I.size];intro Z;have :=Z h0;omega
def kn (P:Program) (t:TypeId) (f off:Nat) (agg:Bool) (n:Nat):Bool:=
 match P.underlying t with
 |some (.struct j)=>match j[f]? with
  |some h=>decide (h.offset=off)&&aOB P h.type agg n
  |none=>false
 |_=>false
def ajW {x:Operand} {t:TypeId} {f off n:Nat} {agg:Bool} {cs:List D} (m:kn P t f off agg n=true) (hn:off+n≤cs.length) (U:agg=false→n=1) (L:o.op=.field t x f):Bl P o [(x,.d (.agg cs))] es (.d (PN agg cs off n)) es:=
 .pure fun ok H a w _ _ z=>by
  have I:=Kt z;simp only at I;generalize M:a.eval x=v at I;unfold kn at m;split at m
  ·rename_i Y Z;split at m
   ·rename_i j O;simp only[DL,H6]at m;obtain⟨rfl,q⟩:=m;have q:=FI q;have s:(underlying t).run P w=.ok (.struct Y) w:=aJS
    cases I with
    |d _ _ h=>
     cases h with
     |agg _ vs hl J S=>
      cases agg with
      |false=>
       have :=U rfl;subst this;have u:j.offset<vs.size:=AA
       refine⟨vs[j.offset],?_,?_⟩
       ·simp[execOp,L,M,Instr.field,s,O,asAgg,part,q.agg,u]
       have :=S j.offset AA;simp[Array.getD,u]at this;exact .d _ _ this
      |true=>
       refine⟨.agg (vs.extract j.offset (j.offset+n)),?_,?_⟩
       ·simp[execOp,L,M,Instr.field,s,O,asAgg,part,q.agg,q.size]
       simp only[PN,Jj];have hlen:((cs.drop j.offset).take n).length=n:=E5
       have hg:∀i,i<n→((cs.drop j.offset).take n).getD i Dn=cs.getD (j.offset+i) Dn:=by
        intro i hi;simp[List.getD,Ol hi,VT]
       refine .d _ _ (.agg _ _ (by rw[hlen];simp;omega) ?_ ?_)<;>intro i hi<;>rw[hlen]at hi<;>rw[hg i hi]
       ·exact J _ AA
       have :=S (j.offset+i) AA
       have e:(vs.extract j.offset (j.offset+n)).getD i undef=vs.getD (j.offset+i) undef:=by
        have h3:j.offset+i<vs.size:=AA
        have h4:i<(vs.extract j.offset (j.offset+n)).size:=E5
        have h5:i<min (j.offset+n) vs.size-j.offset:=AA
        simp[Array.getD,h3,h5]
       rw[e];exact this
   cases m
  cases m
def Ag.flat:Ag→Bool
 | .d (.lit _)=>true
 | .gy xs=>xs.all fun x=>match x with | .d (.lit _)=>true|_=>false
 |_=>false
def ada (es:List BN):Ag→Ag→Prop
 | .d x,y=>y=.d x
 | .aO k,y=>∃e s xs,es[k]? =some (.arr e s xs)∧y=.d (.sl xs)
 |_,_=>False
def Zf (es:List BN):List Ag→List Ag→Prop
 |x::xs,y::ys=>ada es x y∧Zf es xs ys
 | [],[]=>True
 |_,_=>False
def aJO :∀{xs ys:List Ag},Zf es xs ys→xs.length=ys.length
 | [],[],_=>rfl
 |_::xs,_::ys,h=>by simp[aJO h.2]
 | [],_::_,h=>h.elim
 |_::_,[],h=>h.elim
def aaK {ops:List Operand}:∀{xs ys:List Ag},ops.length=xs.length→Zf es xs ys→∀i,i<ys.length→∃o x,ops[i]? =some o∧(o,x)∈F8 ops xs∧ada es x (ys.getD i .junk):=by
 induction ops with
 |nil=>
  intro xs ys f h i hi;cases xs with
  |nil=>cases ys with |nil=>simp at hi|cons _ _=>exact h.elim
  |cons _ _=>simp at f
 |cons o ops j=>
  intro xs ys f h i hi;cases xs with
  |nil=>simp at f
  |cons x xs=>
   cases ys with
   |nil=>exact h.elim
   |cons y ys=>
    cases i with
    |zero=>exact⟨o,x,rfl,by simp[F8],h.1⟩
    |succ i=>
     obtain⟨m,n,q,s,u⟩:=j LJ h.2 i Fp;exact⟨m,n,V3,by simp[F8,s],RF⟩
def Zk {ok ok':Nat→Prop} {w:World} {H:List Bj} {h:Bj} {e s:Nat} {xs:List D} (he:Eo ok w H h (.arr e s xs)) (n:∀b,ok b→ok' b) (J:∀b,Dq h.v=some b→ok' b):Dz ok' w (.sl xs) h.v:=by
 obtain⟨h1,z,ys,⟨h3,h4⟩,U⟩:=he;rcases h4 with⟨I,Y⟩|⟨g,cap,m,I,Y,h8,Z,h10,L,M⟩
 ·rw[H9 Y,I];exact .sl0 none 0
 rw[I];have q:=J g (by rw[I];rfl);have u:=RJ z
 have O:∀i j,i<xs.length→j<s→i*s+j<xs.length*s:=by
  intro i j hi f
  calc i*s+j<i*s+s:=AA
   _=(i+1)*s:=by rw[Ud]
   _≤xs.length*s:=Lc _ hi
 have hcur:xs.length*s≤m.size:=by
  exact Ei (Lc _ Z) L
 have hc:∀i j,i<xs.length→j<s→w.cell? ⟨g,0+(i*s+j),none⟩=some (ys.getD (i*s+j) undef):=by
  intro i j hi f;have S:=O i j hi f;rw[KG]
  have e1:ys.getD (i*s+j) undef=m[i*s+j]' AA:=by
   rw[←M];simp[List.getD,Ol S,show i*s+j<m.size by omega]
  rw[e1];simp[World.cell?,h8,show i*s+j<m.size by omega]
 have hg:∀i,i<xs.length→xs.getD i Dn∈xs:=fun i hi=>MX
 refine .sl xs g 0 cap s Z (fun _ _=>q) (fun i hi=>z _ (hg i hi)) (fun i hi j f=>?_) (fun i hi j f=>?_) (fun i hi j f=>?_)
 ·have :=(U.2 (i*s+j) (by rw[u];exact O i j hi f)).1;rw[flat_get z i j hi f]at this;exact this
 ·rw[hc i j hi f];rfl
 have :=(U.2 (i*s+j) (by rw[u];exact O i j hi f)).2;rw[flat_get z i j hi f]at this;unfold cellAt;rw[hc i j hi f];cases this with |d _ _ h=>exact h.mono (fun b J=>⟨n b J,rfl⟩)
def ZP {f:FuncId} {ops:Array Operand} {ats:Array TypeId} {eU fV:List Ag} {q:Ag} (hr:Ak P f fV [] q []) (hf:Dw P f=true) (n:q.flat=true) (ha:Zf es eU fV) (hl:ops.toList.length=eU.length)
 (ho:o.op=.call { callee:=.value (.func f),args:=ops,argTypes:=ats }):Bl P o (F8 ops.toList eU) es q es:=by
 intro C ok H a w Q z hn;unfold Oper.wp;rw[nJ ho,TF hf,ZQ];have e:ops.map a.eval=(ops.toList.map a.eval).toArray:=zl
 rw[e]
 let I:Nat→Prop:=fun b=>b<w.heap.size
 have hmc:DI ⟨w,I,[],[]⟩ I [] [] w:=
  ⟨.refl _ _,fun _ h=>h,fun _ h=>.inl h,fun _ h=>h,.refl _,rfl,fun k e h J _=>Yu,fun k e h b J=>Yu,fun k k' e e' h h' b J=>Yu⟩
 refine(hr I [] [] w _ hmc (by simp[hl,aJO ha]) (fun i hi=>?_)).mono ?_
 ·obtain⟨op,x,ho',O,j⟩:=aaK hl ha i hi;have M:=hn _ O
  have e:(ops.toList.map a.eval).toArray.getD i undef=a.eval op:=by
   obtain⟨h1,h2⟩:=FN.1 ho';have S:i<ops.size:=by simpa using h1
   have U:ops[i]=op:=aHD
   simp[Array.getD,S,U]
  rw[e];simp only at M;generalize fV.getD i .junk=y at j;generalize a.eval op=u at M;cases x with
  |d x=>
   obtain rfl:=j;cases M with |d _ _ h=>exact .d _ _ (h.mono (fun b L=>⟨z.kW b L,rfl⟩))
  |aO k=>
   obtain⟨e',s,xs,hk,rfl⟩:=j;obtain⟨h,Z,hok⟩:=GU z.ent z.hlen hk;obtain rfl:=Qi M Z;exact .d _ _ (Zk hok (fun b L=>z.kW b L) (fun b L=>(z.blk k _ h b hk rfl Z L).2.1))
  |_=>exact j.elim
 rintro e w' ⟨v,ok',H',rfl,m,M⟩;have Y:∀b,b<w.heap.size→¬False→w'.heap[b]? =w.heap[b]? :=fun b L _=>m.fr.block b L BP;obtain⟨h1,h2⟩:=z.change (ok':=ok) (H':=H) (es':=es) (w':=w') (fun _=>False) m.fr.os m.fr.tape m.fr.output m.fr.size Y (fun _ h=>h.elim) (fun _ h=>h) (fun _ h=>.inl h) (.refl _) z.hlen (fun k e h J Z=>.inl ⟨J,Z,fun _ _ _ h=>h⟩);refine⟨v,ok,H,rfl,h2,.refl _,h1,?_⟩;cases M with
 |d x v h=>
  cases x with
  |lit u=>cases h;exact .d _ _ (.lit _)
  |_=>simp[Ag.flat]at n
 |gy xs vs hl' h=>
  refine .gy xs vs hl' (fun i hi=>?_);simp only[Ag.flat,EZ]at n;have S:=n (xs.getD i .junk) MX;have U:=h i hi;generalize xs.getD i .junk=x at S U;generalize vs.getD i undef=u at U;cases U with
  |d y _ h5=>
   cases y with
   |lit u=>cases h5;exact .d _ _ (.lit _)
   |_=>simp at S
  |_=>simp at S
 |_=>simp[Ag.flat]at n
end
def Ag.thaw (k:Nat) (xs:List D):Ag→Ag
 | .aO j=>if j=k then .d (.sl xs)else .aO j
 | .lQ j i off=>if j=k then .junk else .lQ j i off
 |x=>x
def BI.thaw (σ:BI) (k:Nat) (xs:List D):BI:=⟨σ.slots.map (Ag.thaw k xs),σ.ents.set k .dead,σ.base⟩
def JU {σ:BI} (k:Nat) {e s:Nat} {xs:List D} (U:σ.ents[k]? =some (.arr e s xs)):∀C ok H a w,Holds C ok H σ a w→∃ok',Holds C ok' H (σ.thaw k xs) a w:=by
 intro C ok H a w h;obtain⟨hd,I,Y⟩:=GU h.mem.ent h.mem.hlen U;have n:k<σ.ents.length:=(FN.1 U).1
 let ok':Nat→Prop:=fun b=>ok b∨Dq hd.v=some b
 have z:=fun b f=>h.mem.blk k _ hd b U rfl I f;have Z:EU ok w ok' w:=fun b f=>⟨.inl f,rfl⟩
 refine⟨ok',⟨h.mem.fr,fun b f=>.inl (h.mem.xU b f),?_,?_,h.mem.names,by simp[BI.thaw,h.mem.hlen],?_,?_,?_⟩,by simp[BI.thaw,h.size],h.defers.mono Z,h.base,?_⟩
 ·rintro b (f|f)
  ·exact h.mem.xW b f
  exact .inr (z b f).2.2
 ·rintro b (f|f)
  ·exact h.mem.kW b f
  exact(z b f).2.1
 ·intro j e' h' he q;rcases Kz n he with⟨rfl,rfl⟩|⟨_,u⟩
  ·trivial
  exact(h.mem.ent j e' h' u q).mono Z (.refl _) (fun _ _ _=>rfl)
 ·intro j e' h' b he hl q f;rcases Kz n he with⟨rfl,rfl⟩|⟨hne,u⟩
  ·cases hl
  have h3:=h.mem.blk j e' h' b u hl q f;refine⟨fun m=>?_,h3.2⟩;rcases m with m|m
  ·exact h3.1 m
  exact hne (h.mem.DU j k e' _ h' hd b u U hl rfl q I f m)
 ·intro i j e1 e2 h1 h2 b he1 he2 L M hh1 hh2 hb1 hb2;rcases Kz n he1 with⟨rfl,rfl⟩|⟨_,O⟩
  ·cases L
  rcases Kz n he2 with⟨rfl,rfl⟩|⟨_,S⟩
  ·cases M
  exact h.mem.DU i j e1 e2 h1 h2 b O S L M hh1 hh2 hb1 hb2
 intro t ht;simp only[BI.thaw,D8]at ht
 have e1:(σ.thaw k xs).slots.getD t .junk=(σ.slots.getD t .junk).thaw k xs:=by
  simp only[BI.thaw];exact Ro _ _ _ ht
 rw[e1];have J:=(h.slot t ht).mono Z (Names.refl H);generalize σ.slots.getD t .junk=x at J ⊢;generalize a.tmps.getD t undef=v at J ⊢;cases x with
 |aO j=>
  simp only[Ag.thaw];split
  ·rename_i hj;subst hj;obtain rfl:=Qi J I;exact .d _ _ (Zk Y (fun b f=>.inl f) (fun b f=>.inr f))
  exact J
 |lQ j i off=>
  simp only[Ag.thaw];split
  ·exact .junk _
  exact J
 |_=>exact J
def AB.thaw {P:Program} {c:Code} {σ:BI} {Q:Exit→BI→Prop} (k:Nat) {e s:Nat} {xs:List D} (j:σ.ents[k]? =some (.arr e s xs)) (h:AB P c (σ.thaw k xs) Q):AB P c σ Q:=by
 refine⟨fun ro m C ok H a w n=>?_⟩;obtain⟨ok',f⟩:=JU k j C ok H a w n;exact h.run ro m C ok' H a w f
def Ak.view {P:Program} {f:FuncId} {args:List Ag} {e s:Nat} {xs:List D} (h:Ak P f args [] (.aO 0) [.arr e s xs]):Ak P f args [] (.d (.sl xs)) []:=by
 intro ok X H w m I J ha;refine(h ok X H w m I J ha).mono ?_;rintro e' w' ⟨v,ok',H',rfl,j,L⟩;have M:H=[]:=H9 I.hlen;have O:H'.length=1:=j.hlen
 match H',O with
 | [hd],_=>
   obtain rfl:=Qi L (h:=hd) rfl;have u:=j.ent 0 _ hd rfl rfl;have q:=fun b q=>j.blk 0 _ hd b rfl rfl rfl q
   let z:Nat→Prop:=fun b=>ok' b∨Dq hd.v=some b
   refine⟨hd.v,z,[],rfl,⟨j.fr,fun b h=>.inl (j.xU b h),?_,?_,by intro k v S;subst M;simp at S,rfl,fun k e h n=>bM,fun k e h b n=>bM,fun k k' e e' h h' b n=>bM⟩,.d _ _ (Zk u (fun b h=>.inl h) (fun b h=>.inr h))⟩
   ·rintro b (h|h)
    ·exact j.xW b h
    exact .inr (q b h).2.2
   rintro b (h|h)
   ·exact j.kW b h
   exact(q b h).2.1
def ahA (es E':List BN) (f:E'.all BN.closed=true):MF [] es E'=es++E':=by
 unfold MF;simp only[List.findIdx?_nil,ML,xX];rw[aSB f];congr 1;apply lX;intro i;simp only[JZ,List.getElem?_zipIdx];cases es[i]? <;>rfl
def abC {P:Program} {o:Oper} {es:List BN} {f:FuncId} {ops:Array Operand} {ats:Array TypeId} {eU fV:List Ag} {m j:Ag} {E':List BN} (u:Ak P f fV [] m E') (z:Dw P f=true) (n:E'.all BN.closed=true)
 (ha:NH [] eU fV) (I:ops.toList.length=eU.length) (J:m.up [] es.length=j) (L:o.op=.call { callee:=.value (.func f),args:=ops,argTypes:=ats }):Bl P o (F8 ops.toList eU) es j (es++E'):=by
 have :=ad8 (es:=es) [] u z (by
  have q:E'.all (BN.aoU [] es.length)=true:=by
   rw[EZ]at n ⊢;exact fun e M=>afR (n e M)
  simp[RP,q]) (fun i s h=>Hr) ha I L
 rw[ahA _ _ n,J]at this;exact this
def abd {P:Program} {o:Oper} {es:List BN} {f:FuncId} {ops:Array Operand} {ats:Array TypeId} {eU fV:List Ag} {j h:Ag} (m:Ak P f fV [] j []) (n:Dw P f=true)
 (ha:NH [] eU fV) (q:ops.toList.length=eU.length) (s:j.up [] es.length=h) (u:o.op=.call { callee:=.value (.func f),args:=ops,argTypes:=ats }):Bl P o (F8 ops.toList eU) es h es:=by
 have :=abC (es:=es) m n rfl ha q s u;rw[RZ]at this;exact this
section
variable {P : Program} {σ : BI} {Q : Exit → BI → Prop}
def aNZ (P:Program) (σ:BI):ResultVar→Ag→Prop
 | .tmp t,x=>x=σ.slots.getD t .junk
 | .cell t T,x=>∃k cs agg n,σ.slots.getD t .junk=.ptr k 0∧σ.ents[k]? =some (.box cs)∧cs.all Ag.Ar=true∧EF P T agg n∧n≤cs.length∧(agg=false→n=1)∧x=.d (PN agg (J3 cs) 0 n)
def LK {P:Program} {σ:BI} {t:Tmp} {x:Ag} (h:x=σ.slots.getD t .junk):aNZ P σ (.tmp t) x:=h
def Xo (P:Program) (σ:BI):List ResultVar→List Ag→Prop
 |r::rs,x::xs=>aNZ P σ r x∧Xo P σ rs xs
 | [],[]=>True
 |_,_=>False
def jg :List Ag→Ag
 | [x]=>x
 |xs=>.gy xs
def aQp (P:Program) (fn:Func) (f:Ag) (E':List BN):Exit→BI→Prop
 | .ret,σ=>∃xs π,Xo P σ fn.results.toList xs∧UF σ.base σ.ents π=true∧f=(jg xs).back π∧E'=Qu σ.ents π
 | .normal,σ=>∃xs π,Xo P σ fn.results.toList xs∧UF σ.base σ.ents π=true∧f=(jg xs).back π∧E'=Qu σ.ents π
 |_,_=>False
def aHY (tmps:Array Value):ResultVar→Sem Value
 | .tmp t=>pure (tmps.getD t undef)
 | .cell t T=>do loadVar T (←asAddr (tmps.getD t undef))
def alS {C:EW} {ok:Nat→Prop} {H:List Bj} {a:Act} {w:World} (h:Holds C ok H σ a w) {r:ResultVar} {x:Ag} (f:aNZ P σ r x):
 ∃v,(aHY a.tmps r).run P w=.ok v w∧R ok w H x v:=by
 cases r with
 |tmp t=>
  obtain rfl:=f;exact⟨_,rfl,h.awh t⟩
 |cell t T=>
  obtain⟨k,cs,agg,n,I,J,hd,L,hn,M,rfl⟩:=f;have m:=I▸h.awh t;obtain⟨O,S,j⟩:=GU h.mem.ent h.mem.hlen J;obtain⟨b,q,U,Y,Z⟩:=aMm j hd;generalize hu:a.tmps.getD t undef=u at m;cases m with
  |ptr _ _ b' s z=>
   rw[S]at z;obtain rfl:=Cx z;simp at q;subst q;show ∃v,((do loadVar T (←asAddr (a.tmps.getD t undef)):Sem Value)).run P w=.ok v w∧_;rw[hu];obtain⟨v,f,hD⟩:=aCf L (off:=0) (by rw[yH];omega) M U Y Z;refine⟨v,?_,.d _ _ hD⟩;simp only[Instr.loadAt,Instr.sureAddr,FB,G6,FK,KG]at f;simp only[asAddr,FB,G6,FK];exact f
def aTL {C:EW} {ok:Nat→Prop} {H:List Bj} {a:Act} {w:World} (h:Holds C ok H σ a w):∀(rs:List ResultVar) (xs:List Ag),Xo P σ rs xs→
 ∃vs:List Value,(rs.mapM (aHY a.tmps)).run P w=.ok vs w∧vs.length=xs.length∧∀i,i<xs.length→R ok w H (xs.getD i .junk) (vs.getD i undef)
 | [],[],_=>⟨[],rfl,rfl,fun i hi=>Nl⟩
 | [],_::_,h'=>h'.elim
 |_::_,[],h'=>h'.elim
 |r::rs,x::xs,h'=>by
  obtain⟨v,m,n⟩:=alS (P:=P) h h'.1;obtain⟨vs,f,q,j⟩:=aTL h rs xs h'.2;refine⟨v::vs,?_,by simp[q],fun i hi=>?_⟩
  ·simp only[List.mapM_cons,FB,m,f,FK,G6]
  cases i with
  |zero=>exact n
  |succ i=>simpa using j i Fp
def arH {C:EW} {ok:Nat→Prop} {H:List Bj} {a:Act} {w:World} (h:Holds C ok H σ a w) {fn:Func} {xs:List Ag} (s:Xo P σ fn.results.toList xs):
 ∃v,(results fn a.tmps).run P w=.ok v w∧R ok w H (jg xs) v:=by
 obtain⟨vs,n,f,j⟩:=aTL (P:=P) h _ _ s
 have u:(results fn a.tmps).run P w=.ok (if h:vs.toArray.size=1 then vs.toArray[0]else .tuple vs.toArray) w:=by
  have e:results fn a.tmps=(do let vs ←fn.results.mapM (aHY a.tmps);pure (if h:vs.size=1 then vs[0]else .tuple vs)):=rfl;rw[e,aMq];simp only[FB,xP,n,FK,G6]
 refine⟨_,u,?_⟩
 match xs,f,j with
 | [x],f,j=>
   have m:vs.toArray.size=1:=LJ
   rw[dif_pos m];have :=j 0 BP
   have e:vs.getD 0 undef=vs.toArray[0]:=by
    have :0<vs.length:=Wh
    simp[List.getD,this]
   rw[e]at this;exact this
 | [],f,j=>
   have m:¬vs.toArray.size=1:=by simp at f;simp[f]
   rw[dif_neg m];exact .gy [] _ LJ (fun i hi=>Nl)
 |x::y::xs,f,j=>
  have m:¬vs.toArray.size=1:=by simp at f;simp[f]
  rw[dif_neg m];refine .gy _ _ LJ (fun i hi=>?_);have :=j i hi;have q:i<vs.length:=AA
  have e:vs.toArray.getD i undef=vs.getD i undef:=by simp[Array.getD,List.getD,q]
  rw[e];exact this
def amC {w:World} {D:Nat} {x:Option (List Deferred)} (h:w.heap[D]? =some (.deferred x)) (o:Nat):w.cell? ⟨D,o,none⟩=none:=by
 unfold World.cell?;rw[h]
def Holds.take {C:EW} {ok:Nat→Prop} {H:List Bj} {σ:BI} {a:Act} {w:World} (Y:∀b,C.ok0 b→b<C.w0.heap.size) (h:Holds C ok H σ a w) {D:Nat} {Ds:List Nat} (hd:∀d∈Ds,ok d∧C.w0.heap.size≤d∧w.heap[d]? =some (.deferred (some [])))
 (Z:ok D∧C.w0.heap.size≤D∧w.heap[D]? =some (.deferred (some []))) (s:(D::Ds).Nodup):
 ∃ok',Holds C ok' H σ { a with defers:=Ds.map fun D=>{ target:=.collected D,args:= #[] } } (w.putObj D (.deferred none))∧∀d∈Ds,ok' d∧C.w0.heap.size≤d∧(w.putObj D (.deferred none)).heap[d]? =some (.deferred (some [])):=by
 obtain⟨h1,h2,S⟩:=Z;have j:∀b,b≠D→(w.putObj D (.deferred none)).heap[b]? =w.heap[b]? :=fun b f=>Xw f;have u:∀b o,ok b→(w.cell? ⟨b,o,none⟩).isSome=true→ok b∧b≠D:=fun b o f z=>⟨f,fun e=>by subst e;rw[amC S]at z;cases z⟩
 have U:EU (fun b=>ok b∧b≠D) w (fun b=>ok b∧b≠D) (w.putObj D (.deferred none)):=fun b f=>⟨f,j b f.2⟩
 have M:∀(k:Nat) (e:BN) (hd:Bj) (b:Nat),σ.ents[k]? =some e→e.live=true→H[k]? =some hd→Dq hd.v=some b→b≠D:=fun k e hd b n I q f O=>(h.mem.blk k e hd b n I q f).1 (O▸h1)
 have J:∀d∈Ds,(ok d∧d≠D)∧C.w0.heap.size≤d∧(w.putObj D (.deferred none)).heap[d]? =some (.deferred (some [])):=fun d m=>by
  have L:d≠D:=fun e=>(NM.1 s).1 (e▸m);exact⟨⟨(hd d m).1,L⟩,(hd d m).2.1,by rw[j d L];exact(hd d m).2.2⟩
 refine⟨fun b=>ok b∧b≠D,⟨⟨⟨h.mem.fr.os,h.mem.fr.tape,h.mem.fr.output,by simpa[World.putObj]using h.mem.fr.size,fun k hk hX=>by rw[j k AA];exact h.mem.fr.block k hk hX⟩,fun b f=>⟨h.mem.xU b f,fun e=>by have :=Y b f;omega⟩,fun b f=>h.mem.xW b f.1,fun b f=>by simpa[World.putObj]using h.mem.kW b f.1,h.mem.names,h.mem.hlen,?_,?_,?_⟩,h.size,⟨Ds,rfl,(NM.1 s).2,J⟩,h.base,fun t ht=>((h.slot t ht).shrink u).mono U (.refl _)⟩,J⟩
 ·intro k e hd n q;exact((h.mem.ent k e hd n q).shrink u (fun b ms c f z=>⟨f,fun e=>by subst e;rw[S]at z;cases z⟩)).mono U (.refl _) fun I b f=>j b (M k e hd b n I q f)
 ·intro k e hd b n I q f;obtain⟨h4,h5,h6⟩:=h.mem.blk k e hd b n I q f;exact⟨fun hx=>h4 hx.1,by simpa[World.putObj]using h5,h6⟩
 exact h.mem.DU
def aKA {fn:Func} {Rr:Ending→World→Prop} {C:EW} (m:∀b,C.ok0 b→b<C.w0.heap.size) {H:List Bj} {σ:BI}
 (n:∀ok a w,Holds C ok H σ a w→∃v,(results fn a.tmps).run P w=.ok v w∧Rr (.returned v) w):∀(Ds:List Nat) {ok:Nat→Prop} {a:Act} {w:World},Holds C ok H σ a w→(∀d∈Ds,ok d∧C.w0.heap.size≤d∧w.heap[d]? =some (.deferred (some [])))→Ds.Nodup→
  LeavesInM (J6 none) 0 P fn a.tmps Rr (Ds.map fun D=>{ target:=.collected D,args:= #[] }) .returning w
 | [],ok,a,w,h,_,_=>n ok a w h
 |D::Ds,ok,a,w,h,hd,q=>by
  obtain⟨ok',h',f⟩:=h.take m (fun d j=>hd d (IY _ j)) (hd D (Hy ..)) q;have s:=aKA m n Ds h' f (NM.1 q).2;exact⟨BP,.inl ⟨D,_,rfl,run_takeDeferred (hd D (Hy ..)).2.2,s⟩⟩
def Ak.aI {f:FuncId} {fn:Func} {c:Code} {args:List Ag} {E E':List BN} {q:Ag} (Z:P.funcs[f]? =some fn) (hb:fn.body=some c)
 (h:AB P c (.enter args fn.ntmps E) (aQp P fn q E')):Ak P f args E q E':=by
 intro ok X H w j z hs ha;refine(aDa (ro:=none) (n:=0)).1 (aL8 Z hb trivial (UQ (h.run none (.inl rfl) ⟨w,ok,X,H⟩ ok H _ w ?_) ?_) rfl)
 ·refine⟨z,?_,.nil _ _ _,z.hlen,fun t ht=>?_⟩
  ·simp[BI.enter,hs]
  simp only[BI.enter];by_cases e:t<args.length
  ·have I:(args++List.replicate (fn.ntmps-args.length) Ag.junk).getD t .junk=args.getD t .junk:=aLy
   have e2:(j++Array.replicate (fn.ntmps-j.size) undef).getD t undef=j.getD t undef:=by
    simp[Gx,Ym (show t<j.size by omega)]
   rw[I,e2];exact ha t e
  have I:(args++List.replicate (fn.ntmps-args.length) Ag.junk).getD t .junk=.junk:=by
   simp only[List.getD,Jh (Tz e),aHo];split<;>rfl
  rw[I];exact .junk _
 rintro e a' w' ⟨ok',H',σ',Y,J⟩;obtain⟨Ds,L,M,O⟩:=Y.defers
 have key:∀(x:List Ag) (π:List (Nat×Bool)),Xo P σ' fn.results.toList x→UF σ'.base σ'.ents π=true→q=(jg x).back π→E'=Qu σ'.ents π→
  LeavesInM (J6 none) 0 P fn a'.tmps (fun e w'=>∃v ok' H',e=.returned v∧DI ⟨w,ok,X,H⟩ ok' H' E' w'∧R ok' w' H' q v) a'.defers .returning w':=by
  rintro x π u m rfl rfl;rw[L];refine aKA (P:=P) (C:=⟨w,ok,X,H⟩) z.kW (fun S a2 w2 s=>?_) Ds Y O M;obtain⟨v,hv,hR⟩:=arH (P:=P) s u;exact⟨v,hv,v,S,_,rfl,s.mem.norm π (s.base▸m),hR.back π⟩
 cases e with
 |ret=>obtain⟨x,π,u,m,s,U⟩:=J;exact key x π u m s U
 |normal=>obtain⟨x,π,u,m,s,U⟩:=J;exact key x π u m s U
 |_=>exact J.elim
def AV {x y:Code} (f:AB P x σ (L6 (fun s=>AB P y s Q) Q)):AB P (.seq x y) σ Q:=AB.seq _ f (fun _ h=>h)
def CX {x y:Code} (K:BI→Prop) (f:∀s,K s→AB P y s Q) (j:(∀s,K s→AB P y s Q)→AB P x σ (L6 (fun s=>AB P y s Q) Q)):AB P (.seq x y) σ Q:=AB.seq _ (j f) (fun _ h=>h)
def Y3 {c:Operand} {x y:Code} (f:σ.get c=.d (.lit (.bool true))) (h:AB P x σ Q):AB P (.cond c x y) σ Q:=AB.cond true f (fun _=>h) (fun h=>He)
def Rx {c:Operand} {x y:Code} (f:σ.get c=.d (.lit (.bool false))) (h:AB P y σ Q):AB P (.cond c x y) σ Q:=AB.cond false f (fun h=>He) (fun _=>h)
def Ej {id:Nat} {ops:Array Oper} {y:Code} {σ':BI} {rs:List Ag} {ess:List (List BN)} {bs:List Bool} (m:P.follows .mixedOrders=true) (f:(Wj ops&&Vf ops&&UC ops σ.slots.length&&Wu ops)=true) (j:XQ ops bs=true)
 (h:FH P ops ops.toList σ rs ess bs σ') (n:AB P y σ' Q):AB P (.seq (.region id ops true) y) σ Q:=
 AB.seq (fun s=>s=σ') (.draw m f j h rfl) (fun _ e=>e▸n)
end
section
variable {P : Program} {o : Oper} {es : List BN}
def am6 {x:Operand} {t:TypeId} {agg:Bool} {n off:Nat} {cs:List D} {y:D} (f:y=PN agg cs off n) (h:EF P t agg n) (j:off+n≤cs.length) (m:agg=false→n=1) (q:o.op=.load t x):Bl P o [(x,.d (.ref cs off))] es (.d y) es:=f▸aer h j m q
def afn {x:Operand} {t:TypeId} {agg:Bool} {k n off:Nat} {cs:List Ag} {y:D} (f:y=PN agg (J3 cs) off n) (h:es[k]? =some (.box cs)) (hd:cs.all Ag.Ar=true) (j:EF P t agg n) (m:off+n≤cs.length) (q:agg=false→n=1) (s:o.op=.load t x):
 Bl P o [(x,.ptr k off)] es (.d y) es:=f▸agT h hd j m q s
def agY {x:Operand} {t:TypeId} {f off n:Nat} {agg:Bool} {cs:List D} {y:D} (h:y=PN agg cs off n) (j:kn P t f off agg n=true) (m:off+n≤cs.length) (q:agg=false→n=1) (s:o.op=.field t x f):Bl P o [(x,.d (.agg cs))] es (.d y) es:=h▸ajW j m q s
def aeK {t:TypeId} {h:Array (Nat×Operand)} {f:List (Nat×Nat)} {z:Value} {y:D} (j:Iy P t f z) (vs:List Ag) (m:o.op=.build t h) (n:y=.agg (J3 (Jz (fun(i:Nat)=>f[i]?) (FP z) h.toList vs))) (q:NI (fun(i:Nat)=>f[i]?) (FP z).length h.toList vs=true)
 (hd:(Jz (fun(i:Nat)=>f[i]?) (FP z) h.toList vs).all Ag.Ar=true):Bl P o (NU h.toList vs) es (.d y) es:=n▸afx j vs q hd m
def agR {s t:TypeId} {x:Operand} {f k:IntKind} {n:Int} (h:P.underlying s=some (.int f)) (j:P.underlying t=some (.int k)) (m:o.op=.convert s t x):Bl P o [(x,.d (.lit (.int f n)))] es (.d (.lit (.int k (k.wrap n)))) es:=
 aSc m fun w=>by simp[convert,underlying,h,j,Conv.intToInt]
def atX {s t:TypeId} {x:Operand} {u:ByteArray} (f:P.underlying s=some .string) (h:P.underlying t=some .string) (j:o.op=.convert s t x):Bl P o [(x,.d (Cm u))] es (.d (Cm u)) es:=
 aSc j fun w=>by simp[convert,underlying,f,h]
def aqm {t t':TypeId} {x y:Operand} {a b:Bool} (f:P.underlying t=some .bool) (h:o.op=.binOp .eql t x y t'):Bl P o [(x,.d (D7 a)),(y,.d (D7 b))] es (.d (D7 (a==b))) es:=
 Gv (u:=.bool a) (v:=.bool b) (r:=.bool (a==b)) h (fun w=>by
  show((do pure (.bool (←Op.equal t (.bool a) (.bool b))):Sem Value)).run P w=_
  simp only[FB,run_equal_bool w t a b f,FK,G6]) ⟨rfl,rfl⟩
def af2 {t t':TypeId} {x y:Operand} {a b:Bool} (f:P.underlying t=some .bool) (h:o.op=.binOp .neq t x y t'):Bl P o [(x,.d (D7 a)),(y,.d (D7 b))] es (.d (D7 (!(a==b)))) es:=
 Gv (u:=.bool a) (v:=.bool b) (r:=.bool (!(a==b))) h (fun w=>by
  show((do pure (.bool (!(←Op.equal t (.bool a) (.bool b)))):Sem Value)).run P w=_
  simp only[FB,run_equal_bool w t a b f,FK,G6]) ⟨rfl,rfl⟩
end
def bn {A Rr:Type} (body:(A→Option Rr)→A→Option Rr):Nat→A→Option Rr
 |0,_=>none
 |n+1,a=>body (bn body n) a
def DW {P:Program} {σ:BI} {Q:Exit→BI→Prop} {j:Code} {A Rr:Type} (S:A→BI) (body:(A→Option Rr)→A→Option Rr) (r:Rr) (a0:A) (q:Bv σ (S a0)) (h:Go.Proofs.YtolgdkhlelfpoaaGreat.bn body Ap a0=some r)
 (round:∀(J:BI→Prop) (k:A→Option Rr),(∀σ' a,Bv σ' (S a)→k a=some r→J σ')→∀a,body k a=some r→AB P j (S a) (L6 J Q)):AB P (.loop j) σ Q:=by
 refine AB.loop (fun n s=>∃a,Bv s (S a)∧Go.Proofs.YtolgdkhlelfpoaaGreat.bn body n a=some r) Ap ⟨a0,q,h⟩ ?_;rintro n s ⟨a,f,m⟩;refine CQ f ?_;cases n with
 |zero=>cases m
 |succ n=>exact round _ (Go.Proofs.YtolgdkhlelfpoaaGreat.bn body n) (fun σ' a u z=>⟨n,Xr n,a,u,z⟩) a m
def aS {A B Rr:Type} (body:(A→B→Option Rr)→A→B→Option Rr):Nat→A→B→Option Rr
 |0,_,_=>none
 |n+1,a,b=>body (aS body n) a b
def DF {P:Program} {σ:BI} {Q:Exit→BI→Prop} {m:Code} {A B Rr:Type} (S:A→B→BI) (body:(A→B→Option Rr)→A→B→Option Rr) (r:Rr) (a0:A) (j:B) (u:Bv σ (S a0 j)) (h:Go.Proofs.YtolgdkhlelfpoaaGreat.aS body Ap a0 j=some r)
 (round:∀(J:BI→Prop) (k:A→B→Option Rr),(∀σ' a b,Bv σ' (S a b)→k a b=some r→J σ')→∀a b,body k a b=some r→AB P m (S a b) (L6 J Q)):AB P (.loop m) σ Q:=by
 refine AB.loop (fun n s=>∃a b,Bv s (S a b)∧Go.Proofs.YtolgdkhlelfpoaaGreat.aS body n a b=some r) Ap ⟨a0,j,u,h⟩ ?_;rintro n s ⟨a,b,f,q⟩;refine CQ f ?_;cases n with
 |zero=>cases q
 |succ n=>exact round _ (Go.Proofs.YtolgdkhlelfpoaaGreat.aS body n) (fun σ' a b z I=>⟨n,Xr n,a,b,z,I⟩) a b q
def jk {A B C Rr:Type} (body:(A→B→C→Option Rr)→A→B→C→Option Rr):Nat→A→B→C→Option Rr
 |0,_,_,_=>none
 |n+1,a,b,c=>body (jk body n) a b c
def Pz {P:Program} {σ:BI} {Q:Exit→BI→Prop} {q:Code} {A B C Rr:Type} (S:A→B→C→BI) (body:(A→B→C→Option Rr)→A→B→C→Option Rr) (r:Rr) (a0:A) (j:B) (m:C) (z:Bv σ (S a0 j m)) (h:Go.Proofs.YtolgdkhlelfpoaaGreat.jk body Ap a0 j m=some r)
 (round:∀(J:BI→Prop) (k:A→B→C→Option Rr),(∀σ' a b c,Bv σ' (S a b c)→k a b c=some r→J σ')→∀a b c,body k a b c=some r→AB P q (S a b c) (L6 J Q)):AB P (.loop q) σ Q:=by
 refine AB.loop (fun n s=>∃a b c,Bv s (S a b c)∧Go.Proofs.YtolgdkhlelfpoaaGreat.jk body n a b c=some r) Ap ⟨a0,j,m,z,h⟩ ?_;rintro n s ⟨a,b,c,f,u⟩;refine CQ f ?_;cases n with
 |zero=>cases u
 |succ n=>exact round _ (Go.Proofs.YtolgdkhlelfpoaaGreat.jk body n) (fun σ' a b c I L=>⟨n,Xr n,a,b,c,I,L⟩) a b c u
def Uz {A B C D Rr:Type} (body:(A→B→C→D→Option Rr)→A→B→C→D→Option Rr):Nat→A→B→C→D→Option Rr
 |0,_,_,_,_=>none
 |n+1,a,b,c,d=>body (Uz body n) a b c d
def AB.Uz {P:Program} {σ:BI} {Q:Exit→BI→Prop} {u:Code} {A B C D Rr:Type} (S:A→B→C→D→BI) (body:(A→B→C→D→Option Rr)→A→B→C→D→Option Rr) (r:Rr) (a0:A) (j:B) (m:C) (q:D) (I:Bv σ (S a0 j m q)) (h:Go.Proofs.YtolgdkhlelfpoaaGreat.Uz body Ap a0 j m q=some r)
 (round:∀(J:BI→Prop) (k:A→B→C→D→Option Rr),(∀σ' a b c d,Bv σ' (S a b c d)→k a b c d=some r→J σ')→∀a b c d,body k a b c d=some r→AB P u (S a b c d) (L6 J Q)):AB P (.loop u) σ Q:=by
 refine AB.loop (fun n s=>∃a b c d,Bv s (S a b c d)∧Go.Proofs.YtolgdkhlelfpoaaGreat.Uz body n a b c d=some r) Ap ⟨a0,j,m,q,I,h⟩ ?_;rintro n s ⟨a,b,c,d,f,z⟩;refine CQ f ?_;cases n with
 |zero=>cases z
 |succ n=>exact round _ (Go.Proofs.YtolgdkhlelfpoaaGreat.Uz body n) (fun σ' a b c d L M=>⟨n,Xr n,a,b,c,d,L,M⟩) a b c d z
def Fg {A B C D E Rr:Type} (body:(A→B→C→D→E→Option Rr)→A→B→C→D→E→Option Rr):Nat→A→B→C→D→E→Option Rr
 |0,_,_,_,_,_=>none
 |n+1,a,b,c,d,e=>body (Fg body n) a b c d e
def AB.Fg {P:Program} {σ:BI} {Q:Exit→BI→Prop} {z:Code} {A B C D E Rr:Type} (S:A→B→C→D→E→BI) (body:(A→B→C→D→E→Option Rr)→A→B→C→D→E→Option Rr) (r:Rr) (a0:A) (j:B) (m:C) (q:D) (u:E) (L:Bv σ (S a0 j m q u)) (h:Go.Proofs.YtolgdkhlelfpoaaGreat.Fg body Ap a0 j m q u=some r)
 (round:∀(J:BI→Prop) (k:A→B→C→D→E→Option Rr),(∀σ' a b c d e,Bv σ' (S a b c d e)→k a b c d e=some r→J σ')→∀a b c d e,body k a b c d e=some r→AB P z (S a b c d e) (L6 J Q)):AB P (.loop z) σ Q:=by
 refine AB.loop (fun n s=>∃a b c d e,Bv s (S a b c d e)∧Go.Proofs.YtolgdkhlelfpoaaGreat.Fg body n a b c d e=some r) Ap ⟨a0,j,m,q,u,L,h⟩ ?_;rintro n s ⟨a,b,c,d,e,f,I⟩;refine CQ f ?_;cases n with
 |zero=>cases I
 |succ n=>exact round _ (Go.Proofs.YtolgdkhlelfpoaaGreat.Fg body n) (fun σ' a b c d e M O=>⟨n,Xr n,a,b,c,d,e,M,O⟩) a b c d e I
def Fh {A B C D E F Rr:Type} (body:(A→B→C→D→E→F→Option Rr)→A→B→C→D→E→F→Option Rr):Nat→A→B→C→D→E→F→Option Rr
 |0,_,_,_,_,_,_=>none
 |n+1,a,b,c,d,e,f=>body (Fh body n) a b c d e f
def AB.Fh {P:Program} {σ:BI} {Q:Exit→BI→Prop} {L:Code} {A B C D E F Rr:Type} (S:A→B→C→D→E→F→BI) (body:(A→B→C→D→E→F→Option Rr)→A→B→C→D→E→F→Option Rr) (r:Rr) (a0:A) (m:B) (q:C) (u:D) (z:E) (I:F) (O:Bv σ (S a0 m q u z I)) (h:Go.Proofs.YtolgdkhlelfpoaaGreat.Fh body Ap a0 m q u z I=some r)
 (round:∀(J:BI→Prop) (k:A→B→C→D→E→F→Option Rr),(∀σ' a b c d e f,Bv σ' (S a b c d e f)→k a b c d e f=some r→J σ')→∀a b c d e f,body k a b c d e f=some r→AB P L (S a b c d e f) (L6 J Q)):AB P (.loop L) σ Q:=by
 refine AB.loop (fun n s=>∃a b c d e f,Bv s (S a b c d e f)∧Go.Proofs.YtolgdkhlelfpoaaGreat.Fh body n a b c d e f=some r) Ap ⟨a0,m,q,u,z,I,O,h⟩ ?_;rintro n s ⟨a,b,c,d,e,f,j,M⟩;refine CQ j ?_;cases n with
 |zero=>cases M
 |succ n=>exact round _ (Go.Proofs.YtolgdkhlelfpoaaGreat.Fh body n) (fun σ' a b c d e f U Y=>⟨n,Xr n,a,b,c,d,e,f,U,Y⟩) a b c d e f M
def abq {A B C D E F G Rr:Type} (body:(A→B→C→D→E→F→G→Option Rr)→A→B→C→D→E→F→G→Option Rr):Nat→A→B→C→D→E→F→G→Option Rr
 |0,_,_,_,_,_,_,_=>none
 |n+1,a,b,c,d,e,f,g=>body (abq body n) a b c d e f g
def AB.abq {P:Program} {σ:BI} {Q:Exit→BI→Prop} {M:Code} {A B C D E F G Rr:Type} (S:A→B→C→D→E→F→G→BI) (body:(A→B→C→D→E→F→G→Option Rr)→A→B→C→D→E→F→G→Option Rr) (r:Rr) (a0:A) (m:B) (q:C) (u:D) (z:E) (I:F) (L:G) (U:Bv σ (S a0 m q u z I L)) (h:Go.Proofs.YtolgdkhlelfpoaaGreat.abq body Ap a0 m q u z I L=some r)
 (round:∀(J:BI→Prop) (k:A→B→C→D→E→F→G→Option Rr),(∀σ' a b c d e f g,Bv σ' (S a b c d e f g)→k a b c d e f g=some r→J σ')→∀a b c d e f g,body k a b c d e f g=some r→AB P M (S a b c d e f g) (L6 J Q)):AB P (.loop M) σ Q:=by
 refine AB.loop (fun n s=>∃a b c d e f g,Bv s (S a b c d e f g)∧Go.Proofs.YtolgdkhlelfpoaaGreat.abq body n a b c d e f g=some r) Ap ⟨a0,m,q,u,z,I,L,U,h⟩ ?_;rintro n s ⟨a,b,c,d,e,f,g,j,O⟩;refine CQ j ?_;cases n with
 |zero=>cases O
 |succ n=>exact round _ (Go.Proofs.YtolgdkhlelfpoaaGreat.abq body n) (fun σ' a b c d e f g Y Z=>⟨n,Xr n,a,b,c,d,e,f,g,Y,Z⟩) a b c d e f g O
section
variable {P : Program} {o : Oper} {es : List BN} {α : Type}
def akE {b:Nat} {z:α} {n c:Int} {r:List α} (h:JR b z n c=some r):(0≤n∧n≤c∧(b:Int)*c≤140737488355328)∧r=List.replicate n.toNat z:=by
 unfold JR at h;split at h
 ·exact⟨‹_›,(Cx h).symm⟩
 cases h
def cZ {x y:Operand} {t e:TypeId} {size f:Nat} {j:Value} {n c:Int} {r:List α} (enc:α→D) (z:α) (h:JR f z n c=some r) (hE:G8 P t e size f) (hz:(P.info? e).bind (·.zero)=some j) (h1:j.cells.all (·.oneCell')=true) (I:j.cells.size=size)
 (m:FP j=(enc z).cells.map .d) (hb:0<f) (ho:o.op=.makeSlice t x y):Bl P o [(x,.d (AY n)),(y,.d (AY c))] es (.aO es.length) (es++[.arr e size (List.map enc r)]):=
 .eff fun C ok H a w hm hn=>by
  obtain⟨⟨h0,U,hbc⟩,rfl⟩:=akE h;have hx:=(El hn).1.lit;have J:=(El hn).2.lit;simp only at hx J;obtain⟨i,z',hi,hz',hs,Y,_⟩:=hE.info;have Z:i.zero=some j:=by rw[hi]at hz;simpa using hz
  have L:c≤9223372036854775807:=by
   have h2:(1:Int)*c≤(f:Int)*c:=Int.mul_le_mul_of_nonneg_right AA AA;omega
  have hr:=run_make (P:=P) w t e i j hE.und hi Z .i64 .i64 n c h0 U (by rw[Y];omega) L;rw[hs]at hr
  let cells:=madeCells j.cells (c.toNat*size)
  have M:=hE.pos;have q:cells.size=c.toNat*size:=size_madeCells _ _;have O:(FP j).length=size:=by simp[FP,I]
  have s:∀y∈List.map enc (List.replicate n.toNat z),y.cells.length=size:=by
   intro y J;simp only[List.map_replicate,List.mem_replicate]at J;rw[J.2,←O,m];simp
  have u:=RJ s;have hlen:(List.map enc (List.replicate n.toNat z)).length=n.toNat:=BP
  rw[hlen]at u;have aGE:n.toNat*size≤c.toNat*size:=Lc _ AA
  have hrs:∀{ok:Nat→Prop} {w:World} {H:List Bj},Gf ok w H (flat (List.map enc (List.replicate n.toNat z))) (cells.toList.take (n.toNat*size)):=by
   intro ok w H;refine⟨by rw[u,GH,V4,q];omega,fun k hk=>?_⟩;rw[u]at hk;have hd:=aDF k size;have hq:k/size<n.toNat:=wL (by rwa [Ur]at hk);have hm':k % size<size:=lS _ M;have e0:k=k/size*size+k % size:=by rw[Ur];exact hd.symm
   have e1:(flat (List.map enc (List.replicate n.toNat z))).getD k .junk=.d ((enc z).cells.getD (k % size) Dn):=by
    have hg:=flat_get s (k/size) (k % size) (by rw[hlen];exact hq) hm';rw[←e0]at hg;rw[hg];congr 3;simp[List.getD,hq]
   have hcl:(enc z).cells.length=size:=by rw[←O,m];simp
   have e2:(Ag.d ((enc z).cells.getD (k % size) Dn))=(FP j).getD (k % size) .junk:=by
    rw[m];have :k % size<(enc z).cells.length:=AA
    simp[List.getD,this]
   have S:k % size<j.cells.size:=AA
   have e3:(cells.toList.take (n.toNat*size)).getD k undef=j.cells[k % size]:=by
    have hk2:k<c.toNat*size:=AA
    have e:cells.toList=(List.range (c.toNat*size)).map fun i=>j.cells[i % j.cells.size]! :=by
     show(madeCells j.cells (c.toNat*size)).toList=_;simp[madeCells]
    rw[e];simp only[List.getD,Ol hk];simp[hk2,I];rw[oQ j.cells (k % size) S]
   rw[e1,e2,e3];have e4:(FP j).getD (k % size) .junk=.d (Oj j.cells[k % size]):=by simp[FP,List.getD,S]
   rw[e4];exact⟨rY ((QI.1 h1) _ BP),.d _ _ (jC _)⟩
  obtain⟨h2,h3⟩:=hm.push (.cells cells e) ⟨.slice (some ⟨w.heap.size,0,none⟩) n.toNat c.toNat,size⟩ (.arr e size (List.map enc (List.replicate n.toNat z))) (fun b hb=>by simpa[Dq]using hb.symm) (by
   refine⟨rfl,s,cells.toList.take (n.toNat*size),⟨?_,.inr ⟨w.heap.size,c.toNat,cells,by rw[hlen],Eh _,Y9 w _,by rw[hlen];omega,by unfold maxLen;omega,kV q.symm,by rw[hlen]⟩⟩,hrs⟩
   rw[hlen,GH,V4,q];omega)
  refine⟨.slice (some ⟨w.heap.size,0,none⟩) n.toNat c.toNat,_,ok,_,.inl ?_,h3,Names.push _ _,h2,.aO _ _ _ _ size (by rw[←hm.hlen];simp)⟩;simp only[execOp,ho,hx,J,FB,hr,FK,G6];rfl
def gCopy (l m:List α):List α:=m.take l.length++l.drop m.length
def agf {x y:Operand} {t e:TypeId} {size bytes k:Nat} (enc:α→D) (l m:List α) (hE:G8 P t e size bytes) (hk:es[k]? =some (.arr e size (List.map enc l))) (hc:∀a,(enc a).cells.length=size) (ho:o.op=.call { callee:=.builtin .copy,args:= #[x,y],argTypes:= #[t,t] }):
 Bl P o [(x,.aO k),(y,.d (BD enc m))] es .junk (es.set k (.arr e size (List.map enc (gCopy l m)))):=
 .eff fun C ok H a w hm hn=>by
  have hx:=(El hn).1;have hy:=(El hn).2;simp only at hx hy;obtain⟨h,hh,hok⟩:=GU hm.ent hm.hlen hk;have hxv:=Qi hx hh;obtain⟨i,z',hi,hz',hs,hby,_⟩:=hE.info;have hu:(underlying t).run P w=.ok (.slice e) w:=aM3
  have hsz:(sizeOf e).run P w=.ok size w:=aPD
  have O:∀(q:List α),∀y∈q.map enc,y.cells.length=size:=fun q y hy=>aMw
  have hyR:Dz ok w (.sl (m.map enc)) (a.eval y):=by cases hy with |d _ _ h=>exact h
  obtain⟨f,M,aFT⟩:=Yp H hyR (O m);obtain⟨h1,h2,ys,S,hrs⟩:=hok;have U:(m.map enc).length=m.length:=BP
  have hll:(l.map enc).length=l.length:=BP
  have hnl:f.length=m.length*size:=by rw[M.len,U]
  let n:=Nat.min m.length l.length
  have Y:(Builtin.lenOf (a.eval y)).run P w=.ok m.length w:=by
   rcases M.at_ with⟨ad,c,Z,_⟩|⟨c,Z,e2⟩
   ·rw[Z];simp[Builtin.lenOf]
   rw[Z];rw[U]at e2;simp[Builtin.lenOf,e2]
  have z:(Builtin.firstCells size n (a.eval y)).run P w=.ok (f.take (n*size)).toArray w:=by
   rcases M.at_ with⟨ad,c,Z,hcells⟩|⟨c,Z,e2⟩
   ·rw[Z];refine run_firstCells_some (P:=P) w size n ad _ c (f.take (n*size)) ?_ ?_
    ·rw[GH,hnl];have :n*size≤m.length*size:=Lc _ (aJL _ _);omega
    intro j v hj;rw[List.getElem?_take]at hj;split at hj
    ·exact hcells j v hj
    cases hj
   rw[Z];rw[U]at e2;have :f=[]:=H9 (by rw[hnl,e2];simp);simp[Builtin.firstCells,this]
  have hone:∀u∈f.take (n*size),u.oneCell'=true:=fun u hu=>M.one u (xK hu);have hn1:n≤m.length:=aJL _ _;have hn2:n≤l.length:=Nat.min_le_right _ _
  have s:(f.take (n*size)).length=n*size:=by
   rw[GH,hnl];have :n*size≤m.length*size:=Lc _ hn1;omega
  have hgc:gCopy l m=m.take n++l.drop n:=by
   unfold gCopy;by_cases hle:m.length≤l.length
   ·have Z:n=m.length:=aO8 hle;rw[Z,Qp hle,Gi]
   have Z:n=l.length:=Nat.min_eq_right AA;rw[Z,aJG AA,Oe]
  have I:(gCopy l m).length=l.length:=by rw[hgc];simp;omega
  rcases S.2 with⟨hv,hl0⟩|⟨g,cap,J,hv,_,hg,hncap,hcm,hcs,htake⟩
  ·
   rw[hll]at hl0;have hn0:n=0:=AA
   have hl:l=[]:=H9 hl0;have hge:gCopy l m=l:=by rw[hgc,hn0];simp
   rw[hge]
   have hset:es.set k (.arr e size (List.map enc l))=es:=by
    apply lX;intro j;by_cases hj:k=j
    ·subst hj;have hkl:=(FN.1 hk).1;rw[List.getElem?_set_self hkl,hk]
    rw[bZ hj]
   rw[hset];refine⟨goInt n,w,ok,H,.inl ?_,.refl _ _,.refl _,hm,.junk _⟩;have e0:Nat.min m.length 0=n:=by rw[hn0];simp
   have hf0:(Builtin.firstCells size 0 (a.eval y)).run P w=.ok #[] w:=by rw[hn0]at z;simpa using z
   simp[execOp,ho,resolve,invoke,builtin,Builtin.copy_,hxv,hv,hu,Y,hsz,hf0,hn0]
  ·rw[hll]at hv hncap htake;have hlt:g<w.heap.size:=(Fv.1 hg).1
   have hfit:n*size≤J.size:=by
    exact Ei (Lc _ AA) hcs
   have hst:=aKf (P:=P) g 0 e (f.take (n*size)) 0 J w hg (by rw[s];omega) hone;have aAo:∀y∈(gCopy l m).map enc,y.cells.length=size:=O _
   obtain⟨h3,h4⟩:=hm.upd (e:=.arr e size (List.map enc (gCopy l m))) (w':=w.setRow g (J.toList.take (0+0)++f.take (n*size)++J.toList.drop (0+0+(f.take (n*size)).length)).toArray) hk rfl hh (by rw[hv];rfl) rfl rfl rfl aIW (fun c hc=>aL5 _ _ _ _ hc) (fun hg'=>by
    refine⟨h1,aAo,f.take (n*size)++ys.drop (n*size),?_,?_⟩
    ·refine⟨?_,.inr ⟨g,cap,_,by rw[D8,I];exact hv,Eh _,nR w g J _ e (0,0) hg,by rw[D8,I];exact hncap,hcm,?_,?_⟩⟩
     ·simp only[ES,s,Q9,S.1,D8,I];have :n*size≤l.length*size:=Lc _ hn2;omega
     ·simp only[Oo,aDg,Hu,KG,s];simp only[fG,ES,s,Q9,V4];rw[show n*size+(J.size-n*size)=J.size by omega];exact hcs
     simp only[Oo,aDg,Hu,KG,s,aEb];rw[D8,I,←htake];rw[aIa,s,Qp (by rw[s];exact Lc _ hn2)];congr 1;rw[List.drop_take]
    have ha:=aFT.mono hg' (Names.refl H);have hb:=hrs.mono hg' (Names.refl H);have aFU:=RJ (O l);have aFV:=RJ (O m);have aDQ:=RJ aAo;have aGF:n*size≤l.length*size:=Lc _ hn2;have aGG:n*size≤m.length*size:=Lc _ hn1;refine⟨by simp only[aDQ,ES,s,Q9,S.1,D8,I];omega,fun j hj=>?_⟩;rw[aDQ,D8,I]at hj;have hpos:=hE.pos;have e0:j=j/size*size+j % size:=by rw[Ur];exact(aDF j size).symm
    have hq:j/size<l.length:=wL (by rwa [Ur]at hj);have hr:j % size<size:=lS _ hpos;have hg3:=flat_get aAo (j/size) (j % size) (by rw[D8,I];exact hq) hr;rw[←e0]at hg3;by_cases hjn:j<n*size
    ·have hqn:j/size<n:=wL (by rwa [Ur]at hjn);have hg2:=flat_get (O m) (j/size) (j % size) (by rw[U];omega) hr;rw[←e0]at hg2
     have L:((gCopy l m).map enc).getD (j/size) Dn=(m.map enc).getD (j/size) Dn:=by
      rw[hgc];simp only[List.getD,Jv];rw[GZ E5,cD,Ol hqn]
     rw[hg3,L,←hg2]
     have e5:(f.take (n*size)++ys.drop (n*size)).getD j undef=f.getD j undef:=by
      simp only[List.getD];rw[GZ (by rw[s];exact hjn),Ol hjn]
     rw[e5];exact ha.2 j (by rw[aFV,U];omega)
    have hqn:n≤j/size:=(Nat.le_div_iff_mul_le hpos).2 AA;have hg1:=flat_get (O l) (j/size) (j % size) (by rw[hll];exact hq) hr;rw[←e0]at hg1
    have L:((gCopy l m).map enc).getD (j/size) Dn=(l.map enc).getD (j/size) Dn:=by
     rw[hgc];have hlt':(m.take n).length=n:=E5
     simp only[List.getD,Jv];rw[Jh (by rw[D8,hlt'];exact hqn),D8,hlt',eS,VT];congr 2;omega
    rw[hg3,L,←hg1]
    have e5:(f.take (n*size)++ys.drop (n*size)).getD j undef=ys.getD j undef:=by
     simp only[List.getD];rw[Jh (by rw[s];omega),s,VT];congr 2;omega
    rw[e5]
    exact hb.2 j (by rw[aFU,hll];omega))
   refine⟨goInt n,_,ok,H,.inl ?_,h4,.refl _,h3,.junk _⟩;have e0:Nat.min m.length l.length=n:=rfl;simp[execOp,ho,resolve,invoke,builtin,Builtin.copy_,hxv,hv,hu,Y,hsz,e0,z];rw[hst];simp
end
def Bq (s:ByteArray):List Int:=s.data.toList.map fun c=>(c.toNat:Int)
def H7 (s:ByteArray):(Bq s).length=s.size:=by unfold Bq;rw[D8,V4];rfl
section
variable {P : Program} {o : Oper} {es : List BN} {α : Type}
def aCh :∀(l:List Int),flat (l.map DC)=l.map fun n=>.d (DC n)
 | []=>rfl
 |n::l=>by rw[Ld,je,aCh l];rfl
def ah6 {w:World} {t u ty e:TypeId} {i:TypeInfo} (U:P.underlying t=some (.slice e)) (Y:P.underlying u=some .string) (hi:P.info? e=some i) (hz:i.zero=some (.int .u8 0)) (f:i.size=1) (O:i.bytes=1)
 {v:Value} {n:Nat} {xs:List Value} (j:qF w e 1 v n xs) (s:ByteArray) (J:n+s.size≤maxLen) (z:n+s.size≤140737488355328):
 ∃v' w',(Builtin.append_ #[t,u] ty #[v,.string s]).run P w=.ok v' w'∧qF w' e 1 v' (n+s.size) (xs++Lib.strCells s)∧w.grownBy w' v.ownBlock∧(∀M,Dq v'=some M→Dq v=some M∨w.heap.size≤M):=by
 have I:xs.length=n:=by simpa using j.1
 have hlen:(xs++Lib.strCells s).length=(n+s.size)*1:=by rw[ES,I,aOA,Zo]
 rcases j.2 with⟨rfl,rfl⟩|⟨g,cap,S,rfl,_,hg,hnc,L,Z,m⟩
 ·have hx:xs=[]:=H9 I;subst hx;obtain⟨v',w',q1,q2,q3,q4⟩:=Lib.run_append_own_string (P:=P) w w.heap.size t u ty e i U Y hi hz f O _ 0 [] (aGc w w.heap.size e 1) s J z (EG _);refine⟨v',w',q1,.of q2,q3,fun M h=>.inr ?_⟩;rcases q2.2 with⟨rfl,_⟩|⟨g2,_,_,rfl,hle,_⟩
  ·simp[Dq]at h
  simp[Dq]at h;subst h;exact hle
 rw[Zo]at Z m;by_cases q:n+s.size≤cap
 ·have hr:=Lib.run_append_room_string (P:=P) w t u ty e i U Y hi f g n cap S hg s q AA;refine⟨_,_,hr,⟨hlen,.inr ⟨g,cap,_,rfl,Eh _,nR w g S _ e _ hg,q,L,?_,?_⟩⟩,⟨rfl,rfl,rfl,BP,fun k _ hk=>setRow_other w g k _ (fun e=>hk (by simp[Value.ownBlock,e]))⟩,fun M h=>.inl h⟩
  ·simp only[fG,ES,GH,Q9,V4,aOA];omega
  rw[m,←hlen];exact aIz
 have hr:=Lib.run_append_grow_string (P:=P) w t u ty e i (.int .u8 0) U Y hi hz ⟨g,0,none⟩ n cap xs (by rw[f];simpa using I) (j.cells (g:=g) rfl) s AA (by unfold maxLen at J;omega) (by rw[O];exact growslice_fits AA AA);have hge:=grownCap_ge w (n+s.size) cap e;have L:grownCap w (n+s.size) cap e≤maxLen:=grownCap_le_maxLen w (n+s.size) cap e J;refine⟨_,_,hr,⟨hlen,.inr ⟨w.heap.size,_,_,rfl,Eh _,Y9 w.drew _,hge,L,kV ?_,?_⟩⟩,⟨rfl,rfl,rfl,BP,fun k hk _=>Ju w.drew _ k hk⟩,fun M h=>.inr (by simp[Dq]at h;omega)⟩
 ·have hz1:(Value.int IntKind.u8 0).cells.size=1:=rfl;simp only[Array.size_append,fG,size_zeroCells,hz1,I,aOA];omega
 simp only[Array.toList_append,J7];rw[←J7,←hlen];exact aIz
def apz {s x:Operand} {t u e:TypeId} {k:Nat} {l r:List Int} {f:ByteArray} (h:CY 1 l (Bq f)=some r) (hE:G8 P t e 1 1) (hz:(P.info? e).bind (·.zero)=some (.int .u8 0)) (hu:P.underlying u=some .string) (hk:es[k]? =some (.arr e 1 (List.map DC l)))
 (ho:o.op=.call { callee:=.builtin .append,args:= #[s,x],argTypes:= #[t,u] }):Bl P o [(s,.aO k),(x,.d (Cm f))] es (.aO es.length) (es.set k .dead++[.arr e 1 (List.map DC r)]):=
 .eff fun C ok H a w Y hn=>by
  obtain⟨rfl,hlen⟩:=yQ h;rw[H7,Zo]at hlen;have hs:=(El hn).1;have hx:=(El hn).2.lit;simp only at hs hx;obtain⟨hd,hh,Z⟩:=GU Y.ent Y.hlen hk;have hsv:=Qi hs hh;obtain⟨h1,h2,ys,m,hrs⟩:=Z;obtain⟨i,z',hi,hz',hs1,hby,_⟩:=hE.info;have hz2:i.zero=some (.int .u8 0):=by rw[hi]at hz;simpa using hz
  have I:(l.map DC).length=l.length:=BP
  have J:(l.map DC).length+f.size≤maxLen:=by rw[I];unfold maxLen;omega
  obtain⟨v',w',hr,z,L,M⟩:=ah6 (P:=P) (ty:=o.type) hE.und hu hi hz2 hs1 hby m f J (by rw[I];exact hlen)
  obtain⟨h3,h4⟩:=Y.turn (h':=⟨v',1⟩) (e:=.arr e 1 (List.map DC (l++Bq f))) hk rfl hh L.os L.tape L.output L.size (fun c hc hne=>L.block c hc (by rw[aOW m];exact fun e=>hne e.symm)) (fun g O=>⟨zQ z O,M g O⟩) (fun hgr=>by
   refine⟨rfl,fun y hy=>by obtain⟨q,_,rfl⟩:=GV.1 hy;rfl,ys++Lib.strCells f,?_,?_⟩
   ·have e:(List.map DC (l++Bq f)).length=(l.map DC).length+f.size:=by simp[H7]
    rw[e];exact z
   have S:=hrs.mono hgr (Names.push H [⟨v',1⟩]);have hfl:(flat (l.map DC)).length=l.length:=by rw[aCh];simp
   have hcl:(Lib.strCells f)=(Bq f).map (.int .u8):=by unfold Lib.strCells Bq;rw[uz];rfl
   rw[Jv,aEz,aCh (Bq f),hcl];refine⟨by rw[ES,ES,S.1,D8,D8],fun i hi=>?_⟩;by_cases j:i<(flat (l.map DC)).length
   ·have e1:(flat (l.map DC)++(Bq f).map fun n=>Ag.d (DC n)).getD i .junk=(flat (l.map DC)).getD i .junk:=by simp[List.getD,GZ j]
    have e2:(ys++(Bq f).map (Value.int .u8)).getD i undef=ys.getD i undef:=by simp[List.getD,GZ (by rw[S.1];exact j:i<ys.length)]
    rw[e1,e2];exact S.2 i j
   have U:i-(flat (l.map DC)).length<(Bq f).length:=by rw[ES,D8]at hi;omega
   have e1:(flat (l.map DC)++(Bq f).map fun n=>Ag.d (DC n)).getD i .junk=.d (DC (Bq f)[i-(flat (l.map DC)).length]):=by simp[List.getD,Jh (Tz j),U]
   have e2:(ys++(Bq f).map (Value.int .u8)).getD i undef=.int .u8 (Bq f)[i-(flat (l.map DC)).length]:=by simp[List.getD,Jh (by rw[S.1];omega:ys.length≤i),S.1,U]
   rw[e1,e2]
   exact⟨rfl,.d _ _ (.lit _)⟩)
  have hH:(H++[(⟨v',1⟩:Bj)])[es.length]? =some ⟨v',1⟩:=by rw[←Y.hlen];simp
  refine⟨v',w',ok,_,.inl ?_,h4,Names.push _ _,h3,?_⟩
  ·simp[execOp,ho,resolve,invoke,builtin,hx,hsv,hr]
  rcases z.2 with⟨rfl,_⟩|⟨g',c',_,rfl,_⟩
  ·exact .aO _ _ _ _ 1 hH
  exact .aO _ _ _ _ 1 hH
def aqB {x:Operand} {n q e:TypeId} {s:ByteArray} (J:P.underlying n=some .string) (hd:P.underlying q=some (.slice e)) (L:P.underlying e=some (.int .u8)) (M:o.op=.convert n q x):Bl P o [(x,.d (Cm s))] es (.d (BD DC (Bq s))) es:=
 .eff fun C ok H a w O S=>by
  have I:=(Kt S).lit;simp only at I;have U:=run_bytes_of_string (P:=P) w n q e s J hd L;obtain⟨Y,Z⟩:=O.drew;obtain⟨h3,h4⟩:=Y.fresh (.cells (bytesRow s (grownCap w s.size 0 e)) e ((bytesRow s (grownCap w s.size 0 e)).size,(bytesRow s (grownCap w s.size 0 e)).size+1));refine⟨.slice (some ⟨w.heap.size,0,none⟩) s.size (grownCap w s.size 0 e),_,_,H,.inl ?_,Z.trans h4,.refl _,h3,.d _ _ ?_⟩
  ·simp only[execOp,M,I,FB,U,FK,G6]
  have f:((Bq s).map DC).length=s.size:=by simp[H7]
  have h:∀i,i<s.size→(w.drew.alloc (.cells (bytesRow s (grownCap w s.size 0 e)) e ((bytesRow s (grownCap w s.size 0 e)).size,(bytesRow s (grownCap w s.size 0 e)).size+1))).cell? ⟨w.heap.size,0+(i*1+0),none⟩=some (.int .u8 ((s.data.toList.getD i 0).toNat)):=by
   intro i hi;have hb:(w.drew.alloc (.cells (bytesRow s (grownCap w s.size 0 e)) e ((bytesRow s (grownCap w s.size 0 e)).size,(bytesRow s (grownCap w s.size 0 e)).size+1))).heap[w.heap.size]? =some (.cells (bytesRow s (grownCap w s.size 0 e)) e ((bytesRow s (grownCap w s.size 0 e)).size,(bytesRow s (grownCap w s.size 0 e)).size+1)):=Y9 w.drew _;rw[KG,Zo,Oo];have m:i<s.data.size:=hi
   have hg:(bytesRow s (grownCap w s.size 0 e))[i]? =some (.int .u8 ((s.data.toList.getD i 0).toNat)):=by
    unfold bytesRow;rw[Ym ZY];simp[qL m,List.getD]
   unfold World.cell?;simp only[hb];simpa using hg
  have z:∀i,i<s.size→((Bq s).map DC).getD i Dn=DC ((s.data.toList.getD i 0).toNat):=by
   intro i hi;have m:i<s.data.size:=hi;simp[Bq,List.getD,qL m]
  have z0:∀j,j<1→j=0:=fun j u=>AA
  have :=Dz.sl (ok:=fun b=>ok b∨b=w.drew.heap.size) (w:=w.drew.alloc (.cells (bytesRow s (grownCap w s.size 0 e)) e ((bytesRow s (grownCap w s.size 0 e)).size,(bytesRow s (grownCap w s.size 0 e)).size+1))) ((Bq s).map DC) w.heap.size 0 (grownCap w s.size 0 e) 1 (by rw[f];exact grownCap_ge w s.size 0 e) (fun _ _=>.inr rfl)
   (fun i hi=>by rw[f]at hi;rw[z i hi];rfl)
   (fun i hi j u=>by rw[f]at hi;rw[z0 j u,z i hi];rfl)
   (fun i hi j u=>by rw[f]at hi;rw[z0 j u,h i hi];rfl)
   (fun i hi j u=>by rw[f]at hi;rw[z0 j u];unfold cellAt;rw[h i hi,z i hi];exact .lit _)
  rw[f]at this;exact this
def EX (op:BinOp) (k:IntKind) (x y:Int):Int:=
 match op with
 | .and=>k.wrap ((BitVec.ofInt k.bits x&&& BitVec.ofInt k.bits y).toNat)
 | .or=>k.wrap ((BitVec.ofInt k.bits x|||BitVec.ofInt k.bits y).toNat)
 | .xor=>k.wrap ((BitVec.ofInt k.bits x^^^BitVec.ofInt k.bits y).toNat)
 |_=>k.wrap ((BitVec.ofInt k.bits x&&& ~~~(BitVec.ofInt k.bits y)).toNat)
def QA {t t':TypeId} {x y:Operand} {k:IntKind} {u v:Int} (f:o.op=.binOp .and t x y t'):Bl P o [(x,.d (.lit (.int k u))),(y,.d (.lit (.int k v)))] es (.d (.lit (.int k (EX .and k u v)))) es:=
 Gv f (fun w=>aBd) ⟨rfl,rfl⟩
def WQ {t t':TypeId} {x y:Operand} {k:IntKind} {u v:Int} (f:o.op=.binOp .or t x y t'):Bl P o [(x,.d (.lit (.int k u))),(y,.d (.lit (.int k v)))] es (.d (.lit (.int k (EX .or k u v)))) es:=
 Gv f (fun w=>aBd) ⟨rfl,rfl⟩
def ae4 {t t':TypeId} {x y:Operand} {k:IntKind} {u v:Int} (f:o.op=.binOp .xor t x y t'):Bl P o [(x,.d (.lit (.int k u))),(y,.d (.lit (.int k v)))] es (.d (.lit (.int k (EX .xor k u v)))) es:=
 Gv f (fun w=>aBd) ⟨rfl,rfl⟩
def asB {t t':TypeId} {x y:Operand} {k:IntKind} {u v:Int} (f:o.op=.binOp .andNot t x y t'):Bl P o [(x,.d (.lit (.int k u))),(y,.d (.lit (.int k v)))] es (.d (.lit (.int k (EX .andNot k u v)))) es:=
 Gv f (fun w=>aBd) ⟨rfl,rfl⟩
def Zh (k:IntKind) (x:Int):Int:=EX .xor k (if k.signed then -1 else k.max) x
def aQI {t:TypeId} {x:Operand} {k:IntKind} {u:Int} (f:o.op=.unOp .xor t x):Bl P o [(x,.d (.lit (.int k u)))] es (.d (.lit (.int k (Zh k u)))) es:=
 aMK f (fun w=>by simp[Op.unary,Op.intBits,Zh,EX])
def OQ (op:BinOp) (k:IntKind) (x y:Int):Option Int:=
 if y<0 then none else some (match op with | .shl=>k.wrap (x*2^(min y.toNat k.bits))|_=>x.fdiv (2^(min y.toNat k.bits)))
def aCT {t t':TypeId} {x y:Operand} {k k':IntKind} {u v r:Int} (h:OQ .shl k u v=some r) (f:o.op=.binOp .shl t x y t'):Bl P o [(x,.d (.lit (.int k u))),(y,.d (.lit (.int k' v)))] es (.d (.lit (.int k r))) es:=by
 unfold OQ at h;split at h
 ·cases h
 rename_i j;obtain rfl:=Cx h;exact Gv f (fun w=>by simp[binOp,Op.shift,j]) ⟨rfl,rfl⟩
def aQo {t t':TypeId} {x y:Operand} {k k':IntKind} {u v r:Int} (h:OQ .shr k u v=some r) (f:o.op=.binOp .shr t x y t'):Bl P o [(x,.d (.lit (.int k u))),(y,.d (.lit (.int k' v)))] es (.d (.lit (.int k r))) es:=by
 unfold OQ at h;split at h
 ·cases h
 rename_i j;obtain rfl:=Cx h;exact Gv f (fun w=>by simp[binOp,Op.shift,j]) ⟨rfl,rfl⟩
def ou (k:IntKind) (a b:Int):Option Int:=if b=0 then none else some (k.wrap (a.tdiv b))
def Vh (a b:Int):Option Int:=if b=0 then none else some (a.tmod b)
def aoi {t t':TypeId} {x y:Operand} {k:IntKind} {u v r:Int} (h:ou k u v=some r) (f:o.op=.binOp .quo t x y t'):Bl P o [(x,.d (.lit (.int k u))),(y,.d (.lit (.int k v)))] es (.d (.lit (.int k r))) es:=by
 unfold ou at h;split at h
 ·cases h
 rename_i j;obtain rfl:=Cx h;exact Gv f (fun w=>by simp[binOp,Op.intDiv,j]) ⟨rfl,rfl⟩
def aI8 {t t':TypeId} {x y:Operand} {k:IntKind} {u v r:Int} (h:Vh u v=some r) (f:o.op=.binOp .rem t x y t'):Bl P o [(x,.d (.lit (.int k u))),(y,.d (.lit (.int k v)))] es (.d (.lit (.int k r))) es:=by
 unfold Vh at h;split at h
 ·cases h
 rename_i j;obtain rfl:=Cx h;exact Gv f (fun w=>by simp[binOp,Op.intDiv,j]) ⟨rfl,rfl⟩
end
section
variable {P : Program} {o : Oper} {es : List BN} {α : Type}
def aT3 {ok:Nat→Prop} {w:World} {H:List Bj} {h:Bj} {e size k i off:Nat} {xs:List D} {v:Value} (M:H[k]? =some h) (q:Eo ok w H h (.arr e size xs)) (hi:i<xs.length) (O:R ok w H (.lQ k i off) v):
 ∃g cap f ys,h.v=.slice (some ⟨g,0,none⟩) xs.length cap∧w.heap[g]? =some (.cells f e (0,0))∧xs.length≤cap∧cap≤maxLen∧xs.length*size≤f.size∧cap*size≤f.size∧f.toList.take (xs.length*size)=ys∧ys.length=xs.length*size∧Gf ok w H (flat xs) ys∧(∀x∈xs,x.cells.length=size)∧v=.pointer (some ⟨g,i*size+off,none⟩):=by
 obtain⟨I,S,ys,⟨U,Y⟩,Z⟩:=q;rcases Y with⟨m,h7⟩|⟨g,cap,f,m,h7,h8,J,u,j,z⟩
 ·omega
 refine⟨g,cap,f,ys,m,h8,J,u,Ei (Lc _ J) j,j,z,U,Z,S,?_⟩;cases O with
 |lQ _ _ _ b n c s L=>
  rw[M]at L;obtain rfl:=Cx L;simp only[fF,MI,Addr.mk.injEq]at m;simp only at I;rw[m.1.1,I]
def aao {size n i j:Nat} (hi:i<n) (f:j<size):i*size+j<n*size:=
 calc i*size+j<i*size+size:=AA
  _=(i+1)*size:=by rw[Ud]
  _≤n*size:=Lc _ hi
def Il {x:Operand} {t:TypeId} {agg:Bool} {k n i off e size:Nat} {y:D} (enc:α→D) {l:List α} {a:α} (hy:y=PN agg (enc a).cells off n) (hk:es[k]? =some (.arr e size (List.map enc l))) (ha:l[i]? =some a) (hT:EF P t agg n) (hn:off+n≤(enc a).cells.length) (h1:agg=false→n=1)
 (ho:o.op=.load t x):Bl P o [(x,.lQ k i off)] es (.d y) es:=
 .pure fun ok H ac w J hl O=>by
  have hx:=Kt O;simp only at hx;subst hy;obtain⟨h,hh,S⟩:=GU J hl hk;obtain⟨u,L⟩:=FN.1 ha;have f:i<(List.map enc l).length:=RF
  obtain⟨g,cap,m,ys,e1,e2,e3,e4,e5,e5',e6,e7,e8,U,Y⟩:=aT3 hh S f hx;have z:(List.map enc l).getD i Dn=enc a:=by simp[List.getD,u,L]
  have hsz:(enc a).cells.length=size:=by
   refine U _ ?_;exact GV.2 ⟨a,by rw[←L];exact Eb u,rfl⟩
  have Z:=RJ U
  have q:∀j,j<size→w.cell? ⟨g,i*size+j,none⟩=some (ys.getD (i*size+j) undef):=by
   intro j I;have s:=aao f I;have hcur:(List.map enc l).length*size≤m.size:=e5;have h15:i*size+j<m.size:=AA
   have e11:ys.getD (i*size+j) undef=m[i*size+j]'(h15):=by
    rw[←e6];have h14:i*size+j<l.length*size:=Pg
    simp[List.getD,Ol h14,show i*size+j<m.size by omega]
   rw[e11];simp[World.cell?,e2,show i*size+j<m.size by omega]
  have M:∀j,j<size→((enc a).cells.getD j Dn).leaf=true∧Dz ok w ((enc a).cells.getD j Dn) (ys.getD (i*size+j) undef):=by
   intro j I;have s:=e8.2 (i*size+j) (by rw[Z];exact aao f I);rw[flat_get U i j f I,z]at s;refine⟨s.1,?_⟩;cases s.2 with |d _ _ h=>exact h
  obtain⟨v,hr,hD⟩:=aCf (ok:=ok) (w:=w) (b:=g) (p:=i*size) (cs:=(enc a).cells) hT hn h1 (fun j I=>(M j AA).1) (fun j I=>by rw[q j AA];rfl) (fun j I=>by unfold cellAt;rw[q j AA];exact(M j AA).2);exact⟨v,by simp only[execOp,ho,Y,FB,hr,FK,G6],.d _ _ hD⟩
def X0 {t:TypeId} {x y:Operand} {k i off n e size:Nat} (enc:α→D) {l:List α} {a a':α} {v:Ag} (hk:es[k]? =some (.arr e size (List.map enc l))) (ha:l[i]? =some a) (hl:v.cells.all Ag.leaf=true) (hs:∀w,(sizeOf t).run P w=.ok n w) (hn:v.cells.length=n)
 (hle:off+n≤(enc a).cells.length) (hset:(enc a').cells.map Ag.d=setAt ((enc a).cells.map Ag.d) off v.cells) (hc:∀b,(enc b).cells.length=size) (ho:o.op=.store t x y):
 Bl P o [(x,.lQ k i off),(y,v)] es .junk (es.set k (.arr e size (List.map enc (l.set i a')))):=
 .eff fun C ok H s w hm hn'=>by
  have h1:=(El hn').1;have h2:=(El hn').2;simp only at h1 h2;obtain⟨h,hh,hok⟩:=GU hm.ent hm.hlen hk;obtain⟨M,hia⟩:=FN.1 ha;have aFW:i<(List.map enc l).length:=aEj
  have hok1:=hok.1;obtain⟨g,cap,f,ys,e1,e2,e3,e4,e5,e5',e6,e7,e8,e9,e10⟩:=aT3 hh hok aFW h1;have m:=h2.aj0 hl;have hll:(List.map enc l).length=l.length:=BP
  rw[hll]at e1 e3 e6 e7;have hea:(enc a).cells.length=size:=hc a;have O:(s.eval y).cells.toList.length=n:=by rw[m.1,hn]
  have hsz:(s.eval y).cells.size=n:=aEw
  have hcur:l.length*size≤f.size:=by simpa using e5
  have hend:i*size+off+n≤l.length*size:=by
   have :(i+1)*size≤l.length*size:=Lc _ M;rw[Ud]at this;omega
  have hst:=aKf (P:=P) g (i*size+off) e (s.eval y).cells.toList 0 f w e2 (by rw[O];omega) (fun u hu=>by
   obtain⟨j,z,rfl⟩:=JJ hu;have h5:=m.2 j (by rw[←m.1];exact z);have :=h5.2.leaf h5.1
   rwa [aFs z]at this)
  simp only[Oo]at hst;have J:∀(q:List α),∀y∈q.map enc,y.cells.length=size:=fun q y hy=>aMw
  obtain⟨h3,h4⟩:=hm.upd (e:=.arr e size (List.map enc (l.set i a'))) (w':=w.setRow g (f.toList.take (i*size+off)++(s.eval y).cells.toList++f.toList.drop (i*size+off+(s.eval y).cells.toList.length)).toArray) hk rfl hh (by rw[e1];rfl) rfl rfl rfl aIW (fun c hc=>aL5 _ _ _ _ hc) (fun hg'=>by
   have esz:(setAt f.toList (i*size+off) (s.eval y).cells.toList).length=f.toList.length:=S9 (by have :=f.length_toList;omega);refine⟨hok1,J _,setAt ys (i*size+off) (s.eval y).cells.toList,⟨?_,.inr ⟨g,cap,_,by simp;exact e1,Eh _,nR w g f _ e (0,0) e2,by simpa using e3,e4,?_,?_⟩⟩,?_⟩
   ·rw[S9 AA];simpa using e7
   ·have h9:(setAt f.toList (i*size+off) (s.eval y).cells.toList).toArray.size=f.size:=by rw[fG,esz];simp
    show _≤(setAt f.toList (i*size+off) (s.eval y).cells.toList).toArray.size;rw[h9];exact e5'
   ·rw[aEb];show(setAt f.toList (i*size+off) (s.eval y).cells.toList).take _=_;rw[←e6];have Z:(List.map enc (l.set i a')).length=l.length:=BP
    rw[Z];apply lX;intro j;have hcl:=f.length_toList;by_cases z:j<l.length*size
    ·have a1:((setAt f.toList (i*size+off) (s.eval y).cells.toList).take (l.length*size))[j]? =some ((setAt f.toList (i*size+off) (s.eval y).cells.toList).getD j undef):=by
      rw[Ol z];simp[List.getD,show j<(setAt f.toList (i*size+off) (s.eval y).cells.toList).length by rw[esz];omega]
     have tl:(f.toList.take (l.length*size)).length=l.length*size:=E5
     have sl:(setAt (f.toList.take (l.length*size)) (i*size+off) (s.eval y).cells.toList).length=l.length*size:=by rw[S9 AA,tl]
     have a2:(setAt (f.toList.take (l.length*size)) (i*size+off) (s.eval y).cells.toList)[j]? =some ((setAt (f.toList.take (l.length*size)) (i*size+off) (s.eval y).cells.toList).getD j undef):=by
      simp[List.getD,show j<(setAt (f.toList.take (l.length*size)) (i*size+off) (s.eval y).cells.toList).length by omega]
     rw[a1,a2,Xn AA,Xn AA];congr 1;split
     ·rfl
     simp[List.getD,Ol z]
    have tl:(f.toList.take (l.length*size)).length=l.length*size:=E5
    have sl:(setAt (f.toList.take (l.length*size)) (i*size+off) (s.eval y).cells.toList).length=l.length*size:=by rw[S9 AA,tl]
    rw[II E5,II AA]
   have hb:=e8.mono hg' (Names.refl H);have hcr:=m.mono hg' (Names.refl H);have hfl:=RJ (J l);have S:=RJ (J (l.set i a'));refine⟨by rw[S9 AA,e7,S];simp,fun j z=>?_⟩;rw[S]at z;simp only[D8,kH]at z
   have U:0<size:=by
    rcases XO size with h0|h0
    ·rw[h0,Nat.mul_zero]at z;omega
    exact h0
   have e0:j=j/size*size+j % size:=by rw[Ur];exact(aDF j size).symm
   have hq:j/size<l.length:=wL (by rwa [Ur]at z);have hr:j % size<size:=lS _ U
   have Y:j/size=i↔i*size≤j∧j<i*size+size:=by
    rw[Nat.div_eq_iff U,Ur];omega
   rw[O]at hb hcr;generalize j/size=qd at e0 hq Y;generalize j % size=I at e0 hr;have hg3:=flat_get (J (l.set i a')) qd I (by simpa using hq) hr;rw[←e0]at hg3;have hg1:=flat_get (J l) qd I (by simpa using hq) hr;rw[←e0]at hg1;rw[hg3,Xn AA,O];by_cases L:qd=i
   ·have hnew:(List.map enc (l.set i a')).getD (qd) Dn=enc a':=by rw[L];simp[List.getD,M]
    have hold:(List.map enc l).getD (qd) Dn=enc a:=by rw[L];simp[List.getD,M,hia]
    rw[hnew];have aGH:(enc a').cells.length=size:=hc a'
    have e11:Ag.d ((enc a').cells.getD (I) Dn)=(setAt ((enc a).cells.map Ag.d) off v.cells).getD (I) .junk:=by
     rw[←hset];simp[List.getD,show I<(enc a').cells.length by omega]
    rw[e11,Xn (by rw[D8,hn];exact hle),hn];have hji:j=i*size+I:=by rw[←L];exact e0
    by_cases hin:off≤I∧I<off+n
    ·rw[D9 hin,D9 AA];have :j-(i*size+off)=I-off:=AA
     rw[this];exact hcr.2 _ AA
    rw[DN hin,DN AA];have e12:((enc a).cells.map Ag.d).getD (I) .junk=.d ((enc a).cells.getD (I) Dn):=by simp[List.getD,show I<(enc a).cells.length by omega]
    rw[e12,←hold,←hg1];exact hb.2 j (by rw[hfl];simpa using z)
   have hsame:(List.map enc (l.set i a')).getD (qd) Dn=(List.map enc l).getD (qd) Dn:=by
    simp[List.getD,bZ (Ne.symm L)]
   have hnot:¬(i*size+off≤j∧j<i*size+off+n):=by
    rintro⟨ha1,ha2⟩;exact L (Y.2 ⟨AA,AA⟩)
   rw[DN hnot,hsame,←hg1]
   exact hb.2 j (by rw[hfl];simpa using z))
  refine⟨undef,_,ok,H,.inr ⟨rfl,?_⟩,h4,.refl _,h3,.junk _⟩;simp only[execOp,ho,e10,Instr.storeAt,Instr.sureAddr,storeVar,FB,G6,FK,hs,hsz,ne_eq,not_true_eq_false,Jq,hst]
end
def Ag.UA (k:Nat) (cs:List D):Ag→Ag
 | .ptr j off=>if j=k then .d (.ref cs off)else .ptr j off
 |x=>x
def BI.UA (σ:BI) (k:Nat) (cs:List D):BI:=⟨σ.slots.map (Ag.UA k cs),σ.ents.set k .dead,σ.base⟩
def UG {σ:BI} (k:Nat) {cs:List Ag} (Z:σ.ents[k]? =some (.box cs)) (hd:cs.all Ag.Ar=true):∀C ok H a w,Holds C ok H σ a w→∃ok',Holds C ok' H (σ.UA k (J3 cs)) a w:=by
 intro C ok H a w f;obtain⟨h,J,hok⟩:=GU f.mem.ent f.mem.hlen Z;have q:k<σ.ents.length:=(FN.1 Z).1;obtain⟨b0,L,hf,hx,hc⟩:=aMm hok hd
 let ok':Nat→Prop:=fun b=>ok b∨Dq h.v=some b
 have I:=fun b m=>f.mem.blk k _ h b Z rfl J m;have hg:EU ok w ok' w:=fun b m=>⟨.inl m,rfl⟩
 refine⟨ok',⟨f.mem.fr,fun b m=>.inl (f.mem.xU b m),?_,?_,f.mem.names,by simp[BI.UA,f.mem.hlen],?_,?_,?_⟩,by simp[BI.UA,f.size],f.defers.mono hg,f.base,?_⟩
 ·rintro b (m|m)
  ·exact f.mem.xW b m
  exact .inr (I b m).2.2
 ·rintro b (m|m)
  ·exact f.mem.kW b m
  exact(I b m).2.1
 ·intro j e' h' he u;rcases Kz q he with⟨rfl,rfl⟩|⟨_,z⟩
  ·trivial
  exact(f.mem.ent j e' h' z u).mono hg (.refl _) (fun _ _ _=>rfl)
 ·intro j e' h' b he hl u m;rcases Kz q he with⟨rfl,rfl⟩|⟨hne,z⟩
  ·cases hl
  have h3:=f.mem.blk j e' h' b z hl u m;refine⟨fun n=>?_,h3.2⟩;rcases n with n|n
  ·exact h3.1 n
  exact hne (f.mem.DU j k e' _ h' h b z Z hl rfl u J m n)
 ·intro i j e1 e2 h1 h2 b he1 he2 M O hh1 hh2 hb1 hb2;rcases Kz q he1 with⟨rfl,rfl⟩|⟨_,S⟩
  ·cases M
  rcases Kz q he2 with⟨rfl,rfl⟩|⟨_,U⟩
  ·cases O
  exact f.mem.DU i j e1 e2 h1 h2 b S U M O hh1 hh2 hb1 hb2
 intro t ht;simp only[BI.UA,D8]at ht
 have e1:(σ.UA k (J3 cs)).slots.getD t .junk=(σ.slots.getD t .junk).UA k (J3 cs):=by
  simp only[BI.UA];exact Ro _ _ _ ht
 rw[e1];have Y:=(f.slot t ht).mono hg (Names.refl H);generalize σ.slots.getD t .junk=x at Y ⊢;generalize a.tmps.getD t undef=v at Y ⊢;cases x with
 |ptr j off=>
  simp only[Ag.UA];split
  ·rename_i hj;subst hj;cases Y with
   |ptr _ _ b s hH=>
    rw[J]at hH;obtain rfl:=Cx hH;simp at L;subst L;have :=Dz.ref (ok:=ok') (w:=w) (J3 cs) off b 0 (fun _=>.inr rfl) hf hx (fun j hj=>(hc j hj).mono hg);rw[KG]at this;exact .d _ _ this
  exact Y
 |_=>exact Y
section
variable {P : Program} {o : Oper} {es : List BN} {α β γ : Type}
def qo {ok:Nat→Prop} {w:World} {H:List Bj} {a:Act}:∀{xs:List Operand} {vs:List Ag},xs.length=vs.length→(∀n∈F8 xs vs,R ok w H n.2 (a.eval n.1))→∀i,i<vs.length→R ok w H (vs.getD i .junk) ((xs.map a.eval).getD i undef)
 | [],[],_,_,i,hi=>Nl
 | [],_::_,h,_,_,_=>Hr
 |_::_,[],h,_,_,_=>Hr
 |x::xs,v::vs,h,f,0,_=>by simpa using f (x,v) (by simp[F8])
 |x::xs,v::vs,h,f,i+1,hi=>by
  have :=qo Jc (fun n j=>f n (by simp[F8,j])) i Fp;simpa using this
def WG {fn:Fn} {f:Array Operand} (j:List D) (m:f.toList.length=j.length) (s:o.op=.makeFunc fn #[] f):Bl P o (F8 f.toList (j.map .d)) es (.d (.fn fn [] j)) es:=
 .pure fun ok H a w _ _ u=>by
  refine⟨.func fn #[] (f.map a.eval),by simp[execOp,s,Instr.makeFunc],.d _ _ (.fn fn [] j #[] _ rfl ZY (fun i hi=>Nl) (fun i hi=>?_))⟩;have q:=qo (xs:=f.toList) (vs:=j.map .d) ZY u i Fp;have z:(j.map Ag.d).getD i .junk=.d (j.getD i Dn):=MX
  have n:i<f.size:=by have :f.size=j.length:=ZY
                      omega
  have I:(f.toList.map a.eval).getD i undef=(f.map a.eval).getD i undef:=by simp[List.getD,Array.getD,n]
  rw[z,I]at q;cases q with |d _ _ h=>exact h
def aQE {f:FuncId} {C:EW} {ok:Nat→Prop} {H:List Bj} {w:World} (I:DI C ok H es w) {q:List D} {n:Ag} (S:Ak P f (q.map .d) [] n []) (m:Array Value) (U:m.size=q.length) (L:∀i,i<q.length→Dz ok w (q.getD i Dn) (m.getD i undef)) (u:n.up [] es.length=n):
 Calls P f m w fun e w'=>∃v ok' H',e=.returned v∧EU ok w ok' w'∧Names H H'∧DI C ok' H' es w'∧R ok' w' H' n v:=by
 have M:DI ⟨w,ok,[],[]⟩ ok [] [] w:=
  ⟨.refl _ _,fun _ h=>h,fun _ h=>.inl h,I.kW,.refl _,rfl,fun k e h s _=>oN,fun k e h b s=>oN,fun k k' e e' h h' b s=>oN⟩
 refine(S ok [] [] w m M oJ (fun i hi=>?_)).mono ?_
 ·have z:i<q.length:=Fp
  have Y:(q.map Ag.d).getD i .junk=.d (q.getD i Dn):=by simp[List.getD,z]
  rw[Y];exact .d _ _ (L i z)
 rintro e w' ⟨v,ok',H',rfl,j,Z⟩;have O:H'=[]:=H9 j.hlen
 obtain⟨h1,h2⟩:=I.change (ok':=ok') (H':=H) (es':=es) (w':=w') (fun _=>False) j.fr.os j.fr.tape j.fr.output j.fr.size (fun b J _=>j.fr.block b J BP) (fun _ h=>h.elim) j.xU (fun b J=>by
  rcases j.xW b J with h|h|h
  ·exact .inl h
  ·exact .inr ⟨h,j.kW b J⟩
  simp at h) (.refl _) I.hlen (fun k e h s hh=>.inl ⟨s,hh,fun _ _ _ h=>h⟩)
 refine⟨v,ok',H,rfl,h2,.refl _,h1,?_⟩;have :=aQQ (srcs:=[]) (H:=H) (Hc:=[]) (H':=H') rfl (fun i k h=>Hr) (fun k v L=>by simp at L) Z;rw[I.hlen,u,O]at this;simpa using this
def aTq {f:FuncId} {x:Operand} {ops:Array Operand} {ats:Array TypeId} (j cs:List D) {m:Ag} (hr:Ak P f ((j++cs).map .d) [] m []) (hf:Dw P f=true) (Z:ops.toList.length=j.length) (z:m.up [] es.length=m)
 (ho:o.op=.call { callee:=.value x,args:=ops,argTypes:=ats }):Bl P o ((x,.d (.fn (.func f) [] cs))::F8 ops.toList (j.map .d)) es m es:=by
 intro C ok H a w Q hm hn;have L:=hn (x,.d (.fn (.func f) [] cs)) BP;simp only at L;have s:=qo (xs:=ops.toList) (vs:=j.map .d) oM (fun n M=>hn n (IY _ M));generalize hv:a.eval x=v at L;cases L with
 |d _ _ h=>
  cases h with
  |fn _ _ _ vs us O S h1 h2=>
   have U:vs= #[]:=cO aEw;subst U;unfold Oper.wp
   have he:(execOp a.eval o).run P w=.ok (.enter f ((ops.map a.eval)++us)) w:=by
    have :=TF hf (ops.map a.eval++us) w;simp[execOp,ho,resolve,hv,Deferred.ofValue,invoke,this]
   rw[he,ZQ];have I:(ops.map a.eval).size=j.length:=oM
   refine(aQE hm hr _ (by simp[I,S]) (fun i hi=>?_) z).mono ?_
   ·by_cases q:i<j.length
    ·have J:=s i V3;have e1:(j.map Ag.d).getD i .junk=.d (j.getD i Dn):=aC1
     have u:i<ops.size:=aQ4
     have e2:(ops.toList.map a.eval).getD i undef=(ops.map a.eval++us).getD i undef:=by
      simp[List.getD,Gx,Ym,u]
     have Y:(j++cs).getD i Dn=j.getD i Dn:=by simp[List.getD,GZ q]
     rw[e1,e2]at J;rw[Y];cases J with |d _ _ h=>exact h
    have u:i-j.length<cs.length:=aLE
    have Y:(j++cs).getD i Dn=cs.getD (i-j.length) Dn:=by simp[List.getD,Jh (Tz q)]
    have e4:(ops.map a.eval++us).getD i undef=us.getD (i-j.length) undef:=by
     simp only[Gx];rw[aMg AA,I]
    rw[Y,e4];exact h2 _ u
   rintro e w' ⟨v,ok',H',rfl,J,h4,h5,h6⟩;exact⟨v,ok',H',rfl,J,h4,h5,h6⟩
def Sv (P:Program) (h:α→D) (j:β→D) (d:D) (g:α→Option β):Prop:=∃f cs,d=.fn (.func f) [] cs∧Dw P f=true∧∀a b,g a=some b→Ak P f (([h a]++cs).map .d) [] (.d (j b)) []
def XL (P:Program) (h:α→D) (j:β→D) (m:γ→D) (d:D) (g:α→β→Option γ):Prop:=∃f cs,d=.fn (.func f) [] cs∧Dw P f=true∧∀a b c,g a b=some c→Ak P f (([h a,j b]++cs).map .d) [] (.d (m c)) []
def xG {x y:Operand} {ats:Array TypeId} {j:α→D} {m:β→D} {d:D} {g:α→Option β} {a:α} {b:β} (hd:Sv P j m d g) (h:g a=some b) (n:o.op=.call { callee:=.value x,args:= #[y],argTypes:=ats }):
 Bl P o [(x,.d d),(y,.d (j a))] es (.d (m b)) es:=by
 obtain⟨f,cs,rfl,q,s⟩:=hd;exact aTq [j a] cs (s a b h) q rfl rfl n
def Zd {x y z:Operand} {ats:Array TypeId} {j:α→D} {m:β→D} {n:γ→D} {d:D} {g:α→β→Option γ} {a:α} {b:β} {c:γ} (hd:XL P j m n d g) (h:g a b=some c) (q:o.op=.call { callee:=.value x,args:= #[y,z],argTypes:=ats }):
 Bl P o [(x,.d d),(y,.d (j a)),(z,.d (m b))] es (.d (n c)) es:=by
 obtain⟨f,cs,rfl,s,u⟩:=hd;exact aTq [j a,m b] cs (u a b c h) s rfl rfl q
end
end Go.Proofs.YtolgdkhlelfpoaaGreat
end
